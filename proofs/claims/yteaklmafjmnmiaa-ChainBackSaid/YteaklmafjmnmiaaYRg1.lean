/- Functions of the Go text as Lean functions, and that the calls answer so. -/
import Derived.Test.YteaklmafjmnmiaaYRfT
import Derived.Test.YteaklmafjmnmiaaYRg0
namespace Go.Proofs.Yteaklmafjmnmiaa.Rf
open Go.RowKit Go.Proofs.YteaklmafjmnmiaaW.PrintWords Go.Proofs.YteaklmafjmnmiaaW.PrintLast Go.Proofs.YteaklmafjmnmiaaW.PrintMore
attribute [local go_sem] max2_int min2_int max_two min_two max_three min_three max_four min_four
set_option linter.unusedVariables false
set_option linter.unusedSimpArgs false

attribute [local go_sem high] eqA35

/-! ### flotillaref05_Bytes -/
mutual
def flotillaref05_Bytes.j0 : Nat → ByteArray → Int → Int → Int → Int → Int → Int → Int → ByteArray → ByteArray → ByteArray → List (SGTxn) → List (SGDirty) → Option (ByteArray)
  | 0, _, _, _, _, _, _, _, _, _, _, _, _, _ => none
  | k + 1, x3, x143000, x143001, x143002, x143003, x143004, x143005, x143006, x143007, x143008, x143009, x143010, x143011 => if x143000 = 2 then ((flotillaref01_Num.f k x143004 8).bind fun t153 => (if x3.size + t153.size ≤ 9223372036854775807 then (flotillaref05_Bytes.j1 k (x3 ++ t153) x143000 x143001 x143002 x143003 x143004 x143005 x143006 x143007 x143008 x143009 x143010 x143011) else (none))) else (flotillaref05_Bytes.j1 k x3 x143000 x143001 x143002 x143003 x143004 x143005 x143006 x143007 x143008 x143009 x143010 x143011)
def flotillaref05_Bytes.j1 : Nat → ByteArray → Int → Int → Int → Int → Int → Int → Int → ByteArray → ByteArray → ByteArray → List (SGTxn) → List (SGDirty) → Option (ByteArray)
  | 0, _, _, _, _, _, _, _, _, _, _, _, _, _ => none
  | k + 1, x3, x143000, x143001, x143002, x143003, x143004, x143005, x143006, x143007, x143008, x143009, x143010, x143011 => if x143000 = 8 then ((flotillaref01_Num.f k (IntKind.u64.wrap ((x143010.length : Int))) 1).bind fun t154 => (if x3.size + t154.size ≤ 9223372036854775807 then (flotillaref05_Bytes.l0 k (x3 ++ t154) 0 x143000 x143001 x143002 x143003 x143004 x143005 x143006 x143007 x143008 x143009 x143010 x143011) else (none))) else (some x3)
def flotillaref05_Bytes.l0 : Nat → ByteArray → Int → Int → Int → Int → Int → Int → Int → Int → ByteArray → ByteArray → ByteArray → List (SGTxn) → List (SGDirty) → Option (ByteArray)
  | 0, _, _, _, _, _, _, _, _, _, _, _, _, _, _ => none
  | k + 1, x3, x4, x143000, x143001, x143002, x143003, x143004, x143005, x143006, x143007, x143008, x143009, x143010, x143011 => if x4 < (x143010.length : Int) then (if 0 ≤ x4 then ((flotillaref01_Num.f k (IntKind.u64.wrap ((rd_TGTxn x143010 x4).f0)) 4).bind fun t157 => (if x3.size + t157.size ≤ 9223372036854775807 then ((flotillaref01_Num.f k (IntKind.u64.wrap ((rd_TGTxn x143010 x4).f1)) 1).bind fun t158 => (if (x3 ++ t157).size + t158.size ≤ 9223372036854775807 then ((flotillaref01_Num.f k ((rd_TGTxn x143010 x4).f2) 8).bind fun t159 => (if ((x3 ++ t157) ++ t158).size + t159.size ≤ 9223372036854775807 then (flotillaref05_Bytes.l0 k (((x3 ++ t157) ++ t158) ++ t159) (wrap64 (x4 + 1)) x143000 x143001 x143002 x143003 x143004 x143005 x143006 x143007 x143008 x143009 x143010 x143011) else (none))) else (none))) else (none))) else (none)) else ((flotillaref01_Num.f k (IntKind.u64.wrap ((x143011.length : Int))) 1).bind fun t160 => (if x3.size + t160.size ≤ 9223372036854775807 then (flotillaref05_Bytes.l1 k (x3 ++ t160) 0 x143000 x143001 x143002 x143003 x143004 x143005 x143006 x143007 x143008 x143009 x143010 x143011) else (none)))
def flotillaref05_Bytes.l1 : Nat → ByteArray → Int → Int → Int → Int → Int → Int → Int → Int → ByteArray → ByteArray → ByteArray → List (SGTxn) → List (SGDirty) → Option (ByteArray)
  | 0, _, _, _, _, _, _, _, _, _, _, _, _, _, _ => none
  | k + 1, x3, x6, x143000, x143001, x143002, x143003, x143004, x143005, x143006, x143007, x143008, x143009, x143010, x143011 => if x6 < (x143011.length : Int) then (if 0 ≤ x6 then ((flotillaref01_Num.f k (IntKind.u64.wrap ((rd_TGDirty x143011 x6).f0)) 2).bind fun t162 => (if x3.size + t162.size ≤ 9223372036854775807 then ((flotillaref01_Num.f k ((rd_TGDirty x143011 x6).f1) 8).bind fun t164 => (if (x3 ++ t162).size + t164.size ≤ 9223372036854775807 then (flotillaref05_Bytes.l1 k ((x3 ++ t162) ++ t164) (wrap64 (x6 + 1)) x143000 x143001 x143002 x143003 x143004 x143005 x143006 x143007 x143008 x143009 x143010 x143011) else (none))) else (none))) else (none)) else (some x3)
end
def flotillaref05_Bytes.f (k : Nat) (a0_0 : Int) (a0_1 : Int) (a0_2 : Int) (a0_3 : Int) (a0_4 : Int) (a0_5 : Int) (a0_6 : Int) (a0_7 : ByteArray) (a0_8 : ByteArray) (a0_9 : ByteArray) (l0_10 : List (SGTxn)) (l0_11 : List (SGDirty)) : Option (ByteArray) := (flotillaref01_Num.f k (IntKind.u64.wrap (a0_0)) 1).bind fun t143 => ((flotillaref01_Num.f k a0_1 8).bind fun t144 => (if t143.size + t144.size ≤ 9223372036854775807 then ((flotillaref01_Num.f k (IntKind.u64.wrap (a0_2)) 4).bind fun t145 => (if (t143 ++ t144).size + t145.size ≤ 9223372036854775807 then ((flotillaref01_Num.f k a0_3 8).bind fun t146 => (if ((t143 ++ t144) ++ t145).size + t146.size ≤ 9223372036854775807 then ((flotillaref05_Changes.f a0_0).bind fun t147 => (if t147 = true then ((flotillaref01_Num.f k (IntKind.u64.wrap (a0_5)) 2).bind fun t148 => (if (((t143 ++ t144) ++ t145) ++ t146).size + t148.size ≤ 9223372036854775807 then ((flotillaref01_Num.f k (IntKind.u64.wrap (a0_6)) 1).bind fun t149 => (if ((((t143 ++ t144) ++ t145) ++ t146) ++ t148).size + t149.size ≤ 9223372036854775807 then ((flotillaref01_Text.f k a0_7).bind fun t150 => (if (((((t143 ++ t144) ++ t145) ++ t146) ++ t148) ++ t149).size + t150.size ≤ 9223372036854775807 then ((flotillaref01_Text.f k a0_8).bind fun t151 => (if ((((((t143 ++ t144) ++ t145) ++ t146) ++ t148) ++ t149) ++ t150).size + t151.size ≤ 9223372036854775807 then ((flotillaref01_Text.f k a0_9).bind fun t152 => (if (((((((t143 ++ t144) ++ t145) ++ t146) ++ t148) ++ t149) ++ t150) ++ t151).size + t152.size ≤ 9223372036854775807 then (flotillaref05_Bytes.j0 k ((((((((t143 ++ t144) ++ t145) ++ t146) ++ t148) ++ t149) ++ t150) ++ t151) ++ t152) a0_0 a0_1 a0_2 a0_3 a0_4 a0_5 a0_6 a0_7 a0_8 a0_9 l0_10 l0_11) else (none))) else (none))) else (none))) else (none))) else (none))) else (flotillaref05_Bytes.j0 k (((t143 ++ t144) ++ t145) ++ t146) a0_0 a0_1 a0_2 a0_3 a0_4 a0_5 a0_6 a0_7 a0_8 a0_9 l0_10 l0_11))) else (none))) else (none))) else (none)))
theorem flotillaref05_Bytes.mono_l : ∀ k, (∀ y0 y1 y2 y3 y4 y5 y6 y7 y8 y9 y10 y11 y12, LeO (flotillaref05_Bytes.j0 k y0 y1 y2 y3 y4 y5 y6 y7 y8 y9 y10 y11 y12) (flotillaref05_Bytes.j0 (k + 1) y0 y1 y2 y3 y4 y5 y6 y7 y8 y9 y10 y11 y12)) ∧ (∀ y0 y1 y2 y3 y4 y5 y6 y7 y8 y9 y10 y11 y12, LeO (flotillaref05_Bytes.j1 k y0 y1 y2 y3 y4 y5 y6 y7 y8 y9 y10 y11 y12) (flotillaref05_Bytes.j1 (k + 1) y0 y1 y2 y3 y4 y5 y6 y7 y8 y9 y10 y11 y12)) ∧ (∀ y0 y1 y2 y3 y4 y5 y6 y7 y8 y9 y10 y11 y12 y13, LeO (flotillaref05_Bytes.l0 k y0 y1 y2 y3 y4 y5 y6 y7 y8 y9 y10 y11 y12 y13) (flotillaref05_Bytes.l0 (k + 1) y0 y1 y2 y3 y4 y5 y6 y7 y8 y9 y10 y11 y12 y13)) ∧ (∀ y0 y1 y2 y3 y4 y5 y6 y7 y8 y9 y10 y11 y12 y13, LeO (flotillaref05_Bytes.l1 k y0 y1 y2 y3 y4 y5 y6 y7 y8 y9 y10 y11 y12 y13) (flotillaref05_Bytes.l1 (k + 1) y0 y1 y2 y3 y4 y5 y6 y7 y8 y9 y10 y11 y12 y13))
  | 0 => ⟨fun _ _ _ _ _ _ _ _ _ _ _ _ _ r h => by simp [flotillaref05_Bytes.j0] at h, fun _ _ _ _ _ _ _ _ _ _ _ _ _ r h => by simp [flotillaref05_Bytes.j1] at h, fun _ _ _ _ _ _ _ _ _ _ _ _ _ _ r h => by simp [flotillaref05_Bytes.l0] at h, fun _ _ _ _ _ _ _ _ _ _ _ _ _ _ r h => by simp [flotillaref05_Bytes.l1] at h⟩
  | k + 1 => by
    obtain ⟨ih0, ih1, ih2, ih3⟩ := flotillaref05_Bytes.mono_l k
    refine ⟨?_, ?_, ?_, ?_⟩
    · intro y0 y1 y2 y3 y4 y5 y6 y7 y8 y9 y10 y11 y12
      unfold flotillaref05_Bytes.j0
      repeat' first
      | (with_reducible exact ih0 _ _ _ _ _ _ _ _ _ _ _ _ _)
      | (with_reducible exact ih1 _ _ _ _ _ _ _ _ _ _ _ _ _)
      | (with_reducible exact ih2 _ _ _ _ _ _ _ _ _ _ _ _ _ _)
      | (with_reducible exact ih3 _ _ _ _ _ _ _ _ _ _ _ _ _ _)
      | (with_reducible exact flotillaref01_Num.mono _ _ _)
      | (with_reducible exact flotillaref01_Text.mono _ _)
      | (with_reducible exact LeO.refl _)
      | (with_reducible exact LeO.none _)
      | (with_reducible refine LeO.ite ?_ ?_)
      | (with_reducible refine LeO.bind ?_ (fun _ => ?_))
      | exact ih0 _ _ _ _ _ _ _ _ _ _ _ _ _
      | exact ih1 _ _ _ _ _ _ _ _ _ _ _ _ _
      | exact ih2 _ _ _ _ _ _ _ _ _ _ _ _ _ _
      | exact ih3 _ _ _ _ _ _ _ _ _ _ _ _ _ _
      | exact flotillaref01_Num.mono _ _ _
      | exact flotillaref01_Text.mono _ _
      | exact LeO.none _
      | refine LeO.ite ?_ ?_
      | refine LeO.bind ?_ (fun _ => ?_)
    · intro y0 y1 y2 y3 y4 y5 y6 y7 y8 y9 y10 y11 y12
      unfold flotillaref05_Bytes.j1
      repeat' first
      | (with_reducible exact ih0 _ _ _ _ _ _ _ _ _ _ _ _ _)
      | (with_reducible exact ih1 _ _ _ _ _ _ _ _ _ _ _ _ _)
      | (with_reducible exact ih2 _ _ _ _ _ _ _ _ _ _ _ _ _ _)
      | (with_reducible exact ih3 _ _ _ _ _ _ _ _ _ _ _ _ _ _)
      | (with_reducible exact flotillaref01_Num.mono _ _ _)
      | (with_reducible exact flotillaref01_Text.mono _ _)
      | (with_reducible exact LeO.refl _)
      | (with_reducible exact LeO.none _)
      | (with_reducible refine LeO.ite ?_ ?_)
      | (with_reducible refine LeO.bind ?_ (fun _ => ?_))
      | exact ih0 _ _ _ _ _ _ _ _ _ _ _ _ _
      | exact ih1 _ _ _ _ _ _ _ _ _ _ _ _ _
      | exact ih2 _ _ _ _ _ _ _ _ _ _ _ _ _ _
      | exact ih3 _ _ _ _ _ _ _ _ _ _ _ _ _ _
      | exact flotillaref01_Num.mono _ _ _
      | exact flotillaref01_Text.mono _ _
      | exact LeO.none _
      | refine LeO.ite ?_ ?_
      | refine LeO.bind ?_ (fun _ => ?_)
    · intro y0 y1 y2 y3 y4 y5 y6 y7 y8 y9 y10 y11 y12 y13
      unfold flotillaref05_Bytes.l0
      repeat' first
      | (with_reducible exact ih0 _ _ _ _ _ _ _ _ _ _ _ _ _)
      | (with_reducible exact ih1 _ _ _ _ _ _ _ _ _ _ _ _ _)
      | (with_reducible exact ih2 _ _ _ _ _ _ _ _ _ _ _ _ _ _)
      | (with_reducible exact ih3 _ _ _ _ _ _ _ _ _ _ _ _ _ _)
      | (with_reducible exact flotillaref01_Num.mono _ _ _)
      | (with_reducible exact flotillaref01_Text.mono _ _)
      | (with_reducible exact LeO.refl _)
      | (with_reducible exact LeO.none _)
      | (with_reducible refine LeO.ite ?_ ?_)
      | (with_reducible refine LeO.bind ?_ (fun _ => ?_))
      | exact ih0 _ _ _ _ _ _ _ _ _ _ _ _ _
      | exact ih1 _ _ _ _ _ _ _ _ _ _ _ _ _
      | exact ih2 _ _ _ _ _ _ _ _ _ _ _ _ _ _
      | exact ih3 _ _ _ _ _ _ _ _ _ _ _ _ _ _
      | exact flotillaref01_Num.mono _ _ _
      | exact flotillaref01_Text.mono _ _
      | exact LeO.none _
      | refine LeO.ite ?_ ?_
      | refine LeO.bind ?_ (fun _ => ?_)
    · intro y0 y1 y2 y3 y4 y5 y6 y7 y8 y9 y10 y11 y12 y13
      unfold flotillaref05_Bytes.l1
      repeat' first
      | (with_reducible exact ih0 _ _ _ _ _ _ _ _ _ _ _ _ _)
      | (with_reducible exact ih1 _ _ _ _ _ _ _ _ _ _ _ _ _)
      | (with_reducible exact ih2 _ _ _ _ _ _ _ _ _ _ _ _ _ _)
      | (with_reducible exact ih3 _ _ _ _ _ _ _ _ _ _ _ _ _ _)
      | (with_reducible exact flotillaref01_Num.mono _ _ _)
      | (with_reducible exact flotillaref01_Text.mono _ _)
      | (with_reducible exact LeO.refl _)
      | (with_reducible exact LeO.none _)
      | (with_reducible refine LeO.ite ?_ ?_)
      | (with_reducible refine LeO.bind ?_ (fun _ => ?_))
      | exact ih0 _ _ _ _ _ _ _ _ _ _ _ _ _
      | exact ih1 _ _ _ _ _ _ _ _ _ _ _ _ _
      | exact ih2 _ _ _ _ _ _ _ _ _ _ _ _ _ _
      | exact ih3 _ _ _ _ _ _ _ _ _ _ _ _ _ _
      | exact flotillaref01_Num.mono _ _ _
      | exact flotillaref01_Text.mono _ _
      | exact LeO.none _
      | refine LeO.ite ?_ ?_
      | refine LeO.bind ?_ (fun _ => ?_)
theorem flotillaref05_Bytes.mono : ∀ a0 a1 a2 a3 a4 a5 a6 a7 a8 a9 a10 a11 k, LeO (flotillaref05_Bytes.f k a0 a1 a2 a3 a4 a5 a6 a7 a8 a9 a10 a11) (flotillaref05_Bytes.f (k + 1) a0 a1 a2 a3 a4 a5 a6 a7 a8 a9 a10 a11) := by
  intro a0 a1 a2 a3 a4 a5 a6 a7 a8 a9 a10 a11 k
  obtain ⟨ih0, ih1, ih2, ih3⟩ := flotillaref05_Bytes.mono_l k
  unfold flotillaref05_Bytes.f
  repeat' first
      | (with_reducible exact ih0 _ _ _ _ _ _ _ _ _ _ _ _ _)
      | (with_reducible exact ih1 _ _ _ _ _ _ _ _ _ _ _ _ _)
      | (with_reducible exact ih2 _ _ _ _ _ _ _ _ _ _ _ _ _ _)
      | (with_reducible exact ih3 _ _ _ _ _ _ _ _ _ _ _ _ _ _)
      | (with_reducible exact flotillaref01_Num.mono _ _ _)
      | (with_reducible exact flotillaref01_Text.mono _ _)
      | (with_reducible exact LeO.refl _)
      | (with_reducible exact LeO.none _)
      | (with_reducible refine LeO.ite ?_ ?_)
      | (with_reducible refine LeO.bind ?_ (fun _ => ?_))
      | exact ih0 _ _ _ _ _ _ _ _ _ _ _ _ _
      | exact ih1 _ _ _ _ _ _ _ _ _ _ _ _ _
      | exact ih2 _ _ _ _ _ _ _ _ _ _ _ _ _ _
      | exact ih3 _ _ _ _ _ _ _ _ _ _ _ _ _ _
      | exact flotillaref01_Num.mono _ _ _
      | exact flotillaref01_Text.mono _ _
      | exact LeO.none _
      | refine LeO.ite ?_ ?_
      | refine LeO.bind ?_ (fun _ => ?_)
def flotillaref05_Bytes.T1 : Bool × List (List Nat × List Nat) := (true, [([], []), ([0], [0]), ([1], [1]), ([2], [2]), ([], []), ([4], [4]), ([5, 3], [5]), ([3, 6], [3, 6]), ([], []), ([8], [8]), ([9], [9]), ([10, 6], [10]), ([7, 11], [7, 11]), ([], []), ([13], [13]), ([14, 11], [14]), ([12, 15], [12, 15]), ([16, 15, 0, 1, 2, 3, 4, 5, 6, 7, 8, 9, 10, 11, 12, 13, 14, 15, 16], [16])])
def flotillaref05_Bytes.B1 : List Nat := [0, 1, 3, 7, 0, 16, 63, 127, 0, 256, 768, 1919, 4095, 0, 8192, 28543, 65535, 131071]
theorem flotillaref05_Bytes.tab1 : rtab .any (opsOf Try.f30 1) = flotillaref05_Bytes.T1 := by kernel_rfl
theorem flotillaref05_Bytes.bits1 : waitsOk flotillaref05_Bytes.T1.2 flotillaref05_Bytes.B1 = true := by kernel_rfl
def flotillaref05_Bytes.T3 : Bool × List (List Nat × List Nat) := (true, [([], []), ([], []), ([1], [1]), ([2], [2]), ([3], [3]), ([0, 4], [0, 4]), ([], []), ([6], [6]), ([7], [7]), ([8], [8]), ([9, 4], [9]), ([5, 10], [5, 10]), ([11, 10, 0, 1, 2, 3, 4, 5, 6, 7, 8, 9, 10, 11], [0, 11])])
def flotillaref05_Bytes.B3 : List Nat := [0, 0, 2, 6, 14, 31, 0, 64, 192, 448, 990, 2047, 4095]
theorem flotillaref05_Bytes.tab3 : rtab .any (opsOf Try.f30 3) = flotillaref05_Bytes.T3 := by kernel_rfl
theorem flotillaref05_Bytes.bits3 : waitsOk flotillaref05_Bytes.T3.2 flotillaref05_Bytes.B3 = true := by kernel_rfl
def flotillaref05_Bytes.T4 : Bool × List (List Nat × List Nat) := (true, [([], []), ([], []), ([1], [1]), ([2], [2]), ([3], [3]), ([0, 4], [0, 4]), ([], []), ([6], [6]), ([7], [7]), ([8, 4], [8]), ([5, 9], [5, 9]), ([], []), ([11], [11]), ([12], [12]), ([13, 9], [13]), ([10, 14], [10, 14]), ([15, 14, 0, 1, 2, 3, 4, 5, 6, 7, 8, 9, 10, 11, 12, 13, 14, 15], [0, 15])])
def flotillaref05_Bytes.B4 : List Nat := [0, 0, 2, 6, 14, 31, 0, 64, 192, 478, 1023, 0, 2048, 6144, 15326, 32767, 65535]
theorem flotillaref05_Bytes.tab4 : rtab .any (opsOf Try.f30 4) = flotillaref05_Bytes.T4 := by kernel_rfl
theorem flotillaref05_Bytes.bits4 : waitsOk flotillaref05_Bytes.T4.2 flotillaref05_Bytes.B4 = true := by kernel_rfl
def flotillaref05_Bytes.T13 : Bool × List (List Nat × List Nat) := (true, [([], []), ([], []), ([1], [1]), ([2], [2]), ([3], [3]), ([0, 4], [0, 4]), ([], []), ([6], [6]), ([7], [7]), ([8, 4], [8]), ([5, 9], [5, 9]), ([], []), ([11], [11]), ([12, 9], [12]), ([10, 13], [10, 13]), ([14, 13, 0, 1, 2, 3, 4, 5, 6, 7, 8, 9, 10, 11, 12, 13, 14], [0, 14])])
def flotillaref05_Bytes.B13 : List Nat := [0, 0, 2, 6, 14, 31, 0, 64, 192, 478, 1023, 0, 2048, 7134, 16383, 32767]
theorem flotillaref05_Bytes.tab13 : rtab .any (opsOf Try.f30 13) = flotillaref05_Bytes.T13 := by kernel_rfl
theorem flotillaref05_Bytes.bits13 : waitsOk flotillaref05_Bytes.T13.2 flotillaref05_Bytes.B13 = true := by kernel_rfl
def flotillaref05_Bytes.T18 : Bool × List (List Nat × List Nat) := (true, [([], []), ([], []), ([1], [1]), ([], []), ([2, 3], [2, 3]), ([4], [4]), ([5], [5]), ([6], [6]), ([7], [7]), ([0, 8], [0, 8]), ([], []), ([10], [10]), ([], []), ([11, 12], [11, 12]), ([13], [13]), ([14], [14]), ([15, 8], [15]), ([9, 16], [9, 16]), ([17, 16, 0, 1, 2, 3, 4, 5, 6, 7, 8, 9, 10, 11, 12, 13, 14, 15, 16, 17], [0, 17])])
def flotillaref05_Bytes.B18 : List Nat := [0, 0, 2, 0, 14, 30, 62, 126, 254, 511, 0, 1024, 0, 7168, 15360, 31744, 65022, 131071, 262143]
theorem flotillaref05_Bytes.tab18 : rtab .any (opsOf Try.f30 18) = flotillaref05_Bytes.T18 := by kernel_rfl
theorem flotillaref05_Bytes.bits18 : waitsOk flotillaref05_Bytes.T18.2 flotillaref05_Bytes.B18 = true := by kernel_rfl
set_option maxHeartbeats 8000000 in
set_option maxRecDepth 100000 in
theorem flotillaref05_Bytes.calls (k : Nat) (a0_0 : Int) (a0_1 : Int) (a0_2 : Int) (a0_3 : Int) (a0_4 : Int) (a0_5 : Int) (a0_6 : Int) (a0_7 : ByteArray) (a0_8 : ByteArray) (a0_9 : ByteArray) (A0_10 : Option Addr) (c0_10 : Nat) (l0_10 : List (SGTxn)) (A0_11 : Option Addr) (c0_11 : Nat) (l0_11 : List (SGDirty)) (r : ByteArray) (w : World) (hr0_10 : Kd.C kGTxn w A0_10 l0_10.length l0_10) (hc0_10 : l0_10.length ≤ c0_10) (hr0_11 : Kd.C kGDirty w A0_11 l0_11.length l0_11) (hc0_11 : l0_11.length ≤ c0_11) (h : flotillaref05_Bytes.f k a0_0 a0_1 a0_2 a0_3 a0_4 a0_5 a0_6 a0_7 a0_8 a0_9 l0_10 l0_11 = some r) :
    Calls Try.prog 30 #[.agg #[.int .i64 a0_0, .int .u64 a0_1, .int .i64 a0_2, .int .u64 a0_3, .int .u64 a0_4, .int .i64 a0_5, .int .i64 a0_6, .string a0_7, .string a0_8, .string a0_9, .slice A0_10 l0_10.length c0_10, .slice A0_11 l0_11.length c0_11]] w fun e w' => e = .returned (.string r) ∧ Below w.heap.size w w' := by
  have hu39 := Try.underlying39
  have hu54 := Try.underlying54
  have HR0_10 := Aside0.mk hr0_10
  have HC0_10 := Aside0.mk hc0_10
  clear hr0_10 hc0_10
  have HR0_11 := Aside0.mk hr0_11
  have HC0_11 := Aside0.mk hc0_11
  clear hr0_11 hc0_11
  have HB := Aside0.mk (Below.refl w.heap.size w)
  have H : ((flotillaref01_Num.f k (IntKind.u64.wrap (a0_0)) 1).bind fun t143 => ((flotillaref01_Num.f k a0_1 8).bind fun t144 => (if t143.size + t144.size ≤ 9223372036854775807 then ((flotillaref01_Num.f k (IntKind.u64.wrap (a0_2)) 4).bind fun t145 => (if (t143 ++ t144).size + t145.size ≤ 9223372036854775807 then ((flotillaref01_Num.f k a0_3 8).bind fun t146 => (if ((t143 ++ t144) ++ t145).size + t146.size ≤ 9223372036854775807 then ((flotillaref05_Changes.f a0_0).bind fun t147 => (if t147 = true then ((flotillaref01_Num.f k (IntKind.u64.wrap (a0_5)) 2).bind fun t148 => (if (((t143 ++ t144) ++ t145) ++ t146).size + t148.size ≤ 9223372036854775807 then ((flotillaref01_Num.f k (IntKind.u64.wrap (a0_6)) 1).bind fun t149 => (if ((((t143 ++ t144) ++ t145) ++ t146) ++ t148).size + t149.size ≤ 9223372036854775807 then ((flotillaref01_Text.f k a0_7).bind fun t150 => (if (((((t143 ++ t144) ++ t145) ++ t146) ++ t148) ++ t149).size + t150.size ≤ 9223372036854775807 then ((flotillaref01_Text.f k a0_8).bind fun t151 => (if ((((((t143 ++ t144) ++ t145) ++ t146) ++ t148) ++ t149) ++ t150).size + t151.size ≤ 9223372036854775807 then ((flotillaref01_Text.f k a0_9).bind fun t152 => (if (((((((t143 ++ t144) ++ t145) ++ t146) ++ t148) ++ t149) ++ t150) ++ t151).size + t152.size ≤ 9223372036854775807 then (flotillaref05_Bytes.j0 k ((((((((t143 ++ t144) ++ t145) ++ t146) ++ t148) ++ t149) ++ t150) ++ t151) ++ t152) a0_0 a0_1 a0_2 a0_3 a0_4 a0_5 a0_6 a0_7 a0_8 a0_9 l0_10 l0_11) else (none))) else (none))) else (none))) else (none))) else (none))) else (flotillaref05_Bytes.j0 k (((t143 ++ t144) ++ t145) ++ t146) a0_0 a0_1 a0_2 a0_3 a0_4 a0_5 a0_6 a0_7 a0_8 a0_9 l0_10 l0_11))) else (none))) else (none))) else (none)))) = some r := h
  clear h
  replace H := Option.bind_eq_some_iff.mp H
  obtain ⟨t143, A20, H⟩ := H
  replace H : ((flotillaref01_Num.f k a0_1 8).bind fun t144 => (if t143.size + t144.size ≤ 9223372036854775807 then ((flotillaref01_Num.f k (IntKind.u64.wrap (a0_2)) 4).bind fun t145 => (if (t143 ++ t144).size + t145.size ≤ 9223372036854775807 then ((flotillaref01_Num.f k a0_3 8).bind fun t146 => (if ((t143 ++ t144) ++ t145).size + t146.size ≤ 9223372036854775807 then ((flotillaref05_Changes.f a0_0).bind fun t147 => (if t147 = true then ((flotillaref01_Num.f k (IntKind.u64.wrap (a0_5)) 2).bind fun t148 => (if (((t143 ++ t144) ++ t145) ++ t146).size + t148.size ≤ 9223372036854775807 then ((flotillaref01_Num.f k (IntKind.u64.wrap (a0_6)) 1).bind fun t149 => (if ((((t143 ++ t144) ++ t145) ++ t146) ++ t148).size + t149.size ≤ 9223372036854775807 then ((flotillaref01_Text.f k a0_7).bind fun t150 => (if (((((t143 ++ t144) ++ t145) ++ t146) ++ t148) ++ t149).size + t150.size ≤ 9223372036854775807 then ((flotillaref01_Text.f k a0_8).bind fun t151 => (if ((((((t143 ++ t144) ++ t145) ++ t146) ++ t148) ++ t149) ++ t150).size + t151.size ≤ 9223372036854775807 then ((flotillaref01_Text.f k a0_9).bind fun t152 => (if (((((((t143 ++ t144) ++ t145) ++ t146) ++ t148) ++ t149) ++ t150) ++ t151).size + t152.size ≤ 9223372036854775807 then (flotillaref05_Bytes.j0 k ((((((((t143 ++ t144) ++ t145) ++ t146) ++ t148) ++ t149) ++ t150) ++ t151) ++ t152) a0_0 a0_1 a0_2 a0_3 a0_4 a0_5 a0_6 a0_7 a0_8 a0_9 l0_10 l0_11) else (none))) else (none))) else (none))) else (none))) else (none))) else (flotillaref05_Bytes.j0 k (((t143 ++ t144) ++ t145) ++ t146) a0_0 a0_1 a0_2 a0_3 a0_4 a0_5 a0_6 a0_7 a0_8 a0_9 l0_10 l0_11))) else (none))) else (none))) else (none))) = some r := H
  have A2 := Aside0.mk A20
  clear A20
  replace H := Option.bind_eq_some_iff.mp H
  obtain ⟨t144, A30, H⟩ := H
  replace H : (if t143.size + t144.size ≤ 9223372036854775807 then ((flotillaref01_Num.f k (IntKind.u64.wrap (a0_2)) 4).bind fun t145 => (if (t143 ++ t144).size + t145.size ≤ 9223372036854775807 then ((flotillaref01_Num.f k a0_3 8).bind fun t146 => (if ((t143 ++ t144) ++ t145).size + t146.size ≤ 9223372036854775807 then ((flotillaref05_Changes.f a0_0).bind fun t147 => (if t147 = true then ((flotillaref01_Num.f k (IntKind.u64.wrap (a0_5)) 2).bind fun t148 => (if (((t143 ++ t144) ++ t145) ++ t146).size + t148.size ≤ 9223372036854775807 then ((flotillaref01_Num.f k (IntKind.u64.wrap (a0_6)) 1).bind fun t149 => (if ((((t143 ++ t144) ++ t145) ++ t146) ++ t148).size + t149.size ≤ 9223372036854775807 then ((flotillaref01_Text.f k a0_7).bind fun t150 => (if (((((t143 ++ t144) ++ t145) ++ t146) ++ t148) ++ t149).size + t150.size ≤ 9223372036854775807 then ((flotillaref01_Text.f k a0_8).bind fun t151 => (if ((((((t143 ++ t144) ++ t145) ++ t146) ++ t148) ++ t149) ++ t150).size + t151.size ≤ 9223372036854775807 then ((flotillaref01_Text.f k a0_9).bind fun t152 => (if (((((((t143 ++ t144) ++ t145) ++ t146) ++ t148) ++ t149) ++ t150) ++ t151).size + t152.size ≤ 9223372036854775807 then (flotillaref05_Bytes.j0 k ((((((((t143 ++ t144) ++ t145) ++ t146) ++ t148) ++ t149) ++ t150) ++ t151) ++ t152) a0_0 a0_1 a0_2 a0_3 a0_4 a0_5 a0_6 a0_7 a0_8 a0_9 l0_10 l0_11) else (none))) else (none))) else (none))) else (none))) else (none))) else (flotillaref05_Bytes.j0 k (((t143 ++ t144) ++ t145) ++ t146) a0_0 a0_1 a0_2 a0_3 a0_4 a0_5 a0_6 a0_7 a0_8 a0_9 l0_10 l0_11))) else (none))) else (none))) else (none)) = some r := H
  have A3 := Aside0.mk A30
  clear A30
  by_cases c4 : t143.size + t144.size ≤ 9223372036854775807
  · rw [if_pos c4] at H
    have c4b0 := eq_true c4
    have c4b1 : decide (t143.size + t144.size ≤ 9223372036854775807) = true := decide_eq_true c4
    try have c4b2 : (9223372036854775807 < t143.size + t144.size) = False := eq_false (Nat.not_lt.2 c4)
    replace H := Option.bind_eq_some_iff.mp H
    obtain ⟨t145, A50, H⟩ := H
    replace H : (if (t143 ++ t144).size + t145.size ≤ 9223372036854775807 then ((flotillaref01_Num.f k a0_3 8).bind fun t146 => (if ((t143 ++ t144) ++ t145).size + t146.size ≤ 9223372036854775807 then ((flotillaref05_Changes.f a0_0).bind fun t147 => (if t147 = true then ((flotillaref01_Num.f k (IntKind.u64.wrap (a0_5)) 2).bind fun t148 => (if (((t143 ++ t144) ++ t145) ++ t146).size + t148.size ≤ 9223372036854775807 then ((flotillaref01_Num.f k (IntKind.u64.wrap (a0_6)) 1).bind fun t149 => (if ((((t143 ++ t144) ++ t145) ++ t146) ++ t148).size + t149.size ≤ 9223372036854775807 then ((flotillaref01_Text.f k a0_7).bind fun t150 => (if (((((t143 ++ t144) ++ t145) ++ t146) ++ t148) ++ t149).size + t150.size ≤ 9223372036854775807 then ((flotillaref01_Text.f k a0_8).bind fun t151 => (if ((((((t143 ++ t144) ++ t145) ++ t146) ++ t148) ++ t149) ++ t150).size + t151.size ≤ 9223372036854775807 then ((flotillaref01_Text.f k a0_9).bind fun t152 => (if (((((((t143 ++ t144) ++ t145) ++ t146) ++ t148) ++ t149) ++ t150) ++ t151).size + t152.size ≤ 9223372036854775807 then (flotillaref05_Bytes.j0 k ((((((((t143 ++ t144) ++ t145) ++ t146) ++ t148) ++ t149) ++ t150) ++ t151) ++ t152) a0_0 a0_1 a0_2 a0_3 a0_4 a0_5 a0_6 a0_7 a0_8 a0_9 l0_10 l0_11) else (none))) else (none))) else (none))) else (none))) else (none))) else (flotillaref05_Bytes.j0 k (((t143 ++ t144) ++ t145) ++ t146) a0_0 a0_1 a0_2 a0_3 a0_4 a0_5 a0_6 a0_7 a0_8 a0_9 l0_10 l0_11))) else (none))) else (none)) = some r := H
    have A5 := Aside0.mk A50
    clear A50
    by_cases c6 : (t143 ++ t144).size + t145.size ≤ 9223372036854775807
    · rw [if_pos c6] at H
      have c6b0 := eq_true c6
      have c6b1 : decide ((t143 ++ t144).size + t145.size ≤ 9223372036854775807) = true := decide_eq_true c6
      have c6b3 : (9223372036854775807 < t143.size + t144.size + t145.size) = False := by have h5 := c6; simp only [ByteArray.size_append] at h5; exact eq_false (by omega)
      try have c6b2 : (9223372036854775807 < (t143 ++ t144).size + t145.size) = False := eq_false (Nat.not_lt.2 c6)
      replace H := Option.bind_eq_some_iff.mp H
      obtain ⟨t146, A70, H⟩ := H
      replace H : (if ((t143 ++ t144) ++ t145).size + t146.size ≤ 9223372036854775807 then ((flotillaref05_Changes.f a0_0).bind fun t147 => (if t147 = true then ((flotillaref01_Num.f k (IntKind.u64.wrap (a0_5)) 2).bind fun t148 => (if (((t143 ++ t144) ++ t145) ++ t146).size + t148.size ≤ 9223372036854775807 then ((flotillaref01_Num.f k (IntKind.u64.wrap (a0_6)) 1).bind fun t149 => (if ((((t143 ++ t144) ++ t145) ++ t146) ++ t148).size + t149.size ≤ 9223372036854775807 then ((flotillaref01_Text.f k a0_7).bind fun t150 => (if (((((t143 ++ t144) ++ t145) ++ t146) ++ t148) ++ t149).size + t150.size ≤ 9223372036854775807 then ((flotillaref01_Text.f k a0_8).bind fun t151 => (if ((((((t143 ++ t144) ++ t145) ++ t146) ++ t148) ++ t149) ++ t150).size + t151.size ≤ 9223372036854775807 then ((flotillaref01_Text.f k a0_9).bind fun t152 => (if (((((((t143 ++ t144) ++ t145) ++ t146) ++ t148) ++ t149) ++ t150) ++ t151).size + t152.size ≤ 9223372036854775807 then (flotillaref05_Bytes.j0 k ((((((((t143 ++ t144) ++ t145) ++ t146) ++ t148) ++ t149) ++ t150) ++ t151) ++ t152) a0_0 a0_1 a0_2 a0_3 a0_4 a0_5 a0_6 a0_7 a0_8 a0_9 l0_10 l0_11) else (none))) else (none))) else (none))) else (none))) else (none))) else (flotillaref05_Bytes.j0 k (((t143 ++ t144) ++ t145) ++ t146) a0_0 a0_1 a0_2 a0_3 a0_4 a0_5 a0_6 a0_7 a0_8 a0_9 l0_10 l0_11))) else (none)) = some r := H
      have A7 := Aside0.mk A70
      clear A70
      by_cases c8 : ((t143 ++ t144) ++ t145).size + t146.size ≤ 9223372036854775807
      · rw [if_pos c8] at H
        have c8b0 := eq_true c8
        have c8b1 : decide (((t143 ++ t144) ++ t145).size + t146.size ≤ 9223372036854775807) = true := decide_eq_true c8
        have c8b3 : (9223372036854775807 < t143.size + t144.size + t145.size + t146.size) = False := by have h5 := c8; simp only [ByteArray.size_append] at h5; exact eq_false (by omega)
        try have c8b2 : (9223372036854775807 < ((t143 ++ t144) ++ t145).size + t146.size) = False := eq_false (Nat.not_lt.2 c8)
        replace H := Option.bind_eq_some_iff.mp H
        obtain ⟨t147, A90, H⟩ := H
        replace H : (if t147 = true then ((flotillaref01_Num.f k (IntKind.u64.wrap (a0_5)) 2).bind fun t148 => (if (((t143 ++ t144) ++ t145) ++ t146).size + t148.size ≤ 9223372036854775807 then ((flotillaref01_Num.f k (IntKind.u64.wrap (a0_6)) 1).bind fun t149 => (if ((((t143 ++ t144) ++ t145) ++ t146) ++ t148).size + t149.size ≤ 9223372036854775807 then ((flotillaref01_Text.f k a0_7).bind fun t150 => (if (((((t143 ++ t144) ++ t145) ++ t146) ++ t148) ++ t149).size + t150.size ≤ 9223372036854775807 then ((flotillaref01_Text.f k a0_8).bind fun t151 => (if ((((((t143 ++ t144) ++ t145) ++ t146) ++ t148) ++ t149) ++ t150).size + t151.size ≤ 9223372036854775807 then ((flotillaref01_Text.f k a0_9).bind fun t152 => (if (((((((t143 ++ t144) ++ t145) ++ t146) ++ t148) ++ t149) ++ t150) ++ t151).size + t152.size ≤ 9223372036854775807 then (flotillaref05_Bytes.j0 k ((((((((t143 ++ t144) ++ t145) ++ t146) ++ t148) ++ t149) ++ t150) ++ t151) ++ t152) a0_0 a0_1 a0_2 a0_3 a0_4 a0_5 a0_6 a0_7 a0_8 a0_9 l0_10 l0_11) else (none))) else (none))) else (none))) else (none))) else (none))) else (flotillaref05_Bytes.j0 k (((t143 ++ t144) ++ t145) ++ t146) a0_0 a0_1 a0_2 a0_3 a0_4 a0_5 a0_6 a0_7 a0_8 a0_9 l0_10 l0_11)) = some r := H
        have A9 := Aside0.mk A90
        clear A90
        have HC10 := Aside0.mk H
        clear H
        go_enter Try.func30, Try.ntmps30
        try go_wp2_with (first | ((with_reducible refine gate_dst (N := 1) rfl ?_); refine box_event ?hg (N := 1) ?hd (cs := #[.int .i64 a0_0, .int .u64 a0_1, .int .i64 a0_2, .int .u64 a0_3, .int .u64 a0_4, .int .i64 a0_5, .int .i64 a0_6, .string a0_7, .string a0_8, .string a0_9, .slice A0_10 l0_10.length c0_10, .slice A0_11 l0_11.length c0_11]) (t := 39) ?hr ?_; (case hd => rfl); (case hg => rfl); (case hr => first | (go_simp; done) | (go_simp; rfl)); intro gb142 hg w11 hbox hb; have n0_ := Aside0.mk (below_step (by repeat (first | (with_reducible first | exact HB.out | apply below_alloc | apply pw_below_drewN | apply below_drew1) | exact HB.out)) hb); have n1_ := Aside0.mk (hbox); have n2_ := Aside0.mk ((by rw [hg]; exact (below_size (by repeat (first | (with_reducible first | exact HB.out | apply below_alloc | apply pw_below_drewN | apply below_drew1) | exact HB.out))) : w.heap.size ≤ gb142)); have n3_ := Aside0.mk ((by rw [hg]; exact (below_size (by repeat (first | (with_reducible first | exact HB.out | apply below_alloc | apply pw_below_drewN | apply below_drew1) | exact HB.out))) : w.heap.size ≤ gb142)); clear HB; have HB := n0_; have BK142 := n1_; have GW142 := n2_; have GE142 := n3_; clear n0_ n1_ n2_ n3_; clear hb hbox hg))
        have n0_ := Aside0.mk (blk_drew BK142.out)
        have n1_ := Aside0.mk (below_drew1 HB.out)
        clear BK142
        clear HB
        have BK142 := n0_
        have HB := n1_
        clear n0_ n1_
        refine start_ (n := 18) (S := fun w' => w'.cell? ⟨gb142, 0, none⟩ = some (.int .i64 a0_0) ∧ w'.cell? ⟨gb142, 1, none⟩ = some (.int .u64 a0_1) ∧ w'.cell? ⟨gb142, 2, none⟩ = some (.int .i64 a0_2) ∧ w'.cell? ⟨gb142, 3, none⟩ = some (.int .u64 a0_3) ∧ w'.cell? ⟨gb142, 4, none⟩ = some (.int .u64 a0_4) ∧ w'.cell? ⟨gb142, 5, none⟩ = some (.int .i64 a0_5) ∧ w'.cell? ⟨gb142, 6, none⟩ = some (.int .i64 a0_6) ∧ w'.cell? ⟨gb142, 7, none⟩ = some (.string a0_7) ∧ w'.cell? ⟨gb142, 8, none⟩ = some (.string a0_8) ∧ w'.cell? ⟨gb142, 9, none⟩ = some (.string a0_9) ∧ w'.cell? ⟨gb142, 10, none⟩ = some (.slice A0_10 l0_10.length c0_10) ∧ w'.cell? ⟨gb142, 11, none⟩ = some (.slice A0_11 l0_11.length c0_11)) (ds := []) #[false, false, false, false, false, false, false, false, false, false, false, false, false, false, false, false, false, false] (by kernel_rfl) rfl rfl ⟨(blk_cell BK142.out 0).trans rfl, (blk_cell BK142.out 1).trans rfl, (blk_cell BK142.out 2).trans rfl, (blk_cell BK142.out 3).trans rfl, (blk_cell BK142.out 4).trans rfl, (blk_cell BK142.out 5).trans rfl, (blk_cell BK142.out 6).trans rfl, (blk_cell BK142.out 7).trans rfl, (blk_cell BK142.out 8).trans rfl, (blk_cell BK142.out 9).trans rfl, (blk_cell BK142.out 10).trans rfl, (blk_cell BK142.out 11).trans rfl⟩ (fun hHeld => ?_); refine with_tabW flotillaref05_Bytes.tab1 flotillaref05_Bytes.bits1 (fun HT_ HW_ => ?_)
        generalize w11.drew = w12 at BK142 HB hHeld ⊢
        refine pure_ (i := 0) (N := some 7) (v := ?_) (a' := ?_) #[true, false, false, false, false, false, false, false, false, false, false, false, false, false, false, false, false, false] rfl rfl (any_of HT_.out (by kernel_rfl)) (fun _ _ _ h => h) (Or.inl ⟨by rfl, ?_⟩) ?_ ?_
        rotate_left
        · intro w'
          go_simp
          with_reducible rfl
        rotate_left
        · simp only [Act.put, List.setIfInBounds_toArray, List.set_cons_zero, List.set_cons_succ, i64_w, i32_w]
          rfl
        refine pure_ (i := 4) (N := some 11) (v := ?_) (a' := ?_) #[true, false, false, false, true, false, false, false, false, false, false, false, false, false, false, false, false, false] rfl rfl (any_of HT_.out (by kernel_rfl)) (fun _ _ _ h => h) (Or.inl ⟨by rfl, ?_⟩) ?_ ?_
        rotate_left
        · intro w'
          go_simp
          with_reducible rfl
        rotate_left
        · simp only [Act.put, List.setIfInBounds_toArray, List.set_cons_zero, List.set_cons_succ, i64_w, i32_w]
          rfl
        refine pure_ (i := 8) (N := some 15) (v := ?_) (a' := ?_) #[true, false, false, false, true, false, false, false, true, false, false, false, false, false, false, false, false, false] rfl rfl (any_of HT_.out (by kernel_rfl)) (fun _ _ _ h => h) (Or.inl ⟨by rfl, ?_⟩) ?_ ?_
        rotate_left
        · intro w'
          go_simp
          with_reducible rfl
        rotate_left
        · simp only [Act.put, List.setIfInBounds_toArray, List.set_cons_zero, List.set_cons_succ, i64_w, i32_w]
          rfl
        refine pure_ (i := 13) (N := some 20) (v := ?_) (a' := ?_) #[true, false, false, false, true, false, false, false, true, false, false, false, false, true, false, false, false, false] rfl rfl (any_of HT_.out (by kernel_rfl)) (fun _ _ _ h => h) (Or.inl ⟨by rfl, ?_⟩) ?_ ?_
        rotate_left
        · intro w'
          go_simp
          with_reducible rfl
        rotate_left
        · simp only [Act.put, List.setIfInBounds_toArray, List.set_cons_zero, List.set_cons_succ, i64_w, i32_w]
          rfl
        refine take_ (i := 1) (N := some 8) (v := ?_) (a' := ?_) #[true, true, false, false, true, false, false, false, true, false, false, false, false, true, false, false, false, false] rfl rfl (take_ofW HT_.out HW_.out (by kernel_rfl)) (fun _ _ _ h => h) (Or.inl ⟨by rfl, ?_⟩) hHeld ?_ ?_
        rotate_left
        · rintro w' ⟨s0, s1, s2, s3, s4, s5, s6, s7, s8, s9, s10, s11⟩
          go_simp
          with_reducible rfl
        rotate_left
        · simp only [Act.put, List.setIfInBounds_toArray, List.set_cons_zero, List.set_cons_succ, i64_w, i32_w]
          rfl
        refine pure_ (i := 2) (N := some 9) (v := ?_) (a' := ?_) #[true, true, true, false, true, false, false, false, true, false, false, false, false, true, false, false, false, false] rfl rfl (any_of HT_.out (by kernel_rfl)) (fun _ _ _ h => h) (Or.inl ⟨by rfl, ?_⟩) ?_ ?_
        rotate_left
        · intro w'
          go_simp
          with_reducible rfl
        rotate_left
        · simp only [Act.put, List.setIfInBounds_toArray, List.set_cons_zero, List.set_cons_succ, i64_w, i32_w]
          rfl
        refine take_ (i := 5) (N := some 12) (v := ?_) (a' := ?_) #[true, true, true, false, true, true, false, false, true, false, false, false, false, true, false, false, false, false] rfl rfl (take_ofW HT_.out HW_.out (by kernel_rfl)) (fun _ _ _ h => h) (Or.inl ⟨by rfl, ?_⟩) hHeld ?_ ?_
        rotate_left
        · rintro w' ⟨s0, s1, s2, s3, s4, s5, s6, s7, s8, s9, s10, s11⟩
          go_simp
          with_reducible rfl
        rotate_left
        · simp only [Act.put, List.setIfInBounds_toArray, List.set_cons_zero, List.set_cons_succ, i64_w, i32_w]
          rfl
        refine take_ (i := 9) (N := some 16) (v := ?_) (a' := ?_) #[true, true, true, false, true, true, false, false, true, true, false, false, false, true, false, false, false, false] rfl rfl (take_ofW HT_.out HW_.out (by kernel_rfl)) (fun _ _ _ h => h) (Or.inl ⟨by rfl, ?_⟩) hHeld ?_ ?_
        rotate_left
        · rintro w' ⟨s0, s1, s2, s3, s4, s5, s6, s7, s8, s9, s10, s11⟩
          go_simp
          with_reducible rfl
        rotate_left
        · simp only [Act.put, List.setIfInBounds_toArray, List.set_cons_zero, List.set_cons_succ, i64_w, i32_w]
          rfl
        refine pure_ (i := 10) (N := some 17) (v := ?_) (a' := ?_) #[true, true, true, false, true, true, false, false, true, true, true, false, false, true, false, false, false, false] rfl rfl (any_of HT_.out (by kernel_rfl)) (fun _ _ _ h => h) (Or.inl ⟨by rfl, ?_⟩) ?_ ?_
        rotate_left
        · intro w'
          go_simp
          with_reducible rfl
        rotate_left
        · simp only [Act.put, List.setIfInBounds_toArray, List.set_cons_zero, List.set_cons_succ, i64_w, i32_w]
          rfl
        refine take_ (i := 14) (N := some 21) (v := ?_) (a' := ?_) #[true, true, true, false, true, true, false, false, true, true, true, false, false, true, true, false, false, false] rfl rfl (take_ofW HT_.out HW_.out (by kernel_rfl)) (fun _ _ _ h => h) (Or.inl ⟨by rfl, ?_⟩) hHeld ?_ ?_
        rotate_left
        · rintro w' ⟨s0, s1, s2, s3, s4, s5, s6, s7, s8, s9, s10, s11⟩
          go_simp
          with_reducible rfl
        rotate_left
        · simp only [Act.put, List.setIfInBounds_toArray, List.set_cons_zero, List.set_cons_succ, i64_w, i32_w]
          rfl
        refine one_ (i := 3) (N := some 10) #[true, true, true, true, true, true, false, false, true, true, true, false, false, true, true, false, false, false] rfl rfl (one_of HT_.out (by kernel_rfl)) (by decide) (fun K hK => ?_)
        refine goes_ Try.func32 (by kernel_rfl) rfl #[.int .u64 (IntKind.u64.wrap (a0_0)), .int .i64 1] (by rfl) rfl rfl (by (try simp only [List.map_toArray, List.map_cons, List.map_nil]); first | done | rfl | (simp only [List.length_drop, List.length_take]; rfl)) ?_
        with_reducible refine (flotillaref01_Num.calls k (IntKind.u64.wrap (a0_0)) 1 t143 _ A2.out).mono ?_
        rintro e w13 ⟨rfl, hb⟩
        refine ⟨_, rfl, ?_⟩
        have n0_ := Aside0.mk (blk_below (g := gb142) (o := .cells #[.int .i64 a0_0, .int .u64 a0_1, .int .i64 a0_2, .int .u64 a0_3, .int .u64 a0_4, .int .i64 a0_5, .int .i64 a0_6, .string a0_7, .string a0_8, .string a0_9, .slice A0_10 l0_10.length c0_10, .slice A0_11 l0_11.length c0_11] 39 (0, 0)) (by (with_reducible repeat (first | refine blk_drewN ?_ _ | refine blk_drew ?_ | refine blk_alloc ?_ _)); exact BK142.out) hb)
        have n1_ := Aside0.mk (below_step (by repeat (first | (with_reducible first | exact HB.out | apply below_alloc | apply pw_below_drewN | apply below_drew1 | refine below_set ?_ GE142.out) | exact HB.out)) hb)
        clear BK142
        clear HB
        have BK142 := n0_
        have HB := n1_
        clear n0_ n1_
        (try clear hb)
        (try clear hb2)
        (try clear hk)
        (try clear hi)
        refine hK.out _ _ ⟨(blk_cell BK142.out 0).trans rfl, (blk_cell BK142.out 1).trans rfl, (blk_cell BK142.out 2).trans rfl, (blk_cell BK142.out 3).trans rfl, (blk_cell BK142.out 4).trans rfl, (blk_cell BK142.out 5).trans rfl, (blk_cell BK142.out 6).trans rfl, (blk_cell BK142.out 7).trans rfl, (blk_cell BK142.out 8).trans rfl, (blk_cell BK142.out 9).trans rfl, (blk_cell BK142.out 10).trans rfl, (blk_cell BK142.out 11).trans rfl⟩ (fun hHeld => ?_)
        clear hK K
        refine norm_ (a' := ?_) ?_ ?_
        rotate_left
        · show Act.put _ (some 10) _ = _
          simp only [Act.put, List.setIfInBounds_toArray, List.set_cons_zero, List.set_cons_succ, i64_w, i32_w]
          rfl
        refine one_ (i := 6) (N := some 13) #[true, true, true, true, true, true, true, false, true, true, true, false, false, true, true, false, false, false] rfl rfl (one_of HT_.out (by kernel_rfl)) (by decide) (fun K hK => ?_)
        refine goes_ Try.func32 (by kernel_rfl) rfl #[.int .u64 a0_1, .int .i64 8] (by rfl) rfl rfl (by (try simp only [List.map_toArray, List.map_cons, List.map_nil]); first | done | rfl | (simp only [List.length_drop, List.length_take]; rfl)) ?_
        with_reducible refine (flotillaref01_Num.calls k a0_1 8 t144 _ A3.out).mono ?_
        rintro e w14 ⟨rfl, hb⟩
        refine ⟨_, rfl, ?_⟩
        have n0_ := Aside0.mk (blk_below (g := gb142) (o := .cells #[.int .i64 a0_0, .int .u64 a0_1, .int .i64 a0_2, .int .u64 a0_3, .int .u64 a0_4, .int .i64 a0_5, .int .i64 a0_6, .string a0_7, .string a0_8, .string a0_9, .slice A0_10 l0_10.length c0_10, .slice A0_11 l0_11.length c0_11] 39 (0, 0)) (by (with_reducible repeat (first | refine blk_drewN ?_ _ | refine blk_drew ?_ | refine blk_alloc ?_ _)); exact BK142.out) hb)
        have n1_ := Aside0.mk (below_step (by repeat (first | (with_reducible first | exact HB.out | apply below_alloc | apply pw_below_drewN | apply below_drew1 | refine below_set ?_ GE142.out) | exact HB.out)) hb)
        clear BK142
        clear HB
        have BK142 := n0_
        have HB := n1_
        clear n0_ n1_
        (try clear hb)
        (try clear hb2)
        (try clear hk)
        (try clear hi)
        refine hK.out _ _ ⟨(blk_cell BK142.out 0).trans rfl, (blk_cell BK142.out 1).trans rfl, (blk_cell BK142.out 2).trans rfl, (blk_cell BK142.out 3).trans rfl, (blk_cell BK142.out 4).trans rfl, (blk_cell BK142.out 5).trans rfl, (blk_cell BK142.out 6).trans rfl, (blk_cell BK142.out 7).trans rfl, (blk_cell BK142.out 8).trans rfl, (blk_cell BK142.out 9).trans rfl, (blk_cell BK142.out 10).trans rfl, (blk_cell BK142.out 11).trans rfl⟩ (fun hHeld => ?_)
        clear hK K
        refine norm_ (a' := ?_) ?_ ?_
        rotate_left
        · show Act.put _ (some 13) _ = _
          simp only [Act.put, List.setIfInBounds_toArray, List.set_cons_zero, List.set_cons_succ, i64_w, i32_w]
          rfl
        refine pure_ (i := 7) (N := some 14) (v := ?_) (a' := ?_) #[true, true, true, true, true, true, true, true, true, true, true, false, false, true, true, false, false, false] rfl rfl (any_of HT_.out (by kernel_rfl)) (fun _ _ _ h => h) (Or.inl ⟨by rfl, ?_⟩) ?_ ?_
        rotate_left
        · intro w'
          go_simp
          with_reducible rfl
        rotate_left
        · simp only [Act.put, List.setIfInBounds_toArray, List.set_cons_zero, List.set_cons_succ, i64_w, i32_w]
          rfl
        refine one_ (i := 11) (N := some 18) #[true, true, true, true, true, true, true, true, true, true, true, true, false, true, true, false, false, false] rfl rfl (one_of HT_.out (by kernel_rfl)) (by decide) (fun K hK => ?_)
        refine goes_ Try.func32 (by kernel_rfl) rfl #[.int .u64 (IntKind.u64.wrap (a0_2)), .int .i64 4] (by rfl) rfl rfl (by (try simp only [List.map_toArray, List.map_cons, List.map_nil]); first | done | rfl | (simp only [List.length_drop, List.length_take]; rfl)) ?_
        with_reducible refine (flotillaref01_Num.calls k (IntKind.u64.wrap (a0_2)) 4 t145 _ A5.out).mono ?_
        rintro e w15 ⟨rfl, hb⟩
        refine ⟨_, rfl, ?_⟩
        have n0_ := Aside0.mk (blk_below (g := gb142) (o := .cells #[.int .i64 a0_0, .int .u64 a0_1, .int .i64 a0_2, .int .u64 a0_3, .int .u64 a0_4, .int .i64 a0_5, .int .i64 a0_6, .string a0_7, .string a0_8, .string a0_9, .slice A0_10 l0_10.length c0_10, .slice A0_11 l0_11.length c0_11] 39 (0, 0)) (by (with_reducible repeat (first | refine blk_drewN ?_ _ | refine blk_drew ?_ | refine blk_alloc ?_ _)); exact BK142.out) hb)
        have n1_ := Aside0.mk (below_step (by repeat (first | (with_reducible first | exact HB.out | apply below_alloc | apply pw_below_drewN | apply below_drew1 | refine below_set ?_ GE142.out) | exact HB.out)) hb)
        clear BK142
        clear HB
        have BK142 := n0_
        have HB := n1_
        clear n0_ n1_
        (try clear hb)
        (try clear hb2)
        (try clear hk)
        (try clear hi)
        refine hK.out _ _ ⟨(blk_cell BK142.out 0).trans rfl, (blk_cell BK142.out 1).trans rfl, (blk_cell BK142.out 2).trans rfl, (blk_cell BK142.out 3).trans rfl, (blk_cell BK142.out 4).trans rfl, (blk_cell BK142.out 5).trans rfl, (blk_cell BK142.out 6).trans rfl, (blk_cell BK142.out 7).trans rfl, (blk_cell BK142.out 8).trans rfl, (blk_cell BK142.out 9).trans rfl, (blk_cell BK142.out 10).trans rfl, (blk_cell BK142.out 11).trans rfl⟩ (fun hHeld => ?_)
        clear hK K
        refine norm_ (a' := ?_) ?_ ?_
        rotate_left
        · show Act.put _ (some 18) _ = _
          simp only [Act.put, List.setIfInBounds_toArray, List.set_cons_zero, List.set_cons_succ, i64_w, i32_w]
          rfl
        refine pure_ (i := 12) (N := some 19) (v := ?_) (a' := ?_) #[true, true, true, true, true, true, true, true, true, true, true, true, true, true, true, false, false, false] rfl rfl (any_of HT_.out (by kernel_rfl)) (fun _ _ _ h => h) (Or.inl ⟨by rfl, ?_⟩) ?_ ?_
        rotate_left
        · intro w'
          go_simp
          with_reducible rfl
        rotate_left
        · simp only [Act.put, List.setIfInBounds_toArray, List.set_cons_zero, List.set_cons_succ, i64_w, i32_w]
          rfl
        refine one_ (i := 15) (N := some 22) #[true, true, true, true, true, true, true, true, true, true, true, true, true, true, true, true, false, false] rfl rfl (one_of HT_.out (by kernel_rfl)) (by decide) (fun K hK => ?_)
        refine goes_ Try.func32 (by kernel_rfl) rfl #[.int .u64 a0_3, .int .i64 8] (by rfl) rfl rfl (by (try simp only [List.map_toArray, List.map_cons, List.map_nil]); first | done | rfl | (simp only [List.length_drop, List.length_take]; rfl)) ?_
        with_reducible refine (flotillaref01_Num.calls k a0_3 8 t146 _ A7.out).mono ?_
        rintro e w16 ⟨rfl, hb⟩
        refine ⟨_, rfl, ?_⟩
        have n0_ := Aside0.mk (blk_below (g := gb142) (o := .cells #[.int .i64 a0_0, .int .u64 a0_1, .int .i64 a0_2, .int .u64 a0_3, .int .u64 a0_4, .int .i64 a0_5, .int .i64 a0_6, .string a0_7, .string a0_8, .string a0_9, .slice A0_10 l0_10.length c0_10, .slice A0_11 l0_11.length c0_11] 39 (0, 0)) (by (with_reducible repeat (first | refine blk_drewN ?_ _ | refine blk_drew ?_ | refine blk_alloc ?_ _)); exact BK142.out) hb)
        have n1_ := Aside0.mk (below_step (by repeat (first | (with_reducible first | exact HB.out | apply below_alloc | apply pw_below_drewN | apply below_drew1 | refine below_set ?_ GE142.out) | exact HB.out)) hb)
        clear BK142
        clear HB
        have BK142 := n0_
        have HB := n1_
        clear n0_ n1_
        (try clear hb)
        (try clear hb2)
        (try clear hk)
        (try clear hi)
        refine hK.out _ _ ⟨(blk_cell BK142.out 0).trans rfl, (blk_cell BK142.out 1).trans rfl, (blk_cell BK142.out 2).trans rfl, (blk_cell BK142.out 3).trans rfl, (blk_cell BK142.out 4).trans rfl, (blk_cell BK142.out 5).trans rfl, (blk_cell BK142.out 6).trans rfl, (blk_cell BK142.out 7).trans rfl, (blk_cell BK142.out 8).trans rfl, (blk_cell BK142.out 9).trans rfl, (blk_cell BK142.out 10).trans rfl, (blk_cell BK142.out 11).trans rfl⟩ (fun hHeld => ?_)
        clear hK K
        refine norm_ (a' := ?_) ?_ ?_
        rotate_left
        · show Act.put _ (some 22) _ = _
          simp only [Act.put, List.setIfInBounds_toArray, List.set_cons_zero, List.set_cons_succ, i64_w, i32_w]
          rfl
        refine pure_ (i := 16) (N := some 23) (v := ?_) (a' := ?_) #[true, true, true, true, true, true, true, true, true, true, true, true, true, true, true, true, true, false] rfl rfl (any_of HT_.out (by kernel_rfl)) (fun _ _ _ h => h) (Or.inl ⟨by rfl, ?_⟩) ?_ ?_
        rotate_left
        · intro w'
          go_simp
          with_reducible rfl
        rotate_left
        · simp only [Act.put, List.setIfInBounds_toArray, List.set_cons_zero, List.set_cons_succ, i64_w, i32_w]
          rfl
        refine pure_ (i := 17) (N := some 3) (v := ?_) (a' := ?_) #[true, true, true, true, true, true, true, true, true, true, true, true, true, true, true, true, true, true] rfl rfl (any_of HT_.out (by kernel_rfl)) (fun _ _ _ h => h) (Or.inl ⟨by rfl, ?_⟩) ?_ ?_
        rotate_left
        · intro w'
          go_simp
          with_reducible rfl
        rotate_left
        · simp only [Act.put, List.setIfInBounds_toArray, List.set_cons_zero, List.set_cons_succ, i64_w, i32_w]
          rfl
        refine done_ (done_of HT_.out (by kernel_rfl)) ?_
        have hcz17_0 : w16.cell? ⟨gb142, 0, none⟩ = some (.int .i64 a0_0) := (blk_cell BK142.out 0).trans rfl
        have hcz17_1 : w16.cell? ⟨gb142, 1, none⟩ = some (.int .u64 a0_1) := (blk_cell BK142.out 1).trans rfl
        have hcz17_2 : w16.cell? ⟨gb142, 2, none⟩ = some (.int .i64 a0_2) := (blk_cell BK142.out 2).trans rfl
        have hcz17_3 : w16.cell? ⟨gb142, 3, none⟩ = some (.int .u64 a0_3) := (blk_cell BK142.out 3).trans rfl
        have hcz17_4 : w16.cell? ⟨gb142, 4, none⟩ = some (.int .u64 a0_4) := (blk_cell BK142.out 4).trans rfl
        have hcz17_5 : w16.cell? ⟨gb142, 5, none⟩ = some (.int .i64 a0_5) := (blk_cell BK142.out 5).trans rfl
        have hcz17_6 : w16.cell? ⟨gb142, 6, none⟩ = some (.int .i64 a0_6) := (blk_cell BK142.out 6).trans rfl
        have hcz17_7 : w16.cell? ⟨gb142, 7, none⟩ = some (.string a0_7) := (blk_cell BK142.out 7).trans rfl
        have hcz17_8 : w16.cell? ⟨gb142, 8, none⟩ = some (.string a0_8) := (blk_cell BK142.out 8).trans rfl
        have hcz17_9 : w16.cell? ⟨gb142, 9, none⟩ = some (.string a0_9) := (blk_cell BK142.out 9).trans rfl
        have hcz17_10 : w16.cell? ⟨gb142, 10, none⟩ = some (.slice A0_10 l0_10.length c0_10) := (blk_cell BK142.out 10).trans rfl
        have hcz17_11 : w16.cell? ⟨gb142, 11, none⟩ = some (.slice A0_11 l0_11.length c0_11) := (blk_cell BK142.out 11).trans rfl
        have hfz17_0 := blk_frozen BK142.out 0
        have hfz17_1 := blk_frozen BK142.out 1
        have hfz17_2 := blk_frozen BK142.out 2
        have hfz17_3 := blk_frozen BK142.out 3
        have hfz17_4 := blk_frozen BK142.out 4
        have hfz17_5 := blk_frozen BK142.out 5
        have hfz17_6 := blk_frozen BK142.out 6
        have hfz17_7 := blk_frozen BK142.out 7
        have hfz17_8 := blk_frozen BK142.out 8
        have hfz17_9 := blk_frozen BK142.out 9
        have hfz17_10 := blk_frozen BK142.out 10
        have hfz17_11 := blk_frozen BK142.out 11
        go_upto_if 26 with (first | ((with_reducible refine gate_callee (f := 53) rfl ?_); refine goesL_ (some 26) rfl rfl Try.func53 (by kernel_rfl) rfl #[.int .i64 a0_0] rfl (by (try simp only [List.map_toArray, List.map_cons, List.map_nil]); first | done | rfl | (simp only [List.length_drop, List.length_take]; rfl)) ?_; (with_reducible refine (flotillaref05_Changes.calls a0_0 t147 _ A9.out).mono ?_); rintro e w' ⟨rfl, ⟨nd, rfl⟩⟩; refine ⟨_, rfl, ?_⟩))
        (try simp only [Act.put, List.setIfInBounds_toArray, List.set_cons_zero, List.set_cons_succ])
        go_cut [3] (fun v3 wc => ∃ (kq : Nat) (x3_9 : ByteArray), v3 = .string x3_9 ∧ Aside0 (flotillaref05_Bytes.j0 kq x3_9 a0_0 a0_1 a0_2 a0_3 a0_4 a0_5 a0_6 a0_7 a0_8 a0_9 l0_10 l0_11 = some r) ∧ Aside0 (kq ≤ k) ∧ Aside0 (wc.heap[gb142]? = some (.cells #[.int .i64 a0_0, .int .u64 a0_1, .int .i64 a0_2, .int .u64 a0_3, .int .u64 a0_4, .int .i64 a0_5, .int .i64 a0_6, .string a0_7, .string a0_8, .string a0_9, (.slice A0_10 l0_10.length c0_10), (.slice A0_11 l0_11.length c0_11)] 39 (0, 0))) ∧ Aside0 (Below w.heap.size w wc))
        case first =>
          have H := HC10.out
          clear HC10
          by_cases c18 : t147 = true
          · subst c18
            have H1 : ((flotillaref01_Num.f k (IntKind.u64.wrap (a0_5)) 2).bind fun t148 => (if (((t143 ++ t144) ++ t145) ++ t146).size + t148.size ≤ 9223372036854775807 then ((flotillaref01_Num.f k (IntKind.u64.wrap (a0_6)) 1).bind fun t149 => (if ((((t143 ++ t144) ++ t145) ++ t146) ++ t148).size + t149.size ≤ 9223372036854775807 then ((flotillaref01_Text.f k a0_7).bind fun t150 => (if (((((t143 ++ t144) ++ t145) ++ t146) ++ t148) ++ t149).size + t150.size ≤ 9223372036854775807 then ((flotillaref01_Text.f k a0_8).bind fun t151 => (if ((((((t143 ++ t144) ++ t145) ++ t146) ++ t148) ++ t149) ++ t150).size + t151.size ≤ 9223372036854775807 then ((flotillaref01_Text.f k a0_9).bind fun t152 => (if (((((((t143 ++ t144) ++ t145) ++ t146) ++ t148) ++ t149) ++ t150) ++ t151).size + t152.size ≤ 9223372036854775807 then (flotillaref05_Bytes.j0 k ((((((((t143 ++ t144) ++ t145) ++ t146) ++ t148) ++ t149) ++ t150) ++ t151) ++ t152) a0_0 a0_1 a0_2 a0_3 a0_4 a0_5 a0_6 a0_7 a0_8 a0_9 l0_10 l0_11) else (none))) else (none))) else (none))) else (none))) else (none))) = some r := by rw [if_pos rfl] at H; exact H
            clear H
            have H := H1
            clear H1
            replace H := Option.bind_eq_some_iff.mp H
            obtain ⟨t148, A190, H⟩ := H
            replace H : (if (((t143 ++ t144) ++ t145) ++ t146).size + t148.size ≤ 9223372036854775807 then ((flotillaref01_Num.f k (IntKind.u64.wrap (a0_6)) 1).bind fun t149 => (if ((((t143 ++ t144) ++ t145) ++ t146) ++ t148).size + t149.size ≤ 9223372036854775807 then ((flotillaref01_Text.f k a0_7).bind fun t150 => (if (((((t143 ++ t144) ++ t145) ++ t146) ++ t148) ++ t149).size + t150.size ≤ 9223372036854775807 then ((flotillaref01_Text.f k a0_8).bind fun t151 => (if ((((((t143 ++ t144) ++ t145) ++ t146) ++ t148) ++ t149) ++ t150).size + t151.size ≤ 9223372036854775807 then ((flotillaref01_Text.f k a0_9).bind fun t152 => (if (((((((t143 ++ t144) ++ t145) ++ t146) ++ t148) ++ t149) ++ t150) ++ t151).size + t152.size ≤ 9223372036854775807 then (flotillaref05_Bytes.j0 k ((((((((t143 ++ t144) ++ t145) ++ t146) ++ t148) ++ t149) ++ t150) ++ t151) ++ t152) a0_0 a0_1 a0_2 a0_3 a0_4 a0_5 a0_6 a0_7 a0_8 a0_9 l0_10 l0_11) else (none))) else (none))) else (none))) else (none))) else (none)) = some r := H
            have A19 := Aside0.mk A190
            clear A190
            by_cases c20 : (((t143 ++ t144) ++ t145) ++ t146).size + t148.size ≤ 9223372036854775807
            · rw [if_pos c20] at H
              have c20b0 := eq_true c20
              have c20b1 : decide ((((t143 ++ t144) ++ t145) ++ t146).size + t148.size ≤ 9223372036854775807) = true := decide_eq_true c20
              have c20b3 : (9223372036854775807 < t143.size + t144.size + t145.size + t146.size + t148.size) = False := by have h5 := c20; simp only [ByteArray.size_append] at h5; exact eq_false (by omega)
              try have c20b2 : (9223372036854775807 < (((t143 ++ t144) ++ t145) ++ t146).size + t148.size) = False := eq_false (Nat.not_lt.2 c20)
              replace H := Option.bind_eq_some_iff.mp H
              obtain ⟨t149, A210, H⟩ := H
              replace H : (if ((((t143 ++ t144) ++ t145) ++ t146) ++ t148).size + t149.size ≤ 9223372036854775807 then ((flotillaref01_Text.f k a0_7).bind fun t150 => (if (((((t143 ++ t144) ++ t145) ++ t146) ++ t148) ++ t149).size + t150.size ≤ 9223372036854775807 then ((flotillaref01_Text.f k a0_8).bind fun t151 => (if ((((((t143 ++ t144) ++ t145) ++ t146) ++ t148) ++ t149) ++ t150).size + t151.size ≤ 9223372036854775807 then ((flotillaref01_Text.f k a0_9).bind fun t152 => (if (((((((t143 ++ t144) ++ t145) ++ t146) ++ t148) ++ t149) ++ t150) ++ t151).size + t152.size ≤ 9223372036854775807 then (flotillaref05_Bytes.j0 k ((((((((t143 ++ t144) ++ t145) ++ t146) ++ t148) ++ t149) ++ t150) ++ t151) ++ t152) a0_0 a0_1 a0_2 a0_3 a0_4 a0_5 a0_6 a0_7 a0_8 a0_9 l0_10 l0_11) else (none))) else (none))) else (none))) else (none)) = some r := H
              have A21 := Aside0.mk A210
              clear A210
              by_cases c22 : ((((t143 ++ t144) ++ t145) ++ t146) ++ t148).size + t149.size ≤ 9223372036854775807
              · rw [if_pos c22] at H
                have c22b0 := eq_true c22
                have c22b1 : decide (((((t143 ++ t144) ++ t145) ++ t146) ++ t148).size + t149.size ≤ 9223372036854775807) = true := decide_eq_true c22
                have c22b3 : (9223372036854775807 < t143.size + t144.size + t145.size + t146.size + t148.size + t149.size) = False := by have h5 := c22; simp only [ByteArray.size_append] at h5; exact eq_false (by omega)
                try have c22b2 : (9223372036854775807 < ((((t143 ++ t144) ++ t145) ++ t146) ++ t148).size + t149.size) = False := eq_false (Nat.not_lt.2 c22)
                replace H := Option.bind_eq_some_iff.mp H
                obtain ⟨t150, A230, H⟩ := H
                replace H : (if (((((t143 ++ t144) ++ t145) ++ t146) ++ t148) ++ t149).size + t150.size ≤ 9223372036854775807 then ((flotillaref01_Text.f k a0_8).bind fun t151 => (if ((((((t143 ++ t144) ++ t145) ++ t146) ++ t148) ++ t149) ++ t150).size + t151.size ≤ 9223372036854775807 then ((flotillaref01_Text.f k a0_9).bind fun t152 => (if (((((((t143 ++ t144) ++ t145) ++ t146) ++ t148) ++ t149) ++ t150) ++ t151).size + t152.size ≤ 9223372036854775807 then (flotillaref05_Bytes.j0 k ((((((((t143 ++ t144) ++ t145) ++ t146) ++ t148) ++ t149) ++ t150) ++ t151) ++ t152) a0_0 a0_1 a0_2 a0_3 a0_4 a0_5 a0_6 a0_7 a0_8 a0_9 l0_10 l0_11) else (none))) else (none))) else (none)) = some r := H
                have A23 := Aside0.mk A230
                clear A230
                by_cases c24 : (((((t143 ++ t144) ++ t145) ++ t146) ++ t148) ++ t149).size + t150.size ≤ 9223372036854775807
                · rw [if_pos c24] at H
                  have c24b0 := eq_true c24
                  have c24b1 : decide ((((((t143 ++ t144) ++ t145) ++ t146) ++ t148) ++ t149).size + t150.size ≤ 9223372036854775807) = true := decide_eq_true c24
                  have c24b3 : (9223372036854775807 < t143.size + t144.size + t145.size + t146.size + t148.size + t149.size + t150.size) = False := by have h5 := c24; simp only [ByteArray.size_append] at h5; exact eq_false (by omega)
                  try have c24b2 : (9223372036854775807 < (((((t143 ++ t144) ++ t145) ++ t146) ++ t148) ++ t149).size + t150.size) = False := eq_false (Nat.not_lt.2 c24)
                  replace H := Option.bind_eq_some_iff.mp H
                  obtain ⟨t151, A250, H⟩ := H
                  replace H : (if ((((((t143 ++ t144) ++ t145) ++ t146) ++ t148) ++ t149) ++ t150).size + t151.size ≤ 9223372036854775807 then ((flotillaref01_Text.f k a0_9).bind fun t152 => (if (((((((t143 ++ t144) ++ t145) ++ t146) ++ t148) ++ t149) ++ t150) ++ t151).size + t152.size ≤ 9223372036854775807 then (flotillaref05_Bytes.j0 k ((((((((t143 ++ t144) ++ t145) ++ t146) ++ t148) ++ t149) ++ t150) ++ t151) ++ t152) a0_0 a0_1 a0_2 a0_3 a0_4 a0_5 a0_6 a0_7 a0_8 a0_9 l0_10 l0_11) else (none))) else (none)) = some r := H
                  have A25 := Aside0.mk A250
                  clear A250
                  by_cases c26 : ((((((t143 ++ t144) ++ t145) ++ t146) ++ t148) ++ t149) ++ t150).size + t151.size ≤ 9223372036854775807
                  · rw [if_pos c26] at H
                    have c26b0 := eq_true c26
                    have c26b1 : decide (((((((t143 ++ t144) ++ t145) ++ t146) ++ t148) ++ t149) ++ t150).size + t151.size ≤ 9223372036854775807) = true := decide_eq_true c26
                    have c26b3 : (9223372036854775807 < t143.size + t144.size + t145.size + t146.size + t148.size + t149.size + t150.size + t151.size) = False := by have h5 := c26; simp only [ByteArray.size_append] at h5; exact eq_false (by omega)
                    try have c26b2 : (9223372036854775807 < ((((((t143 ++ t144) ++ t145) ++ t146) ++ t148) ++ t149) ++ t150).size + t151.size) = False := eq_false (Nat.not_lt.2 c26)
                    replace H := Option.bind_eq_some_iff.mp H
                    obtain ⟨t152, A270, H⟩ := H
                    replace H : (if (((((((t143 ++ t144) ++ t145) ++ t146) ++ t148) ++ t149) ++ t150) ++ t151).size + t152.size ≤ 9223372036854775807 then (flotillaref05_Bytes.j0 k ((((((((t143 ++ t144) ++ t145) ++ t146) ++ t148) ++ t149) ++ t150) ++ t151) ++ t152) a0_0 a0_1 a0_2 a0_3 a0_4 a0_5 a0_6 a0_7 a0_8 a0_9 l0_10 l0_11) else (none)) = some r := H
                    have A27 := Aside0.mk A270
                    clear A270
                    by_cases c28 : (((((((t143 ++ t144) ++ t145) ++ t146) ++ t148) ++ t149) ++ t150) ++ t151).size + t152.size ≤ 9223372036854775807
                    · rw [if_pos c28] at H
                      have c28b0 := eq_true c28
                      have c28b1 : decide ((((((((t143 ++ t144) ++ t145) ++ t146) ++ t148) ++ t149) ++ t150) ++ t151).size + t152.size ≤ 9223372036854775807) = true := decide_eq_true c28
                      have c28b3 : (9223372036854775807 < t143.size + t144.size + t145.size + t146.size + t148.size + t149.size + t150.size + t151.size + t152.size) = False := by have h5 := c28; simp only [ByteArray.size_append] at h5; exact eq_false (by omega)
                      try have c28b2 : (9223372036854775807 < (((((((t143 ++ t144) ++ t145) ++ t146) ++ t148) ++ t149) ++ t150) ++ t151).size + t152.size) = False := eq_false (Nat.not_lt.2 c28)
                      have H' := Aside0.mk H
                      clear H
                      try go_wp2
                      try (have n0_ := Aside0.mk (blk_drewN BK142.out nd); have n1_ := Aside0.mk (pw_below_drewN HB.out nd); clear BK142 HB; have BK142 := n0_; have HB := n1_; clear n0_ n1_; generalize w16.drewN nd = w16 at BK142 HB ⊢)
                      have n0_ := Aside0.mk (blk_drew BK142.out)
                      have n1_ := Aside0.mk (below_drew1 HB.out)
                      clear BK142
                      clear HB
                      have BK142 := n0_
                      have HB := n1_
                      clear n0_ n1_
                      refine start_ (n := 13) (S := fun w' => w'.cell? ⟨gb142, 0, none⟩ = some (.int .i64 a0_0) ∧ w'.cell? ⟨gb142, 1, none⟩ = some (.int .u64 a0_1) ∧ w'.cell? ⟨gb142, 2, none⟩ = some (.int .i64 a0_2) ∧ w'.cell? ⟨gb142, 3, none⟩ = some (.int .u64 a0_3) ∧ w'.cell? ⟨gb142, 4, none⟩ = some (.int .u64 a0_4) ∧ w'.cell? ⟨gb142, 5, none⟩ = some (.int .i64 a0_5) ∧ w'.cell? ⟨gb142, 6, none⟩ = some (.int .i64 a0_6) ∧ w'.cell? ⟨gb142, 7, none⟩ = some (.string a0_7) ∧ w'.cell? ⟨gb142, 8, none⟩ = some (.string a0_8) ∧ w'.cell? ⟨gb142, 9, none⟩ = some (.string a0_9) ∧ w'.cell? ⟨gb142, 10, none⟩ = some (.slice A0_10 l0_10.length c0_10) ∧ w'.cell? ⟨gb142, 11, none⟩ = some (.slice A0_11 l0_11.length c0_11)) (ds := []) #[false, false, false, false, false, false, false, false, false, false, false, false, false] (by kernel_rfl) rfl rfl ⟨(blk_cell BK142.out 0).trans rfl, (blk_cell BK142.out 1).trans rfl, (blk_cell BK142.out 2).trans rfl, (blk_cell BK142.out 3).trans rfl, (blk_cell BK142.out 4).trans rfl, (blk_cell BK142.out 5).trans rfl, (blk_cell BK142.out 6).trans rfl, (blk_cell BK142.out 7).trans rfl, (blk_cell BK142.out 8).trans rfl, (blk_cell BK142.out 9).trans rfl, (blk_cell BK142.out 10).trans rfl, (blk_cell BK142.out 11).trans rfl⟩ (fun hHeld => ?_); refine with_tabW flotillaref05_Bytes.tab3 flotillaref05_Bytes.bits3 (fun HT_ HW_ => ?_)
                      generalize w16.drew = w29 at BK142 HB hHeld ⊢
                      refine pure_ (i := 0) (N := some 27) (v := ?_) (a' := ?_) #[true, false, false, false, false, false, false, false, false, false, false, false, false] rfl rfl (any_of HT_.out (by kernel_rfl)) (fun _ _ _ h => h) (Or.inl ⟨by rfl, ?_⟩) ?_ ?_
                      rotate_left
                      · intro w'
                        go_simp
                        with_reducible rfl
                      rotate_left
                      · simp only [Act.put, List.setIfInBounds_toArray, List.set_cons_zero, List.set_cons_succ, i64_w, i32_w]
                        rfl
                      refine pure_ (i := 1) (N := some 28) (v := ?_) (a' := ?_) #[true, true, false, false, false, false, false, false, false, false, false, false, false] rfl rfl (any_of HT_.out (by kernel_rfl)) (fun _ _ _ h => h) (Or.inl ⟨by rfl, ?_⟩) ?_ ?_
                      rotate_left
                      · intro w'
                        go_simp
                        with_reducible rfl
                      rotate_left
                      · simp only [Act.put, List.setIfInBounds_toArray, List.set_cons_zero, List.set_cons_succ, i64_w, i32_w]
                        rfl
                      refine pure_ (i := 6) (N := some 33) (v := ?_) (a' := ?_) #[true, true, false, false, false, false, true, false, false, false, false, false, false] rfl rfl (any_of HT_.out (by kernel_rfl)) (fun _ _ _ h => h) (Or.inl ⟨by rfl, ?_⟩) ?_ ?_
                      rotate_left
                      · intro w'
                        go_simp
                        with_reducible rfl
                      rotate_left
                      · simp only [Act.put, List.setIfInBounds_toArray, List.set_cons_zero, List.set_cons_succ, i64_w, i32_w]
                        rfl
                      refine pure_ (i := 7) (N := some 34) (v := ?_) (a' := ?_) #[true, true, false, false, false, false, true, true, false, false, false, false, false] rfl rfl (any_of HT_.out (by kernel_rfl)) (fun _ _ _ h => h) (Or.inl ⟨by rfl, ?_⟩) ?_ ?_
                      rotate_left
                      · intro w'
                        go_simp
                        with_reducible rfl
                      rotate_left
                      · simp only [Act.put, List.setIfInBounds_toArray, List.set_cons_zero, List.set_cons_succ, i64_w, i32_w]
                        rfl
                      refine take_ (i := 2) (N := some 29) (v := ?_) (a' := ?_) #[true, true, true, false, false, false, true, true, false, false, false, false, false] rfl rfl (take_ofW HT_.out HW_.out (by kernel_rfl)) (fun _ _ _ h => h) (Or.inl ⟨by rfl, ?_⟩) hHeld ?_ ?_
                      rotate_left
                      · rintro w' ⟨s0, s1, s2, s3, s4, s5, s6, s7, s8, s9, s10, s11⟩
                        go_simp
                        with_reducible rfl
                      rotate_left
                      · simp only [Act.put, List.setIfInBounds_toArray, List.set_cons_zero, List.set_cons_succ, i64_w, i32_w]
                        rfl
                      refine pure_ (i := 3) (N := some 30) (v := ?_) (a' := ?_) #[true, true, true, true, false, false, true, true, false, false, false, false, false] rfl rfl (any_of HT_.out (by kernel_rfl)) (fun _ _ _ h => h) (Or.inl ⟨by rfl, ?_⟩) ?_ ?_
                      rotate_left
                      · intro w'
                        go_simp
                        with_reducible rfl
                      rotate_left
                      · simp only [Act.put, List.setIfInBounds_toArray, List.set_cons_zero, List.set_cons_succ, i64_w, i32_w]
                        rfl
                      refine take_ (i := 8) (N := some 35) (v := ?_) (a' := ?_) #[true, true, true, true, false, false, true, true, true, false, false, false, false] rfl rfl (take_ofW HT_.out HW_.out (by kernel_rfl)) (fun _ _ _ h => h) (Or.inl ⟨by rfl, ?_⟩) hHeld ?_ ?_
                      rotate_left
                      · rintro w' ⟨s0, s1, s2, s3, s4, s5, s6, s7, s8, s9, s10, s11⟩
                        go_simp
                        with_reducible rfl
                      rotate_left
                      · simp only [Act.put, List.setIfInBounds_toArray, List.set_cons_zero, List.set_cons_succ, i64_w, i32_w]
                        rfl
                      refine pure_ (i := 9) (N := some 36) (v := ?_) (a' := ?_) #[true, true, true, true, false, false, true, true, true, true, false, false, false] rfl rfl (any_of HT_.out (by kernel_rfl)) (fun _ _ _ h => h) (Or.inl ⟨by rfl, ?_⟩) ?_ ?_
                      rotate_left
                      · intro w'
                        go_simp
                        with_reducible rfl
                      rotate_left
                      · simp only [Act.put, List.setIfInBounds_toArray, List.set_cons_zero, List.set_cons_succ, i64_w, i32_w]
                        rfl
                      refine one_ (i := 4) (N := some 31) #[true, true, true, true, true, false, true, true, true, true, false, false, false] rfl rfl (one_of HT_.out (by kernel_rfl)) (by decide) (fun K hK => ?_)
                      refine goes_ Try.func32 (by kernel_rfl) rfl #[.int .u64 (IntKind.u64.wrap (a0_5)), .int .i64 2] (by rfl) rfl rfl (by (try simp only [List.map_toArray, List.map_cons, List.map_nil]); first | done | rfl | (simp only [List.length_drop, List.length_take]; rfl)) ?_
                      with_reducible refine (flotillaref01_Num.calls k (IntKind.u64.wrap (a0_5)) 2 t148 _ A19.out).mono ?_
                      rintro e w30 ⟨rfl, hb⟩
                      refine ⟨_, rfl, ?_⟩
                      have n0_ := Aside0.mk (blk_below (g := gb142) (o := .cells #[.int .i64 a0_0, .int .u64 a0_1, .int .i64 a0_2, .int .u64 a0_3, .int .u64 a0_4, .int .i64 a0_5, .int .i64 a0_6, .string a0_7, .string a0_8, .string a0_9, .slice A0_10 l0_10.length c0_10, .slice A0_11 l0_11.length c0_11] 39 (0, 0)) (by (with_reducible repeat (first | refine blk_drewN ?_ _ | refine blk_drew ?_ | refine blk_alloc ?_ _)); exact BK142.out) hb)
                      have n1_ := Aside0.mk (below_step (by repeat (first | (with_reducible first | exact HB.out | apply below_alloc | apply pw_below_drewN | apply below_drew1 | refine below_set ?_ GE142.out) | exact HB.out)) hb)
                      clear BK142
                      clear HB
                      have BK142 := n0_
                      have HB := n1_
                      clear n0_ n1_
                      (try clear hb)
                      (try clear hb2)
                      (try clear hk)
                      (try clear hi)
                      refine hK.out _ _ ⟨(blk_cell BK142.out 0).trans rfl, (blk_cell BK142.out 1).trans rfl, (blk_cell BK142.out 2).trans rfl, (blk_cell BK142.out 3).trans rfl, (blk_cell BK142.out 4).trans rfl, (blk_cell BK142.out 5).trans rfl, (blk_cell BK142.out 6).trans rfl, (blk_cell BK142.out 7).trans rfl, (blk_cell BK142.out 8).trans rfl, (blk_cell BK142.out 9).trans rfl, (blk_cell BK142.out 10).trans rfl, (blk_cell BK142.out 11).trans rfl⟩ (fun hHeld => ?_)
                      clear hK K
                      refine norm_ (a' := ?_) ?_ ?_
                      rotate_left
                      · show Act.put _ (some 31) _ = _
                        simp only [Act.put, List.setIfInBounds_toArray, List.set_cons_zero, List.set_cons_succ, i64_w, i32_w]
                        rfl
                      refine pure_ (i := 5) (N := some 32) (v := ?_) (a' := ?_) #[true, true, true, true, true, true, true, true, true, true, false, false, false] rfl rfl (any_of HT_.out (by kernel_rfl)) (fun _ _ _ h => h) (Or.inl ⟨by rfl, ?_⟩) ?_ ?_
                      rotate_left
                      · intro w'
                        go_simp
                        with_reducible rfl
                      rotate_left
                      · simp only [Act.put, List.setIfInBounds_toArray, List.set_cons_zero, List.set_cons_succ, i64_w, i32_w]
                        rfl
                      refine one_ (i := 10) (N := some 37) #[true, true, true, true, true, true, true, true, true, true, true, false, false] rfl rfl (one_of HT_.out (by kernel_rfl)) (by decide) (fun K hK => ?_)
                      refine goes_ Try.func32 (by kernel_rfl) rfl #[.int .u64 (IntKind.u64.wrap (a0_6)), .int .i64 1] (by rfl) rfl rfl (by (try simp only [List.map_toArray, List.map_cons, List.map_nil]); first | done | rfl | (simp only [List.length_drop, List.length_take]; rfl)) ?_
                      with_reducible refine (flotillaref01_Num.calls k (IntKind.u64.wrap (a0_6)) 1 t149 _ A21.out).mono ?_
                      rintro e w31 ⟨rfl, hb⟩
                      refine ⟨_, rfl, ?_⟩
                      have n0_ := Aside0.mk (blk_below (g := gb142) (o := .cells #[.int .i64 a0_0, .int .u64 a0_1, .int .i64 a0_2, .int .u64 a0_3, .int .u64 a0_4, .int .i64 a0_5, .int .i64 a0_6, .string a0_7, .string a0_8, .string a0_9, .slice A0_10 l0_10.length c0_10, .slice A0_11 l0_11.length c0_11] 39 (0, 0)) (by (with_reducible repeat (first | refine blk_drewN ?_ _ | refine blk_drew ?_ | refine blk_alloc ?_ _)); exact BK142.out) hb)
                      have n1_ := Aside0.mk (below_step (by repeat (first | (with_reducible first | exact HB.out | apply below_alloc | apply pw_below_drewN | apply below_drew1 | refine below_set ?_ GE142.out) | exact HB.out)) hb)
                      clear BK142
                      clear HB
                      have BK142 := n0_
                      have HB := n1_
                      clear n0_ n1_
                      (try clear hb)
                      (try clear hb2)
                      (try clear hk)
                      (try clear hi)
                      refine hK.out _ _ ⟨(blk_cell BK142.out 0).trans rfl, (blk_cell BK142.out 1).trans rfl, (blk_cell BK142.out 2).trans rfl, (blk_cell BK142.out 3).trans rfl, (blk_cell BK142.out 4).trans rfl, (blk_cell BK142.out 5).trans rfl, (blk_cell BK142.out 6).trans rfl, (blk_cell BK142.out 7).trans rfl, (blk_cell BK142.out 8).trans rfl, (blk_cell BK142.out 9).trans rfl, (blk_cell BK142.out 10).trans rfl, (blk_cell BK142.out 11).trans rfl⟩ (fun hHeld => ?_)
                      clear hK K
                      refine norm_ (a' := ?_) ?_ ?_
                      rotate_left
                      · show Act.put _ (some 37) _ = _
                        simp only [Act.put, List.setIfInBounds_toArray, List.set_cons_zero, List.set_cons_succ, i64_w, i32_w]
                        rfl
                      refine pure_ (i := 11) (N := some 38) (v := ?_) (a' := ?_) #[true, true, true, true, true, true, true, true, true, true, true, true, false] rfl rfl (any_of HT_.out (by kernel_rfl)) (fun _ _ _ h => h) (Or.inl ⟨by rfl, ?_⟩) ?_ ?_
                      rotate_left
                      · intro w'
                        go_simp
                        with_reducible rfl
                      rotate_left
                      · simp only [Act.put, List.setIfInBounds_toArray, List.set_cons_zero, List.set_cons_succ, i64_w, i32_w]
                        rfl
                      refine pure_ (i := 12) (N := some 3) (v := ?_) (a' := ?_) #[true, true, true, true, true, true, true, true, true, true, true, true, true] rfl rfl (any_of HT_.out (by kernel_rfl)) (fun _ _ _ h => h) (Or.inl ⟨by rfl, ?_⟩) ?_ ?_
                      rotate_left
                      · intro w'
                        go_simp
                        with_reducible rfl
                      rotate_left
                      · simp only [Act.put, List.setIfInBounds_toArray, List.set_cons_zero, List.set_cons_succ, i64_w, i32_w]
                        rfl
                      refine done_ (done_of HT_.out (by kernel_rfl)) ?_
                      try go_wp2
                      have n0_ := Aside0.mk (blk_drew BK142.out)
                      have n1_ := Aside0.mk (below_drew1 HB.out)
                      clear BK142
                      clear HB
                      have BK142 := n0_
                      have HB := n1_
                      clear n0_ n1_
                      refine start_ (n := 17) (S := fun w' => w'.cell? ⟨gb142, 0, none⟩ = some (.int .i64 a0_0) ∧ w'.cell? ⟨gb142, 1, none⟩ = some (.int .u64 a0_1) ∧ w'.cell? ⟨gb142, 2, none⟩ = some (.int .i64 a0_2) ∧ w'.cell? ⟨gb142, 3, none⟩ = some (.int .u64 a0_3) ∧ w'.cell? ⟨gb142, 4, none⟩ = some (.int .u64 a0_4) ∧ w'.cell? ⟨gb142, 5, none⟩ = some (.int .i64 a0_5) ∧ w'.cell? ⟨gb142, 6, none⟩ = some (.int .i64 a0_6) ∧ w'.cell? ⟨gb142, 7, none⟩ = some (.string a0_7) ∧ w'.cell? ⟨gb142, 8, none⟩ = some (.string a0_8) ∧ w'.cell? ⟨gb142, 9, none⟩ = some (.string a0_9) ∧ w'.cell? ⟨gb142, 10, none⟩ = some (.slice A0_10 l0_10.length c0_10) ∧ w'.cell? ⟨gb142, 11, none⟩ = some (.slice A0_11 l0_11.length c0_11)) (ds := []) #[false, false, false, false, false, false, false, false, false, false, false, false, false, false, false, false, false] (by kernel_rfl) rfl rfl ⟨(blk_cell BK142.out 0).trans rfl, (blk_cell BK142.out 1).trans rfl, (blk_cell BK142.out 2).trans rfl, (blk_cell BK142.out 3).trans rfl, (blk_cell BK142.out 4).trans rfl, (blk_cell BK142.out 5).trans rfl, (blk_cell BK142.out 6).trans rfl, (blk_cell BK142.out 7).trans rfl, (blk_cell BK142.out 8).trans rfl, (blk_cell BK142.out 9).trans rfl, (blk_cell BK142.out 10).trans rfl, (blk_cell BK142.out 11).trans rfl⟩ (fun hHeld => ?_); refine with_tabW flotillaref05_Bytes.tab4 flotillaref05_Bytes.bits4 (fun HT_ HW_ => ?_)
                      generalize w31.drew = w32 at BK142 HB hHeld ⊢
                      refine pure_ (i := 0) (N := some 39) (v := ?_) (a' := ?_) #[true, false, false, false, false, false, false, false, false, false, false, false, false, false, false, false, false] rfl rfl (any_of HT_.out (by kernel_rfl)) (fun _ _ _ h => h) (Or.inl ⟨by rfl, ?_⟩) ?_ ?_
                      rotate_left
                      · intro w'
                        go_simp
                        with_reducible rfl
                      rotate_left
                      · simp only [Act.put, List.setIfInBounds_toArray, List.set_cons_zero, List.set_cons_succ, i64_w, i32_w]
                        rfl
                      refine pure_ (i := 1) (N := some 40) (v := ?_) (a' := ?_) #[true, true, false, false, false, false, false, false, false, false, false, false, false, false, false, false, false] rfl rfl (any_of HT_.out (by kernel_rfl)) (fun _ _ _ h => h) (Or.inl ⟨by rfl, ?_⟩) ?_ ?_
                      rotate_left
                      · intro w'
                        go_simp
                        with_reducible rfl
                      rotate_left
                      · simp only [Act.put, List.setIfInBounds_toArray, List.set_cons_zero, List.set_cons_succ, i64_w, i32_w]
                        rfl
                      refine pure_ (i := 2) (N := some 41) (v := ?_) (a' := ?_) #[true, true, true, false, false, false, false, false, false, false, false, false, false, false, false, false, false] rfl rfl (any_of HT_.out (by kernel_rfl)) (fun _ _ _ h => h) (Or.inl ⟨by rfl, ?_⟩) ?_ ?_
                      rotate_left
                      · intro w'
                        go_simp
                        with_reducible rfl
                      rotate_left
                      · simp only [Act.put, List.setIfInBounds_toArray, List.set_cons_zero, List.set_cons_succ, i64_w, i32_w]
                        rfl
                      refine pure_ (i := 6) (N := some 45) (v := ?_) (a' := ?_) #[true, true, true, false, false, false, true, false, false, false, false, false, false, false, false, false, false] rfl rfl (any_of HT_.out (by kernel_rfl)) (fun _ _ _ h => h) (Or.inl ⟨by rfl, ?_⟩) ?_ ?_
                      rotate_left
                      · intro w'
                        go_simp
                        with_reducible rfl
                      rotate_left
                      · simp only [Act.put, List.setIfInBounds_toArray, List.set_cons_zero, List.set_cons_succ, i64_w, i32_w]
                        rfl
                      refine pure_ (i := 7) (N := some 46) (v := ?_) (a' := ?_) #[true, true, true, false, false, false, true, true, false, false, false, false, false, false, false, false, false] rfl rfl (any_of HT_.out (by kernel_rfl)) (fun _ _ _ h => h) (Or.inl ⟨by rfl, ?_⟩) ?_ ?_
                      rotate_left
                      · intro w'
                        go_simp
                        with_reducible rfl
                      rotate_left
                      · simp only [Act.put, List.setIfInBounds_toArray, List.set_cons_zero, List.set_cons_succ, i64_w, i32_w]
                        rfl
                      refine pure_ (i := 11) (N := some 50) (v := ?_) (a' := ?_) #[true, true, true, false, false, false, true, true, false, false, false, true, false, false, false, false, false] rfl rfl (any_of HT_.out (by kernel_rfl)) (fun _ _ _ h => h) (Or.inl ⟨by rfl, ?_⟩) ?_ ?_
                      rotate_left
                      · intro w'
                        go_simp
                        with_reducible rfl
                      rotate_left
                      · simp only [Act.put, List.setIfInBounds_toArray, List.set_cons_zero, List.set_cons_succ, i64_w, i32_w]
                        rfl
                      refine pure_ (i := 12) (N := some 51) (v := ?_) (a' := ?_) #[true, true, true, false, false, false, true, true, false, false, false, true, true, false, false, false, false] rfl rfl (any_of HT_.out (by kernel_rfl)) (fun _ _ _ h => h) (Or.inl ⟨by rfl, ?_⟩) ?_ ?_
                      rotate_left
                      · intro w'
                        go_simp
                        with_reducible rfl
                      rotate_left
                      · simp only [Act.put, List.setIfInBounds_toArray, List.set_cons_zero, List.set_cons_succ, i64_w, i32_w]
                        rfl
                      refine take_ (i := 3) (N := some 42) (v := ?_) (a' := ?_) #[true, true, true, true, false, false, true, true, false, false, false, true, true, false, false, false, false] rfl rfl (take_ofW HT_.out HW_.out (by kernel_rfl)) (fun _ _ _ h => h) (Or.inl ⟨by rfl, ?_⟩) hHeld ?_ ?_
                      rotate_left
                      · rintro w' ⟨s0, s1, s2, s3, s4, s5, s6, s7, s8, s9, s10, s11⟩
                        go_simp
                        with_reducible rfl
                      rotate_left
                      · simp only [Act.put, List.setIfInBounds_toArray, List.set_cons_zero, List.set_cons_succ, i64_w, i32_w]
                        rfl
                      refine take_ (i := 8) (N := some 47) (v := ?_) (a' := ?_) #[true, true, true, true, false, false, true, true, true, false, false, true, true, false, false, false, false] rfl rfl (take_ofW HT_.out HW_.out (by kernel_rfl)) (fun _ _ _ h => h) (Or.inl ⟨by rfl, ?_⟩) hHeld ?_ ?_
                      rotate_left
                      · rintro w' ⟨s0, s1, s2, s3, s4, s5, s6, s7, s8, s9, s10, s11⟩
                        go_simp
                        with_reducible rfl
                      rotate_left
                      · simp only [Act.put, List.setIfInBounds_toArray, List.set_cons_zero, List.set_cons_succ, i64_w, i32_w]
                        rfl
                      refine take_ (i := 13) (N := some 52) (v := ?_) (a' := ?_) #[true, true, true, true, false, false, true, true, true, false, false, true, true, true, false, false, false] rfl rfl (take_ofW HT_.out HW_.out (by kernel_rfl)) (fun _ _ _ h => h) (Or.inl ⟨by rfl, ?_⟩) hHeld ?_ ?_
                      rotate_left
                      · rintro w' ⟨s0, s1, s2, s3, s4, s5, s6, s7, s8, s9, s10, s11⟩
                        go_simp
                        with_reducible rfl
                      rotate_left
                      · simp only [Act.put, List.setIfInBounds_toArray, List.set_cons_zero, List.set_cons_succ, i64_w, i32_w]
                        rfl
                      refine one_ (i := 4) (N := some 43) #[true, true, true, true, true, false, true, true, true, false, false, true, true, true, false, false, false] rfl rfl (one_of HT_.out (by kernel_rfl)) (by decide) (fun K hK => ?_)
                      refine goes_ Try.func54 (by kernel_rfl) rfl #[.string a0_7] (by rfl) rfl rfl (by (try simp only [List.map_toArray, List.map_cons, List.map_nil]); first | done | rfl | (simp only [List.length_drop, List.length_take]; rfl)) ?_
                      with_reducible refine (flotillaref01_Text.calls k a0_7 t150 _ A23.out).mono ?_
                      rintro e w33 ⟨rfl, hb⟩
                      refine ⟨_, rfl, ?_⟩
                      have n0_ := Aside0.mk (blk_below (g := gb142) (o := .cells #[.int .i64 a0_0, .int .u64 a0_1, .int .i64 a0_2, .int .u64 a0_3, .int .u64 a0_4, .int .i64 a0_5, .int .i64 a0_6, .string a0_7, .string a0_8, .string a0_9, .slice A0_10 l0_10.length c0_10, .slice A0_11 l0_11.length c0_11] 39 (0, 0)) (by (with_reducible repeat (first | refine blk_drewN ?_ _ | refine blk_drew ?_ | refine blk_alloc ?_ _)); exact BK142.out) hb)
                      have n1_ := Aside0.mk (below_step (by repeat (first | (with_reducible first | exact HB.out | apply below_alloc | apply pw_below_drewN | apply below_drew1 | refine below_set ?_ GE142.out) | exact HB.out)) hb)
                      clear BK142
                      clear HB
                      have BK142 := n0_
                      have HB := n1_
                      clear n0_ n1_
                      (try clear hb)
                      (try clear hb2)
                      (try clear hk)
                      (try clear hi)
                      refine hK.out _ _ ⟨(blk_cell BK142.out 0).trans rfl, (blk_cell BK142.out 1).trans rfl, (blk_cell BK142.out 2).trans rfl, (blk_cell BK142.out 3).trans rfl, (blk_cell BK142.out 4).trans rfl, (blk_cell BK142.out 5).trans rfl, (blk_cell BK142.out 6).trans rfl, (blk_cell BK142.out 7).trans rfl, (blk_cell BK142.out 8).trans rfl, (blk_cell BK142.out 9).trans rfl, (blk_cell BK142.out 10).trans rfl, (blk_cell BK142.out 11).trans rfl⟩ (fun hHeld => ?_)
                      clear hK K
                      refine norm_ (a' := ?_) ?_ ?_
                      rotate_left
                      · show Act.put _ (some 43) _ = _
                        simp only [Act.put, List.setIfInBounds_toArray, List.set_cons_zero, List.set_cons_succ, i64_w, i32_w]
                        rfl
                      refine pure_ (i := 5) (N := some 44) (v := ?_) (a' := ?_) #[true, true, true, true, true, true, true, true, true, false, false, true, true, true, false, false, false] rfl rfl (any_of HT_.out (by kernel_rfl)) (fun _ _ _ h => h) (Or.inl ⟨by rfl, ?_⟩) ?_ ?_
                      rotate_left
                      · intro w'
                        go_simp
                        with_reducible rfl
                      rotate_left
                      · simp only [Act.put, List.setIfInBounds_toArray, List.set_cons_zero, List.set_cons_succ, i64_w, i32_w]
                        rfl
                      refine one_ (i := 9) (N := some 48) #[true, true, true, true, true, true, true, true, true, true, false, true, true, true, false, false, false] rfl rfl (one_of HT_.out (by kernel_rfl)) (by decide) (fun K hK => ?_)
                      refine goes_ Try.func54 (by kernel_rfl) rfl #[.string a0_8] (by rfl) rfl rfl (by (try simp only [List.map_toArray, List.map_cons, List.map_nil]); first | done | rfl | (simp only [List.length_drop, List.length_take]; rfl)) ?_
                      with_reducible refine (flotillaref01_Text.calls k a0_8 t151 _ A25.out).mono ?_
                      rintro e w34 ⟨rfl, hb⟩
                      refine ⟨_, rfl, ?_⟩
                      have n0_ := Aside0.mk (blk_below (g := gb142) (o := .cells #[.int .i64 a0_0, .int .u64 a0_1, .int .i64 a0_2, .int .u64 a0_3, .int .u64 a0_4, .int .i64 a0_5, .int .i64 a0_6, .string a0_7, .string a0_8, .string a0_9, .slice A0_10 l0_10.length c0_10, .slice A0_11 l0_11.length c0_11] 39 (0, 0)) (by (with_reducible repeat (first | refine blk_drewN ?_ _ | refine blk_drew ?_ | refine blk_alloc ?_ _)); exact BK142.out) hb)
                      have n1_ := Aside0.mk (below_step (by repeat (first | (with_reducible first | exact HB.out | apply below_alloc | apply pw_below_drewN | apply below_drew1 | refine below_set ?_ GE142.out) | exact HB.out)) hb)
                      clear BK142
                      clear HB
                      have BK142 := n0_
                      have HB := n1_
                      clear n0_ n1_
                      (try clear hb)
                      (try clear hb2)
                      (try clear hk)
                      (try clear hi)
                      refine hK.out _ _ ⟨(blk_cell BK142.out 0).trans rfl, (blk_cell BK142.out 1).trans rfl, (blk_cell BK142.out 2).trans rfl, (blk_cell BK142.out 3).trans rfl, (blk_cell BK142.out 4).trans rfl, (blk_cell BK142.out 5).trans rfl, (blk_cell BK142.out 6).trans rfl, (blk_cell BK142.out 7).trans rfl, (blk_cell BK142.out 8).trans rfl, (blk_cell BK142.out 9).trans rfl, (blk_cell BK142.out 10).trans rfl, (blk_cell BK142.out 11).trans rfl⟩ (fun hHeld => ?_)
                      clear hK K
                      refine norm_ (a' := ?_) ?_ ?_
                      rotate_left
                      · show Act.put _ (some 48) _ = _
                        simp only [Act.put, List.setIfInBounds_toArray, List.set_cons_zero, List.set_cons_succ, i64_w, i32_w]
                        rfl
                      refine pure_ (i := 10) (N := some 49) (v := ?_) (a' := ?_) #[true, true, true, true, true, true, true, true, true, true, true, true, true, true, false, false, false] rfl rfl (any_of HT_.out (by kernel_rfl)) (fun _ _ _ h => h) (Or.inl ⟨by rfl, ?_⟩) ?_ ?_
                      rotate_left
                      · intro w'
                        go_simp
                        with_reducible rfl
                      rotate_left
                      · simp only [Act.put, List.setIfInBounds_toArray, List.set_cons_zero, List.set_cons_succ, i64_w, i32_w]
                        rfl
                      refine one_ (i := 14) (N := some 53) #[true, true, true, true, true, true, true, true, true, true, true, true, true, true, true, false, false] rfl rfl (one_of HT_.out (by kernel_rfl)) (by decide) (fun K hK => ?_)
                      refine goes_ Try.func54 (by kernel_rfl) rfl #[.string a0_9] (by rfl) rfl rfl (by (try simp only [List.map_toArray, List.map_cons, List.map_nil]); first | done | rfl | (simp only [List.length_drop, List.length_take]; rfl)) ?_
                      with_reducible refine (flotillaref01_Text.calls k a0_9 t152 _ A27.out).mono ?_
                      rintro e w35 ⟨rfl, hb⟩
                      refine ⟨_, rfl, ?_⟩
                      have n0_ := Aside0.mk (blk_below (g := gb142) (o := .cells #[.int .i64 a0_0, .int .u64 a0_1, .int .i64 a0_2, .int .u64 a0_3, .int .u64 a0_4, .int .i64 a0_5, .int .i64 a0_6, .string a0_7, .string a0_8, .string a0_9, .slice A0_10 l0_10.length c0_10, .slice A0_11 l0_11.length c0_11] 39 (0, 0)) (by (with_reducible repeat (first | refine blk_drewN ?_ _ | refine blk_drew ?_ | refine blk_alloc ?_ _)); exact BK142.out) hb)
                      have n1_ := Aside0.mk (below_step (by repeat (first | (with_reducible first | exact HB.out | apply below_alloc | apply pw_below_drewN | apply below_drew1 | refine below_set ?_ GE142.out) | exact HB.out)) hb)
                      clear BK142
                      clear HB
                      have BK142 := n0_
                      have HB := n1_
                      clear n0_ n1_
                      (try clear hb)
                      (try clear hb2)
                      (try clear hk)
                      (try clear hi)
                      refine hK.out _ _ ⟨(blk_cell BK142.out 0).trans rfl, (blk_cell BK142.out 1).trans rfl, (blk_cell BK142.out 2).trans rfl, (blk_cell BK142.out 3).trans rfl, (blk_cell BK142.out 4).trans rfl, (blk_cell BK142.out 5).trans rfl, (blk_cell BK142.out 6).trans rfl, (blk_cell BK142.out 7).trans rfl, (blk_cell BK142.out 8).trans rfl, (blk_cell BK142.out 9).trans rfl, (blk_cell BK142.out 10).trans rfl, (blk_cell BK142.out 11).trans rfl⟩ (fun hHeld => ?_)
                      clear hK K
                      refine norm_ (a' := ?_) ?_ ?_
                      rotate_left
                      · show Act.put _ (some 53) _ = _
                        simp only [Act.put, List.setIfInBounds_toArray, List.set_cons_zero, List.set_cons_succ, i64_w, i32_w]
                        rfl
                      refine pure_ (i := 15) (N := some 54) (v := ?_) (a' := ?_) #[true, true, true, true, true, true, true, true, true, true, true, true, true, true, true, true, false] rfl rfl (any_of HT_.out (by kernel_rfl)) (fun _ _ _ h => h) (Or.inl ⟨by rfl, ?_⟩) ?_ ?_
                      rotate_left
                      · intro w'
                        go_simp
                        with_reducible rfl
                      rotate_left
                      · simp only [Act.put, List.setIfInBounds_toArray, List.set_cons_zero, List.set_cons_succ, i64_w, i32_w]
                        rfl
                      refine pure_ (i := 16) (N := some 3) (v := ?_) (a' := ?_) #[true, true, true, true, true, true, true, true, true, true, true, true, true, true, true, true, true] rfl rfl (any_of HT_.out (by kernel_rfl)) (fun _ _ _ h => h) (Or.inl ⟨by rfl, ?_⟩) ?_ ?_
                      rotate_left
                      · intro w'
                        go_simp
                        with_reducible rfl
                      rotate_left
                      · simp only [Act.put, List.setIfInBounds_toArray, List.set_cons_zero, List.set_cons_succ, i64_w, i32_w]
                        rfl
                      refine done_ (done_of HT_.out (by kernel_rfl)) ?_
                      try go_wp2
                      go_meet
                      case rel => exact ⟨_, ((((((((t143 ++ t144) ++ t145) ++ t146) ++ t148) ++ t149) ++ t150) ++ t151) ++ t152), (by first | rfl | (simp; done) | (simp [*]; done)), H', ⟨by first | omega | exact Nat.le_refl _⟩, ⟨by (with_reducible repeat (first | refine blk_drewN ?_ _ | refine blk_drew ?_ | refine blk_alloc ?_ _)); exact BK142.out⟩, ⟨by repeat (first | (with_reducible first | exact HB.out | apply below_alloc | apply pw_below_drewN | apply below_drew1 | refine below_set ?_ GE142.out) | exact HB.out)⟩⟩
                    · rw [if_neg c28] at H
                      exact absurd H (by simp)
                  · rw [if_neg c26] at H
                    exact absurd H (by simp)
                · rw [if_neg c24] at H
                  exact absurd H (by simp)
              · rw [if_neg c22] at H
                exact absurd H (by simp)
            · rw [if_neg c20] at H
              exact absurd H (by simp)
          · replace c18 := Bool.eq_false_iff.mpr c18
            subst c18
            have H1 : (flotillaref05_Bytes.j0 k (((t143 ++ t144) ++ t145) ++ t146) a0_0 a0_1 a0_2 a0_3 a0_4 a0_5 a0_6 a0_7 a0_8 a0_9 l0_10 l0_11) = some r := by rw [if_neg (show ¬ (false = true) by decide)] at H; exact H
            clear H
            have H := H1
            clear H1
            have H' := Aside0.mk H
            clear H
            go_wp2
            go_meet
            case rel => exact ⟨_, (((t143 ++ t144) ++ t145) ++ t146), (by first | rfl | (simp; done) | (simp [*]; done)), H', ⟨by first | omega | exact Nat.le_refl _⟩, ⟨by (with_reducible repeat (first | refine blk_drewN ?_ _ | refine blk_drew ?_ | refine blk_alloc ?_ _)); exact BK142.out⟩, ⟨by repeat (first | (with_reducible first | exact HB.out | apply below_alloc | apply pw_below_drewN | apply below_drew1 | refine below_set ?_ GE142.out) | exact HB.out)⟩⟩
        case rest =>
          clear HC10
          try clear c1
          try clear c2
          try clear p2
          try clear c3
          try clear c5
          try clear c18
          try clear c20
          try clear c20b0
          try clear c20b1
          try clear c20b2
          try clear c22
          try clear c22b0
          try clear c22b1
          try clear c22b2
          try clear c24
          try clear c24b0
          try clear c24b1
          try clear c24b2
          try clear c26
          try clear c26b0
          try clear c26b1
          try clear c26b2
          try clear c28
          try clear c28b0
          try clear c28b1
          try clear c28b2
          try clear c32
          try clear hcz17_0
          try clear hcz17_1
          try clear hcz17_10
          try clear hcz17_11
          try clear hcz17_2
          try clear hcz17_3
          try clear hcz17_4
          try clear hcz17_5
          try clear hcz17_6
          try clear hcz17_7
          try clear hcz17_8
          try clear hcz17_9
          try clear hfz17_0
          try clear hfz17_1
          try clear hfz17_10
          try clear hfz17_11
          try clear hfz17_2
          try clear hfz17_3
          try clear hfz17_4
          try clear hfz17_5
          try clear hfz17_6
          try clear hfz17_7
          try clear hfz17_8
          try clear hfz17_9
          obtain ⟨kq, x3_9, rfl, HA, HJ9, BK142, HB⟩ := hcut
          cases kq with
          | zero => exact absurd HA.out (by simp [flotillaref05_Bytes.j0])
          | succ kj9 =>
            have H := HA.out
            clear HA
            simp only [flotillaref05_Bytes.j0] at H
            have HC36 := Aside0.mk H
            clear H
            have hcz37_0 : wc.cell? ⟨gb142, 0, none⟩ = some (.int .i64 a0_0) := (blk_cell BK142.out 0).trans rfl
            have hcz37_1 : wc.cell? ⟨gb142, 1, none⟩ = some (.int .u64 a0_1) := (blk_cell BK142.out 1).trans rfl
            have hcz37_2 : wc.cell? ⟨gb142, 2, none⟩ = some (.int .i64 a0_2) := (blk_cell BK142.out 2).trans rfl
            have hcz37_3 : wc.cell? ⟨gb142, 3, none⟩ = some (.int .u64 a0_3) := (blk_cell BK142.out 3).trans rfl
            have hcz37_4 : wc.cell? ⟨gb142, 4, none⟩ = some (.int .u64 a0_4) := (blk_cell BK142.out 4).trans rfl
            have hcz37_5 : wc.cell? ⟨gb142, 5, none⟩ = some (.int .i64 a0_5) := (blk_cell BK142.out 5).trans rfl
            have hcz37_6 : wc.cell? ⟨gb142, 6, none⟩ = some (.int .i64 a0_6) := (blk_cell BK142.out 6).trans rfl
            have hcz37_7 : wc.cell? ⟨gb142, 7, none⟩ = some (.string a0_7) := (blk_cell BK142.out 7).trans rfl
            have hcz37_8 : wc.cell? ⟨gb142, 8, none⟩ = some (.string a0_8) := (blk_cell BK142.out 8).trans rfl
            have hcz37_9 : wc.cell? ⟨gb142, 9, none⟩ = some (.string a0_9) := (blk_cell BK142.out 9).trans rfl
            have hcz37_10 : wc.cell? ⟨gb142, 10, none⟩ = some (.slice A0_10 l0_10.length c0_10) := (blk_cell BK142.out 10).trans rfl
            have hcz37_11 : wc.cell? ⟨gb142, 11, none⟩ = some (.slice A0_11 l0_11.length c0_11) := (blk_cell BK142.out 11).trans rfl
            have hfz37_0 := blk_frozen BK142.out 0
            have hfz37_1 := blk_frozen BK142.out 1
            have hfz37_2 := blk_frozen BK142.out 2
            have hfz37_3 := blk_frozen BK142.out 3
            have hfz37_4 := blk_frozen BK142.out 4
            have hfz37_5 := blk_frozen BK142.out 5
            have hfz37_6 := blk_frozen BK142.out 6
            have hfz37_7 := blk_frozen BK142.out 7
            have hfz37_8 := blk_frozen BK142.out 8
            have hfz37_9 := blk_frozen BK142.out 9
            have hfz37_10 := blk_frozen BK142.out 10
            have hfz37_11 := blk_frozen BK142.out 11
            go_upto_if 57 with (fail)
            go_cut [3] (fun v3 wc => ∃ (kq : Nat) (x3_35 : ByteArray), v3 = .string x3_35 ∧ Aside0 (flotillaref05_Bytes.j1 kq x3_35 a0_0 a0_1 a0_2 a0_3 a0_4 a0_5 a0_6 a0_7 a0_8 a0_9 l0_10 l0_11 = some r) ∧ Aside0 (kq ≤ kj9) ∧ Aside0 (wc.heap[gb142]? = some (.cells #[.int .i64 a0_0, .int .u64 a0_1, .int .i64 a0_2, .int .u64 a0_3, .int .u64 a0_4, .int .i64 a0_5, .int .i64 a0_6, .string a0_7, .string a0_8, .string a0_9, (.slice A0_10 l0_10.length c0_10), (.slice A0_11 l0_11.length c0_11)] 39 (0, 0))) ∧ Aside0 (Below w.heap.size w wc))
            case first =>
              have H := HC36.out
              clear HC36
              by_cases c38 : a0_0 = 2
              · rw [if_pos c38] at H
                have c38b0 : (a0_0 == 2) = true := beq_iff_eq.mpr c38
                have c38b1 : (a0_0 != 2) = false := bne_eq_false_iff_eq.mpr c38
                clear c38
                (first | rw [c38b0] | (simp only [i64_w, i32_w]; rw [c38b0]) | skip)
                replace H := Option.bind_eq_some_iff.mp H
                obtain ⟨t153, A390, H⟩ := H
                replace H : (if x3_9.size + t153.size ≤ 9223372036854775807 then (flotillaref05_Bytes.j1 kj9 (x3_9 ++ t153) a0_0 a0_1 a0_2 a0_3 a0_4 a0_5 a0_6 a0_7 a0_8 a0_9 l0_10 l0_11) else (none)) = some r := H
                have A39 := Aside0.mk A390
                clear A390
                by_cases c40 : x3_9.size + t153.size ≤ 9223372036854775807
                · rw [if_pos c40] at H
                  have c40b0 := eq_true c40
                  have c40b1 : decide (x3_9.size + t153.size ≤ 9223372036854775807) = true := decide_eq_true c40
                  try have c40b2 : (9223372036854775807 < x3_9.size + t153.size) = False := eq_false (Nat.not_lt.2 c40)
                  have H' := Aside0.mk H
                  clear H
                  have hcz41_0 : wc.cell? ⟨gb142, 0, none⟩ = some (.int .i64 a0_0) := (blk_cell BK142.out 0).trans rfl
                  have hcz41_1 : wc.cell? ⟨gb142, 1, none⟩ = some (.int .u64 a0_1) := (blk_cell BK142.out 1).trans rfl
                  have hcz41_2 : wc.cell? ⟨gb142, 2, none⟩ = some (.int .i64 a0_2) := (blk_cell BK142.out 2).trans rfl
                  have hcz41_3 : wc.cell? ⟨gb142, 3, none⟩ = some (.int .u64 a0_3) := (blk_cell BK142.out 3).trans rfl
                  have hcz41_4 : wc.cell? ⟨gb142, 4, none⟩ = some (.int .u64 a0_4) := (blk_cell BK142.out 4).trans rfl
                  have hcz41_5 : wc.cell? ⟨gb142, 5, none⟩ = some (.int .i64 a0_5) := (blk_cell BK142.out 5).trans rfl
                  have hcz41_6 : wc.cell? ⟨gb142, 6, none⟩ = some (.int .i64 a0_6) := (blk_cell BK142.out 6).trans rfl
                  have hcz41_7 : wc.cell? ⟨gb142, 7, none⟩ = some (.string a0_7) := (blk_cell BK142.out 7).trans rfl
                  have hcz41_8 : wc.cell? ⟨gb142, 8, none⟩ = some (.string a0_8) := (blk_cell BK142.out 8).trans rfl
                  have hcz41_9 : wc.cell? ⟨gb142, 9, none⟩ = some (.string a0_9) := (blk_cell BK142.out 9).trans rfl
                  have hcz41_10 : wc.cell? ⟨gb142, 10, none⟩ = some (.slice A0_10 l0_10.length c0_10) := (blk_cell BK142.out 10).trans rfl
                  have hcz41_11 : wc.cell? ⟨gb142, 11, none⟩ = some (.slice A0_11 l0_11.length c0_11) := (blk_cell BK142.out 11).trans rfl
                  have hfz41_0 := blk_frozen BK142.out 0
                  have hfz41_1 := blk_frozen BK142.out 1
                  have hfz41_2 := blk_frozen BK142.out 2
                  have hfz41_3 := blk_frozen BK142.out 3
                  have hfz41_4 := blk_frozen BK142.out 4
                  have hfz41_5 := blk_frozen BK142.out 5
                  have hfz41_6 := blk_frozen BK142.out 6
                  have hfz41_7 := blk_frozen BK142.out 7
                  have hfz41_8 := blk_frozen BK142.out 8
                  have hfz41_9 := blk_frozen BK142.out 9
                  have hfz41_10 := blk_frozen BK142.out 10
                  have hfz41_11 := blk_frozen BK142.out 11
                  go_wp2_with (first | ((with_reducible refine gate_callee (f := 32) rfl ?_); refine goesL_ (some 61) rfl rfl Try.func32 (by kernel_rfl) rfl #[.int .u64 a0_4, .int .i64 8] rfl (by (try simp only [List.map_toArray, List.map_cons, List.map_nil]); first | done | rfl | (simp only [List.length_drop, List.length_take]; rfl)) ?_; (with_reducible refine (flotillaref01_Num.calls kj9 a0_4 8 t153 _ A39.out).mono ?_); rintro e w42 ⟨rfl, hb⟩; refine ⟨_, rfl, ?_⟩; have n0_ := Aside0.mk (blk_below (g := gb142) (o := .cells #[.int .i64 a0_0, .int .u64 a0_1, .int .i64 a0_2, .int .u64 a0_3, .int .u64 a0_4, .int .i64 a0_5, .int .i64 a0_6, .string a0_7, .string a0_8, .string a0_9, .slice A0_10 l0_10.length c0_10, .slice A0_11 l0_11.length c0_11] 39 (0, 0)) (by (with_reducible repeat (first | refine blk_drewN ?_ _ | refine blk_drew ?_ | refine blk_alloc ?_ _)); exact BK142.out) hb); have n1_ := Aside0.mk (below_step (by repeat (first | (with_reducible first | exact HB.out | apply below_alloc | apply pw_below_drewN | apply below_drew1 | refine below_set ?_ GE142.out) | exact HB.out)) hb); clear BK142; clear HB; have BK142 := n0_; have HB := n1_; clear n0_ n1_; (try clear hb); (try clear hb2); (try clear hk); (try clear hi)))
                  go_meet
                  case rel => exact ⟨_, (x3_9 ++ t153), (by first | rfl | (simp; done) | (simp [*]; done)), H', ⟨by have := HJ9.out; first | omega | exact Nat.le_refl _⟩, ⟨by (with_reducible repeat (first | refine blk_drewN ?_ _ | refine blk_drew ?_ | refine blk_alloc ?_ _)); exact BK142.out⟩, ⟨by repeat (first | (with_reducible first | exact HB.out | apply below_alloc | apply pw_below_drewN | apply below_drew1 | refine below_set ?_ GE142.out) | exact HB.out)⟩⟩
                · rw [if_neg c40] at H
                  exact absurd H (by simp)
              · rw [if_neg c38] at H
                have c38b0 : (a0_0 == 2) = false := beq_eq_false_iff_ne.mpr c38
                have c38b1 : (a0_0 != 2) = true := bne_iff_ne.mpr c38
                (first | rw [c38b0] | (simp only [i64_w, i32_w]; rw [c38b0]) | skip)
                have H' := Aside0.mk H
                clear H
                go_wp2
                go_meet
                case rel => exact ⟨_, (x3_9), (by first | rfl | (simp; done) | (simp [*]; done)), H', ⟨by have := HJ9.out; first | omega | exact Nat.le_refl _⟩, ⟨by (with_reducible repeat (first | refine blk_drewN ?_ _ | refine blk_drew ?_ | refine blk_alloc ?_ _)); exact BK142.out⟩, ⟨by repeat (first | (with_reducible first | exact HB.out | apply below_alloc | apply pw_below_drewN | apply below_drew1 | refine below_set ?_ GE142.out) | exact HB.out)⟩⟩
            case rest =>
              clear HC36
              try clear c1
              try clear c2
              try clear p2
              try clear c3
              try clear c4
              try clear c5
              try clear c18
              try clear c20
              try clear c20b0
              try clear c20b1
              try clear c20b2
              try clear c22
              try clear c22b0
              try clear c22b1
              try clear c22b2
              try clear c24
              try clear c24b0
              try clear c24b1
              try clear c24b2
              try clear c26
              try clear c26b0
              try clear c26b1
              try clear c26b2
              try clear c28
              try clear c28b0
              try clear c28b1
              try clear c28b2
              try clear c32
              try clear c38
              try clear c38b0
              try clear c38b1
              try clear c40
              try clear c40b0
              try clear c40b1
              try clear c40b2
              try clear hcz17_0
              try clear hcz17_1
              try clear hcz17_10
              try clear hcz17_11
              try clear hcz17_2
              try clear hcz17_3
              try clear hcz17_4
              try clear hcz17_5
              try clear hcz17_6
              try clear hcz17_7
              try clear hcz17_8
              try clear hcz17_9
              try clear hcz37_0
              try clear hcz37_1
              try clear hcz37_10
              try clear hcz37_11
              try clear hcz37_2
              try clear hcz37_3
              try clear hcz37_4
              try clear hcz37_5
              try clear hcz37_6
              try clear hcz37_7
              try clear hcz37_8
              try clear hcz37_9
              try clear hcz41_0
              try clear hcz41_1
              try clear hcz41_10
              try clear hcz41_11
              try clear hcz41_2
              try clear hcz41_3
              try clear hcz41_4
              try clear hcz41_5
              try clear hcz41_6
              try clear hcz41_7
              try clear hcz41_8
              try clear hcz41_9
              try clear hfz17_0
              try clear hfz17_1
              try clear hfz17_10
              try clear hfz17_11
              try clear hfz17_2
              try clear hfz17_3
              try clear hfz17_4
              try clear hfz17_5
              try clear hfz17_6
              try clear hfz17_7
              try clear hfz17_8
              try clear hfz17_9
              try clear hfz37_0
              try clear hfz37_1
              try clear hfz37_10
              try clear hfz37_11
              try clear hfz37_2
              try clear hfz37_3
              try clear hfz37_4
              try clear hfz37_5
              try clear hfz37_6
              try clear hfz37_7
              try clear hfz37_8
              try clear hfz37_9
              try clear hfz41_0
              try clear hfz41_1
              try clear hfz41_10
              try clear hfz41_11
              try clear hfz41_2
              try clear hfz41_3
              try clear hfz41_4
              try clear hfz41_5
              try clear hfz41_6
              try clear hfz41_7
              try clear hfz41_8
              try clear hfz41_9
              try clear p2
              obtain ⟨kq, x3_35, rfl, HA, HJ35, BK142, HB⟩ := hcut
              cases kq with
              | zero => exact absurd HA.out (by simp [flotillaref05_Bytes.j1])
              | succ kj35 =>
                have H := HA.out
                clear HA
                simp only [flotillaref05_Bytes.j1] at H
                by_cases c43 : a0_0 = 8
                · rw [if_pos c43] at H
                  have c43b0 : (a0_0 == 8) = true := beq_iff_eq.mpr c43
                  have c43b1 : (a0_0 != 8) = false := bne_eq_false_iff_eq.mpr c43
                  clear c43
                  replace H := Option.bind_eq_some_iff.mp H
                  obtain ⟨t154, A440, H⟩ := H
                  replace H : (if x3_35.size + t154.size ≤ 9223372036854775807 then (flotillaref05_Bytes.l0 kj35 (x3_35 ++ t154) 0 a0_0 a0_1 a0_2 a0_3 a0_4 a0_5 a0_6 a0_7 a0_8 a0_9 l0_10 l0_11) else (none)) = some r := H
                  have A44 := Aside0.mk A440
                  clear A440
                  by_cases c45 : x3_35.size + t154.size ≤ 9223372036854775807
                  · rw [if_pos c45] at H
                    have c45b0 := eq_true c45
                    have c45b1 : decide (x3_35.size + t154.size ≤ 9223372036854775807) = true := decide_eq_true c45
                    try have c45b2 : (9223372036854775807 < x3_35.size + t154.size) = False := eq_false (Nat.not_lt.2 c45)
                    have H' := Aside0.mk H
                    clear H
                    have hcz46_0 : wc.cell? ⟨gb142, 0, none⟩ = some (.int .i64 a0_0) := (blk_cell BK142.out 0).trans rfl
                    have hcz46_1 : wc.cell? ⟨gb142, 1, none⟩ = some (.int .u64 a0_1) := (blk_cell BK142.out 1).trans rfl
                    have hcz46_2 : wc.cell? ⟨gb142, 2, none⟩ = some (.int .i64 a0_2) := (blk_cell BK142.out 2).trans rfl
                    have hcz46_3 : wc.cell? ⟨gb142, 3, none⟩ = some (.int .u64 a0_3) := (blk_cell BK142.out 3).trans rfl
                    have hcz46_4 : wc.cell? ⟨gb142, 4, none⟩ = some (.int .u64 a0_4) := (blk_cell BK142.out 4).trans rfl
                    have hcz46_5 : wc.cell? ⟨gb142, 5, none⟩ = some (.int .i64 a0_5) := (blk_cell BK142.out 5).trans rfl
                    have hcz46_6 : wc.cell? ⟨gb142, 6, none⟩ = some (.int .i64 a0_6) := (blk_cell BK142.out 6).trans rfl
                    have hcz46_7 : wc.cell? ⟨gb142, 7, none⟩ = some (.string a0_7) := (blk_cell BK142.out 7).trans rfl
                    have hcz46_8 : wc.cell? ⟨gb142, 8, none⟩ = some (.string a0_8) := (blk_cell BK142.out 8).trans rfl
                    have hcz46_9 : wc.cell? ⟨gb142, 9, none⟩ = some (.string a0_9) := (blk_cell BK142.out 9).trans rfl
                    have hcz46_10 : wc.cell? ⟨gb142, 10, none⟩ = some (.slice A0_10 l0_10.length c0_10) := (blk_cell BK142.out 10).trans rfl
                    have hcz46_11 : wc.cell? ⟨gb142, 11, none⟩ = some (.slice A0_11 l0_11.length c0_11) := (blk_cell BK142.out 11).trans rfl
                    have hfz46_0 := blk_frozen BK142.out 0
                    have hfz46_1 := blk_frozen BK142.out 1
                    have hfz46_2 := blk_frozen BK142.out 2
                    have hfz46_3 := blk_frozen BK142.out 3
                    have hfz46_4 := blk_frozen BK142.out 4
                    have hfz46_5 := blk_frozen BK142.out 5
                    have hfz46_6 := blk_frozen BK142.out 6
                    have hfz46_7 := blk_frozen BK142.out 7
                    have hfz46_8 := blk_frozen BK142.out 8
                    have hfz46_9 := blk_frozen BK142.out 9
                    have hfz46_10 := blk_frozen BK142.out 10
                    have hfz46_11 := blk_frozen BK142.out 11
                    go_wp2_with (first | ((with_reducible refine gate_callee (f := 32) rfl ?_); refine goesL_ (some 71) rfl rfl Try.func32 (by kernel_rfl) rfl #[.int .u64 (IntKind.u64.wrap ((l0_10.length : Int))), .int .i64 1] rfl (by (try simp only [List.map_toArray, List.map_cons, List.map_nil]); first | done | rfl | (simp only [List.length_drop, List.length_take]; rfl)) ?_; (with_reducible refine (flotillaref01_Num.calls kj35 (IntKind.u64.wrap ((l0_10.length : Int))) 1 t154 _ A44.out).mono ?_); rintro e w47 ⟨rfl, hb⟩; refine ⟨_, rfl, ?_⟩; have n0_ := Aside0.mk (blk_below (g := gb142) (o := .cells #[.int .i64 a0_0, .int .u64 a0_1, .int .i64 a0_2, .int .u64 a0_3, .int .u64 a0_4, .int .i64 a0_5, .int .i64 a0_6, .string a0_7, .string a0_8, .string a0_9, .slice A0_10 l0_10.length c0_10, .slice A0_11 l0_11.length c0_11] 39 (0, 0)) (by (with_reducible repeat (first | refine blk_drewN ?_ _ | refine blk_drew ?_ | refine blk_alloc ?_ _)); exact BK142.out) hb); have n1_ := Aside0.mk (below_step (by repeat (first | (with_reducible first | exact HB.out | apply below_alloc | apply pw_below_drewN | apply below_drew1 | refine below_set ?_ GE142.out) | exact HB.out)) hb); clear BK142; clear HB; have BK142 := n0_; have HB := n1_; clear n0_ n1_; (try clear hb); (try clear hb2); (try clear hk); (try clear hi)))
                    go_loopg [3, 4] kj35 (fun kq v3 v4 w' => ∃ (x3_3 : ByteArray) (x4_3 : Int), v3 = .string x3_3 ∧ v4 = .int .i64 x4_3 ∧ Aside0 (flotillaref05_Bytes.l0 kq x3_3 x4_3 a0_0 a0_1 a0_2 a0_3 a0_4 a0_5 a0_6 a0_7 a0_8 a0_9 l0_10 l0_11 = some r) ∧ Aside0 (kq ≤ kj35) ∧ Aside0 (w'.heap[gb142]? = some (.cells #[.int .i64 a0_0, .int .u64 a0_1, .int .i64 a0_2, .int .u64 a0_3, .int .u64 a0_4, .int .i64 a0_5, .int .i64 a0_6, .string a0_7, .string a0_8, .string a0_9, (.slice A0_10 l0_10.length c0_10), (.slice A0_11 l0_11.length c0_11)] 39 (0, 0))) ∧ Aside0 (Below w.heap.size w w'))
                    case atStart => exact ⟨(x3_35 ++ t154), (0), (by first | rfl | (simp; done) | (simp [*]; done)), (by first | rfl | (simp; done) | (simp [*]; done)), H', ⟨Nat.le_refl _⟩, ⟨by (with_reducible repeat (first | refine blk_drewN ?_ _ | refine blk_drew ?_ | refine blk_alloc ?_ _)); exact BK142.out⟩, ⟨by repeat (first | (with_reducible first | exact HB.out | apply below_alloc | apply pw_below_drewN | apply below_drew1 | refine below_set ?_ GE142.out) | exact HB.out)⟩⟩
                    case round =>
                      clear H'
                      try clear c1
                      try clear c2
                      try clear p2
                      try clear c3
                      try clear c4
                      try clear c5
                      try clear c18
                      try clear c20
                      try clear c20b0
                      try clear c20b1
                      try clear c20b2
                      try clear c22
                      try clear c22b0
                      try clear c22b1
                      try clear c22b2
                      try clear c24
                      try clear c24b0
                      try clear c24b1
                      try clear c24b2
                      try clear c26
                      try clear c26b0
                      try clear c26b1
                      try clear c26b2
                      try clear c28
                      try clear c28b0
                      try clear c28b1
                      try clear c28b2
                      try clear c32
                      try clear c38
                      try clear c38b0
                      try clear c38b1
                      try clear c40
                      try clear c40b0
                      try clear c40b1
                      try clear c40b2
                      try clear c43
                      try clear c43b0
                      try clear c43b1
                      try clear c45
                      try clear c45b0
                      try clear c45b1
                      try clear c45b2
                      try clear hcz17_0
                      try clear hcz17_1
                      try clear hcz17_10
                      try clear hcz17_11
                      try clear hcz17_2
                      try clear hcz17_3
                      try clear hcz17_4
                      try clear hcz17_5
                      try clear hcz17_6
                      try clear hcz17_7
                      try clear hcz17_8
                      try clear hcz17_9
                      try clear hcz37_0
                      try clear hcz37_1
                      try clear hcz37_10
                      try clear hcz37_11
                      try clear hcz37_2
                      try clear hcz37_3
                      try clear hcz37_4
                      try clear hcz37_5
                      try clear hcz37_6
                      try clear hcz37_7
                      try clear hcz37_8
                      try clear hcz37_9
                      try clear hcz41_0
                      try clear hcz41_1
                      try clear hcz41_10
                      try clear hcz41_11
                      try clear hcz41_2
                      try clear hcz41_3
                      try clear hcz41_4
                      try clear hcz41_5
                      try clear hcz41_6
                      try clear hcz41_7
                      try clear hcz41_8
                      try clear hcz41_9
                      try clear hcz46_0
                      try clear hcz46_1
                      try clear hcz46_10
                      try clear hcz46_11
                      try clear hcz46_2
                      try clear hcz46_3
                      try clear hcz46_4
                      try clear hcz46_5
                      try clear hcz46_6
                      try clear hcz46_7
                      try clear hcz46_8
                      try clear hcz46_9
                      try clear hfz17_0
                      try clear hfz17_1
                      try clear hfz17_10
                      try clear hfz17_11
                      try clear hfz17_2
                      try clear hfz17_3
                      try clear hfz17_4
                      try clear hfz17_5
                      try clear hfz17_6
                      try clear hfz17_7
                      try clear hfz17_8
                      try clear hfz17_9
                      try clear hfz37_0
                      try clear hfz37_1
                      try clear hfz37_10
                      try clear hfz37_11
                      try clear hfz37_2
                      try clear hfz37_3
                      try clear hfz37_4
                      try clear hfz37_5
                      try clear hfz37_6
                      try clear hfz37_7
                      try clear hfz37_8
                      try clear hfz37_9
                      try clear hfz41_0
                      try clear hfz41_1
                      try clear hfz41_10
                      try clear hfz41_11
                      try clear hfz41_2
                      try clear hfz41_3
                      try clear hfz41_4
                      try clear hfz41_5
                      try clear hfz41_6
                      try clear hfz41_7
                      try clear hfz41_8
                      try clear hfz41_9
                      try clear hfz46_0
                      try clear hfz46_1
                      try clear hfz46_10
                      try clear hfz46_11
                      try clear hfz46_2
                      try clear hfz46_3
                      try clear hfz46_4
                      try clear hfz46_5
                      try clear hfz46_6
                      try clear hfz46_7
                      try clear hfz46_8
                      try clear hfz46_9
                      try clear p2
                      obtain ⟨x3_3, x4_3, rfl, rfl, HA, HK3, BK142, HB⟩ := hrel
                      cases gk with
                      | zero => exact absurd HA.out (by simp [flotillaref05_Bytes.l0])
                      | succ k3 =>
                        have H := HA.out
                        clear HA
                        simp only [flotillaref05_Bytes.l0] at H
                        by_cases c48 : x4_3 < (l0_10.length : Int)
                        · rw [if_pos c48] at H
                          have c48b0 : decide (x4_3 < (l0_10.length : Int)) = true := decide_eq_true c48
                          clear c48
                          by_cases c49 : 0 ≤ x4_3
                          · rw [if_pos c49] at H
                            have c49b0 : decide (0 ≤ x4_3) = true := decide_eq_true c49
                            clear c49
                            replace H := Option.bind_eq_some_iff.mp H
                            obtain ⟨t157, A500, H⟩ := H
                            replace H : (if x3_3.size + t157.size ≤ 9223372036854775807 then ((flotillaref01_Num.f k3 (IntKind.u64.wrap ((rd_TGTxn l0_10 x4_3).f1)) 1).bind fun t158 => (if (x3_3 ++ t157).size + t158.size ≤ 9223372036854775807 then ((flotillaref01_Num.f k3 ((rd_TGTxn l0_10 x4_3).f2) 8).bind fun t159 => (if ((x3_3 ++ t157) ++ t158).size + t159.size ≤ 9223372036854775807 then (flotillaref05_Bytes.l0 k3 (((x3_3 ++ t157) ++ t158) ++ t159) (wrap64 (x4_3 + 1)) a0_0 a0_1 a0_2 a0_3 a0_4 a0_5 a0_6 a0_7 a0_8 a0_9 l0_10 l0_11) else (none))) else (none))) else (none)) = some r := H
                            have A50 := Aside0.mk A500
                            clear A500
                            by_cases c51 : x3_3.size + t157.size ≤ 9223372036854775807
                            · rw [if_pos c51] at H
                              have c51b0 := eq_true c51
                              have c51b1 : decide (x3_3.size + t157.size ≤ 9223372036854775807) = true := decide_eq_true c51
                              try have c51b2 : (9223372036854775807 < x3_3.size + t157.size) = False := eq_false (Nat.not_lt.2 c51)
                              replace H := Option.bind_eq_some_iff.mp H
                              obtain ⟨t158, A520, H⟩ := H
                              replace H : (if (x3_3 ++ t157).size + t158.size ≤ 9223372036854775807 then ((flotillaref01_Num.f k3 ((rd_TGTxn l0_10 x4_3).f2) 8).bind fun t159 => (if ((x3_3 ++ t157) ++ t158).size + t159.size ≤ 9223372036854775807 then (flotillaref05_Bytes.l0 k3 (((x3_3 ++ t157) ++ t158) ++ t159) (wrap64 (x4_3 + 1)) a0_0 a0_1 a0_2 a0_3 a0_4 a0_5 a0_6 a0_7 a0_8 a0_9 l0_10 l0_11) else (none))) else (none)) = some r := H
                              have A52 := Aside0.mk A520
                              clear A520
                              by_cases c53 : (x3_3 ++ t157).size + t158.size ≤ 9223372036854775807
                              · rw [if_pos c53] at H
                                have c53b0 := eq_true c53
                                have c53b1 : decide ((x3_3 ++ t157).size + t158.size ≤ 9223372036854775807) = true := decide_eq_true c53
                                have c53b3 : (9223372036854775807 < x3_3.size + t157.size + t158.size) = False := by have h5 := c53; simp only [ByteArray.size_append] at h5; exact eq_false (by omega)
                                try have c53b2 : (9223372036854775807 < (x3_3 ++ t157).size + t158.size) = False := eq_false (Nat.not_lt.2 c53)
                                replace H := Option.bind_eq_some_iff.mp H
                                obtain ⟨t159, A540, H⟩ := H
                                replace H : (if ((x3_3 ++ t157) ++ t158).size + t159.size ≤ 9223372036854775807 then (flotillaref05_Bytes.l0 k3 (((x3_3 ++ t157) ++ t158) ++ t159) (wrap64 (x4_3 + 1)) a0_0 a0_1 a0_2 a0_3 a0_4 a0_5 a0_6 a0_7 a0_8 a0_9 l0_10 l0_11) else (none)) = some r := H
                                have A54 := Aside0.mk A540
                                clear A540
                                by_cases c55 : ((x3_3 ++ t157) ++ t158).size + t159.size ≤ 9223372036854775807
                                · rw [if_pos c55] at H
                                  have c55b0 := eq_true c55
                                  have c55b1 : decide (((x3_3 ++ t157) ++ t158).size + t159.size ≤ 9223372036854775807) = true := decide_eq_true c55
                                  have c55b3 : (9223372036854775807 < x3_3.size + t157.size + t158.size + t159.size) = False := by have h5 := c55; simp only [ByteArray.size_append] at h5; exact eq_false (by omega)
                                  try have c55b2 : (9223372036854775807 < ((x3_3 ++ t157) ++ t158).size + t159.size) = False := eq_false (Nat.not_lt.2 c55)
                                  have H' := Aside0.mk H
                                  clear H
                                  have hcz56_0 : wr.cell? ⟨gb142, 0, none⟩ = some (.int .i64 a0_0) := (blk_cell BK142.out 0).trans rfl
                                  have hcz56_1 : wr.cell? ⟨gb142, 1, none⟩ = some (.int .u64 a0_1) := (blk_cell BK142.out 1).trans rfl
                                  have hcz56_2 : wr.cell? ⟨gb142, 2, none⟩ = some (.int .i64 a0_2) := (blk_cell BK142.out 2).trans rfl
                                  have hcz56_3 : wr.cell? ⟨gb142, 3, none⟩ = some (.int .u64 a0_3) := (blk_cell BK142.out 3).trans rfl
                                  have hcz56_4 : wr.cell? ⟨gb142, 4, none⟩ = some (.int .u64 a0_4) := (blk_cell BK142.out 4).trans rfl
                                  have hcz56_5 : wr.cell? ⟨gb142, 5, none⟩ = some (.int .i64 a0_5) := (blk_cell BK142.out 5).trans rfl
                                  have hcz56_6 : wr.cell? ⟨gb142, 6, none⟩ = some (.int .i64 a0_6) := (blk_cell BK142.out 6).trans rfl
                                  have hcz56_7 : wr.cell? ⟨gb142, 7, none⟩ = some (.string a0_7) := (blk_cell BK142.out 7).trans rfl
                                  have hcz56_8 : wr.cell? ⟨gb142, 8, none⟩ = some (.string a0_8) := (blk_cell BK142.out 8).trans rfl
                                  have hcz56_9 : wr.cell? ⟨gb142, 9, none⟩ = some (.string a0_9) := (blk_cell BK142.out 9).trans rfl
                                  have hcz56_10 : wr.cell? ⟨gb142, 10, none⟩ = some (.slice A0_10 l0_10.length c0_10) := (blk_cell BK142.out 10).trans rfl
                                  have hcz56_11 : wr.cell? ⟨gb142, 11, none⟩ = some (.slice A0_11 l0_11.length c0_11) := (blk_cell BK142.out 11).trans rfl
                                  have hfz56_0 := blk_frozen BK142.out 0
                                  have hfz56_1 := blk_frozen BK142.out 1
                                  have hfz56_2 := blk_frozen BK142.out 2
                                  have hfz56_3 := blk_frozen BK142.out 3
                                  have hfz56_4 := blk_frozen BK142.out 4
                                  have hfz56_5 := blk_frozen BK142.out 5
                                  have hfz56_6 := blk_frozen BK142.out 6
                                  have hfz56_7 := blk_frozen BK142.out 7
                                  have hfz56_8 := blk_frozen BK142.out 8
                                  have hfz56_9 := blk_frozen BK142.out 9
                                  have hfz56_10 := blk_frozen BK142.out 10
                                  have hfz56_11 := blk_frozen BK142.out 11
                                  have p155 : 0 ≤ (x4_3 : Int) := of_decide_eq_true (by first | (with_reducible assumption) | assumption)
                                  have q155 : x4_3 < (l0_10.length : Int) := of_decide_eq_true (by first | (with_reducible assumption) | assumption)
                                  obtain ⟨ad155, e155, hx155_0, hx155_1, hx155_2⟩ := at_TGTxn HR0_10.out x4_3 p155 q155
                                  cases e155
                                  replace hx155_0 := (HB.out.cell (World.block_lt_of_cell? w _ hx155_0)).trans hx155_0
                                  replace hx155_1 := (HB.out.cell (World.block_lt_of_cell? w _ hx155_1)).trans hx155_1
                                  replace hx155_2 := (HB.out.cell (World.block_lt_of_cell? w _ hx155_2)).trans hx155_2
                                  replace p155 := eq_true p155
                                  replace q155 := eq_true q155
                                  try go_wp2_with (first | ((with_reducible refine gate_dst (N := 5) rfl ?_); refine box_event ?hg (N := 5) ?hd (cs := #[.int .i64 0, .int .i64 0, .int .u64 0]) (t := 54) ?hr ?_; (case hd => rfl); (case hg => rfl); (case hr => first | (go_simp; done) | (go_simp; rfl)); intro gb156 hg w57 hbox hb; have n0_ := Aside0.mk (blk_below (g := gb142) (o := .cells #[.int .i64 a0_0, .int .u64 a0_1, .int .i64 a0_2, .int .u64 a0_3, .int .u64 a0_4, .int .i64 a0_5, .int .i64 a0_6, .string a0_7, .string a0_8, .string a0_9, .slice (some ad155) l0_10.length c0_10, .slice A0_11 l0_11.length c0_11] 39 (0, 0)) (by (with_reducible repeat (first | refine blk_drewN ?_ _ | refine blk_drew ?_ | refine blk_alloc ?_ _)); exact BK142.out) hb); have n1_ := Aside0.mk (below_step (by repeat (first | (with_reducible first | exact HB.out | apply below_alloc | apply pw_below_drewN | apply below_drew1 | refine below_set ?_ GE142.out) | exact HB.out)) hb); have n2_ := Aside0.mk (hbox); have n3_ := Aside0.mk ((by rw [hg]; exact (below_size (by repeat (first | (with_reducible first | exact HB.out | apply below_alloc | apply pw_below_drewN | apply below_drew1 | refine below_set ?_ GE142.out) | exact HB.out))) : w.heap.size ≤ gb156)); have n4_ := Aside0.mk ((by rw [hg]; exact (below_size (by repeat (first | (with_reducible first | exact HB.out | apply below_alloc | apply pw_below_drewN | apply below_drew1 | refine below_set ?_ GE142.out) | exact HB.out))) : w.heap.size ≤ gb156)); have n5_ := Aside0.mk ((by rw [hg]; exact Nat.ne_of_lt (blk_lt (g := gb142) (o := .cells #[.int .i64 a0_0, .int .u64 a0_1, .int .i64 a0_2, .int .u64 a0_3, .int .u64 a0_4, .int .i64 a0_5, .int .i64 a0_6, .string a0_7, .string a0_8, .string a0_9, .slice (some ad155) l0_10.length c0_10, .slice A0_11 l0_11.length c0_11] 39 (0, 0)) (by (with_reducible repeat (first | refine blk_drewN ?_ _ | refine blk_drew ?_ | refine blk_alloc ?_ _)); exact BK142.out)) : gb142 ≠ gb156)); have n6_ := Aside0.mk ((by rw [hg]; exact Nat.ne_of_gt (blk_lt (g := gb142) (o := .cells #[.int .i64 a0_0, .int .u64 a0_1, .int .i64 a0_2, .int .u64 a0_3, .int .u64 a0_4, .int .i64 a0_5, .int .i64 a0_6, .string a0_7, .string a0_8, .string a0_9, .slice (some ad155) l0_10.length c0_10, .slice A0_11 l0_11.length c0_11] 39 (0, 0)) (by (with_reducible repeat (first | refine blk_drewN ?_ _ | refine blk_drew ?_ | refine blk_alloc ?_ _)); exact BK142.out)) : gb156 ≠ gb142)); clear BK142; clear HB; have BK142 := n0_; have HB := n1_; have BK156 := n2_; have GW156 := n3_; have GE156 := n4_; have NB142_156 := n5_; have NB156_142 := n6_; clear n0_ n1_ n2_ n3_ n4_ n5_ n6_; clear hb hbox hg; have hnb58 := NB156_142.out; have hnc58 := NB142_156.out; have hcz59_0 : w57.cell? ⟨gb156, 0, none⟩ = some (.int .i64 0) := (blk_cell BK156.out 0).trans rfl; have hcz59_1 : w57.cell? ⟨gb156, 1, none⟩ = some (.int .i64 0) := (blk_cell BK156.out 1).trans rfl; have hcz59_2 : w57.cell? ⟨gb156, 2, none⟩ = some (.int .u64 0) := (blk_cell BK156.out 2).trans rfl; have hfz59_0 := blk_frozen BK156.out 0; have hfz59_1 := blk_frozen BK156.out 1; have hfz59_2 := blk_frozen BK156.out 2))
                                  have n0_ : Aside0 ((((w57.setCell ⟨gb156, 0, none⟩ (.int .i64 ((rd_TGTxn l0_10 x4_3).f0))).setCell ⟨gb156, 1, none⟩ (.int .i64 ((rd_TGTxn l0_10 x4_3).f1))).setCell ⟨gb156, 2, none⟩ (.int .u64 ((rd_TGTxn l0_10 x4_3).f2))).heap[gb142]? = some (.cells #[.int .i64 a0_0, .int .u64 a0_1, .int .i64 a0_2, .int .u64 a0_3, .int .u64 a0_4, .int .i64 a0_5, .int .i64 a0_6, .string a0_7, .string a0_8, .string a0_9, .slice (some ad155) l0_10.length c0_10, .slice A0_11 l0_11.length c0_11] 39 (0, 0))) := ⟨by (with_reducible repeat (first | refine blk_drewN ?_ _ | refine blk_drew ?_ | refine blk_alloc ?_ _)); refine blk_far ?_ NB142_156.out _; (with_reducible repeat (first | refine blk_drewN ?_ _ | refine blk_drew ?_ | refine blk_alloc ?_ _)); refine blk_far ?_ NB142_156.out _; (with_reducible repeat (first | refine blk_drewN ?_ _ | refine blk_drew ?_ | refine blk_alloc ?_ _)); refine blk_far ?_ NB142_156.out _; (with_reducible repeat (first | refine blk_drewN ?_ _ | refine blk_drew ?_ | refine blk_alloc ?_ _)); exact BK142.out⟩
                                  have n1_ : Aside0 ((((w57.setCell ⟨gb156, 0, none⟩ (.int .i64 ((rd_TGTxn l0_10 x4_3).f0))).setCell ⟨gb156, 1, none⟩ (.int .i64 ((rd_TGTxn l0_10 x4_3).f1))).setCell ⟨gb156, 2, none⟩ (.int .u64 ((rd_TGTxn l0_10 x4_3).f2))).heap[gb156]? = some (.cells #[.int .i64 ((rd_TGTxn l0_10 x4_3).f0), .int .i64 ((rd_TGTxn l0_10 x4_3).f1), .int .u64 ((rd_TGTxn l0_10 x4_3).f2)] 54 (0, 0))) := ⟨by (with_reducible repeat (first | refine blk_drewN ?_ _ | refine blk_drew ?_ | refine blk_alloc ?_ _)); refine blk_put (cs := #[.int .i64 ((rd_TGTxn l0_10 x4_3).f0), .int .i64 ((rd_TGTxn l0_10 x4_3).f1), .int .u64 0]) ?_ 2 _ rfl; (with_reducible repeat (first | refine blk_drewN ?_ _ | refine blk_drew ?_ | refine blk_alloc ?_ _)); refine blk_put (cs := #[.int .i64 ((rd_TGTxn l0_10 x4_3).f0), .int .i64 0, .int .u64 0]) ?_ 1 _ rfl; (with_reducible repeat (first | refine blk_drewN ?_ _ | refine blk_drew ?_ | refine blk_alloc ?_ _)); refine blk_put (cs := #[.int .i64 0, .int .i64 0, .int .u64 0]) ?_ 0 _ rfl; (with_reducible repeat (first | refine blk_drewN ?_ _ | refine blk_drew ?_ | refine blk_alloc ?_ _)); exact BK156.out⟩
                                  have n2_ : Aside0 (Below w.heap.size w (((w57.setCell ⟨gb156, 0, none⟩ (.int .i64 ((rd_TGTxn l0_10 x4_3).f0))).setCell ⟨gb156, 1, none⟩ (.int .i64 ((rd_TGTxn l0_10 x4_3).f1))).setCell ⟨gb156, 2, none⟩ (.int .u64 ((rd_TGTxn l0_10 x4_3).f2)))) := ⟨by repeat (first | (with_reducible first | exact HB.out | apply below_alloc | apply pw_below_drewN | apply below_drew1 | refine below_set ?_ GE142.out | refine below_set ?_ GE156.out) | exact HB.out)⟩
                                  (try clear BK142)
                                  (try clear BK156)
                                  (try clear HB)
                                  generalize (((w57.setCell ⟨gb156, 0, none⟩ (.int .i64 ((rd_TGTxn l0_10 x4_3).f0))).setCell ⟨gb156, 1, none⟩ (.int .i64 ((rd_TGTxn l0_10 x4_3).f1))).setCell ⟨gb156, 2, none⟩ (.int .u64 ((rd_TGTxn l0_10 x4_3).f2))) = w60 at n0_ n1_ n2_ ⊢
                                  have BK142 := n0_
                                  have BK156 := n1_
                                  have HB := n2_
                                  clear n0_ n1_ n2_
                                  have n0_ := Aside0.mk (blk_drew BK142.out)
                                  have n1_ := Aside0.mk (blk_drew BK156.out)
                                  have n2_ := Aside0.mk (below_drew1 HB.out)
                                  clear BK142
                                  clear BK156
                                  clear HB
                                  have BK142 := n0_
                                  have BK156 := n1_
                                  have HB := n2_
                                  clear n0_ n1_ n2_
                                  refine start_ (n := 16) (S := fun w' => w'.cell? ⟨gb156, 0, none⟩ = some (.int .i64 ((rd_TGTxn l0_10 x4_3).f0)) ∧ w'.cell? ⟨gb156, 1, none⟩ = some (.int .i64 ((rd_TGTxn l0_10 x4_3).f1)) ∧ w'.cell? ⟨gb156, 2, none⟩ = some (.int .u64 ((rd_TGTxn l0_10 x4_3).f2))) (ds := []) #[false, false, false, false, false, false, false, false, false, false, false, false, false, false, false, false] (by kernel_rfl) rfl rfl ⟨(blk_cell BK156.out 0).trans rfl, (blk_cell BK156.out 1).trans rfl, (blk_cell BK156.out 2).trans rfl⟩ (fun hHeld => ?_); refine with_tabW flotillaref05_Bytes.tab13 flotillaref05_Bytes.bits13 (fun HT_ HW_ => ?_)
                                  generalize w60.drew = w61 at BK142 BK156 HB hHeld ⊢
                                  refine pure_ (i := 0) (N := some 85) (v := ?_) (a' := ?_) #[true, false, false, false, false, false, false, false, false, false, false, false, false, false, false, false] rfl rfl (any_of HT_.out (by kernel_rfl)) (fun _ _ _ h => h) (Or.inl ⟨by rfl, ?_⟩) ?_ ?_
                                  rotate_left
                                  · intro w'
                                    go_simp
                                    with_reducible rfl
                                  rotate_left
                                  · simp only [Act.put, List.setIfInBounds_toArray, List.set_cons_zero, List.set_cons_succ, i64_w, i32_w]
                                    rfl
                                  refine pure_ (i := 1) (N := some 86) (v := ?_) (a' := ?_) #[true, true, false, false, false, false, false, false, false, false, false, false, false, false, false, false] rfl rfl (any_of HT_.out (by kernel_rfl)) (fun _ _ _ h => h) (Or.inl ⟨by rfl, ?_⟩) ?_ ?_
                                  rotate_left
                                  · intro w'
                                    go_simp
                                    with_reducible rfl
                                  rotate_left
                                  · simp only [Act.put, List.setIfInBounds_toArray, List.set_cons_zero, List.set_cons_succ, i64_w, i32_w]
                                    rfl
                                  refine pure_ (i := 6) (N := some 91) (v := ?_) (a' := ?_) #[true, true, false, false, false, false, true, false, false, false, false, false, false, false, false, false] rfl rfl (any_of HT_.out (by kernel_rfl)) (fun _ _ _ h => h) (Or.inl ⟨by rfl, ?_⟩) ?_ ?_
                                  rotate_left
                                  · intro w'
                                    go_simp
                                    with_reducible rfl
                                  rotate_left
                                  · simp only [Act.put, List.setIfInBounds_toArray, List.set_cons_zero, List.set_cons_succ, i64_w, i32_w]
                                    rfl
                                  refine pure_ (i := 11) (N := some 96) (v := ?_) (a' := ?_) #[true, true, false, false, false, false, true, false, false, false, false, true, false, false, false, false] rfl rfl (any_of HT_.out (by kernel_rfl)) (fun _ _ _ h => h) (Or.inl ⟨by rfl, ?_⟩) ?_ ?_
                                  rotate_left
                                  · intro w'
                                    go_simp
                                    with_reducible rfl
                                  rotate_left
                                  · simp only [Act.put, List.setIfInBounds_toArray, List.set_cons_zero, List.set_cons_succ, i64_w, i32_w]
                                    rfl
                                  refine take_ (i := 2) (N := some 87) (v := ?_) (a' := ?_) #[true, true, true, false, false, false, true, false, false, false, false, true, false, false, false, false] rfl rfl (take_ofW HT_.out HW_.out (by kernel_rfl)) (fun _ _ _ h => h) (Or.inl ⟨by rfl, ?_⟩) hHeld ?_ ?_
                                  rotate_left
                                  · rintro w' ⟨s0, s1, s2⟩
                                    go_simp
                                    with_reducible rfl
                                  rotate_left
                                  · simp only [Act.put, List.setIfInBounds_toArray, List.set_cons_zero, List.set_cons_succ, i64_w, i32_w]
                                    rfl
                                  refine pure_ (i := 3) (N := some 88) (v := ?_) (a' := ?_) #[true, true, true, true, false, false, true, false, false, false, false, true, false, false, false, false] rfl rfl (any_of HT_.out (by kernel_rfl)) (fun _ _ _ h => h) (Or.inl ⟨by rfl, ?_⟩) ?_ ?_
                                  rotate_left
                                  · intro w'
                                    go_simp
                                    with_reducible rfl
                                  rotate_left
                                  · simp only [Act.put, List.setIfInBounds_toArray, List.set_cons_zero, List.set_cons_succ, i64_w, i32_w]
                                    rfl
                                  refine take_ (i := 7) (N := some 92) (v := ?_) (a' := ?_) #[true, true, true, true, false, false, true, true, false, false, false, true, false, false, false, false] rfl rfl (take_ofW HT_.out HW_.out (by kernel_rfl)) (fun _ _ _ h => h) (Or.inl ⟨by rfl, ?_⟩) hHeld ?_ ?_
                                  rotate_left
                                  · rintro w' ⟨s0, s1, s2⟩
                                    go_simp
                                    with_reducible rfl
                                  rotate_left
                                  · simp only [Act.put, List.setIfInBounds_toArray, List.set_cons_zero, List.set_cons_succ, i64_w, i32_w]
                                    rfl
                                  refine pure_ (i := 8) (N := some 93) (v := ?_) (a' := ?_) #[true, true, true, true, false, false, true, true, true, false, false, true, false, false, false, false] rfl rfl (any_of HT_.out (by kernel_rfl)) (fun _ _ _ h => h) (Or.inl ⟨by rfl, ?_⟩) ?_ ?_
                                  rotate_left
                                  · intro w'
                                    go_simp
                                    with_reducible rfl
                                  rotate_left
                                  · simp only [Act.put, List.setIfInBounds_toArray, List.set_cons_zero, List.set_cons_succ, i64_w, i32_w]
                                    rfl
                                  refine take_ (i := 12) (N := some 97) (v := ?_) (a' := ?_) #[true, true, true, true, false, false, true, true, true, false, false, true, true, false, false, false] rfl rfl (take_ofW HT_.out HW_.out (by kernel_rfl)) (fun _ _ _ h => h) (Or.inl ⟨by rfl, ?_⟩) hHeld ?_ ?_
                                  rotate_left
                                  · rintro w' ⟨s0, s1, s2⟩
                                    go_simp
                                    with_reducible rfl
                                  rotate_left
                                  · simp only [Act.put, List.setIfInBounds_toArray, List.set_cons_zero, List.set_cons_succ, i64_w, i32_w]
                                    rfl
                                  refine one_ (i := 4) (N := some 89) #[true, true, true, true, true, false, true, true, true, false, false, true, true, false, false, false] rfl rfl (one_of HT_.out (by kernel_rfl)) (by decide) (fun K hK => ?_)
                                  refine goes_ Try.func32 (by kernel_rfl) rfl #[.int .u64 (IntKind.u64.wrap ((rd_TGTxn l0_10 x4_3).f0)), .int .i64 4] (by rfl) rfl rfl (by (try simp only [List.map_toArray, List.map_cons, List.map_nil]); first | done | rfl | (simp only [List.length_drop, List.length_take]; rfl)) ?_
                                  with_reducible refine (flotillaref01_Num.calls k3 (IntKind.u64.wrap ((rd_TGTxn l0_10 x4_3).f0)) 4 t157 _ A50.out).mono ?_
                                  rintro e w62 ⟨rfl, hb⟩
                                  refine ⟨_, rfl, ?_⟩
                                  have n0_ := Aside0.mk (blk_below (g := gb142) (o := .cells #[.int .i64 a0_0, .int .u64 a0_1, .int .i64 a0_2, .int .u64 a0_3, .int .u64 a0_4, .int .i64 a0_5, .int .i64 a0_6, .string a0_7, .string a0_8, .string a0_9, .slice (some ad155) l0_10.length c0_10, .slice A0_11 l0_11.length c0_11] 39 (0, 0)) (by (with_reducible repeat (first | refine blk_drewN ?_ _ | refine blk_drew ?_ | refine blk_alloc ?_ _)); exact BK142.out) hb)
                                  have n1_ := Aside0.mk (blk_below (g := gb156) (o := .cells #[.int .i64 ((rd_TGTxn l0_10 x4_3).f0), .int .i64 ((rd_TGTxn l0_10 x4_3).f1), .int .u64 ((rd_TGTxn l0_10 x4_3).f2)] 54 (0, 0)) (by (with_reducible repeat (first | refine blk_drewN ?_ _ | refine blk_drew ?_ | refine blk_alloc ?_ _)); exact BK156.out) hb)
                                  have n2_ := Aside0.mk (below_step (by repeat (first | (with_reducible first | exact HB.out | apply below_alloc | apply pw_below_drewN | apply below_drew1 | refine below_set ?_ GE142.out | refine below_set ?_ GE156.out) | exact HB.out)) hb)
                                  clear BK142
                                  clear BK156
                                  clear HB
                                  have BK142 := n0_
                                  have BK156 := n1_
                                  have HB := n2_
                                  clear n0_ n1_ n2_
                                  (try clear hb)
                                  (try clear hb2)
                                  (try clear hk)
                                  (try clear hi)
                                  refine hK.out _ _ ⟨(blk_cell BK156.out 0).trans rfl, (blk_cell BK156.out 1).trans rfl, (blk_cell BK156.out 2).trans rfl⟩ (fun hHeld => ?_)
                                  clear hK K
                                  refine norm_ (a' := ?_) ?_ ?_
                                  rotate_left
                                  · show Act.put _ (some 89) _ = _
                                    simp only [Act.put, List.setIfInBounds_toArray, List.set_cons_zero, List.set_cons_succ, i64_w, i32_w]
                                    rfl
                                  refine pure_ (i := 5) (N := some 90) (v := ?_) (a' := ?_) #[true, true, true, true, true, true, true, true, true, false, false, true, true, false, false, false] rfl rfl (any_of HT_.out (by kernel_rfl)) (fun _ _ _ h => h) (Or.inl ⟨by rfl, ?_⟩) ?_ ?_
                                  rotate_left
                                  · intro w'
                                    go_simp
                                    with_reducible rfl
                                  rotate_left
                                  · simp only [Act.put, List.setIfInBounds_toArray, List.set_cons_zero, List.set_cons_succ, i64_w, i32_w]
                                    rfl
                                  refine one_ (i := 9) (N := some 94) #[true, true, true, true, true, true, true, true, true, true, false, true, true, false, false, false] rfl rfl (one_of HT_.out (by kernel_rfl)) (by decide) (fun K hK => ?_)
                                  refine goes_ Try.func32 (by kernel_rfl) rfl #[.int .u64 (IntKind.u64.wrap ((rd_TGTxn l0_10 x4_3).f1)), .int .i64 1] (by rfl) rfl rfl (by (try simp only [List.map_toArray, List.map_cons, List.map_nil]); first | done | rfl | (simp only [List.length_drop, List.length_take]; rfl)) ?_
                                  with_reducible refine (flotillaref01_Num.calls k3 (IntKind.u64.wrap ((rd_TGTxn l0_10 x4_3).f1)) 1 t158 _ A52.out).mono ?_
                                  rintro e w63 ⟨rfl, hb⟩
                                  refine ⟨_, rfl, ?_⟩
                                  have n0_ := Aside0.mk (blk_below (g := gb142) (o := .cells #[.int .i64 a0_0, .int .u64 a0_1, .int .i64 a0_2, .int .u64 a0_3, .int .u64 a0_4, .int .i64 a0_5, .int .i64 a0_6, .string a0_7, .string a0_8, .string a0_9, .slice (some ad155) l0_10.length c0_10, .slice A0_11 l0_11.length c0_11] 39 (0, 0)) (by (with_reducible repeat (first | refine blk_drewN ?_ _ | refine blk_drew ?_ | refine blk_alloc ?_ _)); exact BK142.out) hb)
                                  have n1_ := Aside0.mk (blk_below (g := gb156) (o := .cells #[.int .i64 ((rd_TGTxn l0_10 x4_3).f0), .int .i64 ((rd_TGTxn l0_10 x4_3).f1), .int .u64 ((rd_TGTxn l0_10 x4_3).f2)] 54 (0, 0)) (by (with_reducible repeat (first | refine blk_drewN ?_ _ | refine blk_drew ?_ | refine blk_alloc ?_ _)); exact BK156.out) hb)
                                  have n2_ := Aside0.mk (below_step (by repeat (first | (with_reducible first | exact HB.out | apply below_alloc | apply pw_below_drewN | apply below_drew1 | refine below_set ?_ GE142.out | refine below_set ?_ GE156.out) | exact HB.out)) hb)
                                  clear BK142
                                  clear BK156
                                  clear HB
                                  have BK142 := n0_
                                  have BK156 := n1_
                                  have HB := n2_
                                  clear n0_ n1_ n2_
                                  (try clear hb)
                                  (try clear hb2)
                                  (try clear hk)
                                  (try clear hi)
                                  refine hK.out _ _ ⟨(blk_cell BK156.out 0).trans rfl, (blk_cell BK156.out 1).trans rfl, (blk_cell BK156.out 2).trans rfl⟩ (fun hHeld => ?_)
                                  clear hK K
                                  refine norm_ (a' := ?_) ?_ ?_
                                  rotate_left
                                  · show Act.put _ (some 94) _ = _
                                    simp only [Act.put, List.setIfInBounds_toArray, List.set_cons_zero, List.set_cons_succ, i64_w, i32_w]
                                    rfl
                                  refine pure_ (i := 10) (N := some 95) (v := ?_) (a' := ?_) #[true, true, true, true, true, true, true, true, true, true, true, true, true, false, false, false] rfl rfl (any_of HT_.out (by kernel_rfl)) (fun _ _ _ h => h) (Or.inl ⟨by rfl, ?_⟩) ?_ ?_
                                  rotate_left
                                  · intro w'
                                    go_simp
                                    with_reducible rfl
                                  rotate_left
                                  · simp only [Act.put, List.setIfInBounds_toArray, List.set_cons_zero, List.set_cons_succ, i64_w, i32_w]
                                    rfl
                                  refine one_ (i := 13) (N := some 98) #[true, true, true, true, true, true, true, true, true, true, true, true, true, true, false, false] rfl rfl (one_of HT_.out (by kernel_rfl)) (by decide) (fun K hK => ?_)
                                  refine goes_ Try.func32 (by kernel_rfl) rfl #[.int .u64 ((rd_TGTxn l0_10 x4_3).f2), .int .i64 8] (by rfl) rfl rfl (by (try simp only [List.map_toArray, List.map_cons, List.map_nil]); first | done | rfl | (simp only [List.length_drop, List.length_take]; rfl)) ?_
                                  with_reducible refine (flotillaref01_Num.calls k3 ((rd_TGTxn l0_10 x4_3).f2) 8 t159 _ A54.out).mono ?_
                                  rintro e w64 ⟨rfl, hb⟩
                                  refine ⟨_, rfl, ?_⟩
                                  have n0_ := Aside0.mk (blk_below (g := gb142) (o := .cells #[.int .i64 a0_0, .int .u64 a0_1, .int .i64 a0_2, .int .u64 a0_3, .int .u64 a0_4, .int .i64 a0_5, .int .i64 a0_6, .string a0_7, .string a0_8, .string a0_9, .slice (some ad155) l0_10.length c0_10, .slice A0_11 l0_11.length c0_11] 39 (0, 0)) (by (with_reducible repeat (first | refine blk_drewN ?_ _ | refine blk_drew ?_ | refine blk_alloc ?_ _)); exact BK142.out) hb)
                                  have n1_ := Aside0.mk (blk_below (g := gb156) (o := .cells #[.int .i64 ((rd_TGTxn l0_10 x4_3).f0), .int .i64 ((rd_TGTxn l0_10 x4_3).f1), .int .u64 ((rd_TGTxn l0_10 x4_3).f2)] 54 (0, 0)) (by (with_reducible repeat (first | refine blk_drewN ?_ _ | refine blk_drew ?_ | refine blk_alloc ?_ _)); exact BK156.out) hb)
                                  have n2_ := Aside0.mk (below_step (by repeat (first | (with_reducible first | exact HB.out | apply below_alloc | apply pw_below_drewN | apply below_drew1 | refine below_set ?_ GE142.out | refine below_set ?_ GE156.out) | exact HB.out)) hb)
                                  clear BK142
                                  clear BK156
                                  clear HB
                                  have BK142 := n0_
                                  have BK156 := n1_
                                  have HB := n2_
                                  clear n0_ n1_ n2_
                                  (try clear hb)
                                  (try clear hb2)
                                  (try clear hk)
                                  (try clear hi)
                                  refine hK.out _ _ ⟨(blk_cell BK156.out 0).trans rfl, (blk_cell BK156.out 1).trans rfl, (blk_cell BK156.out 2).trans rfl⟩ (fun hHeld => ?_)
                                  clear hK K
                                  refine norm_ (a' := ?_) ?_ ?_
                                  rotate_left
                                  · show Act.put _ (some 98) _ = _
                                    simp only [Act.put, List.setIfInBounds_toArray, List.set_cons_zero, List.set_cons_succ, i64_w, i32_w]
                                    rfl
                                  refine pure_ (i := 14) (N := some 99) (v := ?_) (a' := ?_) #[true, true, true, true, true, true, true, true, true, true, true, true, true, true, true, false] rfl rfl (any_of HT_.out (by kernel_rfl)) (fun _ _ _ h => h) (Or.inl ⟨by rfl, ?_⟩) ?_ ?_
                                  rotate_left
                                  · intro w'
                                    go_simp
                                    with_reducible rfl
                                  rotate_left
                                  · simp only [Act.put, List.setIfInBounds_toArray, List.set_cons_zero, List.set_cons_succ, i64_w, i32_w]
                                    rfl
                                  refine pure_ (i := 15) (N := some 3) (v := ?_) (a' := ?_) #[true, true, true, true, true, true, true, true, true, true, true, true, true, true, true, true] rfl rfl (any_of HT_.out (by kernel_rfl)) (fun _ _ _ h => h) (Or.inl ⟨by rfl, ?_⟩) ?_ ?_
                                  rotate_left
                                  · intro w'
                                    go_simp
                                    with_reducible rfl
                                  rotate_left
                                  · simp only [Act.put, List.setIfInBounds_toArray, List.set_cons_zero, List.set_cons_succ, i64_w, i32_w]
                                    rfl
                                  refine done_ (done_of HT_.out (by kernel_rfl)) ?_
                                  try go_wp2
                                  go_roundg k3
                                  case measure => have := HJ9.out; have := HJ35.out; have := HK3.out; omega
                                  case rel => exact ⟨(((x3_3 ++ t157) ++ t158) ++ t159), (wrap64 (x4_3 + 1)), (by first | rfl | (simp; done) | (simp [*]; done)), (by first | rfl | (simp; done) | (simp [*]; done)), H', ⟨by have := HJ9.out; have := HJ35.out; have := HK3.out; omega⟩, ⟨by (with_reducible repeat (first | refine blk_drewN ?_ _ | refine blk_drew ?_ | refine blk_alloc ?_ _)); exact BK142.out⟩, ⟨by repeat (first | (with_reducible first | exact HB.out | apply below_alloc | apply pw_below_drewN | apply below_drew1 | refine below_set ?_ GE142.out | refine below_set ?_ GE156.out) | exact HB.out)⟩⟩
                                · rw [if_neg c55] at H
                                  exact absurd H (by simp)
                              · rw [if_neg c53] at H
                                exact absurd H (by simp)
                            · rw [if_neg c51] at H
                              exact absurd H (by simp)
                          · rw [if_neg c49] at H
                            exact absurd H (by simp)
                        · rw [if_neg c48] at H
                          have c48b0 : decide (x4_3 < (l0_10.length : Int)) = false := decide_eq_false c48
                          clear c48
                          replace H := Option.bind_eq_some_iff.mp H
                          obtain ⟨t160, A650, H⟩ := H
                          replace H : (if x3_3.size + t160.size ≤ 9223372036854775807 then (flotillaref05_Bytes.l1 k3 (x3_3 ++ t160) 0 a0_0 a0_1 a0_2 a0_3 a0_4 a0_5 a0_6 a0_7 a0_8 a0_9 l0_10 l0_11) else (none)) = some r := H
                          have A65 := Aside0.mk A650
                          clear A650
                          by_cases c66 : x3_3.size + t160.size ≤ 9223372036854775807
                          · rw [if_pos c66] at H
                            have c66b0 := eq_true c66
                            have c66b1 : decide (x3_3.size + t160.size ≤ 9223372036854775807) = true := decide_eq_true c66
                            try have c66b2 : (9223372036854775807 < x3_3.size + t160.size) = False := eq_false (Nat.not_lt.2 c66)
                            have H' := Aside0.mk H
                            clear H
                            have hcz67_0 : wr.cell? ⟨gb142, 0, none⟩ = some (.int .i64 a0_0) := (blk_cell BK142.out 0).trans rfl
                            have hcz67_1 : wr.cell? ⟨gb142, 1, none⟩ = some (.int .u64 a0_1) := (blk_cell BK142.out 1).trans rfl
                            have hcz67_2 : wr.cell? ⟨gb142, 2, none⟩ = some (.int .i64 a0_2) := (blk_cell BK142.out 2).trans rfl
                            have hcz67_3 : wr.cell? ⟨gb142, 3, none⟩ = some (.int .u64 a0_3) := (blk_cell BK142.out 3).trans rfl
                            have hcz67_4 : wr.cell? ⟨gb142, 4, none⟩ = some (.int .u64 a0_4) := (blk_cell BK142.out 4).trans rfl
                            have hcz67_5 : wr.cell? ⟨gb142, 5, none⟩ = some (.int .i64 a0_5) := (blk_cell BK142.out 5).trans rfl
                            have hcz67_6 : wr.cell? ⟨gb142, 6, none⟩ = some (.int .i64 a0_6) := (blk_cell BK142.out 6).trans rfl
                            have hcz67_7 : wr.cell? ⟨gb142, 7, none⟩ = some (.string a0_7) := (blk_cell BK142.out 7).trans rfl
                            have hcz67_8 : wr.cell? ⟨gb142, 8, none⟩ = some (.string a0_8) := (blk_cell BK142.out 8).trans rfl
                            have hcz67_9 : wr.cell? ⟨gb142, 9, none⟩ = some (.string a0_9) := (blk_cell BK142.out 9).trans rfl
                            have hcz67_10 : wr.cell? ⟨gb142, 10, none⟩ = some (.slice A0_10 l0_10.length c0_10) := (blk_cell BK142.out 10).trans rfl
                            have hcz67_11 : wr.cell? ⟨gb142, 11, none⟩ = some (.slice A0_11 l0_11.length c0_11) := (blk_cell BK142.out 11).trans rfl
                            have hfz67_0 := blk_frozen BK142.out 0
                            have hfz67_1 := blk_frozen BK142.out 1
                            have hfz67_2 := blk_frozen BK142.out 2
                            have hfz67_3 := blk_frozen BK142.out 3
                            have hfz67_4 := blk_frozen BK142.out 4
                            have hfz67_5 := blk_frozen BK142.out 5
                            have hfz67_6 := blk_frozen BK142.out 6
                            have hfz67_7 := blk_frozen BK142.out 7
                            have hfz67_8 := blk_frozen BK142.out 8
                            have hfz67_9 := blk_frozen BK142.out 9
                            have hfz67_10 := blk_frozen BK142.out 10
                            have hfz67_11 := blk_frozen BK142.out 11
                            go_wp2_with (first | ((with_reducible refine gate_callee (f := 32) rfl ?_); refine goesL_ (some 105) rfl rfl Try.func32 (by kernel_rfl) rfl #[.int .u64 (IntKind.u64.wrap ((l0_11.length : Int))), .int .i64 1] rfl (by (try simp only [List.map_toArray, List.map_cons, List.map_nil]); first | done | rfl | (simp only [List.length_drop, List.length_take]; rfl)) ?_; (with_reducible refine (flotillaref01_Num.calls k3 (IntKind.u64.wrap ((l0_11.length : Int))) 1 t160 _ A65.out).mono ?_); rintro e w68 ⟨rfl, hb⟩; refine ⟨_, rfl, ?_⟩; have n0_ := Aside0.mk (blk_below (g := gb142) (o := .cells #[.int .i64 a0_0, .int .u64 a0_1, .int .i64 a0_2, .int .u64 a0_3, .int .u64 a0_4, .int .i64 a0_5, .int .i64 a0_6, .string a0_7, .string a0_8, .string a0_9, .slice A0_10 l0_10.length c0_10, .slice A0_11 l0_11.length c0_11] 39 (0, 0)) (by (with_reducible repeat (first | refine blk_drewN ?_ _ | refine blk_drew ?_ | refine blk_alloc ?_ _)); exact BK142.out) hb); have n1_ := Aside0.mk (below_step (by repeat (first | (with_reducible first | exact HB.out | apply below_alloc | apply pw_below_drewN | apply below_drew1 | refine below_set ?_ GE142.out) | exact HB.out)) hb); clear BK142; clear HB; have BK142 := n0_; have HB := n1_; clear n0_ n1_; (try clear hb); (try clear hb2); (try clear hk); (try clear hi)))
                            go_loopg [3, 6] k3 (fun kq v3 v6 w' => ∃ (x3_4 : ByteArray) (x6_4 : Int), v3 = .string x3_4 ∧ v6 = .int .i64 x6_4 ∧ Aside0 (flotillaref05_Bytes.l1 kq x3_4 x6_4 a0_0 a0_1 a0_2 a0_3 a0_4 a0_5 a0_6 a0_7 a0_8 a0_9 l0_10 l0_11 = some r) ∧ Aside0 (kq ≤ k3) ∧ Aside0 (w'.heap[gb142]? = some (.cells #[.int .i64 a0_0, .int .u64 a0_1, .int .i64 a0_2, .int .u64 a0_3, .int .u64 a0_4, .int .i64 a0_5, .int .i64 a0_6, .string a0_7, .string a0_8, .string a0_9, (.slice A0_10 l0_10.length c0_10), (.slice A0_11 l0_11.length c0_11)] 39 (0, 0))) ∧ Aside0 (Below w.heap.size w w'))
                            case atStart => exact ⟨(x3_3 ++ t160), (0), (by first | rfl | (simp; done) | (simp [*]; done)), (by first | rfl | (simp; done) | (simp [*]; done)), H', ⟨Nat.le_refl _⟩, ⟨by (with_reducible repeat (first | refine blk_drewN ?_ _ | refine blk_drew ?_ | refine blk_alloc ?_ _)); exact BK142.out⟩, ⟨by repeat (first | (with_reducible first | exact HB.out | apply below_alloc | apply pw_below_drewN | apply below_drew1 | refine below_set ?_ GE142.out) | exact HB.out)⟩⟩
                            case round =>
                              clear H'
                              try clear c1
                              try clear p1
                              try clear q1
                              try clear hx1
                              try clear c2
                              try clear p2
                              try clear c3
                              try clear c4
                              try clear c5
                              try clear c6
                              try clear p6
                              try clear p15
                              try clear q15
                              try clear hx15
                              try clear c18
                              try clear c20
                              try clear c20b0
                              try clear c20b1
                              try clear c20b2
                              try clear c22
                              try clear c22b0
                              try clear c22b1
                              try clear c22b2
                              try clear c24
                              try clear c24b0
                              try clear c24b1
                              try clear c24b2
                              try clear c26
                              try clear c26b0
                              try clear c26b1
                              try clear c26b2
                              try clear c28
                              try clear c28b0
                              try clear c28b1
                              try clear c28b2
                              try clear c32
                              try clear c38
                              try clear c38b0
                              try clear c38b1
                              try clear c40
                              try clear c40b0
                              try clear c40b1
                              try clear c40b2
                              try clear c43
                              try clear c43b0
                              try clear c43b1
                              try clear c45
                              try clear c45b0
                              try clear c45b1
                              try clear c45b2
                              try clear c48
                              try clear c48b0
                              try clear c49
                              try clear c49b0
                              try clear c51
                              try clear c51b0
                              try clear c51b1
                              try clear c51b2
                              try clear c53
                              try clear c53b0
                              try clear c53b1
                              try clear c53b2
                              try clear c55
                              try clear c55b0
                              try clear c55b1
                              try clear c55b2
                              try clear c58
                              try clear p64
                              try clear c66
                              try clear c66b0
                              try clear c66b1
                              try clear c66b2
                              try clear hcz17_0
                              try clear hcz17_1
                              try clear hcz17_10
                              try clear hcz17_11
                              try clear hcz17_2
                              try clear hcz17_3
                              try clear hcz17_4
                              try clear hcz17_5
                              try clear hcz17_6
                              try clear hcz17_7
                              try clear hcz17_8
                              try clear hcz17_9
                              try clear hcz37_0
                              try clear hcz37_1
                              try clear hcz37_10
                              try clear hcz37_11
                              try clear hcz37_2
                              try clear hcz37_3
                              try clear hcz37_4
                              try clear hcz37_5
                              try clear hcz37_6
                              try clear hcz37_7
                              try clear hcz37_8
                              try clear hcz37_9
                              try clear hcz41_0
                              try clear hcz41_1
                              try clear hcz41_10
                              try clear hcz41_11
                              try clear hcz41_2
                              try clear hcz41_3
                              try clear hcz41_4
                              try clear hcz41_5
                              try clear hcz41_6
                              try clear hcz41_7
                              try clear hcz41_8
                              try clear hcz41_9
                              try clear hcz46_0
                              try clear hcz46_1
                              try clear hcz46_10
                              try clear hcz46_11
                              try clear hcz46_2
                              try clear hcz46_3
                              try clear hcz46_4
                              try clear hcz46_5
                              try clear hcz46_6
                              try clear hcz46_7
                              try clear hcz46_8
                              try clear hcz46_9
                              try clear hcz56_0
                              try clear hcz56_1
                              try clear hcz56_10
                              try clear hcz56_11
                              try clear hcz56_2
                              try clear hcz56_3
                              try clear hcz56_4
                              try clear hcz56_5
                              try clear hcz56_6
                              try clear hcz56_7
                              try clear hcz56_8
                              try clear hcz56_9
                              try clear hcz59_0
                              try clear hcz59_1
                              try clear hcz59_2
                              try clear hcz67_0
                              try clear hcz67_1
                              try clear hcz67_10
                              try clear hcz67_11
                              try clear hcz67_2
                              try clear hcz67_3
                              try clear hcz67_4
                              try clear hcz67_5
                              try clear hcz67_6
                              try clear hcz67_7
                              try clear hcz67_8
                              try clear hcz67_9
                              try clear hfz17_0
                              try clear hfz17_1
                              try clear hfz17_10
                              try clear hfz17_11
                              try clear hfz17_2
                              try clear hfz17_3
                              try clear hfz17_4
                              try clear hfz17_5
                              try clear hfz17_6
                              try clear hfz17_7
                              try clear hfz17_8
                              try clear hfz17_9
                              try clear hfz37_0
                              try clear hfz37_1
                              try clear hfz37_10
                              try clear hfz37_11
                              try clear hfz37_2
                              try clear hfz37_3
                              try clear hfz37_4
                              try clear hfz37_5
                              try clear hfz37_6
                              try clear hfz37_7
                              try clear hfz37_8
                              try clear hfz37_9
                              try clear hfz41_0
                              try clear hfz41_1
                              try clear hfz41_10
                              try clear hfz41_11
                              try clear hfz41_2
                              try clear hfz41_3
                              try clear hfz41_4
                              try clear hfz41_5
                              try clear hfz41_6
                              try clear hfz41_7
                              try clear hfz41_8
                              try clear hfz41_9
                              try clear hfz46_0
                              try clear hfz46_1
                              try clear hfz46_10
                              try clear hfz46_11
                              try clear hfz46_2
                              try clear hfz46_3
                              try clear hfz46_4
                              try clear hfz46_5
                              try clear hfz46_6
                              try clear hfz46_7
                              try clear hfz46_8
                              try clear hfz46_9
                              try clear hfz56_0
                              try clear hfz56_1
                              try clear hfz56_10
                              try clear hfz56_11
                              try clear hfz56_2
                              try clear hfz56_3
                              try clear hfz56_4
                              try clear hfz56_5
                              try clear hfz56_6
                              try clear hfz56_7
                              try clear hfz56_8
                              try clear hfz56_9
                              try clear hfz59_0
                              try clear hfz59_1
                              try clear hfz59_2
                              try clear hfz67_0
                              try clear hfz67_1
                              try clear hfz67_10
                              try clear hfz67_11
                              try clear hfz67_2
                              try clear hfz67_3
                              try clear hfz67_4
                              try clear hfz67_5
                              try clear hfz67_6
                              try clear hfz67_7
                              try clear hfz67_8
                              try clear hfz67_9
                              try clear hx155_0
                              try clear hx155_1
                              try clear hx155_2
                              try clear p155
                              try clear p2
                              try clear q155
                              obtain ⟨x3_4, x6_4, rfl, rfl, HA, HK4, BK142, HB⟩ := hrel
                              cases gk with
                              | zero => exact absurd HA.out (by simp [flotillaref05_Bytes.l1])
                              | succ k4 =>
                                have H := HA.out
                                clear HA
                                simp only [flotillaref05_Bytes.l1] at H
                                by_cases c69 : x6_4 < (l0_11.length : Int)
                                · rw [if_pos c69] at H
                                  have c69b0 : decide (x6_4 < (l0_11.length : Int)) = true := decide_eq_true c69
                                  clear c69
                                  by_cases c70 : 0 ≤ x6_4
                                  · rw [if_pos c70] at H
                                    have c70b0 : decide (0 ≤ x6_4) = true := decide_eq_true c70
                                    clear c70
                                    replace H := Option.bind_eq_some_iff.mp H
                                    obtain ⟨t162, A710, H⟩ := H
                                    replace H : (if x3_4.size + t162.size ≤ 9223372036854775807 then ((flotillaref01_Num.f k4 ((rd_TGDirty l0_11 x6_4).f1) 8).bind fun t164 => (if (x3_4 ++ t162).size + t164.size ≤ 9223372036854775807 then (flotillaref05_Bytes.l1 k4 ((x3_4 ++ t162) ++ t164) (wrap64 (x6_4 + 1)) a0_0 a0_1 a0_2 a0_3 a0_4 a0_5 a0_6 a0_7 a0_8 a0_9 l0_10 l0_11) else (none))) else (none)) = some r := H
                                    have A71 := Aside0.mk A710
                                    clear A710
                                    by_cases c72 : x3_4.size + t162.size ≤ 9223372036854775807
                                    · rw [if_pos c72] at H
                                      have c72b0 := eq_true c72
                                      have c72b1 : decide (x3_4.size + t162.size ≤ 9223372036854775807) = true := decide_eq_true c72
                                      try have c72b2 : (9223372036854775807 < x3_4.size + t162.size) = False := eq_false (Nat.not_lt.2 c72)
                                      replace H := Option.bind_eq_some_iff.mp H
                                      obtain ⟨t164, A730, H⟩ := H
                                      replace H : (if (x3_4 ++ t162).size + t164.size ≤ 9223372036854775807 then (flotillaref05_Bytes.l1 k4 ((x3_4 ++ t162) ++ t164) (wrap64 (x6_4 + 1)) a0_0 a0_1 a0_2 a0_3 a0_4 a0_5 a0_6 a0_7 a0_8 a0_9 l0_10 l0_11) else (none)) = some r := H
                                      have A73 := Aside0.mk A730
                                      clear A730
                                      by_cases c74 : (x3_4 ++ t162).size + t164.size ≤ 9223372036854775807
                                      · rw [if_pos c74] at H
                                        have c74b0 := eq_true c74
                                        have c74b1 : decide ((x3_4 ++ t162).size + t164.size ≤ 9223372036854775807) = true := decide_eq_true c74
                                        have c74b3 : (9223372036854775807 < x3_4.size + t162.size + t164.size) = False := by have h5 := c74; simp only [ByteArray.size_append] at h5; exact eq_false (by omega)
                                        try have c74b2 : (9223372036854775807 < (x3_4 ++ t162).size + t164.size) = False := eq_false (Nat.not_lt.2 c74)
                                        have H' := Aside0.mk H
                                        clear H
                                        have hcz75_0 : wr.cell? ⟨gb142, 0, none⟩ = some (.int .i64 a0_0) := (blk_cell BK142.out 0).trans rfl
                                        have hcz75_1 : wr.cell? ⟨gb142, 1, none⟩ = some (.int .u64 a0_1) := (blk_cell BK142.out 1).trans rfl
                                        have hcz75_2 : wr.cell? ⟨gb142, 2, none⟩ = some (.int .i64 a0_2) := (blk_cell BK142.out 2).trans rfl
                                        have hcz75_3 : wr.cell? ⟨gb142, 3, none⟩ = some (.int .u64 a0_3) := (blk_cell BK142.out 3).trans rfl
                                        have hcz75_4 : wr.cell? ⟨gb142, 4, none⟩ = some (.int .u64 a0_4) := (blk_cell BK142.out 4).trans rfl
                                        have hcz75_5 : wr.cell? ⟨gb142, 5, none⟩ = some (.int .i64 a0_5) := (blk_cell BK142.out 5).trans rfl
                                        have hcz75_6 : wr.cell? ⟨gb142, 6, none⟩ = some (.int .i64 a0_6) := (blk_cell BK142.out 6).trans rfl
                                        have hcz75_7 : wr.cell? ⟨gb142, 7, none⟩ = some (.string a0_7) := (blk_cell BK142.out 7).trans rfl
                                        have hcz75_8 : wr.cell? ⟨gb142, 8, none⟩ = some (.string a0_8) := (blk_cell BK142.out 8).trans rfl
                                        have hcz75_9 : wr.cell? ⟨gb142, 9, none⟩ = some (.string a0_9) := (blk_cell BK142.out 9).trans rfl
                                        have hcz75_10 : wr.cell? ⟨gb142, 10, none⟩ = some (.slice A0_10 l0_10.length c0_10) := (blk_cell BK142.out 10).trans rfl
                                        have hcz75_11 : wr.cell? ⟨gb142, 11, none⟩ = some (.slice A0_11 l0_11.length c0_11) := (blk_cell BK142.out 11).trans rfl
                                        have hfz75_0 := blk_frozen BK142.out 0
                                        have hfz75_1 := blk_frozen BK142.out 1
                                        have hfz75_2 := blk_frozen BK142.out 2
                                        have hfz75_3 := blk_frozen BK142.out 3
                                        have hfz75_4 := blk_frozen BK142.out 4
                                        have hfz75_5 := blk_frozen BK142.out 5
                                        have hfz75_6 := blk_frozen BK142.out 6
                                        have hfz75_7 := blk_frozen BK142.out 7
                                        have hfz75_8 := blk_frozen BK142.out 8
                                        have hfz75_9 := blk_frozen BK142.out 9
                                        have hfz75_10 := blk_frozen BK142.out 10
                                        have hfz75_11 := blk_frozen BK142.out 11
                                        try go_wp2
                                        have n0_ := Aside0.mk (blk_drew BK142.out)
                                        have n1_ := Aside0.mk (below_drew1 HB.out)
                                        clear BK142
                                        clear HB
                                        have BK142 := n0_
                                        have HB := n1_
                                        clear n0_ n1_
                                        have p161 : 0 ≤ (x6_4 : Int) := of_decide_eq_true (by first | (with_reducible assumption) | assumption)
                                        have q161 : x6_4 < (l0_11.length : Int) := of_decide_eq_true (by first | (with_reducible assumption) | assumption)
                                        obtain ⟨ad161, e161, hx161_0, hx161_1⟩ := at_TGDirty HR0_11.out x6_4 p161 q161
                                        have hw161_1 := hx161_1
                                        have hw161_0 := hx161_0
                                        cases e161
                                        replace hx161_0 := (HB.out.cell (World.block_lt_of_cell? w _ hx161_0)).trans hx161_0
                                        replace hx161_1 := (HB.out.cell (World.block_lt_of_cell? w _ hx161_1)).trans hx161_1
                                        replace p161 := eq_true p161
                                        replace q161 := eq_true q161
                                        have p163 : 0 ≤ (x6_4 : Int) := of_decide_eq_true (by first | (with_reducible assumption) | assumption)
                                        have q163 : x6_4 < (l0_11.length : Int) := of_decide_eq_true (by first | (with_reducible assumption) | assumption)
                                        obtain ⟨ad163, e163, hx163_0, hx163_1⟩ := at_TGDirty HR0_11.out x6_4 p163 q163
                                        have hw163_1 := hx163_1
                                        have hw163_0 := hx163_0
                                        obtain rfl : ad161 = ad163 := (by injection e163)
                                        replace hx163_0 := (HB.out.cell (World.block_lt_of_cell? w _ hx163_0)).trans hx163_0
                                        replace hx163_1 := (HB.out.cell (World.block_lt_of_cell? w _ hx163_1)).trans hx163_1
                                        replace p163 := eq_true p163
                                        replace q163 := eq_true q163
                                        refine start_ (n := 19) (S := fun w' => w'.cell? ⟨gb142, 0, none⟩ = some (.int .i64 a0_0) ∧ w'.cell? ⟨gb142, 1, none⟩ = some (.int .u64 a0_1) ∧ w'.cell? ⟨gb142, 2, none⟩ = some (.int .i64 a0_2) ∧ w'.cell? ⟨gb142, 3, none⟩ = some (.int .u64 a0_3) ∧ w'.cell? ⟨gb142, 4, none⟩ = some (.int .u64 a0_4) ∧ w'.cell? ⟨gb142, 5, none⟩ = some (.int .i64 a0_5) ∧ w'.cell? ⟨gb142, 6, none⟩ = some (.int .i64 a0_6) ∧ w'.cell? ⟨gb142, 7, none⟩ = some (.string a0_7) ∧ w'.cell? ⟨gb142, 8, none⟩ = some (.string a0_8) ∧ w'.cell? ⟨gb142, 9, none⟩ = some (.string a0_9) ∧ w'.cell? ⟨gb142, 10, none⟩ = some (.slice A0_10 l0_10.length c0_10) ∧ w'.cell? ⟨gb142, 11, none⟩ = some (.slice (some ad161) l0_11.length c0_11) ∧ w'.cell? (ad161.add ((x6_4).toNat * 2)) = some (.int .i64 ((rd_TGDirty l0_11 x6_4).f0)) ∧ w'.cell? ⟨(ad161.add ((x6_4).toNat * 2)).block, (ad161.add ((x6_4).toNat * 2)).off + 1, none⟩ = some (.int .u64 ((rd_TGDirty l0_11 x6_4).f1)) ∧ w'.cell? (ad161.add ((x6_4).toNat * 2)) = some (.int .i64 ((rd_TGDirty l0_11 x6_4).f0)) ∧ w'.cell? ⟨(ad161.add ((x6_4).toNat * 2)).block, (ad161.add ((x6_4).toNat * 2)).off + 1, none⟩ = some (.int .u64 ((rd_TGDirty l0_11 x6_4).f1))) (ds := []) #[false, false, false, false, false, false, false, false, false, false, false, false, false, false, false, false, false, false, false] (by kernel_rfl) rfl rfl ⟨(blk_cell BK142.out 0).trans rfl, (blk_cell BK142.out 1).trans rfl, (blk_cell BK142.out 2).trans rfl, (blk_cell BK142.out 3).trans rfl, (blk_cell BK142.out 4).trans rfl, (blk_cell BK142.out 5).trans rfl, (blk_cell BK142.out 6).trans rfl, (blk_cell BK142.out 7).trans rfl, (blk_cell BK142.out 8).trans rfl, (blk_cell BK142.out 9).trans rfl, (blk_cell BK142.out 10).trans rfl, (blk_cell BK142.out 11).trans rfl, ((HB.out.cell (World.block_lt_of_cell? w _ hw161_0)).trans hw161_0), ((HB.out.cell (World.block_lt_of_cell? w _ hw161_1)).trans hw161_1), ((HB.out.cell (World.block_lt_of_cell? w _ hw163_0)).trans hw163_0), ((HB.out.cell (World.block_lt_of_cell? w _ hw163_1)).trans hw163_1)⟩ (fun hHeld => ?_); refine with_tabW flotillaref05_Bytes.tab18 flotillaref05_Bytes.bits18 (fun HT_ HW_ => ?_)
                                        generalize wr.drew = w76 at BK142 HB hx161_0 hx161_1 hx163_0 hx163_1 hHeld ⊢
                                        refine pure_ (i := 0) (N := some 114) (v := ?_) (a' := ?_) #[true, false, false, false, false, false, false, false, false, false, false, false, false, false, false, false, false, false, false] rfl rfl (any_of HT_.out (by kernel_rfl)) (fun _ _ _ h => h) (Or.inl ⟨by rfl, ?_⟩) ?_ ?_
                                        rotate_left
                                        · intro w'
                                          go_simp
                                          with_reducible rfl
                                        rotate_left
                                        · simp only [Act.put, List.setIfInBounds_toArray, List.set_cons_zero, List.set_cons_succ, i64_w, i32_w]
                                          rfl
                                        refine pure_ (i := 1) (N := some 115) (v := ?_) (a' := ?_) #[true, true, false, false, false, false, false, false, false, false, false, false, false, false, false, false, false, false, false] rfl rfl (any_of HT_.out (by kernel_rfl)) (fun _ _ _ h => h) (Or.inl ⟨by rfl, ?_⟩) ?_ ?_
                                        rotate_left
                                        · intro w'
                                          go_simp
                                          with_reducible rfl
                                        rotate_left
                                        · simp only [Act.put, List.setIfInBounds_toArray, List.set_cons_zero, List.set_cons_succ, i64_w, i32_w]
                                          rfl
                                        refine pure_ (i := 3) (N := some 117) (v := ?_) (a' := ?_) #[true, true, false, true, false, false, false, false, false, false, false, false, false, false, false, false, false, false, false] rfl rfl (any_of HT_.out (by kernel_rfl)) (fun _ _ _ h => h) (Or.inl ⟨by rfl, ?_⟩) ?_ ?_
                                        rotate_left
                                        · intro w'
                                          go_simp
                                          with_reducible rfl
                                        rotate_left
                                        · simp only [Act.put, List.setIfInBounds_toArray, List.set_cons_zero, List.set_cons_succ, i64_w, i32_w]
                                          rfl
                                        refine pure_ (i := 10) (N := some 124) (v := ?_) (a' := ?_) #[true, true, false, true, false, false, false, false, false, false, true, false, false, false, false, false, false, false, false] rfl rfl (any_of HT_.out (by kernel_rfl)) (fun _ _ _ h => h) (Or.inl ⟨by rfl, ?_⟩) ?_ ?_
                                        rotate_left
                                        · intro w'
                                          go_simp
                                          with_reducible rfl
                                        rotate_left
                                        · simp only [Act.put, List.setIfInBounds_toArray, List.set_cons_zero, List.set_cons_succ, i64_w, i32_w]
                                          rfl
                                        refine pure_ (i := 12) (N := some 126) (v := ?_) (a' := ?_) #[true, true, false, true, false, false, false, false, false, false, true, false, true, false, false, false, false, false, false] rfl rfl (any_of HT_.out (by kernel_rfl)) (fun _ _ _ h => h) (Or.inl ⟨by rfl, ?_⟩) ?_ ?_
                                        rotate_left
                                        · intro w'
                                          go_simp
                                          with_reducible rfl
                                        rotate_left
                                        · simp only [Act.put, List.setIfInBounds_toArray, List.set_cons_zero, List.set_cons_succ, i64_w, i32_w]
                                          rfl
                                        refine take_ (i := 2) (N := some 116) (v := ?_) (a' := ?_) #[true, true, true, true, false, false, false, false, false, false, true, false, true, false, false, false, false, false, false] rfl rfl (take_ofW HT_.out HW_.out (by kernel_rfl)) (fun _ _ _ h => h) (Or.inl ⟨by rfl, ?_⟩) hHeld ?_ ?_
                                        rotate_left
                                        · rintro w' ⟨s0, s1, s2, s3, s4, s5, s6, s7, s8, s9, s10, s11, s12, s13, s14, s15⟩
                                          go_simp
                                          with_reducible rfl
                                        rotate_left
                                        · simp only [Act.put, List.setIfInBounds_toArray, List.set_cons_zero, List.set_cons_succ, i64_w, i32_w]
                                          rfl
                                        refine pure_ (i := 4) (N := some 118) (v := ?_) (a' := ?_) #[true, true, true, true, true, false, false, false, false, false, true, false, true, false, false, false, false, false, false] rfl rfl (any_of HT_.out (by kernel_rfl)) (fun _ _ _ h => h) (Or.inl ⟨by rfl, ?_⟩) ?_ ?_
                                        rotate_left
                                        · intro w'
                                          go_simp
                                          with_reducible rfl
                                        rotate_left
                                        · simp only [Act.put, List.setIfInBounds_toArray, List.set_cons_zero, List.set_cons_succ, i64_w, i32_w]
                                          rfl
                                        refine pure_ (i := 5) (N := some 119) (v := ?_) (a' := ?_) #[true, true, true, true, true, true, false, false, false, false, true, false, true, false, false, false, false, false, false] rfl rfl (any_of HT_.out (by kernel_rfl)) (fun _ _ _ h => h) (Or.inl ⟨by rfl, ?_⟩) ?_ ?_
                                        rotate_left
                                        · intro w'
                                          go_simp
                                          with_reducible rfl
                                        rotate_left
                                        · simp only [Act.put, List.setIfInBounds_toArray, List.set_cons_zero, List.set_cons_succ, i64_w, i32_w]
                                          rfl
                                        refine take_ (i := 6) (N := some 120) (v := ?_) (a' := ?_) #[true, true, true, true, true, true, true, false, false, false, true, false, true, false, false, false, false, false, false] rfl rfl (take_ofW HT_.out HW_.out (by kernel_rfl)) (fun _ _ _ h => h) (Or.inl ⟨by rfl, ?_⟩) hHeld ?_ ?_
                                        rotate_left
                                        · rintro w' ⟨s0, s1, s2, s3, s4, s5, s6, s7, s8, s9, s10, s11, s12, s13, s14, s15⟩
                                          go_simp
                                          with_reducible rfl
                                        rotate_left
                                        · simp only [Act.put, List.setIfInBounds_toArray, List.set_cons_zero, List.set_cons_succ, i64_w, i32_w]
                                          rfl
                                        refine pure_ (i := 7) (N := some 121) (v := ?_) (a' := ?_) #[true, true, true, true, true, true, true, true, false, false, true, false, true, false, false, false, false, false, false] rfl rfl (any_of HT_.out (by kernel_rfl)) (fun _ _ _ h => h) (Or.inl ⟨by rfl, ?_⟩) ?_ ?_
                                        rotate_left
                                        · intro w'
                                          go_simp
                                          with_reducible rfl
                                        rotate_left
                                        · simp only [Act.put, List.setIfInBounds_toArray, List.set_cons_zero, List.set_cons_succ, i64_w, i32_w]
                                          rfl
                                        refine take_ (i := 11) (N := some 125) (v := ?_) (a' := ?_) #[true, true, true, true, true, true, true, true, false, false, true, true, true, false, false, false, false, false, false] rfl rfl (take_ofW HT_.out HW_.out (by kernel_rfl)) (fun _ _ _ h => h) (Or.inl ⟨by rfl, ?_⟩) hHeld ?_ ?_
                                        rotate_left
                                        · rintro w' ⟨s0, s1, s2, s3, s4, s5, s6, s7, s8, s9, s10, s11, s12, s13, s14, s15⟩
                                          go_simp
                                          with_reducible rfl
                                        rotate_left
                                        · simp only [Act.put, List.setIfInBounds_toArray, List.set_cons_zero, List.set_cons_succ, i64_w, i32_w]
                                          rfl
                                        refine pure_ (i := 13) (N := some 127) (v := ?_) (a' := ?_) #[true, true, true, true, true, true, true, true, false, false, true, true, true, true, false, false, false, false, false] rfl rfl (any_of HT_.out (by kernel_rfl)) (fun _ _ _ h => h) (Or.inl ⟨by rfl, ?_⟩) ?_ ?_
                                        rotate_left
                                        · intro w'
                                          go_simp
                                          with_reducible rfl
                                        rotate_left
                                        · simp only [Act.put, List.setIfInBounds_toArray, List.set_cons_zero, List.set_cons_succ, i64_w, i32_w]
                                          rfl
                                        refine pure_ (i := 14) (N := some 128) (v := ?_) (a' := ?_) #[true, true, true, true, true, true, true, true, false, false, true, true, true, true, true, false, false, false, false] rfl rfl (any_of HT_.out (by kernel_rfl)) (fun _ _ _ h => h) (Or.inl ⟨by rfl, ?_⟩) ?_ ?_
                                        rotate_left
                                        · intro w'
                                          go_simp
                                          with_reducible rfl
                                        rotate_left
                                        · simp only [Act.put, List.setIfInBounds_toArray, List.set_cons_zero, List.set_cons_succ, i64_w, i32_w]
                                          rfl
                                        refine take_ (i := 15) (N := some 129) (v := ?_) (a' := ?_) #[true, true, true, true, true, true, true, true, false, false, true, true, true, true, true, true, false, false, false] rfl rfl (take_ofW HT_.out HW_.out (by kernel_rfl)) (fun _ _ _ h => h) (Or.inl ⟨by rfl, ?_⟩) hHeld ?_ ?_
                                        rotate_left
                                        · rintro w' ⟨s0, s1, s2, s3, s4, s5, s6, s7, s8, s9, s10, s11, s12, s13, s14, s15⟩
                                          go_simp
                                          with_reducible rfl
                                        rotate_left
                                        · simp only [Act.put, List.setIfInBounds_toArray, List.set_cons_zero, List.set_cons_succ, i64_w, i32_w]
                                          rfl
                                        refine one_ (i := 8) (N := some 122) #[true, true, true, true, true, true, true, true, true, false, true, true, true, true, true, true, false, false, false] rfl rfl (one_of HT_.out (by kernel_rfl)) (by decide) (fun K hK => ?_)
                                        refine goes_ Try.func32 (by kernel_rfl) rfl #[.int .u64 (IntKind.u64.wrap ((rd_TGDirty l0_11 x6_4).f0)), .int .i64 2] (by rfl) rfl rfl (by (try simp only [List.map_toArray, List.map_cons, List.map_nil]); first | done | rfl | (simp only [List.length_drop, List.length_take]; rfl)) ?_
                                        with_reducible refine (flotillaref01_Num.calls k4 (IntKind.u64.wrap ((rd_TGDirty l0_11 x6_4).f0)) 2 t162 _ A71.out).mono ?_
                                        rintro e w77 ⟨rfl, hb⟩
                                        refine ⟨_, rfl, ?_⟩
                                        have n0_ := Aside0.mk (blk_below (g := gb142) (o := .cells #[.int .i64 a0_0, .int .u64 a0_1, .int .i64 a0_2, .int .u64 a0_3, .int .u64 a0_4, .int .i64 a0_5, .int .i64 a0_6, .string a0_7, .string a0_8, .string a0_9, .slice A0_10 l0_10.length c0_10, .slice (some ad161) l0_11.length c0_11] 39 (0, 0)) (by (with_reducible repeat (first | refine blk_drewN ?_ _ | refine blk_drew ?_ | refine blk_alloc ?_ _)); exact BK142.out) hb)
                                        have n1_ := Aside0.mk (below_step (by repeat (first | (with_reducible first | exact HB.out | apply below_alloc | apply pw_below_drewN | apply below_drew1 | refine below_set ?_ GE142.out) | exact HB.out)) hb)
                                        clear BK142
                                        clear HB
                                        have BK142 := n0_
                                        have HB := n1_
                                        clear n0_ n1_
                                        (try clear hb)
                                        (try clear hb2)
                                        (try clear hk)
                                        (try clear hi)
                                        refine hK.out _ _ ⟨(blk_cell BK142.out 0).trans rfl, (blk_cell BK142.out 1).trans rfl, (blk_cell BK142.out 2).trans rfl, (blk_cell BK142.out 3).trans rfl, (blk_cell BK142.out 4).trans rfl, (blk_cell BK142.out 5).trans rfl, (blk_cell BK142.out 6).trans rfl, (blk_cell BK142.out 7).trans rfl, (blk_cell BK142.out 8).trans rfl, (blk_cell BK142.out 9).trans rfl, (blk_cell BK142.out 10).trans rfl, (blk_cell BK142.out 11).trans rfl, ((HB.out.cell (World.block_lt_of_cell? w _ hw161_0)).trans hw161_0), ((HB.out.cell (World.block_lt_of_cell? w _ hw161_1)).trans hw161_1), ((HB.out.cell (World.block_lt_of_cell? w _ hw163_0)).trans hw163_0), ((HB.out.cell (World.block_lt_of_cell? w _ hw163_1)).trans hw163_1)⟩ (fun hHeld => ?_)
                                        clear hK K
                                        refine norm_ (a' := ?_) ?_ ?_
                                        rotate_left
                                        · show Act.put _ (some 122) _ = _
                                          simp only [Act.put, List.setIfInBounds_toArray, List.set_cons_zero, List.set_cons_succ, i64_w, i32_w]
                                          rfl
                                        refine pure_ (i := 9) (N := some 123) (v := ?_) (a' := ?_) #[true, true, true, true, true, true, true, true, true, true, true, true, true, true, true, true, false, false, false] rfl rfl (any_of HT_.out (by kernel_rfl)) (fun _ _ _ h => h) (Or.inl ⟨by rfl, ?_⟩) ?_ ?_
                                        rotate_left
                                        · intro w'
                                          go_simp
                                          with_reducible rfl
                                        rotate_left
                                        · simp only [Act.put, List.setIfInBounds_toArray, List.set_cons_zero, List.set_cons_succ, i64_w, i32_w]
                                          rfl
                                        refine one_ (i := 16) (N := some 130) #[true, true, true, true, true, true, true, true, true, true, true, true, true, true, true, true, true, false, false] rfl rfl (one_of HT_.out (by kernel_rfl)) (by decide) (fun K hK => ?_)
                                        refine goes_ Try.func32 (by kernel_rfl) rfl #[.int .u64 ((rd_TGDirty l0_11 x6_4).f1), .int .i64 8] (by rfl) rfl rfl (by (try simp only [List.map_toArray, List.map_cons, List.map_nil]); first | done | rfl | (simp only [List.length_drop, List.length_take]; rfl)) ?_
                                        with_reducible refine (flotillaref01_Num.calls k4 ((rd_TGDirty l0_11 x6_4).f1) 8 t164 _ A73.out).mono ?_
                                        rintro e w78 ⟨rfl, hb⟩
                                        refine ⟨_, rfl, ?_⟩
                                        have n0_ := Aside0.mk (blk_below (g := gb142) (o := .cells #[.int .i64 a0_0, .int .u64 a0_1, .int .i64 a0_2, .int .u64 a0_3, .int .u64 a0_4, .int .i64 a0_5, .int .i64 a0_6, .string a0_7, .string a0_8, .string a0_9, .slice A0_10 l0_10.length c0_10, .slice (some ad161) l0_11.length c0_11] 39 (0, 0)) (by (with_reducible repeat (first | refine blk_drewN ?_ _ | refine blk_drew ?_ | refine blk_alloc ?_ _)); exact BK142.out) hb)
                                        have n1_ := Aside0.mk (below_step (by repeat (first | (with_reducible first | exact HB.out | apply below_alloc | apply pw_below_drewN | apply below_drew1 | refine below_set ?_ GE142.out) | exact HB.out)) hb)
                                        clear BK142
                                        clear HB
                                        have BK142 := n0_
                                        have HB := n1_
                                        clear n0_ n1_
                                        (try clear hb)
                                        (try clear hb2)
                                        (try clear hk)
                                        (try clear hi)
                                        refine hK.out _ _ ⟨(blk_cell BK142.out 0).trans rfl, (blk_cell BK142.out 1).trans rfl, (blk_cell BK142.out 2).trans rfl, (blk_cell BK142.out 3).trans rfl, (blk_cell BK142.out 4).trans rfl, (blk_cell BK142.out 5).trans rfl, (blk_cell BK142.out 6).trans rfl, (blk_cell BK142.out 7).trans rfl, (blk_cell BK142.out 8).trans rfl, (blk_cell BK142.out 9).trans rfl, (blk_cell BK142.out 10).trans rfl, (blk_cell BK142.out 11).trans rfl, ((HB.out.cell (World.block_lt_of_cell? w _ hw161_0)).trans hw161_0), ((HB.out.cell (World.block_lt_of_cell? w _ hw161_1)).trans hw161_1), ((HB.out.cell (World.block_lt_of_cell? w _ hw163_0)).trans hw163_0), ((HB.out.cell (World.block_lt_of_cell? w _ hw163_1)).trans hw163_1)⟩ (fun hHeld => ?_)
                                        clear hK K
                                        refine norm_ (a' := ?_) ?_ ?_
                                        rotate_left
                                        · show Act.put _ (some 130) _ = _
                                          simp only [Act.put, List.setIfInBounds_toArray, List.set_cons_zero, List.set_cons_succ, i64_w, i32_w]
                                          rfl
                                        refine pure_ (i := 17) (N := some 131) (v := ?_) (a' := ?_) #[true, true, true, true, true, true, true, true, true, true, true, true, true, true, true, true, true, true, false] rfl rfl (any_of HT_.out (by kernel_rfl)) (fun _ _ _ h => h) (Or.inl ⟨by rfl, ?_⟩) ?_ ?_
                                        rotate_left
                                        · intro w'
                                          go_simp
                                          with_reducible rfl
                                        rotate_left
                                        · simp only [Act.put, List.setIfInBounds_toArray, List.set_cons_zero, List.set_cons_succ, i64_w, i32_w]
                                          rfl
                                        refine pure_ (i := 18) (N := some 3) (v := ?_) (a' := ?_) #[true, true, true, true, true, true, true, true, true, true, true, true, true, true, true, true, true, true, true] rfl rfl (any_of HT_.out (by kernel_rfl)) (fun _ _ _ h => h) (Or.inl ⟨by rfl, ?_⟩) ?_ ?_
                                        rotate_left
                                        · intro w'
                                          go_simp
                                          with_reducible rfl
                                        rotate_left
                                        · simp only [Act.put, List.setIfInBounds_toArray, List.set_cons_zero, List.set_cons_succ, i64_w, i32_w]
                                          rfl
                                        refine done_ (done_of HT_.out (by kernel_rfl)) ?_
                                        try go_wp2
                                        go_roundg k4
                                        case measure => have := HJ9.out; have := HJ35.out; have := HK3.out; have := HK4.out; omega
                                        case rel => exact ⟨((x3_4 ++ t162) ++ t164), (wrap64 (x6_4 + 1)), (by first | rfl | (simp; done) | (simp [*]; done)), (by first | rfl | (simp; done) | (simp [*]; done)), H', ⟨by have := HJ9.out; have := HJ35.out; have := HK3.out; have := HK4.out; omega⟩, ⟨by (with_reducible repeat (first | refine blk_drewN ?_ _ | refine blk_drew ?_ | refine blk_alloc ?_ _)); exact BK142.out⟩, ⟨by repeat (first | (with_reducible first | exact HB.out | apply below_alloc | apply pw_below_drewN | apply below_drew1 | refine below_set ?_ GE142.out) | exact HB.out)⟩⟩
                                      · rw [if_neg c74] at H
                                        exact absurd H (by simp)
                                    · rw [if_neg c72] at H
                                      exact absurd H (by simp)
                                  · rw [if_neg c70] at H
                                    exact absurd H (by simp)
                                · rw [if_neg c69] at H
                                  have c69b0 : decide (x6_4 < (l0_11.length : Int)) = false := decide_eq_false c69
                                  clear c69
                                  obtain rfl := Option.some.inj H
                                  have hcz79_0 : wr.cell? ⟨gb142, 0, none⟩ = some (.int .i64 a0_0) := (blk_cell BK142.out 0).trans rfl
                                  have hcz79_1 : wr.cell? ⟨gb142, 1, none⟩ = some (.int .u64 a0_1) := (blk_cell BK142.out 1).trans rfl
                                  have hcz79_2 : wr.cell? ⟨gb142, 2, none⟩ = some (.int .i64 a0_2) := (blk_cell BK142.out 2).trans rfl
                                  have hcz79_3 : wr.cell? ⟨gb142, 3, none⟩ = some (.int .u64 a0_3) := (blk_cell BK142.out 3).trans rfl
                                  have hcz79_4 : wr.cell? ⟨gb142, 4, none⟩ = some (.int .u64 a0_4) := (blk_cell BK142.out 4).trans rfl
                                  have hcz79_5 : wr.cell? ⟨gb142, 5, none⟩ = some (.int .i64 a0_5) := (blk_cell BK142.out 5).trans rfl
                                  have hcz79_6 : wr.cell? ⟨gb142, 6, none⟩ = some (.int .i64 a0_6) := (blk_cell BK142.out 6).trans rfl
                                  have hcz79_7 : wr.cell? ⟨gb142, 7, none⟩ = some (.string a0_7) := (blk_cell BK142.out 7).trans rfl
                                  have hcz79_8 : wr.cell? ⟨gb142, 8, none⟩ = some (.string a0_8) := (blk_cell BK142.out 8).trans rfl
                                  have hcz79_9 : wr.cell? ⟨gb142, 9, none⟩ = some (.string a0_9) := (blk_cell BK142.out 9).trans rfl
                                  have hcz79_10 : wr.cell? ⟨gb142, 10, none⟩ = some (.slice A0_10 l0_10.length c0_10) := (blk_cell BK142.out 10).trans rfl
                                  have hcz79_11 : wr.cell? ⟨gb142, 11, none⟩ = some (.slice A0_11 l0_11.length c0_11) := (blk_cell BK142.out 11).trans rfl
                                  have hfz79_0 := blk_frozen BK142.out 0
                                  have hfz79_1 := blk_frozen BK142.out 1
                                  have hfz79_2 := blk_frozen BK142.out 2
                                  have hfz79_3 := blk_frozen BK142.out 3
                                  have hfz79_4 := blk_frozen BK142.out 4
                                  have hfz79_5 := blk_frozen BK142.out 5
                                  have hfz79_6 := blk_frozen BK142.out 6
                                  have hfz79_7 := blk_frozen BK142.out 7
                                  have hfz79_8 := blk_frozen BK142.out 8
                                  have hfz79_9 := blk_frozen BK142.out 9
                                  have hfz79_10 := blk_frozen BK142.out 10
                                  have hfz79_11 := blk_frozen BK142.out 11
                                  go_wp2
                                  go_ret
                                  exact ⟨by first | rfl | (simp [errW_none, errW_some] <;> rfl) | (simp [*, errW_none, errW_some] <;> rfl), by repeat (first | (with_reducible first | exact HB.out | apply below_alloc | apply pw_below_drewN | apply below_drew1 | refine below_set ?_ GE142.out) | exact HB.out)⟩
                          · rw [if_neg c66] at H
                            exact absurd H (by simp)
                  · rw [if_neg c45] at H
                    exact absurd H (by simp)
                · rw [if_neg c43] at H
                  have c43b0 : (a0_0 == 8) = false := beq_eq_false_iff_ne.mpr c43
                  have c43b1 : (a0_0 != 8) = true := bne_iff_ne.mpr c43
                  obtain rfl := Option.some.inj H
                  have hcz80_0 : wc.cell? ⟨gb142, 0, none⟩ = some (.int .i64 a0_0) := (blk_cell BK142.out 0).trans rfl
                  have hcz80_1 : wc.cell? ⟨gb142, 1, none⟩ = some (.int .u64 a0_1) := (blk_cell BK142.out 1).trans rfl
                  have hcz80_2 : wc.cell? ⟨gb142, 2, none⟩ = some (.int .i64 a0_2) := (blk_cell BK142.out 2).trans rfl
                  have hcz80_3 : wc.cell? ⟨gb142, 3, none⟩ = some (.int .u64 a0_3) := (blk_cell BK142.out 3).trans rfl
                  have hcz80_4 : wc.cell? ⟨gb142, 4, none⟩ = some (.int .u64 a0_4) := (blk_cell BK142.out 4).trans rfl
                  have hcz80_5 : wc.cell? ⟨gb142, 5, none⟩ = some (.int .i64 a0_5) := (blk_cell BK142.out 5).trans rfl
                  have hcz80_6 : wc.cell? ⟨gb142, 6, none⟩ = some (.int .i64 a0_6) := (blk_cell BK142.out 6).trans rfl
                  have hcz80_7 : wc.cell? ⟨gb142, 7, none⟩ = some (.string a0_7) := (blk_cell BK142.out 7).trans rfl
                  have hcz80_8 : wc.cell? ⟨gb142, 8, none⟩ = some (.string a0_8) := (blk_cell BK142.out 8).trans rfl
                  have hcz80_9 : wc.cell? ⟨gb142, 9, none⟩ = some (.string a0_9) := (blk_cell BK142.out 9).trans rfl
                  have hcz80_10 : wc.cell? ⟨gb142, 10, none⟩ = some (.slice A0_10 l0_10.length c0_10) := (blk_cell BK142.out 10).trans rfl
                  have hcz80_11 : wc.cell? ⟨gb142, 11, none⟩ = some (.slice A0_11 l0_11.length c0_11) := (blk_cell BK142.out 11).trans rfl
                  have hfz80_0 := blk_frozen BK142.out 0
                  have hfz80_1 := blk_frozen BK142.out 1
                  have hfz80_2 := blk_frozen BK142.out 2
                  have hfz80_3 := blk_frozen BK142.out 3
                  have hfz80_4 := blk_frozen BK142.out 4
                  have hfz80_5 := blk_frozen BK142.out 5
                  have hfz80_6 := blk_frozen BK142.out 6
                  have hfz80_7 := blk_frozen BK142.out 7
                  have hfz80_8 := blk_frozen BK142.out 8
                  have hfz80_9 := blk_frozen BK142.out 9
                  have hfz80_10 := blk_frozen BK142.out 10
                  have hfz80_11 := blk_frozen BK142.out 11
                  go_wp2
                  go_ret
                  exact ⟨by first | rfl | (simp [errW_none, errW_some] <;> rfl) | (simp [*, errW_none, errW_some] <;> rfl), by repeat (first | (with_reducible first | exact HB.out | apply below_alloc | apply pw_below_drewN | apply below_drew1 | refine below_set ?_ GE142.out) | exact HB.out)⟩
      · rw [if_neg c8] at H
        exact absurd H (by simp)
    · rw [if_neg c6] at H
      exact absurd H (by simp)
  · rw [if_neg c4] at H
    exact absurd H (by simp)


end Go.Proofs.Yteaklmafjmnmiaa.Rf
