/- Functions of the Go text as Lean functions, and that the calls answer so. -/
import Derived.Test.YtaahfokdgfopcaaZRfT
import Derived.Test.YtaahfokdgfopcaaZRf5
namespace Go.Proofs.Ytaahfokdgfopcaa.Rf
open Go.RowKit Go.Proofs.YtaahfokdgfopcaaW.PrintWords Go.Proofs.YtaahfokdgfopcaaW.PrintLast Go.Proofs.YtaahfokdgfopcaaW.PrintMore
attribute [local go_sem] max2_int min2_int max_two min_two max_three min_three max_four min_four
set_option linter.unusedVariables false
set_option linter.unusedSimpArgs false

attribute [local go_sem high] eqAGAct
attribute [local go_sem high] eqAGTxn
attribute [local go_sem high] eqAGDirty

/-! ### flotillaref05_Rows -/
mutual
def flotillaref05_Rows.j0 : Nat → Bool → Int → Int → Int → Int → Int → Int → Int → ByteArray → ByteArray → ByteArray → List (SGTxn) → List (SGDirty) → Option (Bool)
  | 0, _, _, _, _, _, _, _, _, _, _, _, _, _ => none
  | k + 1, x16, x463000, x463001, x463002, x463003, x463004, x463005, x463006, x463007, x463008, x463009, x463010, x463011 => if x16 = true then (some false) else (flotillaref05_Rows.l0 k 0 x463000 x463001 x463002 x463003 x463004 x463005 x463006 x463007 x463008 x463009 x463010 x463011)
def flotillaref05_Rows.l0 : Nat → Int → Int → Int → Int → Int → Int → Int → Int → ByteArray → ByteArray → ByteArray → List (SGTxn) → List (SGDirty) → Option (Bool)
  | 0, _, _, _, _, _, _, _, _, _, _, _, _, _ => none
  | k + 1, x3, x463000, x463001, x463002, x463003, x463004, x463005, x463006, x463007, x463008, x463009, x463010, x463011 => if x3 < (x463010.length : Int) then (if 0 ≤ x3 then (if ((rd_TGTxn x463010 x3).f0) < 1 then (flotillaref05_Rows.j2 k x3 true x463000 x463001 x463002 x463003 x463004 x463005 x463006 x463007 x463008 x463009 x463010 x463011 ((rd_TGTxn x463010 x3).f0) ((rd_TGTxn x463010 x3).f1) ((rd_TGTxn x463010 x3).f2)) else (if ((rd_TGTxn x463010 x3).f0) > 1073741824 then (flotillaref05_Rows.j2 k x3 true x463000 x463001 x463002 x463003 x463004 x463005 x463006 x463007 x463008 x463009 x463010 x463011 ((rd_TGTxn x463010 x3).f0) ((rd_TGTxn x463010 x3).f1) ((rd_TGTxn x463010 x3).f2)) else (if ((rd_TGTxn x463010 x3).f1) < 0 then (flotillaref05_Rows.j2 k x3 true x463000 x463001 x463002 x463003 x463004 x463005 x463006 x463007 x463008 x463009 x463010 x463011 ((rd_TGTxn x463010 x3).f0) ((rd_TGTxn x463010 x3).f1) ((rd_TGTxn x463010 x3).f2)) else (if ((rd_TGTxn x463010 x3).f1) > 2 then (flotillaref05_Rows.j2 k x3 true x463000 x463001 x463002 x463003 x463004 x463005 x463006 x463007 x463008 x463009 x463010 x463011 ((rd_TGTxn x463010 x3).f0) ((rd_TGTxn x463010 x3).f1) ((rd_TGTxn x463010 x3).f2)) else ((flotillaref05_Numbered.f ((rd_TGTxn x463010 x3).f2)).bind fun t465 => (flotillaref05_Rows.j2 k x3 (!t465) x463000 x463001 x463002 x463003 x463004 x463005 x463006 x463007 x463008 x463009 x463010 x463011 ((rd_TGTxn x463010 x3).f0) ((rd_TGTxn x463010 x3).f1) ((rd_TGTxn x463010 x3).f2))))))) else (none)) else (flotillaref05_Rows.l1 k 0 x463000 x463001 x463002 x463003 x463004 x463005 x463006 x463007 x463008 x463009 x463010 x463011)
def flotillaref05_Rows.j2 : Nat → Int → Bool → Int → Int → Int → Int → Int → Int → Int → ByteArray → ByteArray → ByteArray → List (SGTxn) → List (SGDirty) → Int → Int → Int → Option (Bool)
  | 0, _, _, _, _, _, _, _, _, _, _, _, _, _, _, _, _, _ => none
  | k + 1, x3, x52, x463000, x463001, x463002, x463003, x463004, x463005, x463006, x463007, x463008, x463009, x463010, x463011, x465000, x465001, x465002 => if x52 = true then (some false) else (if x3 > 0 then (if 0 ≤ (wrap64 (x3 - 1)) then (if (wrap64 (x3 - 1)) < (x463010.length : Int) then (if ((rd_TGTxn x463010 (wrap64 (x3 - 1))).f0) ≥ x465000 then (some false) else (flotillaref05_Rows.l0 k (wrap64 (x3 + 1)) x463000 x463001 x463002 x463003 x463004 x463005 x463006 x463007 x463008 x463009 x463010 x463011)) else (none)) else (none)) else (flotillaref05_Rows.l0 k (wrap64 (x3 + 1)) x463000 x463001 x463002 x463003 x463004 x463005 x463006 x463007 x463008 x463009 x463010 x463011))
def flotillaref05_Rows.l1 : Nat → Int → Int → Int → Int → Int → Int → Int → Int → ByteArray → ByteArray → ByteArray → List (SGTxn) → List (SGDirty) → Option (Bool)
  | 0, _, _, _, _, _, _, _, _, _, _, _, _, _ => none
  | k + 1, x5, x463000, x463001, x463002, x463003, x463004, x463005, x463006, x463007, x463008, x463009, x463010, x463011 => if x5 < (x463011.length : Int) then (if 0 ≤ x5 then (if ((rd_TGDirty x463011 x5).f0) < 0 then (flotillaref05_Rows.j4 k x5 true x463000 x463001 x463002 x463003 x463004 x463005 x463006 x463007 x463008 x463009 x463010 x463011 ((rd_TGDirty x463011 x5).f0) ((rd_TGDirty x463011 x5).f1)) else (if ((rd_TGDirty x463011 x5).f0) > 15 then (flotillaref05_Rows.j4 k x5 true x463000 x463001 x463002 x463003 x463004 x463005 x463006 x463007 x463008 x463009 x463010 x463011 ((rd_TGDirty x463011 x5).f0) ((rd_TGDirty x463011 x5).f1)) else ((flotillaref05_Numbered.f ((rd_TGDirty x463011 x5).f1)).bind fun t469 => (flotillaref05_Rows.j4 k x5 (!t469) x463000 x463001 x463002 x463003 x463004 x463005 x463006 x463007 x463008 x463009 x463010 x463011 ((rd_TGDirty x463011 x5).f0) ((rd_TGDirty x463011 x5).f1))))) else (none)) else (some true)
def flotillaref05_Rows.j4 : Nat → Int → Bool → Int → Int → Int → Int → Int → Int → Int → ByteArray → ByteArray → ByteArray → List (SGTxn) → List (SGDirty) → Int → Int → Option (Bool)
  | 0, _, _, _, _, _, _, _, _, _, _, _, _, _, _, _, _ => none
  | k + 1, x5, x92, x463000, x463001, x463002, x463003, x463004, x463005, x463006, x463007, x463008, x463009, x463010, x463011, x469000, x469001 => if x92 = true then (some false) else (if x5 > 0 then (if 0 ≤ (wrap64 (x5 - 1)) then (if (wrap64 (x5 - 1)) < (x463011.length : Int) then (if ((rd_TGDirty x463011 (wrap64 (x5 - 1))).f0) ≥ x469000 then (some false) else (flotillaref05_Rows.l1 k (wrap64 (x5 + 1)) x463000 x463001 x463002 x463003 x463004 x463005 x463006 x463007 x463008 x463009 x463010 x463011)) else (none)) else (none)) else (flotillaref05_Rows.l1 k (wrap64 (x5 + 1)) x463000 x463001 x463002 x463003 x463004 x463005 x463006 x463007 x463008 x463009 x463010 x463011))
end
def flotillaref05_Rows.f (k : Nat) (a0_0 : Int) (a0_1 : Int) (a0_2 : Int) (a0_3 : Int) (a0_4 : Int) (a0_5 : Int) (a0_6 : Int) (a0_7 : ByteArray) (a0_8 : ByteArray) (a0_9 : ByteArray) (l0_10 : List (SGTxn)) (l0_11 : List (SGDirty)) : Option (Bool) := if (l0_10.length : Int) > 64 then (flotillaref05_Rows.j0 k true a0_0 a0_1 a0_2 a0_3 a0_4 a0_5 a0_6 a0_7 a0_8 a0_9 l0_10 l0_11) else (flotillaref05_Rows.j0 k (decide ((l0_11.length : Int) > 16)) a0_0 a0_1 a0_2 a0_3 a0_4 a0_5 a0_6 a0_7 a0_8 a0_9 l0_10 l0_11)
theorem flotillaref05_Rows.mono_l : ∀ k, (∀ y0 y1 y2 y3 y4 y5 y6 y7 y8 y9 y10 y11 y12, LeO (flotillaref05_Rows.j0 k y0 y1 y2 y3 y4 y5 y6 y7 y8 y9 y10 y11 y12) (flotillaref05_Rows.j0 (k + 1) y0 y1 y2 y3 y4 y5 y6 y7 y8 y9 y10 y11 y12)) ∧ (∀ y0 y1 y2 y3 y4 y5 y6 y7 y8 y9 y10 y11 y12, LeO (flotillaref05_Rows.l0 k y0 y1 y2 y3 y4 y5 y6 y7 y8 y9 y10 y11 y12) (flotillaref05_Rows.l0 (k + 1) y0 y1 y2 y3 y4 y5 y6 y7 y8 y9 y10 y11 y12)) ∧ (∀ y0 y1 y2 y3 y4 y5 y6 y7 y8 y9 y10 y11 y12 y13 y14 y15 y16, LeO (flotillaref05_Rows.j2 k y0 y1 y2 y3 y4 y5 y6 y7 y8 y9 y10 y11 y12 y13 y14 y15 y16) (flotillaref05_Rows.j2 (k + 1) y0 y1 y2 y3 y4 y5 y6 y7 y8 y9 y10 y11 y12 y13 y14 y15 y16)) ∧ (∀ y0 y1 y2 y3 y4 y5 y6 y7 y8 y9 y10 y11 y12, LeO (flotillaref05_Rows.l1 k y0 y1 y2 y3 y4 y5 y6 y7 y8 y9 y10 y11 y12) (flotillaref05_Rows.l1 (k + 1) y0 y1 y2 y3 y4 y5 y6 y7 y8 y9 y10 y11 y12)) ∧ (∀ y0 y1 y2 y3 y4 y5 y6 y7 y8 y9 y10 y11 y12 y13 y14 y15, LeO (flotillaref05_Rows.j4 k y0 y1 y2 y3 y4 y5 y6 y7 y8 y9 y10 y11 y12 y13 y14 y15) (flotillaref05_Rows.j4 (k + 1) y0 y1 y2 y3 y4 y5 y6 y7 y8 y9 y10 y11 y12 y13 y14 y15))
  | 0 => ⟨fun _ _ _ _ _ _ _ _ _ _ _ _ _ r h => by simp [flotillaref05_Rows.j0] at h, fun _ _ _ _ _ _ _ _ _ _ _ _ _ r h => by simp [flotillaref05_Rows.l0] at h, fun _ _ _ _ _ _ _ _ _ _ _ _ _ _ _ _ _ r h => by simp [flotillaref05_Rows.j2] at h, fun _ _ _ _ _ _ _ _ _ _ _ _ _ r h => by simp [flotillaref05_Rows.l1] at h, fun _ _ _ _ _ _ _ _ _ _ _ _ _ _ _ _ r h => by simp [flotillaref05_Rows.j4] at h⟩
  | k + 1 => by
    obtain ⟨ih0, ih1, ih2, ih3, ih4⟩ := flotillaref05_Rows.mono_l k
    refine ⟨?_, ?_, ?_, ?_, ?_⟩
    · intro y0 y1 y2 y3 y4 y5 y6 y7 y8 y9 y10 y11 y12
      unfold flotillaref05_Rows.j0
      repeat' first
      | (with_reducible exact ih0 _ _ _ _ _ _ _ _ _ _ _ _ _)
      | (with_reducible exact ih1 _ _ _ _ _ _ _ _ _ _ _ _ _)
      | (with_reducible exact ih2 _ _ _ _ _ _ _ _ _ _ _ _ _ _ _ _ _)
      | (with_reducible exact ih3 _ _ _ _ _ _ _ _ _ _ _ _ _)
      | (with_reducible exact ih4 _ _ _ _ _ _ _ _ _ _ _ _ _ _ _ _)
      | (with_reducible exact LeO.refl _)
      | (with_reducible exact LeO.none _)
      | (with_reducible refine LeO.ite ?_ ?_)
      | (with_reducible refine LeO.bind ?_ (fun _ => ?_))
      | exact ih0 _ _ _ _ _ _ _ _ _ _ _ _ _
      | exact ih1 _ _ _ _ _ _ _ _ _ _ _ _ _
      | exact ih2 _ _ _ _ _ _ _ _ _ _ _ _ _ _ _ _ _
      | exact ih3 _ _ _ _ _ _ _ _ _ _ _ _ _
      | exact ih4 _ _ _ _ _ _ _ _ _ _ _ _ _ _ _ _
      | exact LeO.none _
      | refine LeO.ite ?_ ?_
      | refine LeO.bind ?_ (fun _ => ?_)
    · intro y0 y1 y2 y3 y4 y5 y6 y7 y8 y9 y10 y11 y12
      unfold flotillaref05_Rows.l0
      repeat' first
      | (with_reducible exact ih0 _ _ _ _ _ _ _ _ _ _ _ _ _)
      | (with_reducible exact ih1 _ _ _ _ _ _ _ _ _ _ _ _ _)
      | (with_reducible exact ih2 _ _ _ _ _ _ _ _ _ _ _ _ _ _ _ _ _)
      | (with_reducible exact ih3 _ _ _ _ _ _ _ _ _ _ _ _ _)
      | (with_reducible exact ih4 _ _ _ _ _ _ _ _ _ _ _ _ _ _ _ _)
      | (with_reducible exact LeO.refl _)
      | (with_reducible exact LeO.none _)
      | (with_reducible refine LeO.ite ?_ ?_)
      | (with_reducible refine LeO.bind ?_ (fun _ => ?_))
      | exact ih0 _ _ _ _ _ _ _ _ _ _ _ _ _
      | exact ih1 _ _ _ _ _ _ _ _ _ _ _ _ _
      | exact ih2 _ _ _ _ _ _ _ _ _ _ _ _ _ _ _ _ _
      | exact ih3 _ _ _ _ _ _ _ _ _ _ _ _ _
      | exact ih4 _ _ _ _ _ _ _ _ _ _ _ _ _ _ _ _
      | exact LeO.none _
      | refine LeO.ite ?_ ?_
      | refine LeO.bind ?_ (fun _ => ?_)
    · intro y0 y1 y2 y3 y4 y5 y6 y7 y8 y9 y10 y11 y12 y13 y14 y15 y16
      unfold flotillaref05_Rows.j2
      repeat' first
      | (with_reducible exact ih0 _ _ _ _ _ _ _ _ _ _ _ _ _)
      | (with_reducible exact ih1 _ _ _ _ _ _ _ _ _ _ _ _ _)
      | (with_reducible exact ih2 _ _ _ _ _ _ _ _ _ _ _ _ _ _ _ _ _)
      | (with_reducible exact ih3 _ _ _ _ _ _ _ _ _ _ _ _ _)
      | (with_reducible exact ih4 _ _ _ _ _ _ _ _ _ _ _ _ _ _ _ _)
      | (with_reducible exact LeO.refl _)
      | (with_reducible exact LeO.none _)
      | (with_reducible refine LeO.ite ?_ ?_)
      | (with_reducible refine LeO.bind ?_ (fun _ => ?_))
      | exact ih0 _ _ _ _ _ _ _ _ _ _ _ _ _
      | exact ih1 _ _ _ _ _ _ _ _ _ _ _ _ _
      | exact ih2 _ _ _ _ _ _ _ _ _ _ _ _ _ _ _ _ _
      | exact ih3 _ _ _ _ _ _ _ _ _ _ _ _ _
      | exact ih4 _ _ _ _ _ _ _ _ _ _ _ _ _ _ _ _
      | exact LeO.none _
      | refine LeO.ite ?_ ?_
      | refine LeO.bind ?_ (fun _ => ?_)
    · intro y0 y1 y2 y3 y4 y5 y6 y7 y8 y9 y10 y11 y12
      unfold flotillaref05_Rows.l1
      repeat' first
      | (with_reducible exact ih0 _ _ _ _ _ _ _ _ _ _ _ _ _)
      | (with_reducible exact ih1 _ _ _ _ _ _ _ _ _ _ _ _ _)
      | (with_reducible exact ih2 _ _ _ _ _ _ _ _ _ _ _ _ _ _ _ _ _)
      | (with_reducible exact ih3 _ _ _ _ _ _ _ _ _ _ _ _ _)
      | (with_reducible exact ih4 _ _ _ _ _ _ _ _ _ _ _ _ _ _ _ _)
      | (with_reducible exact LeO.refl _)
      | (with_reducible exact LeO.none _)
      | (with_reducible refine LeO.ite ?_ ?_)
      | (with_reducible refine LeO.bind ?_ (fun _ => ?_))
      | exact ih0 _ _ _ _ _ _ _ _ _ _ _ _ _
      | exact ih1 _ _ _ _ _ _ _ _ _ _ _ _ _
      | exact ih2 _ _ _ _ _ _ _ _ _ _ _ _ _ _ _ _ _
      | exact ih3 _ _ _ _ _ _ _ _ _ _ _ _ _
      | exact ih4 _ _ _ _ _ _ _ _ _ _ _ _ _ _ _ _
      | exact LeO.none _
      | refine LeO.ite ?_ ?_
      | refine LeO.bind ?_ (fun _ => ?_)
    · intro y0 y1 y2 y3 y4 y5 y6 y7 y8 y9 y10 y11 y12 y13 y14 y15
      unfold flotillaref05_Rows.j4
      repeat' first
      | (with_reducible exact ih0 _ _ _ _ _ _ _ _ _ _ _ _ _)
      | (with_reducible exact ih1 _ _ _ _ _ _ _ _ _ _ _ _ _)
      | (with_reducible exact ih2 _ _ _ _ _ _ _ _ _ _ _ _ _ _ _ _ _)
      | (with_reducible exact ih3 _ _ _ _ _ _ _ _ _ _ _ _ _)
      | (with_reducible exact ih4 _ _ _ _ _ _ _ _ _ _ _ _ _ _ _ _)
      | (with_reducible exact LeO.refl _)
      | (with_reducible exact LeO.none _)
      | (with_reducible refine LeO.ite ?_ ?_)
      | (with_reducible refine LeO.bind ?_ (fun _ => ?_))
      | exact ih0 _ _ _ _ _ _ _ _ _ _ _ _ _
      | exact ih1 _ _ _ _ _ _ _ _ _ _ _ _ _
      | exact ih2 _ _ _ _ _ _ _ _ _ _ _ _ _ _ _ _ _
      | exact ih3 _ _ _ _ _ _ _ _ _ _ _ _ _
      | exact ih4 _ _ _ _ _ _ _ _ _ _ _ _ _ _ _ _
      | exact LeO.none _
      | refine LeO.ite ?_ ?_
      | refine LeO.bind ?_ (fun _ => ?_)
theorem flotillaref05_Rows.mono : ∀ a0 a1 a2 a3 a4 a5 a6 a7 a8 a9 a10 a11 k, LeO (flotillaref05_Rows.f k a0 a1 a2 a3 a4 a5 a6 a7 a8 a9 a10 a11) (flotillaref05_Rows.f (k + 1) a0 a1 a2 a3 a4 a5 a6 a7 a8 a9 a10 a11) := by
  intro a0 a1 a2 a3 a4 a5 a6 a7 a8 a9 a10 a11 k
  obtain ⟨ih0, ih1, ih2, ih3, ih4⟩ := flotillaref05_Rows.mono_l k
  unfold flotillaref05_Rows.f
  repeat' first
      | (with_reducible exact ih0 _ _ _ _ _ _ _ _ _ _ _ _ _)
      | (with_reducible exact ih1 _ _ _ _ _ _ _ _ _ _ _ _ _)
      | (with_reducible exact ih2 _ _ _ _ _ _ _ _ _ _ _ _ _ _ _ _ _)
      | (with_reducible exact ih3 _ _ _ _ _ _ _ _ _ _ _ _ _)
      | (with_reducible exact ih4 _ _ _ _ _ _ _ _ _ _ _ _ _ _ _ _)
      | (with_reducible exact LeO.refl _)
      | (with_reducible exact LeO.none _)
      | (with_reducible refine LeO.ite ?_ ?_)
      | (with_reducible refine LeO.bind ?_ (fun _ => ?_))
      | exact ih0 _ _ _ _ _ _ _ _ _ _ _ _ _
      | exact ih1 _ _ _ _ _ _ _ _ _ _ _ _ _
      | exact ih2 _ _ _ _ _ _ _ _ _ _ _ _ _ _ _ _ _
      | exact ih3 _ _ _ _ _ _ _ _ _ _ _ _ _
      | exact ih4 _ _ _ _ _ _ _ _ _ _ _ _ _ _ _ _
      | exact LeO.none _
      | refine LeO.ite ?_ ?_
      | refine LeO.bind ?_ (fun _ => ?_)
set_option maxHeartbeats 8000000 in
set_option maxRecDepth 100000 in
theorem flotillaref05_Rows.calls (k : Nat) (a0_0 : Int) (a0_1 : Int) (a0_2 : Int) (a0_3 : Int) (a0_4 : Int) (a0_5 : Int) (a0_6 : Int) (a0_7 : ByteArray) (a0_8 : ByteArray) (a0_9 : ByteArray) (A0_10 : Option Addr) (c0_10 : Nat) (l0_10 : List (SGTxn)) (A0_11 : Option Addr) (c0_11 : Nat) (l0_11 : List (SGDirty)) (r : Bool) (w : World) (hr0_10 : Kd.C kGTxn w A0_10 l0_10.length l0_10) (hc0_10 : l0_10.length ≤ c0_10) (hr0_11 : Kd.C kGDirty w A0_11 l0_11.length l0_11) (hc0_11 : l0_11.length ≤ c0_11) (h : flotillaref05_Rows.f k a0_0 a0_1 a0_2 a0_3 a0_4 a0_5 a0_6 a0_7 a0_8 a0_9 l0_10 l0_11 = some r) :
    Calls Try.prog 53 #[.agg #[.int .i64 a0_0, .int .u64 a0_1, .int .i64 a0_2, .int .u64 a0_3, .int .u64 a0_4, .int .i64 a0_5, .int .i64 a0_6, .string a0_7, .string a0_8, .string a0_9, .slice A0_10 l0_10.length c0_10, .slice A0_11 l0_11.length c0_11]] w fun e w' => e = .returned (.bool r) ∧ Below w.heap.size w w' := by
  have hu43 := Try.underlying43
  have hu46 := Try.underlying46
  have hu49 := Try.underlying49
  have HR0_10 := Aside0.mk hr0_10
  have HC0_10 := Aside0.mk hc0_10
  clear hr0_10 hc0_10
  have HR0_11 := Aside0.mk hr0_11
  have HC0_11 := Aside0.mk hc0_11
  clear hr0_11 hc0_11
  have HB := Aside0.mk (Below.refl w.heap.size w)
  have H : (if (l0_10.length : Int) > 64 then (flotillaref05_Rows.j0 k true a0_0 a0_1 a0_2 a0_3 a0_4 a0_5 a0_6 a0_7 a0_8 a0_9 l0_10 l0_11) else (flotillaref05_Rows.j0 k (decide ((l0_11.length : Int) > 16)) a0_0 a0_1 a0_2 a0_3 a0_4 a0_5 a0_6 a0_7 a0_8 a0_9 l0_10 l0_11)) = some r := h
  clear h
  have HC2 := Aside0.mk H
  clear H
  go_enter Try.func53, Try.ntmps53
  go_upto_region 1 with (first | ((with_reducible refine gate_dst (N := 1) rfl ?_); (try (refine gate_guard (by rfl) ?_; dsimp only)); refine box_event ?hg (N := 1) ?hd (cs := #[.int .i64 a0_0, .int .u64 a0_1, .int .i64 a0_2, .int .u64 a0_3, .int .u64 a0_4, .int .i64 a0_5, .int .i64 a0_6, .string a0_7, .string a0_8, .string a0_9, .slice A0_10 l0_10.length c0_10, .slice A0_11 l0_11.length c0_11]) (t := 43) ?hr ?_; (case hd => rfl); (case hg => rfl); (case hr => first | (go_simp; done) | (go_simp; rfl)); intro gb462 hg w3 hbox hb; have n0_ := Aside0.mk (below_step (by repeat (first | (with_reducible first | exact HB.out | apply below_alloc | apply pw_below_drewN | apply below_drew1) | exact HB.out)) hb); have n1_ := Aside0.mk (hbox); have n2_ := Aside0.mk ((by rw [hg]; exact (below_size (by repeat (first | (with_reducible first | exact HB.out | apply below_alloc | apply pw_below_drewN | apply below_drew1) | exact HB.out))) : w.heap.size ≤ gb462)); have n3_ := Aside0.mk ((by rw [hg]; exact (below_size (by repeat (first | (with_reducible first | exact HB.out | apply below_alloc | apply pw_below_drewN | apply below_drew1) | exact HB.out))) : w.heap.size ≤ gb462)); clear HB; have HB := n0_; have BK462 := n1_; have GW462 := n2_; have GE462 := n3_; clear n0_ n1_ n2_ n3_; clear hb hbox hg))
  repeat (go_quiet (first | ((with_reducible refine gate_dst (N := 1) rfl ?_); (try (refine gate_guard (by rfl) ?_; dsimp only)); refine box_event ?hg (N := 1) ?hd (cs := #[.int .i64 a0_0, .int .u64 a0_1, .int .i64 a0_2, .int .u64 a0_3, .int .u64 a0_4, .int .i64 a0_5, .int .i64 a0_6, .string a0_7, .string a0_8, .string a0_9, .slice A0_10 l0_10.length c0_10, .slice A0_11 l0_11.length c0_11]) (t := 43) ?hr ?_; (case hd => rfl); (case hg => rfl); (case hr => first | (go_simp; done) | (go_simp; rfl)); intro gb462 hg w3 hbox hb; have n0_ := Aside0.mk (below_step (by repeat (first | (with_reducible first | exact HB.out | apply below_alloc | apply pw_below_drewN | apply below_drew1) | exact HB.out)) hb); have n1_ := Aside0.mk (hbox); have n2_ := Aside0.mk ((by rw [hg]; exact (below_size (by repeat (first | (with_reducible first | exact HB.out | apply below_alloc | apply pw_below_drewN | apply below_drew1) | exact HB.out))) : w.heap.size ≤ gb462)); have n3_ := Aside0.mk ((by rw [hg]; exact (below_size (by repeat (first | (with_reducible first | exact HB.out | apply below_alloc | apply pw_below_drewN | apply below_drew1) | exact HB.out))) : w.heap.size ≤ gb462)); clear HB; have HB := n0_; have BK462 := n1_; have GW462 := n2_; have GE462 := n3_; clear n0_ n1_ n2_ n3_; clear hb hbox hg)); go_upto_region 1 with (first | ((with_reducible refine gate_dst (N := 1) rfl ?_); (try (refine gate_guard (by rfl) ?_; dsimp only)); refine box_event ?hg (N := 1) ?hd (cs := #[.int .i64 a0_0, .int .u64 a0_1, .int .i64 a0_2, .int .u64 a0_3, .int .u64 a0_4, .int .i64 a0_5, .int .i64 a0_6, .string a0_7, .string a0_8, .string a0_9, .slice A0_10 l0_10.length c0_10, .slice A0_11 l0_11.length c0_11]) (t := 43) ?hr ?_; (case hd => rfl); (case hg => rfl); (case hr => first | (go_simp; done) | (go_simp; rfl)); intro gb462 hg w3 hbox hb; have n0_ := Aside0.mk (below_step (by repeat (first | (with_reducible first | exact HB.out | apply below_alloc | apply pw_below_drewN | apply below_drew1) | exact HB.out)) hb); have n1_ := Aside0.mk (hbox); have n2_ := Aside0.mk ((by rw [hg]; exact (below_size (by repeat (first | (with_reducible first | exact HB.out | apply below_alloc | apply pw_below_drewN | apply below_drew1) | exact HB.out))) : w.heap.size ≤ gb462)); have n3_ := Aside0.mk ((by rw [hg]; exact (below_size (by repeat (first | (with_reducible first | exact HB.out | apply below_alloc | apply pw_below_drewN | apply below_drew1) | exact HB.out))) : w.heap.size ≤ gb462)); clear HB; have HB := n0_; have BK462 := n1_; have GW462 := n2_; have GE462 := n3_; clear n0_ n1_ n2_ n3_; clear hb hbox hg)))
  (try simp only [Act.put, List.setIfInBounds_toArray, List.set_cons_zero, List.set_cons_succ])
  go_cut [16] (fun v16 wc => ∃ (kq : Nat) (x16_1 : Bool), v16 = .bool x16_1 ∧ Aside0 (flotillaref05_Rows.j0 kq x16_1 a0_0 a0_1 a0_2 a0_3 a0_4 a0_5 a0_6 a0_7 a0_8 a0_9 l0_10 l0_11 = some r) ∧ Aside0 (kq ≤ k) ∧ Aside0 (wc.heap[gb462]? = some (.cells #[.int .i64 a0_0, .int .u64 a0_1, .int .i64 a0_2, .int .u64 a0_3, .int .u64 a0_4, .int .i64 a0_5, .int .i64 a0_6, .string a0_7, .string a0_8, .string a0_9, (.slice A0_10 l0_10.length c0_10), (.slice A0_11 l0_11.length c0_11)] 43 (0, 0))) ∧ Aside0 (Below w.heap.size w wc))
  case first =>
    have H := HC2.out
    clear HC2
    by_cases c4 : (l0_10.length : Int) > 64
    · rw [if_pos c4] at H
      have c4b0 : decide (64 < (l0_10.length : Int)) = true := decide_eq_true c4
      have c4b1 : decide (64 < l0_10.length) = true := decide_eq_true (by omega)
      clear c4
      (first | rw [c4b0] | (simp only [i64_w, i32_w]; rw [c4b0]) | skip)
      have H' := Aside0.mk H
      clear H
      have hcz5_0 : w3.cell? ⟨gb462, 0, none⟩ = some (.int .i64 a0_0) := (blk_cell BK462.out 0).trans rfl
      have hcz5_1 : w3.cell? ⟨gb462, 1, none⟩ = some (.int .u64 a0_1) := (blk_cell BK462.out 1).trans rfl
      have hcz5_2 : w3.cell? ⟨gb462, 2, none⟩ = some (.int .i64 a0_2) := (blk_cell BK462.out 2).trans rfl
      have hcz5_3 : w3.cell? ⟨gb462, 3, none⟩ = some (.int .u64 a0_3) := (blk_cell BK462.out 3).trans rfl
      have hcz5_4 : w3.cell? ⟨gb462, 4, none⟩ = some (.int .u64 a0_4) := (blk_cell BK462.out 4).trans rfl
      have hcz5_5 : w3.cell? ⟨gb462, 5, none⟩ = some (.int .i64 a0_5) := (blk_cell BK462.out 5).trans rfl
      have hcz5_6 : w3.cell? ⟨gb462, 6, none⟩ = some (.int .i64 a0_6) := (blk_cell BK462.out 6).trans rfl
      have hcz5_7 : w3.cell? ⟨gb462, 7, none⟩ = some (.string a0_7) := (blk_cell BK462.out 7).trans rfl
      have hcz5_8 : w3.cell? ⟨gb462, 8, none⟩ = some (.string a0_8) := (blk_cell BK462.out 8).trans rfl
      have hcz5_9 : w3.cell? ⟨gb462, 9, none⟩ = some (.string a0_9) := (blk_cell BK462.out 9).trans rfl
      have hcz5_10 : w3.cell? ⟨gb462, 10, none⟩ = some (.slice A0_10 l0_10.length c0_10) := (blk_cell BK462.out 10).trans rfl
      have hcz5_11 : w3.cell? ⟨gb462, 11, none⟩ = some (.slice A0_11 l0_11.length c0_11) := (blk_cell BK462.out 11).trans rfl
      have hfz5_0 := blk_frozen BK462.out 0
      have hfz5_1 := blk_frozen BK462.out 1
      have hfz5_2 := blk_frozen BK462.out 2
      have hfz5_3 := blk_frozen BK462.out 3
      have hfz5_4 := blk_frozen BK462.out 4
      have hfz5_5 := blk_frozen BK462.out 5
      have hfz5_6 := blk_frozen BK462.out 6
      have hfz5_7 := blk_frozen BK462.out 7
      have hfz5_8 := blk_frozen BK462.out 8
      have hfz5_9 := blk_frozen BK462.out 9
      have hfz5_10 := blk_frozen BK462.out 10
      have hfz5_11 := blk_frozen BK462.out 11
      go_wp2
      repeat (go_quiet (fail); try go_wp2)
      go_meet
      case rel => exact ⟨_, (true), (by first | rfl | (simp; done) | (simp [*]; done)), H', ⟨by first | omega | exact Nat.le_refl _⟩, ⟨by (with_reducible repeat (first | refine blk_drewN ?_ _ | refine blk_drew ?_ | refine blk_alloc ?_ _)); exact BK462.out⟩, ⟨by repeat (first | (with_reducible first | exact HB.out | apply below_alloc | apply pw_below_drewN | apply below_drew1 | refine below_set ?_ GE462.out) | exact HB.out)⟩⟩
    · rw [if_neg c4] at H
      have c4b0 : decide (64 < (l0_10.length : Int)) = false := decide_eq_false c4
      have c4b1 : decide (64 < l0_10.length) = false := decide_eq_false (by omega)
      clear c4
      (first | rw [c4b0] | (simp only [i64_w, i32_w]; rw [c4b0]) | skip)
      have H' := Aside0.mk H
      clear H
      have hcz6_0 : w3.cell? ⟨gb462, 0, none⟩ = some (.int .i64 a0_0) := (blk_cell BK462.out 0).trans rfl
      have hcz6_1 : w3.cell? ⟨gb462, 1, none⟩ = some (.int .u64 a0_1) := (blk_cell BK462.out 1).trans rfl
      have hcz6_2 : w3.cell? ⟨gb462, 2, none⟩ = some (.int .i64 a0_2) := (blk_cell BK462.out 2).trans rfl
      have hcz6_3 : w3.cell? ⟨gb462, 3, none⟩ = some (.int .u64 a0_3) := (blk_cell BK462.out 3).trans rfl
      have hcz6_4 : w3.cell? ⟨gb462, 4, none⟩ = some (.int .u64 a0_4) := (blk_cell BK462.out 4).trans rfl
      have hcz6_5 : w3.cell? ⟨gb462, 5, none⟩ = some (.int .i64 a0_5) := (blk_cell BK462.out 5).trans rfl
      have hcz6_6 : w3.cell? ⟨gb462, 6, none⟩ = some (.int .i64 a0_6) := (blk_cell BK462.out 6).trans rfl
      have hcz6_7 : w3.cell? ⟨gb462, 7, none⟩ = some (.string a0_7) := (blk_cell BK462.out 7).trans rfl
      have hcz6_8 : w3.cell? ⟨gb462, 8, none⟩ = some (.string a0_8) := (blk_cell BK462.out 8).trans rfl
      have hcz6_9 : w3.cell? ⟨gb462, 9, none⟩ = some (.string a0_9) := (blk_cell BK462.out 9).trans rfl
      have hcz6_10 : w3.cell? ⟨gb462, 10, none⟩ = some (.slice A0_10 l0_10.length c0_10) := (blk_cell BK462.out 10).trans rfl
      have hcz6_11 : w3.cell? ⟨gb462, 11, none⟩ = some (.slice A0_11 l0_11.length c0_11) := (blk_cell BK462.out 11).trans rfl
      have hfz6_0 := blk_frozen BK462.out 0
      have hfz6_1 := blk_frozen BK462.out 1
      have hfz6_2 := blk_frozen BK462.out 2
      have hfz6_3 := blk_frozen BK462.out 3
      have hfz6_4 := blk_frozen BK462.out 4
      have hfz6_5 := blk_frozen BK462.out 5
      have hfz6_6 := blk_frozen BK462.out 6
      have hfz6_7 := blk_frozen BK462.out 7
      have hfz6_8 := blk_frozen BK462.out 8
      have hfz6_9 := blk_frozen BK462.out 9
      have hfz6_10 := blk_frozen BK462.out 10
      have hfz6_11 := blk_frozen BK462.out 11
      go_wp2
      repeat (go_quiet (fail); try go_wp2)
      go_meet
      case rel => exact ⟨_, (decide ((l0_11.length : Int) > 16)), (by first | rfl | (simp; done) | (simp [*]; done)), H', ⟨by first | omega | exact Nat.le_refl _⟩, ⟨by (with_reducible repeat (first | refine blk_drewN ?_ _ | refine blk_drew ?_ | refine blk_alloc ?_ _)); exact BK462.out⟩, ⟨by repeat (first | (with_reducible first | exact HB.out | apply below_alloc | apply pw_below_drewN | apply below_drew1 | refine below_set ?_ GE462.out) | exact HB.out)⟩⟩
  case rest =>
    clear HC2
    try clear p2
    try clear c4
    try clear c4b0
    try clear c4b1
    try clear c5
    try clear hcz5_0
    try clear hcz5_1
    try clear hcz5_10
    try clear hcz5_11
    try clear hcz5_2
    try clear hcz5_3
    try clear hcz5_4
    try clear hcz5_5
    try clear hcz5_6
    try clear hcz5_7
    try clear hcz5_8
    try clear hcz5_9
    try clear hcz6_0
    try clear hcz6_1
    try clear hcz6_10
    try clear hcz6_11
    try clear hcz6_2
    try clear hcz6_3
    try clear hcz6_4
    try clear hcz6_5
    try clear hcz6_6
    try clear hcz6_7
    try clear hcz6_8
    try clear hcz6_9
    try clear hfz5_0
    try clear hfz5_1
    try clear hfz5_10
    try clear hfz5_11
    try clear hfz5_2
    try clear hfz5_3
    try clear hfz5_4
    try clear hfz5_5
    try clear hfz5_6
    try clear hfz5_7
    try clear hfz5_8
    try clear hfz5_9
    try clear hfz6_0
    try clear hfz6_1
    try clear hfz6_10
    try clear hfz6_11
    try clear hfz6_2
    try clear hfz6_3
    try clear hfz6_4
    try clear hfz6_5
    try clear hfz6_6
    try clear hfz6_7
    try clear hfz6_8
    try clear hfz6_9
    obtain ⟨kq, x16_1, rfl, HA, HJ1, BK462, HB⟩ := hcut
    cases kq with
    | zero => exact absurd HA.out (by simp [flotillaref05_Rows.j0])
    | succ kj1 =>
      have H := HA.out
      clear HA
      simp only [flotillaref05_Rows.j0] at H
      by_cases c7 : x16_1 = true
      · subst c7
        have H1 : (some false) = some r := by rw [if_pos rfl] at H; exact H
        clear H
        have H := H1
        clear H1
        obtain rfl := Option.some.inj H
        go_wp2
        repeat (go_quiet (fail); try go_wp2)
        go_ret
        exact ⟨by first | rfl | (simp [errW_none, errW_some] <;> rfl) | (simp [*, errW_none, errW_some] <;> rfl), by repeat (first | (with_reducible first | exact HB.out | apply below_alloc | apply pw_below_drewN | apply below_drew1 | refine below_set ?_ GE462.out) | exact HB.out)⟩
      · replace c7 := Bool.eq_false_iff.mpr c7
        subst c7
        have H1 : (flotillaref05_Rows.l0 kj1 0 a0_0 a0_1 a0_2 a0_3 a0_4 a0_5 a0_6 a0_7 a0_8 a0_9 l0_10 l0_11) = some r := by rw [if_neg (show ¬ (false = true) by decide)] at H; exact H
        clear H
        have H := H1
        clear H1
        have H' := Aside0.mk H
        clear H
        go_wp2
        repeat (go_quiet (fail); try go_wp2)
        go_loopg [3] kj1 (fun kq v3 w' => ∃ (x3_2 : Int), v3 = .int .i64 x3_2 ∧ Aside0 (flotillaref05_Rows.l0 kq x3_2 a0_0 a0_1 a0_2 a0_3 a0_4 a0_5 a0_6 a0_7 a0_8 a0_9 l0_10 l0_11 = some r) ∧ Aside0 (kq ≤ kj1) ∧ Aside0 (w'.heap[gb462]? = some (.cells #[.int .i64 a0_0, .int .u64 a0_1, .int .i64 a0_2, .int .u64 a0_3, .int .u64 a0_4, .int .i64 a0_5, .int .i64 a0_6, .string a0_7, .string a0_8, .string a0_9, (.slice A0_10 l0_10.length c0_10), (.slice A0_11 l0_11.length c0_11)] 43 (0, 0))) ∧ Aside0 (Below w.heap.size w w'))
        case atStart => exact ⟨(0), (by first | rfl | (simp; done) | (simp [*]; done)), H', ⟨Nat.le_refl _⟩, ⟨by (with_reducible repeat (first | refine blk_drewN ?_ _ | refine blk_drew ?_ | refine blk_alloc ?_ _)); exact BK462.out⟩, ⟨by repeat (first | (with_reducible first | exact HB.out | apply below_alloc | apply pw_below_drewN | apply below_drew1 | refine below_set ?_ GE462.out) | exact HB.out)⟩⟩
        case round =>
          clear H'
          try clear p2
          try clear c4
          try clear c4b0
          try clear c4b1
          try clear c5
          try clear c7
          try clear hcz5_0
          try clear hcz5_1
          try clear hcz5_10
          try clear hcz5_11
          try clear hcz5_2
          try clear hcz5_3
          try clear hcz5_4
          try clear hcz5_5
          try clear hcz5_6
          try clear hcz5_7
          try clear hcz5_8
          try clear hcz5_9
          try clear hcz6_0
          try clear hcz6_1
          try clear hcz6_10
          try clear hcz6_11
          try clear hcz6_2
          try clear hcz6_3
          try clear hcz6_4
          try clear hcz6_5
          try clear hcz6_6
          try clear hcz6_7
          try clear hcz6_8
          try clear hcz6_9
          try clear hfz5_0
          try clear hfz5_1
          try clear hfz5_10
          try clear hfz5_11
          try clear hfz5_2
          try clear hfz5_3
          try clear hfz5_4
          try clear hfz5_5
          try clear hfz5_6
          try clear hfz5_7
          try clear hfz5_8
          try clear hfz5_9
          try clear hfz6_0
          try clear hfz6_1
          try clear hfz6_10
          try clear hfz6_11
          try clear hfz6_2
          try clear hfz6_3
          try clear hfz6_4
          try clear hfz6_5
          try clear hfz6_6
          try clear hfz6_7
          try clear hfz6_8
          try clear hfz6_9
          try clear p2
          obtain ⟨x3_2, rfl, HA, HK2, BK462, HB⟩ := hrel
          cases gk with
          | zero => exact absurd HA.out (by simp [flotillaref05_Rows.l0])
          | succ k2 =>
            have H := HA.out
            clear HA
            simp only [flotillaref05_Rows.l0] at H
            by_cases c8 : x3_2 < (l0_10.length : Int)
            · rw [if_pos c8] at H
              have c8b0 : decide (x3_2 < (l0_10.length : Int)) = true := decide_eq_true c8
              clear c8
              by_cases c9 : 0 ≤ x3_2
              · rw [if_pos c9] at H
                have c9b0 : decide (0 ≤ x3_2) = true := decide_eq_true c9
                clear c9
                have HC10 := Aside0.mk H
                clear H
                have hcz11_0 : wr.cell? ⟨gb462, 0, none⟩ = some (.int .i64 a0_0) := (blk_cell BK462.out 0).trans rfl
                have hcz11_1 : wr.cell? ⟨gb462, 1, none⟩ = some (.int .u64 a0_1) := (blk_cell BK462.out 1).trans rfl
                have hcz11_2 : wr.cell? ⟨gb462, 2, none⟩ = some (.int .i64 a0_2) := (blk_cell BK462.out 2).trans rfl
                have hcz11_3 : wr.cell? ⟨gb462, 3, none⟩ = some (.int .u64 a0_3) := (blk_cell BK462.out 3).trans rfl
                have hcz11_4 : wr.cell? ⟨gb462, 4, none⟩ = some (.int .u64 a0_4) := (blk_cell BK462.out 4).trans rfl
                have hcz11_5 : wr.cell? ⟨gb462, 5, none⟩ = some (.int .i64 a0_5) := (blk_cell BK462.out 5).trans rfl
                have hcz11_6 : wr.cell? ⟨gb462, 6, none⟩ = some (.int .i64 a0_6) := (blk_cell BK462.out 6).trans rfl
                have hcz11_7 : wr.cell? ⟨gb462, 7, none⟩ = some (.string a0_7) := (blk_cell BK462.out 7).trans rfl
                have hcz11_8 : wr.cell? ⟨gb462, 8, none⟩ = some (.string a0_8) := (blk_cell BK462.out 8).trans rfl
                have hcz11_9 : wr.cell? ⟨gb462, 9, none⟩ = some (.string a0_9) := (blk_cell BK462.out 9).trans rfl
                have hcz11_10 : wr.cell? ⟨gb462, 10, none⟩ = some (.slice A0_10 l0_10.length c0_10) := (blk_cell BK462.out 10).trans rfl
                have hcz11_11 : wr.cell? ⟨gb462, 11, none⟩ = some (.slice A0_11 l0_11.length c0_11) := (blk_cell BK462.out 11).trans rfl
                have hfz11_0 := blk_frozen BK462.out 0
                have hfz11_1 := blk_frozen BK462.out 1
                have hfz11_2 := blk_frozen BK462.out 2
                have hfz11_3 := blk_frozen BK462.out 3
                have hfz11_4 := blk_frozen BK462.out 4
                have hfz11_5 := blk_frozen BK462.out 5
                have hfz11_6 := blk_frozen BK462.out 6
                have hfz11_7 := blk_frozen BK462.out 7
                have hfz11_8 := blk_frozen BK462.out 8
                have hfz11_9 := blk_frozen BK462.out 9
                have hfz11_10 := blk_frozen BK462.out 10
                have hfz11_11 := blk_frozen BK462.out 11
                have p463 : 0 ≤ (x3_2 : Int) := of_decide_eq_true (by first | (with_reducible assumption) | assumption)
                have q463 : x3_2 < (l0_10.length : Int) := of_decide_eq_true (by first | (with_reducible assumption) | assumption)
                obtain ⟨ad463, e463, hx463_0, hx463_1, hx463_2⟩ := at_TGTxn HR0_10.out x3_2 p463 q463
                cases e463
                replace hx463_0 := (HB.out.cell (World.block_lt_of_cell? w _ hx463_0)).trans hx463_0
                replace hx463_1 := (HB.out.cell (World.block_lt_of_cell? w _ hx463_1)).trans hx463_1
                replace hx463_2 := (HB.out.cell (World.block_lt_of_cell? w _ hx463_2)).trans hx463_2
                replace p463 := eq_true p463
                replace q463 := eq_true q463
                go_upto_region 7 with (first | ((with_reducible refine gate_dst (N := 4) rfl ?_); (try (refine gate_guard (by rfl) ?_; dsimp only)); refine box_event ?hg (N := 4) ?hd (cs := #[.int .i64 0, .int .i64 0, .int .u64 0]) (t := 46) ?hr ?_; (case hd => rfl); (case hg => rfl); (case hr => first | (go_simp; done) | (go_simp; rfl)); intro gb464 hg w12 hbox hb; have n0_ := Aside0.mk (blk_below (g := gb462) (o := .cells #[.int .i64 a0_0, .int .u64 a0_1, .int .i64 a0_2, .int .u64 a0_3, .int .u64 a0_4, .int .i64 a0_5, .int .i64 a0_6, .string a0_7, .string a0_8, .string a0_9, .slice (some ad463) l0_10.length c0_10, .slice A0_11 l0_11.length c0_11] 43 (0, 0)) (by (with_reducible repeat (first | refine blk_drewN ?_ _ | refine blk_drew ?_ | refine blk_alloc ?_ _)); exact BK462.out) hb); have n1_ := Aside0.mk (below_step (by repeat (first | (with_reducible first | exact HB.out | apply below_alloc | apply pw_below_drewN | apply below_drew1 | refine below_set ?_ GE462.out) | exact HB.out)) hb); have n2_ := Aside0.mk (hbox); have n3_ := Aside0.mk ((by rw [hg]; exact (below_size (by repeat (first | (with_reducible first | exact HB.out | apply below_alloc | apply pw_below_drewN | apply below_drew1 | refine below_set ?_ GE462.out) | exact HB.out))) : w.heap.size ≤ gb464)); have n4_ := Aside0.mk ((by rw [hg]; exact (below_size (by repeat (first | (with_reducible first | exact HB.out | apply below_alloc | apply pw_below_drewN | apply below_drew1 | refine below_set ?_ GE462.out) | exact HB.out))) : w.heap.size ≤ gb464)); have n5_ := Aside0.mk ((by rw [hg]; exact Nat.ne_of_lt (blk_lt (g := gb462) (o := .cells #[.int .i64 a0_0, .int .u64 a0_1, .int .i64 a0_2, .int .u64 a0_3, .int .u64 a0_4, .int .i64 a0_5, .int .i64 a0_6, .string a0_7, .string a0_8, .string a0_9, .slice (some ad463) l0_10.length c0_10, .slice A0_11 l0_11.length c0_11] 43 (0, 0)) (by (with_reducible repeat (first | refine blk_drewN ?_ _ | refine blk_drew ?_ | refine blk_alloc ?_ _)); exact BK462.out)) : gb462 ≠ gb464)); have n6_ := Aside0.mk ((by rw [hg]; exact Nat.ne_of_gt (blk_lt (g := gb462) (o := .cells #[.int .i64 a0_0, .int .u64 a0_1, .int .i64 a0_2, .int .u64 a0_3, .int .u64 a0_4, .int .i64 a0_5, .int .i64 a0_6, .string a0_7, .string a0_8, .string a0_9, .slice (some ad463) l0_10.length c0_10, .slice A0_11 l0_11.length c0_11] 43 (0, 0)) (by (with_reducible repeat (first | refine blk_drewN ?_ _ | refine blk_drew ?_ | refine blk_alloc ?_ _)); exact BK462.out)) : gb464 ≠ gb462)); clear BK462; clear HB; have BK462 := n0_; have HB := n1_; have BK464 := n2_; have GW464 := n3_; have GE464 := n4_; have NB462_464 := n5_; have NB464_462 := n6_; clear n0_ n1_ n2_ n3_ n4_ n5_ n6_; clear hb hbox hg; have hnb13 := NB464_462.out; have hnc13 := NB462_464.out; have hcz14_0 : w12.cell? ⟨gb464, 0, none⟩ = some (.int .i64 0) := (blk_cell BK464.out 0).trans rfl; have hcz14_1 : w12.cell? ⟨gb464, 1, none⟩ = some (.int .i64 0) := (blk_cell BK464.out 1).trans rfl; have hcz14_2 : w12.cell? ⟨gb464, 2, none⟩ = some (.int .u64 0) := (blk_cell BK464.out 2).trans rfl; have hfz14_0 := blk_frozen BK464.out 0; have hfz14_1 := blk_frozen BK464.out 1; have hfz14_2 := blk_frozen BK464.out 2))
                repeat (go_quiet (first | ((with_reducible refine gate_dst (N := 4) rfl ?_); (try (refine gate_guard (by rfl) ?_; dsimp only)); refine box_event ?hg (N := 4) ?hd (cs := #[.int .i64 0, .int .i64 0, .int .u64 0]) (t := 46) ?hr ?_; (case hd => rfl); (case hg => rfl); (case hr => first | (go_simp; done) | (go_simp; rfl)); intro gb464 hg w12 hbox hb; have n0_ := Aside0.mk (blk_below (g := gb462) (o := .cells #[.int .i64 a0_0, .int .u64 a0_1, .int .i64 a0_2, .int .u64 a0_3, .int .u64 a0_4, .int .i64 a0_5, .int .i64 a0_6, .string a0_7, .string a0_8, .string a0_9, .slice (some ad463) l0_10.length c0_10, .slice A0_11 l0_11.length c0_11] 43 (0, 0)) (by (with_reducible repeat (first | refine blk_drewN ?_ _ | refine blk_drew ?_ | refine blk_alloc ?_ _)); exact BK462.out) hb); have n1_ := Aside0.mk (below_step (by repeat (first | (with_reducible first | exact HB.out | apply below_alloc | apply pw_below_drewN | apply below_drew1 | refine below_set ?_ GE462.out) | exact HB.out)) hb); have n2_ := Aside0.mk (hbox); have n3_ := Aside0.mk ((by rw [hg]; exact (below_size (by repeat (first | (with_reducible first | exact HB.out | apply below_alloc | apply pw_below_drewN | apply below_drew1 | refine below_set ?_ GE462.out) | exact HB.out))) : w.heap.size ≤ gb464)); have n4_ := Aside0.mk ((by rw [hg]; exact (below_size (by repeat (first | (with_reducible first | exact HB.out | apply below_alloc | apply pw_below_drewN | apply below_drew1 | refine below_set ?_ GE462.out) | exact HB.out))) : w.heap.size ≤ gb464)); have n5_ := Aside0.mk ((by rw [hg]; exact Nat.ne_of_lt (blk_lt (g := gb462) (o := .cells #[.int .i64 a0_0, .int .u64 a0_1, .int .i64 a0_2, .int .u64 a0_3, .int .u64 a0_4, .int .i64 a0_5, .int .i64 a0_6, .string a0_7, .string a0_8, .string a0_9, .slice (some ad463) l0_10.length c0_10, .slice A0_11 l0_11.length c0_11] 43 (0, 0)) (by (with_reducible repeat (first | refine blk_drewN ?_ _ | refine blk_drew ?_ | refine blk_alloc ?_ _)); exact BK462.out)) : gb462 ≠ gb464)); have n6_ := Aside0.mk ((by rw [hg]; exact Nat.ne_of_gt (blk_lt (g := gb462) (o := .cells #[.int .i64 a0_0, .int .u64 a0_1, .int .i64 a0_2, .int .u64 a0_3, .int .u64 a0_4, .int .i64 a0_5, .int .i64 a0_6, .string a0_7, .string a0_8, .string a0_9, .slice (some ad463) l0_10.length c0_10, .slice A0_11 l0_11.length c0_11] 43 (0, 0)) (by (with_reducible repeat (first | refine blk_drewN ?_ _ | refine blk_drew ?_ | refine blk_alloc ?_ _)); exact BK462.out)) : gb464 ≠ gb462)); clear BK462; clear HB; have BK462 := n0_; have HB := n1_; have BK464 := n2_; have GW464 := n3_; have GE464 := n4_; have NB462_464 := n5_; have NB464_462 := n6_; clear n0_ n1_ n2_ n3_ n4_ n5_ n6_; clear hb hbox hg; have hnb13 := NB464_462.out; have hnc13 := NB462_464.out; have hcz14_0 : w12.cell? ⟨gb464, 0, none⟩ = some (.int .i64 0) := (blk_cell BK464.out 0).trans rfl; have hcz14_1 : w12.cell? ⟨gb464, 1, none⟩ = some (.int .i64 0) := (blk_cell BK464.out 1).trans rfl; have hcz14_2 : w12.cell? ⟨gb464, 2, none⟩ = some (.int .u64 0) := (blk_cell BK464.out 2).trans rfl; have hfz14_0 := blk_frozen BK464.out 0; have hfz14_1 := blk_frozen BK464.out 1; have hfz14_2 := blk_frozen BK464.out 2)); go_upto_region 7 with (first | ((with_reducible refine gate_dst (N := 4) rfl ?_); (try (refine gate_guard (by rfl) ?_; dsimp only)); refine box_event ?hg (N := 4) ?hd (cs := #[.int .i64 0, .int .i64 0, .int .u64 0]) (t := 46) ?hr ?_; (case hd => rfl); (case hg => rfl); (case hr => first | (go_simp; done) | (go_simp; rfl)); intro gb464 hg w12 hbox hb; have n0_ := Aside0.mk (blk_below (g := gb462) (o := .cells #[.int .i64 a0_0, .int .u64 a0_1, .int .i64 a0_2, .int .u64 a0_3, .int .u64 a0_4, .int .i64 a0_5, .int .i64 a0_6, .string a0_7, .string a0_8, .string a0_9, .slice (some ad463) l0_10.length c0_10, .slice A0_11 l0_11.length c0_11] 43 (0, 0)) (by (with_reducible repeat (first | refine blk_drewN ?_ _ | refine blk_drew ?_ | refine blk_alloc ?_ _)); exact BK462.out) hb); have n1_ := Aside0.mk (below_step (by repeat (first | (with_reducible first | exact HB.out | apply below_alloc | apply pw_below_drewN | apply below_drew1 | refine below_set ?_ GE462.out) | exact HB.out)) hb); have n2_ := Aside0.mk (hbox); have n3_ := Aside0.mk ((by rw [hg]; exact (below_size (by repeat (first | (with_reducible first | exact HB.out | apply below_alloc | apply pw_below_drewN | apply below_drew1 | refine below_set ?_ GE462.out) | exact HB.out))) : w.heap.size ≤ gb464)); have n4_ := Aside0.mk ((by rw [hg]; exact (below_size (by repeat (first | (with_reducible first | exact HB.out | apply below_alloc | apply pw_below_drewN | apply below_drew1 | refine below_set ?_ GE462.out) | exact HB.out))) : w.heap.size ≤ gb464)); have n5_ := Aside0.mk ((by rw [hg]; exact Nat.ne_of_lt (blk_lt (g := gb462) (o := .cells #[.int .i64 a0_0, .int .u64 a0_1, .int .i64 a0_2, .int .u64 a0_3, .int .u64 a0_4, .int .i64 a0_5, .int .i64 a0_6, .string a0_7, .string a0_8, .string a0_9, .slice (some ad463) l0_10.length c0_10, .slice A0_11 l0_11.length c0_11] 43 (0, 0)) (by (with_reducible repeat (first | refine blk_drewN ?_ _ | refine blk_drew ?_ | refine blk_alloc ?_ _)); exact BK462.out)) : gb462 ≠ gb464)); have n6_ := Aside0.mk ((by rw [hg]; exact Nat.ne_of_gt (blk_lt (g := gb462) (o := .cells #[.int .i64 a0_0, .int .u64 a0_1, .int .i64 a0_2, .int .u64 a0_3, .int .u64 a0_4, .int .i64 a0_5, .int .i64 a0_6, .string a0_7, .string a0_8, .string a0_9, .slice (some ad463) l0_10.length c0_10, .slice A0_11 l0_11.length c0_11] 43 (0, 0)) (by (with_reducible repeat (first | refine blk_drewN ?_ _ | refine blk_drew ?_ | refine blk_alloc ?_ _)); exact BK462.out)) : gb464 ≠ gb462)); clear BK462; clear HB; have BK462 := n0_; have HB := n1_; have BK464 := n2_; have GW464 := n3_; have GE464 := n4_; have NB462_464 := n5_; have NB464_462 := n6_; clear n0_ n1_ n2_ n3_ n4_ n5_ n6_; clear hb hbox hg; have hnb13 := NB464_462.out; have hnc13 := NB462_464.out; have hcz14_0 : w12.cell? ⟨gb464, 0, none⟩ = some (.int .i64 0) := (blk_cell BK464.out 0).trans rfl; have hcz14_1 : w12.cell? ⟨gb464, 1, none⟩ = some (.int .i64 0) := (blk_cell BK464.out 1).trans rfl; have hcz14_2 : w12.cell? ⟨gb464, 2, none⟩ = some (.int .u64 0) := (blk_cell BK464.out 2).trans rfl; have hfz14_0 := blk_frozen BK464.out 0; have hfz14_1 := blk_frozen BK464.out 1; have hfz14_2 := blk_frozen BK464.out 2)))
                (try simp only [Act.put, List.setIfInBounds_toArray, List.set_cons_zero, List.set_cons_succ])
                go_cut [52] (fun v52 wc => ∃ (kq : Nat) (x52_9 : Bool), v52 = .bool x52_9 ∧ Aside0 (flotillaref05_Rows.j2 kq x3_2 x52_9 a0_0 a0_1 a0_2 a0_3 a0_4 a0_5 a0_6 a0_7 a0_8 a0_9 l0_10 l0_11 ((rd_TGTxn l0_10 x3_2).f0) ((rd_TGTxn l0_10 x3_2).f1) ((rd_TGTxn l0_10 x3_2).f2) = some r) ∧ Aside0 (kq ≤ k2) ∧ Aside0 (wc.heap[gb462]? = some (.cells #[.int .i64 a0_0, .int .u64 a0_1, .int .i64 a0_2, .int .u64 a0_3, .int .u64 a0_4, .int .i64 a0_5, .int .i64 a0_6, .string a0_7, .string a0_8, .string a0_9, (.slice (some ad463) l0_10.length c0_10), (.slice A0_11 l0_11.length c0_11)] 43 (0, 0))) ∧ Aside0 (wc.heap[gb464]? = some (.cells #[.int .i64 ((rd_TGTxn l0_10 x3_2).f0), .int .i64 ((rd_TGTxn l0_10 x3_2).f1), .int .u64 ((rd_TGTxn l0_10 x3_2).f2)] 46 (0, 0))) ∧ Aside0 (Below w.heap.size w wc))
                case first =>
                  have H := HC10.out
                  clear HC10
                  by_cases c15 : ((rd_TGTxn l0_10 x3_2).f0) < 1
                  · rw [if_pos c15] at H
                    have c15b0 : decide (((rd_TGTxn l0_10 x3_2).f0) < 1) = true := decide_eq_true c15
                    clear c15
                    (first | rw [c15b0] | (simp only [i64_w, i32_w]; rw [c15b0]) | skip)
                    have H' := Aside0.mk H
                    clear H
                    have hnb16 := NB464_462.out
                    have hnc16 := NB462_464.out
                    have hcz17_0 : w12.cell? ⟨gb464, 0, none⟩ = some (.int .i64 0) := (blk_cell BK464.out 0).trans rfl
                    have hcz17_1 : w12.cell? ⟨gb464, 1, none⟩ = some (.int .i64 0) := (blk_cell BK464.out 1).trans rfl
                    have hcz17_2 : w12.cell? ⟨gb464, 2, none⟩ = some (.int .u64 0) := (blk_cell BK464.out 2).trans rfl
                    have hfz17_0 := blk_frozen BK464.out 0
                    have hfz17_1 := blk_frozen BK464.out 1
                    have hfz17_2 := blk_frozen BK464.out 2
                    go_wp2
                    repeat (go_quiet (fail); try go_wp2)
                    go_meet
                    case rel => exact ⟨_, (true), (by first | rfl | (simp; done) | (simp [*]; done)), H', ⟨by have := HJ1.out; have := HK2.out; first | omega | exact Nat.le_refl _⟩, ⟨by (with_reducible repeat (first | refine blk_drewN ?_ _ | refine blk_drew ?_ | refine blk_alloc ?_ _)); refine blk_far ?_ NB462_464.out _; (with_reducible repeat (first | refine blk_drewN ?_ _ | refine blk_drew ?_ | refine blk_alloc ?_ _)); refine blk_far ?_ NB462_464.out _; (with_reducible repeat (first | refine blk_drewN ?_ _ | refine blk_drew ?_ | refine blk_alloc ?_ _)); refine blk_far ?_ NB462_464.out _; (with_reducible repeat (first | refine blk_drewN ?_ _ | refine blk_drew ?_ | refine blk_alloc ?_ _)); exact BK462.out⟩, ⟨by (with_reducible repeat (first | refine blk_drewN ?_ _ | refine blk_drew ?_ | refine blk_alloc ?_ _)); refine blk_put (cs := #[.int .i64 ((rd_TGTxn l0_10 x3_2).f0), .int .i64 ((rd_TGTxn l0_10 x3_2).f1), .int .u64 0]) ?_ 2 _ rfl; (with_reducible repeat (first | refine blk_drewN ?_ _ | refine blk_drew ?_ | refine blk_alloc ?_ _)); refine blk_put (cs := #[.int .i64 ((rd_TGTxn l0_10 x3_2).f0), .int .i64 0, .int .u64 0]) ?_ 1 _ rfl; (with_reducible repeat (first | refine blk_drewN ?_ _ | refine blk_drew ?_ | refine blk_alloc ?_ _)); refine blk_put (cs := #[.int .i64 0, .int .i64 0, .int .u64 0]) ?_ 0 _ rfl; (with_reducible repeat (first | refine blk_drewN ?_ _ | refine blk_drew ?_ | refine blk_alloc ?_ _)); exact BK464.out⟩, ⟨by repeat (first | (with_reducible first | exact HB.out | apply below_alloc | apply pw_below_drewN | apply below_drew1 | refine below_set ?_ GE462.out | refine below_set ?_ GE464.out) | exact HB.out)⟩⟩
                  · rw [if_neg c15] at H
                    have c15b0 : decide (((rd_TGTxn l0_10 x3_2).f0) < 1) = false := decide_eq_false c15
                    clear c15
                    (first | rw [c15b0] | (simp only [i64_w, i32_w]; rw [c15b0]) | skip)
                    by_cases c18 : ((rd_TGTxn l0_10 x3_2).f0) > 1073741824
                    · rw [if_pos c18] at H
                      have c18b0 : decide (1073741824 < ((rd_TGTxn l0_10 x3_2).f0)) = true := decide_eq_true c18
                      clear c18
                      have H' := Aside0.mk H
                      clear H
                      have hnb19 := NB464_462.out
                      have hnc19 := NB462_464.out
                      have hcz20_0 : w12.cell? ⟨gb464, 0, none⟩ = some (.int .i64 0) := (blk_cell BK464.out 0).trans rfl
                      have hcz20_1 : w12.cell? ⟨gb464, 1, none⟩ = some (.int .i64 0) := (blk_cell BK464.out 1).trans rfl
                      have hcz20_2 : w12.cell? ⟨gb464, 2, none⟩ = some (.int .u64 0) := (blk_cell BK464.out 2).trans rfl
                      have hfz20_0 := blk_frozen BK464.out 0
                      have hfz20_1 := blk_frozen BK464.out 1
                      have hfz20_2 := blk_frozen BK464.out 2
                      go_wp2
                      repeat (go_quiet (fail); try go_wp2)
                      go_meet
                      case rel => exact ⟨_, (true), (by first | rfl | (simp; done) | (simp [*]; done)), H', ⟨by have := HJ1.out; have := HK2.out; first | omega | exact Nat.le_refl _⟩, ⟨by (with_reducible repeat (first | refine blk_drewN ?_ _ | refine blk_drew ?_ | refine blk_alloc ?_ _)); refine blk_far ?_ NB462_464.out _; (with_reducible repeat (first | refine blk_drewN ?_ _ | refine blk_drew ?_ | refine blk_alloc ?_ _)); refine blk_far ?_ NB462_464.out _; (with_reducible repeat (first | refine blk_drewN ?_ _ | refine blk_drew ?_ | refine blk_alloc ?_ _)); refine blk_far ?_ NB462_464.out _; (with_reducible repeat (first | refine blk_drewN ?_ _ | refine blk_drew ?_ | refine blk_alloc ?_ _)); exact BK462.out⟩, ⟨by (with_reducible repeat (first | refine blk_drewN ?_ _ | refine blk_drew ?_ | refine blk_alloc ?_ _)); refine blk_put (cs := #[.int .i64 ((rd_TGTxn l0_10 x3_2).f0), .int .i64 ((rd_TGTxn l0_10 x3_2).f1), .int .u64 0]) ?_ 2 _ rfl; (with_reducible repeat (first | refine blk_drewN ?_ _ | refine blk_drew ?_ | refine blk_alloc ?_ _)); refine blk_put (cs := #[.int .i64 ((rd_TGTxn l0_10 x3_2).f0), .int .i64 0, .int .u64 0]) ?_ 1 _ rfl; (with_reducible repeat (first | refine blk_drewN ?_ _ | refine blk_drew ?_ | refine blk_alloc ?_ _)); refine blk_put (cs := #[.int .i64 0, .int .i64 0, .int .u64 0]) ?_ 0 _ rfl; (with_reducible repeat (first | refine blk_drewN ?_ _ | refine blk_drew ?_ | refine blk_alloc ?_ _)); exact BK464.out⟩, ⟨by repeat (first | (with_reducible first | exact HB.out | apply below_alloc | apply pw_below_drewN | apply below_drew1 | refine below_set ?_ GE462.out | refine below_set ?_ GE464.out) | exact HB.out)⟩⟩
                    · rw [if_neg c18] at H
                      have c18b0 : decide (1073741824 < ((rd_TGTxn l0_10 x3_2).f0)) = false := decide_eq_false c18
                      clear c18
                      by_cases c21 : ((rd_TGTxn l0_10 x3_2).f1) < 0
                      · rw [if_pos c21] at H
                        have c21b0 : decide (((rd_TGTxn l0_10 x3_2).f1) < 0) = true := decide_eq_true c21
                        clear c21
                        have H' := Aside0.mk H
                        clear H
                        have hnb22 := NB464_462.out
                        have hnc22 := NB462_464.out
                        have hcz23_0 : w12.cell? ⟨gb464, 0, none⟩ = some (.int .i64 0) := (blk_cell BK464.out 0).trans rfl
                        have hcz23_1 : w12.cell? ⟨gb464, 1, none⟩ = some (.int .i64 0) := (blk_cell BK464.out 1).trans rfl
                        have hcz23_2 : w12.cell? ⟨gb464, 2, none⟩ = some (.int .u64 0) := (blk_cell BK464.out 2).trans rfl
                        have hfz23_0 := blk_frozen BK464.out 0
                        have hfz23_1 := blk_frozen BK464.out 1
                        have hfz23_2 := blk_frozen BK464.out 2
                        go_wp2
                        repeat (go_quiet (fail); try go_wp2)
                        go_meet
                        case rel => exact ⟨_, (true), (by first | rfl | (simp; done) | (simp [*]; done)), H', ⟨by have := HJ1.out; have := HK2.out; first | omega | exact Nat.le_refl _⟩, ⟨by (with_reducible repeat (first | refine blk_drewN ?_ _ | refine blk_drew ?_ | refine blk_alloc ?_ _)); refine blk_far ?_ NB462_464.out _; (with_reducible repeat (first | refine blk_drewN ?_ _ | refine blk_drew ?_ | refine blk_alloc ?_ _)); refine blk_far ?_ NB462_464.out _; (with_reducible repeat (first | refine blk_drewN ?_ _ | refine blk_drew ?_ | refine blk_alloc ?_ _)); refine blk_far ?_ NB462_464.out _; (with_reducible repeat (first | refine blk_drewN ?_ _ | refine blk_drew ?_ | refine blk_alloc ?_ _)); exact BK462.out⟩, ⟨by (with_reducible repeat (first | refine blk_drewN ?_ _ | refine blk_drew ?_ | refine blk_alloc ?_ _)); refine blk_put (cs := #[.int .i64 ((rd_TGTxn l0_10 x3_2).f0), .int .i64 ((rd_TGTxn l0_10 x3_2).f1), .int .u64 0]) ?_ 2 _ rfl; (with_reducible repeat (first | refine blk_drewN ?_ _ | refine blk_drew ?_ | refine blk_alloc ?_ _)); refine blk_put (cs := #[.int .i64 ((rd_TGTxn l0_10 x3_2).f0), .int .i64 0, .int .u64 0]) ?_ 1 _ rfl; (with_reducible repeat (first | refine blk_drewN ?_ _ | refine blk_drew ?_ | refine blk_alloc ?_ _)); refine blk_put (cs := #[.int .i64 0, .int .i64 0, .int .u64 0]) ?_ 0 _ rfl; (with_reducible repeat (first | refine blk_drewN ?_ _ | refine blk_drew ?_ | refine blk_alloc ?_ _)); exact BK464.out⟩, ⟨by repeat (first | (with_reducible first | exact HB.out | apply below_alloc | apply pw_below_drewN | apply below_drew1 | refine below_set ?_ GE462.out | refine below_set ?_ GE464.out) | exact HB.out)⟩⟩
                      · rw [if_neg c21] at H
                        have c21b0 : decide (((rd_TGTxn l0_10 x3_2).f1) < 0) = false := decide_eq_false c21
                        clear c21
                        by_cases c24 : ((rd_TGTxn l0_10 x3_2).f1) > 2
                        · rw [if_pos c24] at H
                          have c24b0 : decide (2 < ((rd_TGTxn l0_10 x3_2).f1)) = true := decide_eq_true c24
                          clear c24
                          have H' := Aside0.mk H
                          clear H
                          have hnb25 := NB464_462.out
                          have hnc25 := NB462_464.out
                          have hcz26_0 : w12.cell? ⟨gb464, 0, none⟩ = some (.int .i64 0) := (blk_cell BK464.out 0).trans rfl
                          have hcz26_1 : w12.cell? ⟨gb464, 1, none⟩ = some (.int .i64 0) := (blk_cell BK464.out 1).trans rfl
                          have hcz26_2 : w12.cell? ⟨gb464, 2, none⟩ = some (.int .u64 0) := (blk_cell BK464.out 2).trans rfl
                          have hfz26_0 := blk_frozen BK464.out 0
                          have hfz26_1 := blk_frozen BK464.out 1
                          have hfz26_2 := blk_frozen BK464.out 2
                          go_wp2
                          repeat (go_quiet (fail); try go_wp2)
                          go_meet
                          case rel => exact ⟨_, (true), (by first | rfl | (simp; done) | (simp [*]; done)), H', ⟨by have := HJ1.out; have := HK2.out; first | omega | exact Nat.le_refl _⟩, ⟨by (with_reducible repeat (first | refine blk_drewN ?_ _ | refine blk_drew ?_ | refine blk_alloc ?_ _)); refine blk_far ?_ NB462_464.out _; (with_reducible repeat (first | refine blk_drewN ?_ _ | refine blk_drew ?_ | refine blk_alloc ?_ _)); refine blk_far ?_ NB462_464.out _; (with_reducible repeat (first | refine blk_drewN ?_ _ | refine blk_drew ?_ | refine blk_alloc ?_ _)); refine blk_far ?_ NB462_464.out _; (with_reducible repeat (first | refine blk_drewN ?_ _ | refine blk_drew ?_ | refine blk_alloc ?_ _)); exact BK462.out⟩, ⟨by (with_reducible repeat (first | refine blk_drewN ?_ _ | refine blk_drew ?_ | refine blk_alloc ?_ _)); refine blk_put (cs := #[.int .i64 ((rd_TGTxn l0_10 x3_2).f0), .int .i64 ((rd_TGTxn l0_10 x3_2).f1), .int .u64 0]) ?_ 2 _ rfl; (with_reducible repeat (first | refine blk_drewN ?_ _ | refine blk_drew ?_ | refine blk_alloc ?_ _)); refine blk_put (cs := #[.int .i64 ((rd_TGTxn l0_10 x3_2).f0), .int .i64 0, .int .u64 0]) ?_ 1 _ rfl; (with_reducible repeat (first | refine blk_drewN ?_ _ | refine blk_drew ?_ | refine blk_alloc ?_ _)); refine blk_put (cs := #[.int .i64 0, .int .i64 0, .int .u64 0]) ?_ 0 _ rfl; (with_reducible repeat (first | refine blk_drewN ?_ _ | refine blk_drew ?_ | refine blk_alloc ?_ _)); exact BK464.out⟩, ⟨by repeat (first | (with_reducible first | exact HB.out | apply below_alloc | apply pw_below_drewN | apply below_drew1 | refine below_set ?_ GE462.out | refine below_set ?_ GE464.out) | exact HB.out)⟩⟩
                        · rw [if_neg c24] at H
                          have c24b0 : decide (2 < ((rd_TGTxn l0_10 x3_2).f1)) = false := decide_eq_false c24
                          clear c24
                          replace H := Option.bind_eq_some_iff.mp H
                          obtain ⟨t465, A270, H⟩ := H
                          replace H : (flotillaref05_Rows.j2 k2 x3_2 (!t465) a0_0 a0_1 a0_2 a0_3 a0_4 a0_5 a0_6 a0_7 a0_8 a0_9 l0_10 l0_11 ((rd_TGTxn l0_10 x3_2).f0) ((rd_TGTxn l0_10 x3_2).f1) ((rd_TGTxn l0_10 x3_2).f2)) = some r := H
                          have A27 := Aside0.mk A270
                          clear A270
                          have H' := Aside0.mk H
                          clear H
                          have hnb28 := NB464_462.out
                          have hnc28 := NB462_464.out
                          have hcz29_0 : w12.cell? ⟨gb464, 0, none⟩ = some (.int .i64 0) := (blk_cell BK464.out 0).trans rfl
                          have hcz29_1 : w12.cell? ⟨gb464, 1, none⟩ = some (.int .i64 0) := (blk_cell BK464.out 1).trans rfl
                          have hcz29_2 : w12.cell? ⟨gb464, 2, none⟩ = some (.int .u64 0) := (blk_cell BK464.out 2).trans rfl
                          have hfz29_0 := blk_frozen BK464.out 0
                          have hfz29_1 := blk_frozen BK464.out 1
                          have hfz29_2 := blk_frozen BK464.out 2
                          go_wp2_with (first | (go_at_call 50; (with_reducible refine (flotillaref05_Numbered.calls ((rd_TGTxn l0_10 x3_2).f2) t465 _ A27.out).mono ?_); rintro e w' ⟨rfl, ⟨nd, rfl⟩⟩; (try first | exact ⟨rfl, _, World.drewN_drewN _ _ _⟩ | exact ⟨rfl, _, Eq.trans (World.drewN_drewN _ _ _) (congrArg (World.drewN _) (Nat.add_assoc _ _ _))⟩)))
                          repeat (go_quiet (first | (go_at_call 50; (with_reducible refine (flotillaref05_Numbered.calls ((rd_TGTxn l0_10 x3_2).f2) t465 _ A27.out).mono ?_); rintro e w' ⟨rfl, ⟨nd, rfl⟩⟩; (try first | exact ⟨rfl, _, World.drewN_drewN _ _ _⟩ | exact ⟨rfl, _, Eq.trans (World.drewN_drewN _ _ _) (congrArg (World.drewN _) (Nat.add_assoc _ _ _))⟩))); try go_wp2_with (first | (go_at_call 50; (with_reducible refine (flotillaref05_Numbered.calls ((rd_TGTxn l0_10 x3_2).f2) t465 _ A27.out).mono ?_); rintro e w' ⟨rfl, ⟨nd, rfl⟩⟩; (try first | exact ⟨rfl, _, World.drewN_drewN _ _ _⟩ | exact ⟨rfl, _, Eq.trans (World.drewN_drewN _ _ _) (congrArg (World.drewN _) (Nat.add_assoc _ _ _))⟩))))
                          go_meet
                          case rel => exact ⟨_, (!t465), (by first | rfl | (simp; done) | (simp [*]; done)), H', ⟨by have := HJ1.out; have := HK2.out; first | omega | exact Nat.le_refl _⟩, ⟨by (with_reducible repeat (first | refine blk_drewN ?_ _ | refine blk_drew ?_ | refine blk_alloc ?_ _)); refine blk_far ?_ NB462_464.out _; (with_reducible repeat (first | refine blk_drewN ?_ _ | refine blk_drew ?_ | refine blk_alloc ?_ _)); refine blk_far ?_ NB462_464.out _; (with_reducible repeat (first | refine blk_drewN ?_ _ | refine blk_drew ?_ | refine blk_alloc ?_ _)); refine blk_far ?_ NB462_464.out _; (with_reducible repeat (first | refine blk_drewN ?_ _ | refine blk_drew ?_ | refine blk_alloc ?_ _)); exact BK462.out⟩, ⟨by (with_reducible repeat (first | refine blk_drewN ?_ _ | refine blk_drew ?_ | refine blk_alloc ?_ _)); refine blk_put (cs := #[.int .i64 ((rd_TGTxn l0_10 x3_2).f0), .int .i64 ((rd_TGTxn l0_10 x3_2).f1), .int .u64 0]) ?_ 2 _ rfl; (with_reducible repeat (first | refine blk_drewN ?_ _ | refine blk_drew ?_ | refine blk_alloc ?_ _)); refine blk_put (cs := #[.int .i64 ((rd_TGTxn l0_10 x3_2).f0), .int .i64 0, .int .u64 0]) ?_ 1 _ rfl; (with_reducible repeat (first | refine blk_drewN ?_ _ | refine blk_drew ?_ | refine blk_alloc ?_ _)); refine blk_put (cs := #[.int .i64 0, .int .i64 0, .int .u64 0]) ?_ 0 _ rfl; (with_reducible repeat (first | refine blk_drewN ?_ _ | refine blk_drew ?_ | refine blk_alloc ?_ _)); exact BK464.out⟩, ⟨by repeat (first | (with_reducible first | exact HB.out | apply below_alloc | apply pw_below_drewN | apply below_drew1 | refine below_set ?_ GE462.out | refine below_set ?_ GE464.out) | exact HB.out)⟩⟩
                case rest =>
                  clear HC10
                  try clear c1
                  try clear c2
                  try clear p2
                  try clear c4
                  try clear c4b0
                  try clear c4b1
                  try clear p4
                  try clear q4
                  try clear hx4
                  try clear c5
                  try clear c7
                  try clear c8
                  try clear c8b0
                  try clear c9
                  try clear c9b0
                  try clear c13
                  try clear c15
                  try clear c15b0
                  try clear c16
                  try clear c18
                  try clear c18b0
                  try clear c19
                  try clear c21
                  try clear c21b0
                  try clear c22
                  try clear c24
                  try clear c24b0
                  try clear c25
                  try clear c28
                  try clear hcz11_0
                  try clear hcz11_1
                  try clear hcz11_10
                  try clear hcz11_11
                  try clear hcz11_2
                  try clear hcz11_3
                  try clear hcz11_4
                  try clear hcz11_5
                  try clear hcz11_6
                  try clear hcz11_7
                  try clear hcz11_8
                  try clear hcz11_9
                  try clear hcz14_0
                  try clear hcz14_1
                  try clear hcz14_2
                  try clear hcz17_0
                  try clear hcz17_1
                  try clear hcz17_2
                  try clear hcz20_0
                  try clear hcz20_1
                  try clear hcz20_2
                  try clear hcz23_0
                  try clear hcz23_1
                  try clear hcz23_2
                  try clear hcz26_0
                  try clear hcz26_1
                  try clear hcz26_2
                  try clear hcz29_0
                  try clear hcz29_1
                  try clear hcz29_2
                  try clear hcz5_0
                  try clear hcz5_1
                  try clear hcz5_10
                  try clear hcz5_11
                  try clear hcz5_2
                  try clear hcz5_3
                  try clear hcz5_4
                  try clear hcz5_5
                  try clear hcz5_6
                  try clear hcz5_7
                  try clear hcz5_8
                  try clear hcz5_9
                  try clear hcz6_0
                  try clear hcz6_1
                  try clear hcz6_10
                  try clear hcz6_11
                  try clear hcz6_2
                  try clear hcz6_3
                  try clear hcz6_4
                  try clear hcz6_5
                  try clear hcz6_6
                  try clear hcz6_7
                  try clear hcz6_8
                  try clear hcz6_9
                  try clear hfz11_0
                  try clear hfz11_1
                  try clear hfz11_10
                  try clear hfz11_11
                  try clear hfz11_2
                  try clear hfz11_3
                  try clear hfz11_4
                  try clear hfz11_5
                  try clear hfz11_6
                  try clear hfz11_7
                  try clear hfz11_8
                  try clear hfz11_9
                  try clear hfz14_0
                  try clear hfz14_1
                  try clear hfz14_2
                  try clear hfz17_0
                  try clear hfz17_1
                  try clear hfz17_2
                  try clear hfz20_0
                  try clear hfz20_1
                  try clear hfz20_2
                  try clear hfz23_0
                  try clear hfz23_1
                  try clear hfz23_2
                  try clear hfz26_0
                  try clear hfz26_1
                  try clear hfz26_2
                  try clear hfz29_0
                  try clear hfz29_1
                  try clear hfz29_2
                  try clear hfz5_0
                  try clear hfz5_1
                  try clear hfz5_10
                  try clear hfz5_11
                  try clear hfz5_2
                  try clear hfz5_3
                  try clear hfz5_4
                  try clear hfz5_5
                  try clear hfz5_6
                  try clear hfz5_7
                  try clear hfz5_8
                  try clear hfz5_9
                  try clear hfz6_0
                  try clear hfz6_1
                  try clear hfz6_10
                  try clear hfz6_11
                  try clear hfz6_2
                  try clear hfz6_3
                  try clear hfz6_4
                  try clear hfz6_5
                  try clear hfz6_6
                  try clear hfz6_7
                  try clear hfz6_8
                  try clear hfz6_9
                  try clear hx463_0
                  try clear hx463_1
                  try clear hx463_2
                  try clear p2
                  try clear p463
                  try clear q463
                  obtain ⟨kq, x52_9, rfl, HA, HJ9, BK462, BK464, HB⟩ := hcut
                  cases kq with
                  | zero => exact absurd HA.out (by simp [flotillaref05_Rows.j2])
                  | succ kj9 =>
                    have H := HA.out
                    clear HA
                    simp only [flotillaref05_Rows.j2] at H
                    by_cases c30 : x52_9 = true
                    · subst c30
                      have H1 : (some false) = some r := by rw [if_pos rfl] at H; exact H
                      clear H
                      have H := H1
                      clear H1
                      obtain rfl := Option.some.inj H
                      go_wp2
                      repeat (go_quiet (fail); try go_wp2)
                      go_ret
                      exact ⟨by first | rfl | (simp [errW_none, errW_some] <;> rfl) | (simp [*, errW_none, errW_some] <;> rfl), by repeat (first | (with_reducible first | exact HB.out | apply below_alloc | apply pw_below_drewN | apply below_drew1 | refine below_set ?_ GE462.out | refine below_set ?_ GE464.out) | exact HB.out)⟩
                    · replace c30 := Bool.eq_false_iff.mpr c30
                      subst c30
                      have H1 : (if x3_2 > 0 then (if 0 ≤ (wrap64 (x3_2 - 1)) then (if (wrap64 (x3_2 - 1)) < (l0_10.length : Int) then (if ((rd_TGTxn l0_10 (wrap64 (x3_2 - 1))).f0) ≥ ((rd_TGTxn l0_10 x3_2).f0) then (some false) else (flotillaref05_Rows.l0 kj9 (wrap64 (x3_2 + 1)) a0_0 a0_1 a0_2 a0_3 a0_4 a0_5 a0_6 a0_7 a0_8 a0_9 l0_10 l0_11)) else (none)) else (none)) else (flotillaref05_Rows.l0 kj9 (wrap64 (x3_2 + 1)) a0_0 a0_1 a0_2 a0_3 a0_4 a0_5 a0_6 a0_7 a0_8 a0_9 l0_10 l0_11)) = some r := by rw [if_neg (show ¬ (false = true) by decide)] at H; exact H
                      clear H
                      have H := H1
                      clear H1
                      by_cases c31 : x3_2 > 0
                      · rw [if_pos c31] at H
                        have c31b0 : decide (0 < x3_2) = true := decide_eq_true c31
                        clear c31
                        obtain ⟨ji32, hji32⟩ : ∃ j_ : Int, (wrap64 (x3_2 - 1)) = j_ := ⟨_, rfl⟩
                        replace H : (if 0 ≤ (ji32) then (if (ji32) < (l0_10.length : Int) then (if ((rd_TGTxn l0_10 (ji32)).f0) ≥ ((rd_TGTxn l0_10 x3_2).f0) then (some false) else (flotillaref05_Rows.l0 kj9 (wrap64 (x3_2 + 1)) a0_0 a0_1 a0_2 a0_3 a0_4 a0_5 a0_6 a0_7 a0_8 a0_9 l0_10 l0_11)) else (none)) else (none)) = some r := by first | (rw [hji32] at H; exact H) | (simp only [hji32] at H ⊢; exact H)
                        have hji32w : (IntKind.i64.wrap (x3_2 - 1)) = ji32 := (i64_w _).trans hji32
                        by_cases c33 : 0 ≤ (ji32)
                        · rw [if_pos c33] at H
                          have c33b0 : decide (0 ≤ (ji32)) = true := decide_eq_true c33
                          clear c33
                          by_cases c34 : (ji32) < (l0_10.length : Int)
                          · rw [if_pos c34] at H
                            have c34b0 : decide ((ji32) < (l0_10.length : Int)) = true := decide_eq_true c34
                            clear c34
                            by_cases c35 : ((rd_TGTxn l0_10 (ji32)).f0) ≥ ((rd_TGTxn l0_10 x3_2).f0)
                            · rw [if_pos c35] at H
                              have c35b0 : decide (((rd_TGTxn l0_10 x3_2).f0) ≤ ((rd_TGTxn l0_10 (ji32)).f0)) = true := decide_eq_true c35
                              clear c35
                              obtain rfl := Option.some.inj H
                              have hnb36 := NB462_464.out
                              have hnc36 := NB464_462.out
                              have hcz37_0 : wc.cell? ⟨gb462, 0, none⟩ = some (.int .i64 a0_0) := (blk_cell BK462.out 0).trans rfl
                              have hcz37_1 : wc.cell? ⟨gb462, 1, none⟩ = some (.int .u64 a0_1) := (blk_cell BK462.out 1).trans rfl
                              have hcz37_2 : wc.cell? ⟨gb462, 2, none⟩ = some (.int .i64 a0_2) := (blk_cell BK462.out 2).trans rfl
                              have hcz37_3 : wc.cell? ⟨gb462, 3, none⟩ = some (.int .u64 a0_3) := (blk_cell BK462.out 3).trans rfl
                              have hcz37_4 : wc.cell? ⟨gb462, 4, none⟩ = some (.int .u64 a0_4) := (blk_cell BK462.out 4).trans rfl
                              have hcz37_5 : wc.cell? ⟨gb462, 5, none⟩ = some (.int .i64 a0_5) := (blk_cell BK462.out 5).trans rfl
                              have hcz37_6 : wc.cell? ⟨gb462, 6, none⟩ = some (.int .i64 a0_6) := (blk_cell BK462.out 6).trans rfl
                              have hcz37_7 : wc.cell? ⟨gb462, 7, none⟩ = some (.string a0_7) := (blk_cell BK462.out 7).trans rfl
                              have hcz37_8 : wc.cell? ⟨gb462, 8, none⟩ = some (.string a0_8) := (blk_cell BK462.out 8).trans rfl
                              have hcz37_9 : wc.cell? ⟨gb462, 9, none⟩ = some (.string a0_9) := (blk_cell BK462.out 9).trans rfl
                              have hcz37_10 : wc.cell? ⟨gb462, 10, none⟩ = some (.slice (some ad463) l0_10.length c0_10) := (blk_cell BK462.out 10).trans rfl
                              have hcz37_11 : wc.cell? ⟨gb462, 11, none⟩ = some (.slice A0_11 l0_11.length c0_11) := (blk_cell BK462.out 11).trans rfl
                              have hfz37_0 := blk_frozen BK462.out 0
                              have hfz37_1 := blk_frozen BK462.out 1
                              have hfz37_2 := blk_frozen BK462.out 2
                              have hfz37_3 := blk_frozen BK462.out 3
                              have hfz37_4 := blk_frozen BK462.out 4
                              have hfz37_5 := blk_frozen BK462.out 5
                              have hfz37_6 := blk_frozen BK462.out 6
                              have hfz37_7 := blk_frozen BK462.out 7
                              have hfz37_8 := blk_frozen BK462.out 8
                              have hfz37_9 := blk_frozen BK462.out 9
                              have hfz37_10 := blk_frozen BK462.out 10
                              have hfz37_11 := blk_frozen BK462.out 11
                              have p466 : 0 ≤ ((ji32) : Int) := of_decide_eq_true (by first | (with_reducible assumption) | assumption)
                              have q466 : (ji32) < (l0_10.length : Int) := of_decide_eq_true (by first | (with_reducible assumption) | assumption)
                              obtain ⟨ad466, e466, hx466_0, hx466_1, hx466_2⟩ := at_TGTxn HR0_10.out (ji32) p466 q466
                              obtain rfl : ad463 = ad466 := (by injection e466)
                              replace hx466_0 := (HB.out.cell (World.block_lt_of_cell? w _ hx466_0)).trans hx466_0
                              replace hx466_1 := (HB.out.cell (World.block_lt_of_cell? w _ hx466_1)).trans hx466_1
                              replace hx466_2 := (HB.out.cell (World.block_lt_of_cell? w _ hx466_2)).trans hx466_2
                              replace p466 := eq_true p466
                              replace q466 := eq_true q466
                              have hcz38_0 : wc.cell? ⟨gb464, 0, none⟩ = some (.int .i64 ((rd_TGTxn l0_10 x3_2).f0)) := (blk_cell BK464.out 0).trans rfl
                              have hcz38_1 : wc.cell? ⟨gb464, 1, none⟩ = some (.int .i64 ((rd_TGTxn l0_10 x3_2).f1)) := (blk_cell BK464.out 1).trans rfl
                              have hcz38_2 : wc.cell? ⟨gb464, 2, none⟩ = some (.int .u64 ((rd_TGTxn l0_10 x3_2).f2)) := (blk_cell BK464.out 2).trans rfl
                              have hfz38_0 := blk_frozen BK464.out 0
                              have hfz38_1 := blk_frozen BK464.out 1
                              have hfz38_2 := blk_frozen BK464.out 2
                              go_wp2
                              repeat (go_quiet (fail); try go_wp2)
                              go_ret
                              exact ⟨by first | rfl | (simp [errW_none, errW_some] <;> rfl) | (simp only [← hji32]; first | rfl | (simp [errW_none, errW_some] <;> rfl)) | (simp [*, errW_none, errW_some] <;> rfl), by repeat (first | (with_reducible first | exact HB.out | apply below_alloc | apply pw_below_drewN | apply below_drew1 | refine below_set ?_ GE462.out | refine below_set ?_ GE464.out) | exact HB.out)⟩
                            · rw [if_neg c35] at H
                              have c35b0 : decide (((rd_TGTxn l0_10 x3_2).f0) ≤ ((rd_TGTxn l0_10 (ji32)).f0)) = false := decide_eq_false c35
                              clear c35
                              have H' := Aside0.mk H
                              clear H
                              have hnb39 := NB462_464.out
                              have hnc39 := NB464_462.out
                              have hcz40_0 : wc.cell? ⟨gb462, 0, none⟩ = some (.int .i64 a0_0) := (blk_cell BK462.out 0).trans rfl
                              have hcz40_1 : wc.cell? ⟨gb462, 1, none⟩ = some (.int .u64 a0_1) := (blk_cell BK462.out 1).trans rfl
                              have hcz40_2 : wc.cell? ⟨gb462, 2, none⟩ = some (.int .i64 a0_2) := (blk_cell BK462.out 2).trans rfl
                              have hcz40_3 : wc.cell? ⟨gb462, 3, none⟩ = some (.int .u64 a0_3) := (blk_cell BK462.out 3).trans rfl
                              have hcz40_4 : wc.cell? ⟨gb462, 4, none⟩ = some (.int .u64 a0_4) := (blk_cell BK462.out 4).trans rfl
                              have hcz40_5 : wc.cell? ⟨gb462, 5, none⟩ = some (.int .i64 a0_5) := (blk_cell BK462.out 5).trans rfl
                              have hcz40_6 : wc.cell? ⟨gb462, 6, none⟩ = some (.int .i64 a0_6) := (blk_cell BK462.out 6).trans rfl
                              have hcz40_7 : wc.cell? ⟨gb462, 7, none⟩ = some (.string a0_7) := (blk_cell BK462.out 7).trans rfl
                              have hcz40_8 : wc.cell? ⟨gb462, 8, none⟩ = some (.string a0_8) := (blk_cell BK462.out 8).trans rfl
                              have hcz40_9 : wc.cell? ⟨gb462, 9, none⟩ = some (.string a0_9) := (blk_cell BK462.out 9).trans rfl
                              have hcz40_10 : wc.cell? ⟨gb462, 10, none⟩ = some (.slice (some ad463) l0_10.length c0_10) := (blk_cell BK462.out 10).trans rfl
                              have hcz40_11 : wc.cell? ⟨gb462, 11, none⟩ = some (.slice A0_11 l0_11.length c0_11) := (blk_cell BK462.out 11).trans rfl
                              have hfz40_0 := blk_frozen BK462.out 0
                              have hfz40_1 := blk_frozen BK462.out 1
                              have hfz40_2 := blk_frozen BK462.out 2
                              have hfz40_3 := blk_frozen BK462.out 3
                              have hfz40_4 := blk_frozen BK462.out 4
                              have hfz40_5 := blk_frozen BK462.out 5
                              have hfz40_6 := blk_frozen BK462.out 6
                              have hfz40_7 := blk_frozen BK462.out 7
                              have hfz40_8 := blk_frozen BK462.out 8
                              have hfz40_9 := blk_frozen BK462.out 9
                              have hfz40_10 := blk_frozen BK462.out 10
                              have hfz40_11 := blk_frozen BK462.out 11
                              have p466 : 0 ≤ ((ji32) : Int) := of_decide_eq_true (by first | (with_reducible assumption) | assumption)
                              have q466 : (ji32) < (l0_10.length : Int) := of_decide_eq_true (by first | (with_reducible assumption) | assumption)
                              obtain ⟨ad466, e466, hx466_0, hx466_1, hx466_2⟩ := at_TGTxn HR0_10.out (ji32) p466 q466
                              obtain rfl : ad463 = ad466 := (by injection e466)
                              replace hx466_0 := (HB.out.cell (World.block_lt_of_cell? w _ hx466_0)).trans hx466_0
                              replace hx466_1 := (HB.out.cell (World.block_lt_of_cell? w _ hx466_1)).trans hx466_1
                              replace hx466_2 := (HB.out.cell (World.block_lt_of_cell? w _ hx466_2)).trans hx466_2
                              replace p466 := eq_true p466
                              replace q466 := eq_true q466
                              have hcz41_0 : wc.cell? ⟨gb464, 0, none⟩ = some (.int .i64 ((rd_TGTxn l0_10 x3_2).f0)) := (blk_cell BK464.out 0).trans rfl
                              have hcz41_1 : wc.cell? ⟨gb464, 1, none⟩ = some (.int .i64 ((rd_TGTxn l0_10 x3_2).f1)) := (blk_cell BK464.out 1).trans rfl
                              have hcz41_2 : wc.cell? ⟨gb464, 2, none⟩ = some (.int .u64 ((rd_TGTxn l0_10 x3_2).f2)) := (blk_cell BK464.out 2).trans rfl
                              have hfz41_0 := blk_frozen BK464.out 0
                              have hfz41_1 := blk_frozen BK464.out 1
                              have hfz41_2 := blk_frozen BK464.out 2
                              go_wp2
                              repeat (go_quiet (fail); try go_wp2)
                              go_roundg kj9
                              case measure => have := HJ1.out; have := HK2.out; have := HJ9.out; omega
                              case rel => exact ⟨(wrap64 (x3_2 + 1)), (by first | rfl | (simp; done) | (simp [*]; done)), H', ⟨by have := HJ1.out; have := HK2.out; have := HJ9.out; omega⟩, ⟨by (with_reducible repeat (first | refine blk_drewN ?_ _ | refine blk_drew ?_ | refine blk_alloc ?_ _)); exact BK462.out⟩, ⟨by repeat (first | (with_reducible first | exact HB.out | apply below_alloc | apply pw_below_drewN | apply below_drew1 | refine below_set ?_ GE462.out | refine below_set ?_ GE464.out) | exact HB.out)⟩⟩
                          · rw [if_neg c34] at H
                            exact absurd H (by simp)
                        · rw [if_neg c33] at H
                          exact absurd H (by simp)
                      · rw [if_neg c31] at H
                        have c31b0 : decide (0 < x3_2) = false := decide_eq_false c31
                        clear c31
                        have H' := Aside0.mk H
                        clear H
                        go_wp2
                        repeat (go_quiet (fail); try go_wp2)
                        go_roundg kj9
                        case measure => have := HJ1.out; have := HK2.out; have := HJ9.out; omega
                        case rel => exact ⟨(wrap64 (x3_2 + 1)), (by first | rfl | (simp; done) | (simp [*]; done)), H', ⟨by have := HJ1.out; have := HK2.out; have := HJ9.out; omega⟩, ⟨by (with_reducible repeat (first | refine blk_drewN ?_ _ | refine blk_drew ?_ | refine blk_alloc ?_ _)); exact BK462.out⟩, ⟨by repeat (first | (with_reducible first | exact HB.out | apply below_alloc | apply pw_below_drewN | apply below_drew1 | refine below_set ?_ GE462.out | refine below_set ?_ GE464.out) | exact HB.out)⟩⟩
              · rw [if_neg c9] at H
                exact absurd H (by simp)
            · rw [if_neg c8] at H
              have c8b0 : decide (x3_2 < (l0_10.length : Int)) = false := decide_eq_false c8
              clear c8
              have H' := Aside0.mk H
              clear H
              have hcz42_0 : wr.cell? ⟨gb462, 0, none⟩ = some (.int .i64 a0_0) := (blk_cell BK462.out 0).trans rfl
              have hcz42_1 : wr.cell? ⟨gb462, 1, none⟩ = some (.int .u64 a0_1) := (blk_cell BK462.out 1).trans rfl
              have hcz42_2 : wr.cell? ⟨gb462, 2, none⟩ = some (.int .i64 a0_2) := (blk_cell BK462.out 2).trans rfl
              have hcz42_3 : wr.cell? ⟨gb462, 3, none⟩ = some (.int .u64 a0_3) := (blk_cell BK462.out 3).trans rfl
              have hcz42_4 : wr.cell? ⟨gb462, 4, none⟩ = some (.int .u64 a0_4) := (blk_cell BK462.out 4).trans rfl
              have hcz42_5 : wr.cell? ⟨gb462, 5, none⟩ = some (.int .i64 a0_5) := (blk_cell BK462.out 5).trans rfl
              have hcz42_6 : wr.cell? ⟨gb462, 6, none⟩ = some (.int .i64 a0_6) := (blk_cell BK462.out 6).trans rfl
              have hcz42_7 : wr.cell? ⟨gb462, 7, none⟩ = some (.string a0_7) := (blk_cell BK462.out 7).trans rfl
              have hcz42_8 : wr.cell? ⟨gb462, 8, none⟩ = some (.string a0_8) := (blk_cell BK462.out 8).trans rfl
              have hcz42_9 : wr.cell? ⟨gb462, 9, none⟩ = some (.string a0_9) := (blk_cell BK462.out 9).trans rfl
              have hcz42_10 : wr.cell? ⟨gb462, 10, none⟩ = some (.slice A0_10 l0_10.length c0_10) := (blk_cell BK462.out 10).trans rfl
              have hcz42_11 : wr.cell? ⟨gb462, 11, none⟩ = some (.slice A0_11 l0_11.length c0_11) := (blk_cell BK462.out 11).trans rfl
              have hfz42_0 := blk_frozen BK462.out 0
              have hfz42_1 := blk_frozen BK462.out 1
              have hfz42_2 := blk_frozen BK462.out 2
              have hfz42_3 := blk_frozen BK462.out 3
              have hfz42_4 := blk_frozen BK462.out 4
              have hfz42_5 := blk_frozen BK462.out 5
              have hfz42_6 := blk_frozen BK462.out 6
              have hfz42_7 := blk_frozen BK462.out 7
              have hfz42_8 := blk_frozen BK462.out 8
              have hfz42_9 := blk_frozen BK462.out 9
              have hfz42_10 := blk_frozen BK462.out 10
              have hfz42_11 := blk_frozen BK462.out 11
              go_wp2
              repeat (go_quiet (fail); try go_wp2)
              go_loopg [5] k2 (fun kq v5 w' => ∃ (x5_3 : Int), v5 = .int .i64 x5_3 ∧ Aside0 (flotillaref05_Rows.l1 kq x5_3 a0_0 a0_1 a0_2 a0_3 a0_4 a0_5 a0_6 a0_7 a0_8 a0_9 l0_10 l0_11 = some r) ∧ Aside0 (kq ≤ k2) ∧ Aside0 (w'.heap[gb462]? = some (.cells #[.int .i64 a0_0, .int .u64 a0_1, .int .i64 a0_2, .int .u64 a0_3, .int .u64 a0_4, .int .i64 a0_5, .int .i64 a0_6, .string a0_7, .string a0_8, .string a0_9, (.slice A0_10 l0_10.length c0_10), (.slice A0_11 l0_11.length c0_11)] 43 (0, 0))) ∧ Aside0 (Below w.heap.size w w'))
              case atStart => exact ⟨(0), (by first | rfl | (simp; done) | (simp [*]; done)), H', ⟨Nat.le_refl _⟩, ⟨by (with_reducible repeat (first | refine blk_drewN ?_ _ | refine blk_drew ?_ | refine blk_alloc ?_ _)); exact BK462.out⟩, ⟨by repeat (first | (with_reducible first | exact HB.out | apply below_alloc | apply pw_below_drewN | apply below_drew1 | refine below_set ?_ GE462.out) | exact HB.out)⟩⟩
              case round =>
                clear H'
                try clear c1
                try clear c2
                try clear p2
                try clear c3
                try clear c4
                try clear c4b0
                try clear c4b1
                try clear p4
                try clear q4
                try clear hx4
                try clear c5
                try clear p6
                try clear c7
                try clear c8
                try clear c8b0
                try clear c9
                try clear c9b0
                try clear c13
                try clear c15
                try clear c15b0
                try clear c16
                try clear c18
                try clear c18b0
                try clear c19
                try clear c21
                try clear c21b0
                try clear c22
                try clear c24
                try clear c24b0
                try clear c25
                try clear c28
                try clear c30
                try clear c31
                try clear c31b0
                try clear c33
                try clear c33b0
                try clear c34
                try clear c34b0
                try clear c35
                try clear c35b0
                try clear c36
                try clear c39
                try clear hcz11_0
                try clear hcz11_1
                try clear hcz11_10
                try clear hcz11_11
                try clear hcz11_2
                try clear hcz11_3
                try clear hcz11_4
                try clear hcz11_5
                try clear hcz11_6
                try clear hcz11_7
                try clear hcz11_8
                try clear hcz11_9
                try clear hcz14_0
                try clear hcz14_1
                try clear hcz14_2
                try clear hcz17_0
                try clear hcz17_1
                try clear hcz17_2
                try clear hcz20_0
                try clear hcz20_1
                try clear hcz20_2
                try clear hcz23_0
                try clear hcz23_1
                try clear hcz23_2
                try clear hcz26_0
                try clear hcz26_1
                try clear hcz26_2
                try clear hcz29_0
                try clear hcz29_1
                try clear hcz29_2
                try clear hcz37_0
                try clear hcz37_1
                try clear hcz37_10
                try clear hcz37_11
                try clear hcz37_2
                try clear hcz37_3
                try clear hcz37_4
                try clear hcz37_5
                try clear hcz37_6
                try clear hcz37_7
                try clear hcz37_8
                try clear hcz37_9
                try clear hcz38_0
                try clear hcz38_1
                try clear hcz38_2
                try clear hcz40_0
                try clear hcz40_1
                try clear hcz40_10
                try clear hcz40_11
                try clear hcz40_2
                try clear hcz40_3
                try clear hcz40_4
                try clear hcz40_5
                try clear hcz40_6
                try clear hcz40_7
                try clear hcz40_8
                try clear hcz40_9
                try clear hcz41_0
                try clear hcz41_1
                try clear hcz41_2
                try clear hcz42_0
                try clear hcz42_1
                try clear hcz42_10
                try clear hcz42_11
                try clear hcz42_2
                try clear hcz42_3
                try clear hcz42_4
                try clear hcz42_5
                try clear hcz42_6
                try clear hcz42_7
                try clear hcz42_8
                try clear hcz42_9
                try clear hcz5_0
                try clear hcz5_1
                try clear hcz5_10
                try clear hcz5_11
                try clear hcz5_2
                try clear hcz5_3
                try clear hcz5_4
                try clear hcz5_5
                try clear hcz5_6
                try clear hcz5_7
                try clear hcz5_8
                try clear hcz5_9
                try clear hcz6_0
                try clear hcz6_1
                try clear hcz6_10
                try clear hcz6_11
                try clear hcz6_2
                try clear hcz6_3
                try clear hcz6_4
                try clear hcz6_5
                try clear hcz6_6
                try clear hcz6_7
                try clear hcz6_8
                try clear hcz6_9
                try clear hfz11_0
                try clear hfz11_1
                try clear hfz11_10
                try clear hfz11_11
                try clear hfz11_2
                try clear hfz11_3
                try clear hfz11_4
                try clear hfz11_5
                try clear hfz11_6
                try clear hfz11_7
                try clear hfz11_8
                try clear hfz11_9
                try clear hfz14_0
                try clear hfz14_1
                try clear hfz14_2
                try clear hfz17_0
                try clear hfz17_1
                try clear hfz17_2
                try clear hfz20_0
                try clear hfz20_1
                try clear hfz20_2
                try clear hfz23_0
                try clear hfz23_1
                try clear hfz23_2
                try clear hfz26_0
                try clear hfz26_1
                try clear hfz26_2
                try clear hfz29_0
                try clear hfz29_1
                try clear hfz29_2
                try clear hfz37_0
                try clear hfz37_1
                try clear hfz37_10
                try clear hfz37_11
                try clear hfz37_2
                try clear hfz37_3
                try clear hfz37_4
                try clear hfz37_5
                try clear hfz37_6
                try clear hfz37_7
                try clear hfz37_8
                try clear hfz37_9
                try clear hfz38_0
                try clear hfz38_1
                try clear hfz38_2
                try clear hfz40_0
                try clear hfz40_1
                try clear hfz40_10
                try clear hfz40_11
                try clear hfz40_2
                try clear hfz40_3
                try clear hfz40_4
                try clear hfz40_5
                try clear hfz40_6
                try clear hfz40_7
                try clear hfz40_8
                try clear hfz40_9
                try clear hfz41_0
                try clear hfz41_1
                try clear hfz41_2
                try clear hfz42_0
                try clear hfz42_1
                try clear hfz42_10
                try clear hfz42_11
                try clear hfz42_2
                try clear hfz42_3
                try clear hfz42_4
                try clear hfz42_5
                try clear hfz42_6
                try clear hfz42_7
                try clear hfz42_8
                try clear hfz42_9
                try clear hfz5_0
                try clear hfz5_1
                try clear hfz5_10
                try clear hfz5_11
                try clear hfz5_2
                try clear hfz5_3
                try clear hfz5_4
                try clear hfz5_5
                try clear hfz5_6
                try clear hfz5_7
                try clear hfz5_8
                try clear hfz5_9
                try clear hfz6_0
                try clear hfz6_1
                try clear hfz6_10
                try clear hfz6_11
                try clear hfz6_2
                try clear hfz6_3
                try clear hfz6_4
                try clear hfz6_5
                try clear hfz6_6
                try clear hfz6_7
                try clear hfz6_8
                try clear hfz6_9
                try clear hx463_0
                try clear hx463_1
                try clear hx463_2
                try clear hx466_0
                try clear hx466_1
                try clear hx466_2
                try clear p2
                try clear p4
                try clear p463
                try clear p466
                try clear q4
                try clear q463
                try clear q466
                obtain ⟨x5_3, rfl, HA, HK3, BK462, HB⟩ := hrel
                cases gk with
                | zero => exact absurd HA.out (by simp [flotillaref05_Rows.l1])
                | succ k3 =>
                  have H := HA.out
                  clear HA
                  simp only [flotillaref05_Rows.l1] at H
                  by_cases c43 : x5_3 < (l0_11.length : Int)
                  · rw [if_pos c43] at H
                    have c43b0 : decide (x5_3 < (l0_11.length : Int)) = true := decide_eq_true c43
                    clear c43
                    by_cases c44 : 0 ≤ x5_3
                    · rw [if_pos c44] at H
                      have c44b0 : decide (0 ≤ x5_3) = true := decide_eq_true c44
                      clear c44
                      have HC45 := Aside0.mk H
                      clear H
                      have hcz46_0 : wr.cell? ⟨gb462, 0, none⟩ = some (.int .i64 a0_0) := (blk_cell BK462.out 0).trans rfl
                      have hcz46_1 : wr.cell? ⟨gb462, 1, none⟩ = some (.int .u64 a0_1) := (blk_cell BK462.out 1).trans rfl
                      have hcz46_2 : wr.cell? ⟨gb462, 2, none⟩ = some (.int .i64 a0_2) := (blk_cell BK462.out 2).trans rfl
                      have hcz46_3 : wr.cell? ⟨gb462, 3, none⟩ = some (.int .u64 a0_3) := (blk_cell BK462.out 3).trans rfl
                      have hcz46_4 : wr.cell? ⟨gb462, 4, none⟩ = some (.int .u64 a0_4) := (blk_cell BK462.out 4).trans rfl
                      have hcz46_5 : wr.cell? ⟨gb462, 5, none⟩ = some (.int .i64 a0_5) := (blk_cell BK462.out 5).trans rfl
                      have hcz46_6 : wr.cell? ⟨gb462, 6, none⟩ = some (.int .i64 a0_6) := (blk_cell BK462.out 6).trans rfl
                      have hcz46_7 : wr.cell? ⟨gb462, 7, none⟩ = some (.string a0_7) := (blk_cell BK462.out 7).trans rfl
                      have hcz46_8 : wr.cell? ⟨gb462, 8, none⟩ = some (.string a0_8) := (blk_cell BK462.out 8).trans rfl
                      have hcz46_9 : wr.cell? ⟨gb462, 9, none⟩ = some (.string a0_9) := (blk_cell BK462.out 9).trans rfl
                      have hcz46_10 : wr.cell? ⟨gb462, 10, none⟩ = some (.slice A0_10 l0_10.length c0_10) := (blk_cell BK462.out 10).trans rfl
                      have hcz46_11 : wr.cell? ⟨gb462, 11, none⟩ = some (.slice A0_11 l0_11.length c0_11) := (blk_cell BK462.out 11).trans rfl
                      have hfz46_0 := blk_frozen BK462.out 0
                      have hfz46_1 := blk_frozen BK462.out 1
                      have hfz46_2 := blk_frozen BK462.out 2
                      have hfz46_3 := blk_frozen BK462.out 3
                      have hfz46_4 := blk_frozen BK462.out 4
                      have hfz46_5 := blk_frozen BK462.out 5
                      have hfz46_6 := blk_frozen BK462.out 6
                      have hfz46_7 := blk_frozen BK462.out 7
                      have hfz46_8 := blk_frozen BK462.out 8
                      have hfz46_9 := blk_frozen BK462.out 9
                      have hfz46_10 := blk_frozen BK462.out 10
                      have hfz46_11 := blk_frozen BK462.out 11
                      have p467 : 0 ≤ (x5_3 : Int) := of_decide_eq_true (by first | (with_reducible assumption) | assumption)
                      have q467 : x5_3 < (l0_11.length : Int) := of_decide_eq_true (by first | (with_reducible assumption) | assumption)
                      obtain ⟨ad467, e467, hx467_0, hx467_1⟩ := at_TGDirty HR0_11.out x5_3 p467 q467
                      cases e467
                      replace hx467_0 := (HB.out.cell (World.block_lt_of_cell? w _ hx467_0)).trans hx467_0
                      replace hx467_1 := (HB.out.cell (World.block_lt_of_cell? w _ hx467_1)).trans hx467_1
                      replace p467 := eq_true p467
                      replace q467 := eq_true q467
                      go_upto_region 15 with (first | ((with_reducible refine gate_dst (N := 6) rfl ?_); (try (refine gate_guard (by rfl) ?_; dsimp only)); refine box_event ?hg (N := 6) ?hd (cs := #[.int .i64 0, .int .u64 0]) (t := 49) ?hr ?_; (case hd => rfl); (case hg => rfl); (case hr => first | (go_simp; done) | (go_simp; rfl)); intro gb468 hg w47 hbox hb; have n0_ := Aside0.mk (blk_below (g := gb462) (o := .cells #[.int .i64 a0_0, .int .u64 a0_1, .int .i64 a0_2, .int .u64 a0_3, .int .u64 a0_4, .int .i64 a0_5, .int .i64 a0_6, .string a0_7, .string a0_8, .string a0_9, .slice A0_10 l0_10.length c0_10, .slice (some ad467) l0_11.length c0_11] 43 (0, 0)) (by (with_reducible repeat (first | refine blk_drewN ?_ _ | refine blk_drew ?_ | refine blk_alloc ?_ _)); exact BK462.out) hb); have n1_ := Aside0.mk (below_step (by repeat (first | (with_reducible first | exact HB.out | apply below_alloc | apply pw_below_drewN | apply below_drew1 | refine below_set ?_ GE462.out) | exact HB.out)) hb); have n2_ := Aside0.mk (hbox); have n3_ := Aside0.mk ((by rw [hg]; exact (below_size (by repeat (first | (with_reducible first | exact HB.out | apply below_alloc | apply pw_below_drewN | apply below_drew1 | refine below_set ?_ GE462.out) | exact HB.out))) : w.heap.size ≤ gb468)); have n4_ := Aside0.mk ((by rw [hg]; exact (below_size (by repeat (first | (with_reducible first | exact HB.out | apply below_alloc | apply pw_below_drewN | apply below_drew1 | refine below_set ?_ GE462.out) | exact HB.out))) : w.heap.size ≤ gb468)); have n5_ := Aside0.mk ((by rw [hg]; exact Nat.ne_of_lt (blk_lt (g := gb462) (o := .cells #[.int .i64 a0_0, .int .u64 a0_1, .int .i64 a0_2, .int .u64 a0_3, .int .u64 a0_4, .int .i64 a0_5, .int .i64 a0_6, .string a0_7, .string a0_8, .string a0_9, .slice A0_10 l0_10.length c0_10, .slice (some ad467) l0_11.length c0_11] 43 (0, 0)) (by (with_reducible repeat (first | refine blk_drewN ?_ _ | refine blk_drew ?_ | refine blk_alloc ?_ _)); exact BK462.out)) : gb462 ≠ gb468)); have n6_ := Aside0.mk ((by rw [hg]; exact Nat.ne_of_gt (blk_lt (g := gb462) (o := .cells #[.int .i64 a0_0, .int .u64 a0_1, .int .i64 a0_2, .int .u64 a0_3, .int .u64 a0_4, .int .i64 a0_5, .int .i64 a0_6, .string a0_7, .string a0_8, .string a0_9, .slice A0_10 l0_10.length c0_10, .slice (some ad467) l0_11.length c0_11] 43 (0, 0)) (by (with_reducible repeat (first | refine blk_drewN ?_ _ | refine blk_drew ?_ | refine blk_alloc ?_ _)); exact BK462.out)) : gb468 ≠ gb462)); clear BK462; clear HB; have BK462 := n0_; have HB := n1_; have BK468 := n2_; have GW468 := n3_; have GE468 := n4_; have NB462_468 := n5_; have NB468_462 := n6_; clear n0_ n1_ n2_ n3_ n4_ n5_ n6_; clear hb hbox hg; have hnb48 := NB468_462.out; have hnc48 := NB462_468.out; have hcz49_0 : w47.cell? ⟨gb468, 0, none⟩ = some (.int .i64 0) := (blk_cell BK468.out 0).trans rfl; have hcz49_1 : w47.cell? ⟨gb468, 1, none⟩ = some (.int .u64 0) := (blk_cell BK468.out 1).trans rfl; have hfz49_0 := blk_frozen BK468.out 0; have hfz49_1 := blk_frozen BK468.out 1))
                      repeat (go_quiet (first | ((with_reducible refine gate_dst (N := 6) rfl ?_); (try (refine gate_guard (by rfl) ?_; dsimp only)); refine box_event ?hg (N := 6) ?hd (cs := #[.int .i64 0, .int .u64 0]) (t := 49) ?hr ?_; (case hd => rfl); (case hg => rfl); (case hr => first | (go_simp; done) | (go_simp; rfl)); intro gb468 hg w47 hbox hb; have n0_ := Aside0.mk (blk_below (g := gb462) (o := .cells #[.int .i64 a0_0, .int .u64 a0_1, .int .i64 a0_2, .int .u64 a0_3, .int .u64 a0_4, .int .i64 a0_5, .int .i64 a0_6, .string a0_7, .string a0_8, .string a0_9, .slice A0_10 l0_10.length c0_10, .slice (some ad467) l0_11.length c0_11] 43 (0, 0)) (by (with_reducible repeat (first | refine blk_drewN ?_ _ | refine blk_drew ?_ | refine blk_alloc ?_ _)); exact BK462.out) hb); have n1_ := Aside0.mk (below_step (by repeat (first | (with_reducible first | exact HB.out | apply below_alloc | apply pw_below_drewN | apply below_drew1 | refine below_set ?_ GE462.out) | exact HB.out)) hb); have n2_ := Aside0.mk (hbox); have n3_ := Aside0.mk ((by rw [hg]; exact (below_size (by repeat (first | (with_reducible first | exact HB.out | apply below_alloc | apply pw_below_drewN | apply below_drew1 | refine below_set ?_ GE462.out) | exact HB.out))) : w.heap.size ≤ gb468)); have n4_ := Aside0.mk ((by rw [hg]; exact (below_size (by repeat (first | (with_reducible first | exact HB.out | apply below_alloc | apply pw_below_drewN | apply below_drew1 | refine below_set ?_ GE462.out) | exact HB.out))) : w.heap.size ≤ gb468)); have n5_ := Aside0.mk ((by rw [hg]; exact Nat.ne_of_lt (blk_lt (g := gb462) (o := .cells #[.int .i64 a0_0, .int .u64 a0_1, .int .i64 a0_2, .int .u64 a0_3, .int .u64 a0_4, .int .i64 a0_5, .int .i64 a0_6, .string a0_7, .string a0_8, .string a0_9, .slice A0_10 l0_10.length c0_10, .slice (some ad467) l0_11.length c0_11] 43 (0, 0)) (by (with_reducible repeat (first | refine blk_drewN ?_ _ | refine blk_drew ?_ | refine blk_alloc ?_ _)); exact BK462.out)) : gb462 ≠ gb468)); have n6_ := Aside0.mk ((by rw [hg]; exact Nat.ne_of_gt (blk_lt (g := gb462) (o := .cells #[.int .i64 a0_0, .int .u64 a0_1, .int .i64 a0_2, .int .u64 a0_3, .int .u64 a0_4, .int .i64 a0_5, .int .i64 a0_6, .string a0_7, .string a0_8, .string a0_9, .slice A0_10 l0_10.length c0_10, .slice (some ad467) l0_11.length c0_11] 43 (0, 0)) (by (with_reducible repeat (first | refine blk_drewN ?_ _ | refine blk_drew ?_ | refine blk_alloc ?_ _)); exact BK462.out)) : gb468 ≠ gb462)); clear BK462; clear HB; have BK462 := n0_; have HB := n1_; have BK468 := n2_; have GW468 := n3_; have GE468 := n4_; have NB462_468 := n5_; have NB468_462 := n6_; clear n0_ n1_ n2_ n3_ n4_ n5_ n6_; clear hb hbox hg; have hnb48 := NB468_462.out; have hnc48 := NB462_468.out; have hcz49_0 : w47.cell? ⟨gb468, 0, none⟩ = some (.int .i64 0) := (blk_cell BK468.out 0).trans rfl; have hcz49_1 : w47.cell? ⟨gb468, 1, none⟩ = some (.int .u64 0) := (blk_cell BK468.out 1).trans rfl; have hfz49_0 := blk_frozen BK468.out 0; have hfz49_1 := blk_frozen BK468.out 1)); go_upto_region 15 with (first | ((with_reducible refine gate_dst (N := 6) rfl ?_); (try (refine gate_guard (by rfl) ?_; dsimp only)); refine box_event ?hg (N := 6) ?hd (cs := #[.int .i64 0, .int .u64 0]) (t := 49) ?hr ?_; (case hd => rfl); (case hg => rfl); (case hr => first | (go_simp; done) | (go_simp; rfl)); intro gb468 hg w47 hbox hb; have n0_ := Aside0.mk (blk_below (g := gb462) (o := .cells #[.int .i64 a0_0, .int .u64 a0_1, .int .i64 a0_2, .int .u64 a0_3, .int .u64 a0_4, .int .i64 a0_5, .int .i64 a0_6, .string a0_7, .string a0_8, .string a0_9, .slice A0_10 l0_10.length c0_10, .slice (some ad467) l0_11.length c0_11] 43 (0, 0)) (by (with_reducible repeat (first | refine blk_drewN ?_ _ | refine blk_drew ?_ | refine blk_alloc ?_ _)); exact BK462.out) hb); have n1_ := Aside0.mk (below_step (by repeat (first | (with_reducible first | exact HB.out | apply below_alloc | apply pw_below_drewN | apply below_drew1 | refine below_set ?_ GE462.out) | exact HB.out)) hb); have n2_ := Aside0.mk (hbox); have n3_ := Aside0.mk ((by rw [hg]; exact (below_size (by repeat (first | (with_reducible first | exact HB.out | apply below_alloc | apply pw_below_drewN | apply below_drew1 | refine below_set ?_ GE462.out) | exact HB.out))) : w.heap.size ≤ gb468)); have n4_ := Aside0.mk ((by rw [hg]; exact (below_size (by repeat (first | (with_reducible first | exact HB.out | apply below_alloc | apply pw_below_drewN | apply below_drew1 | refine below_set ?_ GE462.out) | exact HB.out))) : w.heap.size ≤ gb468)); have n5_ := Aside0.mk ((by rw [hg]; exact Nat.ne_of_lt (blk_lt (g := gb462) (o := .cells #[.int .i64 a0_0, .int .u64 a0_1, .int .i64 a0_2, .int .u64 a0_3, .int .u64 a0_4, .int .i64 a0_5, .int .i64 a0_6, .string a0_7, .string a0_8, .string a0_9, .slice A0_10 l0_10.length c0_10, .slice (some ad467) l0_11.length c0_11] 43 (0, 0)) (by (with_reducible repeat (first | refine blk_drewN ?_ _ | refine blk_drew ?_ | refine blk_alloc ?_ _)); exact BK462.out)) : gb462 ≠ gb468)); have n6_ := Aside0.mk ((by rw [hg]; exact Nat.ne_of_gt (blk_lt (g := gb462) (o := .cells #[.int .i64 a0_0, .int .u64 a0_1, .int .i64 a0_2, .int .u64 a0_3, .int .u64 a0_4, .int .i64 a0_5, .int .i64 a0_6, .string a0_7, .string a0_8, .string a0_9, .slice A0_10 l0_10.length c0_10, .slice (some ad467) l0_11.length c0_11] 43 (0, 0)) (by (with_reducible repeat (first | refine blk_drewN ?_ _ | refine blk_drew ?_ | refine blk_alloc ?_ _)); exact BK462.out)) : gb468 ≠ gb462)); clear BK462; clear HB; have BK462 := n0_; have HB := n1_; have BK468 := n2_; have GW468 := n3_; have GE468 := n4_; have NB462_468 := n5_; have NB468_462 := n6_; clear n0_ n1_ n2_ n3_ n4_ n5_ n6_; clear hb hbox hg; have hnb48 := NB468_462.out; have hnc48 := NB462_468.out; have hcz49_0 : w47.cell? ⟨gb468, 0, none⟩ = some (.int .i64 0) := (blk_cell BK468.out 0).trans rfl; have hcz49_1 : w47.cell? ⟨gb468, 1, none⟩ = some (.int .u64 0) := (blk_cell BK468.out 1).trans rfl; have hfz49_0 := blk_frozen BK468.out 0; have hfz49_1 := blk_frozen BK468.out 1)))
                      (try simp only [Act.put, List.setIfInBounds_toArray, List.set_cons_zero, List.set_cons_succ])
                      go_cut [92] (fun v92 wc => ∃ (kq : Nat) (x92_44 : Bool), v92 = .bool x92_44 ∧ Aside0 (flotillaref05_Rows.j4 kq x5_3 x92_44 a0_0 a0_1 a0_2 a0_3 a0_4 a0_5 a0_6 a0_7 a0_8 a0_9 l0_10 l0_11 ((rd_TGDirty l0_11 x5_3).f0) ((rd_TGDirty l0_11 x5_3).f1) = some r) ∧ Aside0 (kq ≤ k3) ∧ Aside0 (wc.heap[gb462]? = some (.cells #[.int .i64 a0_0, .int .u64 a0_1, .int .i64 a0_2, .int .u64 a0_3, .int .u64 a0_4, .int .i64 a0_5, .int .i64 a0_6, .string a0_7, .string a0_8, .string a0_9, (.slice A0_10 l0_10.length c0_10), (.slice (some ad467) l0_11.length c0_11)] 43 (0, 0))) ∧ Aside0 (wc.heap[gb468]? = some (.cells #[.int .i64 ((rd_TGDirty l0_11 x5_3).f0), .int .u64 ((rd_TGDirty l0_11 x5_3).f1)] 49 (0, 0))) ∧ Aside0 (Below w.heap.size w wc))
                      case first =>
                        have H := HC45.out
                        clear HC45
                        by_cases c50 : ((rd_TGDirty l0_11 x5_3).f0) < 0
                        · rw [if_pos c50] at H
                          have c50b0 : decide (((rd_TGDirty l0_11 x5_3).f0) < 0) = true := decide_eq_true c50
                          clear c50
                          (first | rw [c50b0] | (simp only [i64_w, i32_w]; rw [c50b0]) | skip)
                          have H' := Aside0.mk H
                          clear H
                          have hnb51 := NB468_462.out
                          have hnc51 := NB462_468.out
                          have hcz52_0 : w47.cell? ⟨gb468, 0, none⟩ = some (.int .i64 0) := (blk_cell BK468.out 0).trans rfl
                          have hcz52_1 : w47.cell? ⟨gb468, 1, none⟩ = some (.int .u64 0) := (blk_cell BK468.out 1).trans rfl
                          have hfz52_0 := blk_frozen BK468.out 0
                          have hfz52_1 := blk_frozen BK468.out 1
                          go_wp2
                          repeat (go_quiet (fail); try go_wp2)
                          go_meet
                          case rel => exact ⟨_, (true), (by first | rfl | (simp; done) | (simp [*]; done)), H', ⟨by have := HJ1.out; have := HK2.out; have := HK3.out; first | omega | exact Nat.le_refl _⟩, ⟨by (with_reducible repeat (first | refine blk_drewN ?_ _ | refine blk_drew ?_ | refine blk_alloc ?_ _)); refine blk_far ?_ NB462_468.out _; (with_reducible repeat (first | refine blk_drewN ?_ _ | refine blk_drew ?_ | refine blk_alloc ?_ _)); refine blk_far ?_ NB462_468.out _; (with_reducible repeat (first | refine blk_drewN ?_ _ | refine blk_drew ?_ | refine blk_alloc ?_ _)); exact BK462.out⟩, ⟨by (with_reducible repeat (first | refine blk_drewN ?_ _ | refine blk_drew ?_ | refine blk_alloc ?_ _)); refine blk_put (cs := #[.int .i64 ((rd_TGDirty l0_11 x5_3).f0), .int .u64 0]) ?_ 1 _ rfl; (with_reducible repeat (first | refine blk_drewN ?_ _ | refine blk_drew ?_ | refine blk_alloc ?_ _)); refine blk_put (cs := #[.int .i64 0, .int .u64 0]) ?_ 0 _ rfl; (with_reducible repeat (first | refine blk_drewN ?_ _ | refine blk_drew ?_ | refine blk_alloc ?_ _)); exact BK468.out⟩, ⟨by repeat (first | (with_reducible first | exact HB.out | apply below_alloc | apply pw_below_drewN | apply below_drew1 | refine below_set ?_ GE462.out | refine below_set ?_ GE468.out) | exact HB.out)⟩⟩
                        · rw [if_neg c50] at H
                          have c50b0 : decide (((rd_TGDirty l0_11 x5_3).f0) < 0) = false := decide_eq_false c50
                          clear c50
                          (first | rw [c50b0] | (simp only [i64_w, i32_w]; rw [c50b0]) | skip)
                          by_cases c53 : ((rd_TGDirty l0_11 x5_3).f0) > 15
                          · rw [if_pos c53] at H
                            have c53b0 : decide (15 < ((rd_TGDirty l0_11 x5_3).f0)) = true := decide_eq_true c53
                            clear c53
                            have H' := Aside0.mk H
                            clear H
                            have hnb54 := NB468_462.out
                            have hnc54 := NB462_468.out
                            have hcz55_0 : w47.cell? ⟨gb468, 0, none⟩ = some (.int .i64 0) := (blk_cell BK468.out 0).trans rfl
                            have hcz55_1 : w47.cell? ⟨gb468, 1, none⟩ = some (.int .u64 0) := (blk_cell BK468.out 1).trans rfl
                            have hfz55_0 := blk_frozen BK468.out 0
                            have hfz55_1 := blk_frozen BK468.out 1
                            go_wp2
                            repeat (go_quiet (fail); try go_wp2)
                            go_meet
                            case rel => exact ⟨_, (true), (by first | rfl | (simp; done) | (simp [*]; done)), H', ⟨by have := HJ1.out; have := HK2.out; have := HK3.out; first | omega | exact Nat.le_refl _⟩, ⟨by (with_reducible repeat (first | refine blk_drewN ?_ _ | refine blk_drew ?_ | refine blk_alloc ?_ _)); refine blk_far ?_ NB462_468.out _; (with_reducible repeat (first | refine blk_drewN ?_ _ | refine blk_drew ?_ | refine blk_alloc ?_ _)); refine blk_far ?_ NB462_468.out _; (with_reducible repeat (first | refine blk_drewN ?_ _ | refine blk_drew ?_ | refine blk_alloc ?_ _)); exact BK462.out⟩, ⟨by (with_reducible repeat (first | refine blk_drewN ?_ _ | refine blk_drew ?_ | refine blk_alloc ?_ _)); refine blk_put (cs := #[.int .i64 ((rd_TGDirty l0_11 x5_3).f0), .int .u64 0]) ?_ 1 _ rfl; (with_reducible repeat (first | refine blk_drewN ?_ _ | refine blk_drew ?_ | refine blk_alloc ?_ _)); refine blk_put (cs := #[.int .i64 0, .int .u64 0]) ?_ 0 _ rfl; (with_reducible repeat (first | refine blk_drewN ?_ _ | refine blk_drew ?_ | refine blk_alloc ?_ _)); exact BK468.out⟩, ⟨by repeat (first | (with_reducible first | exact HB.out | apply below_alloc | apply pw_below_drewN | apply below_drew1 | refine below_set ?_ GE462.out | refine below_set ?_ GE468.out) | exact HB.out)⟩⟩
                          · rw [if_neg c53] at H
                            have c53b0 : decide (15 < ((rd_TGDirty l0_11 x5_3).f0)) = false := decide_eq_false c53
                            clear c53
                            replace H := Option.bind_eq_some_iff.mp H
                            obtain ⟨t469, A560, H⟩ := H
                            replace H : (flotillaref05_Rows.j4 k3 x5_3 (!t469) a0_0 a0_1 a0_2 a0_3 a0_4 a0_5 a0_6 a0_7 a0_8 a0_9 l0_10 l0_11 ((rd_TGDirty l0_11 x5_3).f0) ((rd_TGDirty l0_11 x5_3).f1)) = some r := H
                            have A56 := Aside0.mk A560
                            clear A560
                            have H' := Aside0.mk H
                            clear H
                            have hnb57 := NB468_462.out
                            have hnc57 := NB462_468.out
                            have hcz58_0 : w47.cell? ⟨gb468, 0, none⟩ = some (.int .i64 0) := (blk_cell BK468.out 0).trans rfl
                            have hcz58_1 : w47.cell? ⟨gb468, 1, none⟩ = some (.int .u64 0) := (blk_cell BK468.out 1).trans rfl
                            have hfz58_0 := blk_frozen BK468.out 0
                            have hfz58_1 := blk_frozen BK468.out 1
                            go_wp2_with (first | (go_at_call 50; (with_reducible refine (flotillaref05_Numbered.calls ((rd_TGDirty l0_11 x5_3).f1) t469 _ A56.out).mono ?_); rintro e w' ⟨rfl, ⟨nd, rfl⟩⟩; (try first | exact ⟨rfl, _, World.drewN_drewN _ _ _⟩ | exact ⟨rfl, _, Eq.trans (World.drewN_drewN _ _ _) (congrArg (World.drewN _) (Nat.add_assoc _ _ _))⟩)))
                            repeat (go_quiet (first | (go_at_call 50; (with_reducible refine (flotillaref05_Numbered.calls ((rd_TGDirty l0_11 x5_3).f1) t469 _ A56.out).mono ?_); rintro e w' ⟨rfl, ⟨nd, rfl⟩⟩; (try first | exact ⟨rfl, _, World.drewN_drewN _ _ _⟩ | exact ⟨rfl, _, Eq.trans (World.drewN_drewN _ _ _) (congrArg (World.drewN _) (Nat.add_assoc _ _ _))⟩))); try go_wp2_with (first | (go_at_call 50; (with_reducible refine (flotillaref05_Numbered.calls ((rd_TGDirty l0_11 x5_3).f1) t469 _ A56.out).mono ?_); rintro e w' ⟨rfl, ⟨nd, rfl⟩⟩; (try first | exact ⟨rfl, _, World.drewN_drewN _ _ _⟩ | exact ⟨rfl, _, Eq.trans (World.drewN_drewN _ _ _) (congrArg (World.drewN _) (Nat.add_assoc _ _ _))⟩))))
                            go_meet
                            case rel => exact ⟨_, (!t469), (by first | rfl | (simp; done) | (simp [*]; done)), H', ⟨by have := HJ1.out; have := HK2.out; have := HK3.out; first | omega | exact Nat.le_refl _⟩, ⟨by (with_reducible repeat (first | refine blk_drewN ?_ _ | refine blk_drew ?_ | refine blk_alloc ?_ _)); refine blk_far ?_ NB462_468.out _; (with_reducible repeat (first | refine blk_drewN ?_ _ | refine blk_drew ?_ | refine blk_alloc ?_ _)); refine blk_far ?_ NB462_468.out _; (with_reducible repeat (first | refine blk_drewN ?_ _ | refine blk_drew ?_ | refine blk_alloc ?_ _)); exact BK462.out⟩, ⟨by (with_reducible repeat (first | refine blk_drewN ?_ _ | refine blk_drew ?_ | refine blk_alloc ?_ _)); refine blk_put (cs := #[.int .i64 ((rd_TGDirty l0_11 x5_3).f0), .int .u64 0]) ?_ 1 _ rfl; (with_reducible repeat (first | refine blk_drewN ?_ _ | refine blk_drew ?_ | refine blk_alloc ?_ _)); refine blk_put (cs := #[.int .i64 0, .int .u64 0]) ?_ 0 _ rfl; (with_reducible repeat (first | refine blk_drewN ?_ _ | refine blk_drew ?_ | refine blk_alloc ?_ _)); exact BK468.out⟩, ⟨by repeat (first | (with_reducible first | exact HB.out | apply below_alloc | apply pw_below_drewN | apply below_drew1 | refine below_set ?_ GE462.out | refine below_set ?_ GE468.out) | exact HB.out)⟩⟩
                      case rest =>
                        clear HC45
                        try clear c1
                        try clear c2
                        try clear p2
                        try clear c3
                        try clear c4
                        try clear c4b0
                        try clear c4b1
                        try clear p4
                        try clear q4
                        try clear hx4
                        try clear c5
                        try clear p6
                        try clear c7
                        try clear c8
                        try clear c8b0
                        try clear c9
                        try clear c9b0
                        try clear c13
                        try clear c15
                        try clear c15b0
                        try clear c16
                        try clear c18
                        try clear c18b0
                        try clear c19
                        try clear c21
                        try clear c21b0
                        try clear c22
                        try clear c24
                        try clear c24b0
                        try clear c25
                        try clear c28
                        try clear c30
                        try clear c31
                        try clear c31b0
                        try clear c33
                        try clear c33b0
                        try clear c34
                        try clear c34b0
                        try clear c35
                        try clear c35b0
                        try clear c36
                        try clear c39
                        try clear c43
                        try clear c43b0
                        try clear c44
                        try clear c44b0
                        try clear p46
                        try clear q46
                        try clear hx46
                        try clear c48
                        try clear c50
                        try clear c50b0
                        try clear c51
                        try clear c53
                        try clear c53b0
                        try clear c54
                        try clear c57
                        try clear hcz11_0
                        try clear hcz11_1
                        try clear hcz11_10
                        try clear hcz11_11
                        try clear hcz11_2
                        try clear hcz11_3
                        try clear hcz11_4
                        try clear hcz11_5
                        try clear hcz11_6
                        try clear hcz11_7
                        try clear hcz11_8
                        try clear hcz11_9
                        try clear hcz14_0
                        try clear hcz14_1
                        try clear hcz14_2
                        try clear hcz17_0
                        try clear hcz17_1
                        try clear hcz17_2
                        try clear hcz20_0
                        try clear hcz20_1
                        try clear hcz20_2
                        try clear hcz23_0
                        try clear hcz23_1
                        try clear hcz23_2
                        try clear hcz26_0
                        try clear hcz26_1
                        try clear hcz26_2
                        try clear hcz29_0
                        try clear hcz29_1
                        try clear hcz29_2
                        try clear hcz37_0
                        try clear hcz37_1
                        try clear hcz37_10
                        try clear hcz37_11
                        try clear hcz37_2
                        try clear hcz37_3
                        try clear hcz37_4
                        try clear hcz37_5
                        try clear hcz37_6
                        try clear hcz37_7
                        try clear hcz37_8
                        try clear hcz37_9
                        try clear hcz38_0
                        try clear hcz38_1
                        try clear hcz38_2
                        try clear hcz40_0
                        try clear hcz40_1
                        try clear hcz40_10
                        try clear hcz40_11
                        try clear hcz40_2
                        try clear hcz40_3
                        try clear hcz40_4
                        try clear hcz40_5
                        try clear hcz40_6
                        try clear hcz40_7
                        try clear hcz40_8
                        try clear hcz40_9
                        try clear hcz41_0
                        try clear hcz41_1
                        try clear hcz41_2
                        try clear hcz42_0
                        try clear hcz42_1
                        try clear hcz42_10
                        try clear hcz42_11
                        try clear hcz42_2
                        try clear hcz42_3
                        try clear hcz42_4
                        try clear hcz42_5
                        try clear hcz42_6
                        try clear hcz42_7
                        try clear hcz42_8
                        try clear hcz42_9
                        try clear hcz46_0
                        try clear hcz46_1
                        try clear hcz46_10
                        try clear hcz46_11
                        try clear hcz46_2
                        try clear hcz46_3
                        try clear hcz46_4
                        try clear hcz46_5
                        try clear hcz46_6
                        try clear hcz46_7
                        try clear hcz46_8
                        try clear hcz46_9
                        try clear hcz49_0
                        try clear hcz49_1
                        try clear hcz52_0
                        try clear hcz52_1
                        try clear hcz55_0
                        try clear hcz55_1
                        try clear hcz58_0
                        try clear hcz58_1
                        try clear hcz5_0
                        try clear hcz5_1
                        try clear hcz5_10
                        try clear hcz5_11
                        try clear hcz5_2
                        try clear hcz5_3
                        try clear hcz5_4
                        try clear hcz5_5
                        try clear hcz5_6
                        try clear hcz5_7
                        try clear hcz5_8
                        try clear hcz5_9
                        try clear hcz6_0
                        try clear hcz6_1
                        try clear hcz6_10
                        try clear hcz6_11
                        try clear hcz6_2
                        try clear hcz6_3
                        try clear hcz6_4
                        try clear hcz6_5
                        try clear hcz6_6
                        try clear hcz6_7
                        try clear hcz6_8
                        try clear hcz6_9
                        try clear hfz11_0
                        try clear hfz11_1
                        try clear hfz11_10
                        try clear hfz11_11
                        try clear hfz11_2
                        try clear hfz11_3
                        try clear hfz11_4
                        try clear hfz11_5
                        try clear hfz11_6
                        try clear hfz11_7
                        try clear hfz11_8
                        try clear hfz11_9
                        try clear hfz14_0
                        try clear hfz14_1
                        try clear hfz14_2
                        try clear hfz17_0
                        try clear hfz17_1
                        try clear hfz17_2
                        try clear hfz20_0
                        try clear hfz20_1
                        try clear hfz20_2
                        try clear hfz23_0
                        try clear hfz23_1
                        try clear hfz23_2
                        try clear hfz26_0
                        try clear hfz26_1
                        try clear hfz26_2
                        try clear hfz29_0
                        try clear hfz29_1
                        try clear hfz29_2
                        try clear hfz37_0
                        try clear hfz37_1
                        try clear hfz37_10
                        try clear hfz37_11
                        try clear hfz37_2
                        try clear hfz37_3
                        try clear hfz37_4
                        try clear hfz37_5
                        try clear hfz37_6
                        try clear hfz37_7
                        try clear hfz37_8
                        try clear hfz37_9
                        try clear hfz38_0
                        try clear hfz38_1
                        try clear hfz38_2
                        try clear hfz40_0
                        try clear hfz40_1
                        try clear hfz40_10
                        try clear hfz40_11
                        try clear hfz40_2
                        try clear hfz40_3
                        try clear hfz40_4
                        try clear hfz40_5
                        try clear hfz40_6
                        try clear hfz40_7
                        try clear hfz40_8
                        try clear hfz40_9
                        try clear hfz41_0
                        try clear hfz41_1
                        try clear hfz41_2
                        try clear hfz42_0
                        try clear hfz42_1
                        try clear hfz42_10
                        try clear hfz42_11
                        try clear hfz42_2
                        try clear hfz42_3
                        try clear hfz42_4
                        try clear hfz42_5
                        try clear hfz42_6
                        try clear hfz42_7
                        try clear hfz42_8
                        try clear hfz42_9
                        try clear hfz46_0
                        try clear hfz46_1
                        try clear hfz46_10
                        try clear hfz46_11
                        try clear hfz46_2
                        try clear hfz46_3
                        try clear hfz46_4
                        try clear hfz46_5
                        try clear hfz46_6
                        try clear hfz46_7
                        try clear hfz46_8
                        try clear hfz46_9
                        try clear hfz49_0
                        try clear hfz49_1
                        try clear hfz52_0
                        try clear hfz52_1
                        try clear hfz55_0
                        try clear hfz55_1
                        try clear hfz58_0
                        try clear hfz58_1
                        try clear hfz5_0
                        try clear hfz5_1
                        try clear hfz5_10
                        try clear hfz5_11
                        try clear hfz5_2
                        try clear hfz5_3
                        try clear hfz5_4
                        try clear hfz5_5
                        try clear hfz5_6
                        try clear hfz5_7
                        try clear hfz5_8
                        try clear hfz5_9
                        try clear hfz6_0
                        try clear hfz6_1
                        try clear hfz6_10
                        try clear hfz6_11
                        try clear hfz6_2
                        try clear hfz6_3
                        try clear hfz6_4
                        try clear hfz6_5
                        try clear hfz6_6
                        try clear hfz6_7
                        try clear hfz6_8
                        try clear hfz6_9
                        try clear hx463_0
                        try clear hx463_1
                        try clear hx463_2
                        try clear hx466_0
                        try clear hx466_1
                        try clear hx466_2
                        try clear hx467_0
                        try clear hx467_1
                        try clear p2
                        try clear p4
                        try clear p463
                        try clear p466
                        try clear p467
                        try clear p6
                        try clear q4
                        try clear q463
                        try clear q466
                        try clear q467
                        obtain ⟨kq, x92_44, rfl, HA, HJ44, BK462, BK468, HB⟩ := hcut
                        cases kq with
                        | zero => exact absurd HA.out (by simp [flotillaref05_Rows.j4])
                        | succ kj44 =>
                          have H := HA.out
                          clear HA
                          simp only [flotillaref05_Rows.j4] at H
                          by_cases c59 : x92_44 = true
                          · subst c59
                            have H1 : (some false) = some r := by rw [if_pos rfl] at H; exact H
                            clear H
                            have H := H1
                            clear H1
                            obtain rfl := Option.some.inj H
                            go_wp2
                            repeat (go_quiet (fail); try go_wp2)
                            go_ret
                            exact ⟨by first | rfl | (simp [errW_none, errW_some] <;> rfl) | (simp [*, errW_none, errW_some] <;> rfl), by repeat (first | (with_reducible first | exact HB.out | apply below_alloc | apply pw_below_drewN | apply below_drew1 | refine below_set ?_ GE462.out | refine below_set ?_ GE468.out) | exact HB.out)⟩
                          · replace c59 := Bool.eq_false_iff.mpr c59
                            subst c59
                            have H1 : (if x5_3 > 0 then (if 0 ≤ (wrap64 (x5_3 - 1)) then (if (wrap64 (x5_3 - 1)) < (l0_11.length : Int) then (if ((rd_TGDirty l0_11 (wrap64 (x5_3 - 1))).f0) ≥ ((rd_TGDirty l0_11 x5_3).f0) then (some false) else (flotillaref05_Rows.l1 kj44 (wrap64 (x5_3 + 1)) a0_0 a0_1 a0_2 a0_3 a0_4 a0_5 a0_6 a0_7 a0_8 a0_9 l0_10 l0_11)) else (none)) else (none)) else (flotillaref05_Rows.l1 kj44 (wrap64 (x5_3 + 1)) a0_0 a0_1 a0_2 a0_3 a0_4 a0_5 a0_6 a0_7 a0_8 a0_9 l0_10 l0_11)) = some r := by rw [if_neg (show ¬ (false = true) by decide)] at H; exact H
                            clear H
                            have H := H1
                            clear H1
                            by_cases c60 : x5_3 > 0
                            · rw [if_pos c60] at H
                              have c60b0 : decide (0 < x5_3) = true := decide_eq_true c60
                              clear c60
                              obtain ⟨ji61, hji61⟩ : ∃ j_ : Int, (wrap64 (x5_3 - 1)) = j_ := ⟨_, rfl⟩
                              replace H : (if 0 ≤ (ji61) then (if (ji61) < (l0_11.length : Int) then (if ((rd_TGDirty l0_11 (ji61)).f0) ≥ ((rd_TGDirty l0_11 x5_3).f0) then (some false) else (flotillaref05_Rows.l1 kj44 (wrap64 (x5_3 + 1)) a0_0 a0_1 a0_2 a0_3 a0_4 a0_5 a0_6 a0_7 a0_8 a0_9 l0_10 l0_11)) else (none)) else (none)) = some r := by first | (rw [hji61] at H; exact H) | (simp only [hji61] at H ⊢; exact H)
                              have hji61w : (IntKind.i64.wrap (x5_3 - 1)) = ji61 := (i64_w _).trans hji61
                              by_cases c62 : 0 ≤ (ji61)
                              · rw [if_pos c62] at H
                                have c62b0 : decide (0 ≤ (ji61)) = true := decide_eq_true c62
                                clear c62
                                by_cases c63 : (ji61) < (l0_11.length : Int)
                                · rw [if_pos c63] at H
                                  have c63b0 : decide ((ji61) < (l0_11.length : Int)) = true := decide_eq_true c63
                                  clear c63
                                  by_cases c64 : ((rd_TGDirty l0_11 (ji61)).f0) ≥ ((rd_TGDirty l0_11 x5_3).f0)
                                  · rw [if_pos c64] at H
                                    have c64b0 : decide (((rd_TGDirty l0_11 x5_3).f0) ≤ ((rd_TGDirty l0_11 (ji61)).f0)) = true := decide_eq_true c64
                                    clear c64
                                    obtain rfl := Option.some.inj H
                                    have hnb65 := NB462_468.out
                                    have hnc65 := NB468_462.out
                                    have hcz66_0 : wc.cell? ⟨gb462, 0, none⟩ = some (.int .i64 a0_0) := (blk_cell BK462.out 0).trans rfl
                                    have hcz66_1 : wc.cell? ⟨gb462, 1, none⟩ = some (.int .u64 a0_1) := (blk_cell BK462.out 1).trans rfl
                                    have hcz66_2 : wc.cell? ⟨gb462, 2, none⟩ = some (.int .i64 a0_2) := (blk_cell BK462.out 2).trans rfl
                                    have hcz66_3 : wc.cell? ⟨gb462, 3, none⟩ = some (.int .u64 a0_3) := (blk_cell BK462.out 3).trans rfl
                                    have hcz66_4 : wc.cell? ⟨gb462, 4, none⟩ = some (.int .u64 a0_4) := (blk_cell BK462.out 4).trans rfl
                                    have hcz66_5 : wc.cell? ⟨gb462, 5, none⟩ = some (.int .i64 a0_5) := (blk_cell BK462.out 5).trans rfl
                                    have hcz66_6 : wc.cell? ⟨gb462, 6, none⟩ = some (.int .i64 a0_6) := (blk_cell BK462.out 6).trans rfl
                                    have hcz66_7 : wc.cell? ⟨gb462, 7, none⟩ = some (.string a0_7) := (blk_cell BK462.out 7).trans rfl
                                    have hcz66_8 : wc.cell? ⟨gb462, 8, none⟩ = some (.string a0_8) := (blk_cell BK462.out 8).trans rfl
                                    have hcz66_9 : wc.cell? ⟨gb462, 9, none⟩ = some (.string a0_9) := (blk_cell BK462.out 9).trans rfl
                                    have hcz66_10 : wc.cell? ⟨gb462, 10, none⟩ = some (.slice A0_10 l0_10.length c0_10) := (blk_cell BK462.out 10).trans rfl
                                    have hcz66_11 : wc.cell? ⟨gb462, 11, none⟩ = some (.slice (some ad467) l0_11.length c0_11) := (blk_cell BK462.out 11).trans rfl
                                    have hfz66_0 := blk_frozen BK462.out 0
                                    have hfz66_1 := blk_frozen BK462.out 1
                                    have hfz66_2 := blk_frozen BK462.out 2
                                    have hfz66_3 := blk_frozen BK462.out 3
                                    have hfz66_4 := blk_frozen BK462.out 4
                                    have hfz66_5 := blk_frozen BK462.out 5
                                    have hfz66_6 := blk_frozen BK462.out 6
                                    have hfz66_7 := blk_frozen BK462.out 7
                                    have hfz66_8 := blk_frozen BK462.out 8
                                    have hfz66_9 := blk_frozen BK462.out 9
                                    have hfz66_10 := blk_frozen BK462.out 10
                                    have hfz66_11 := blk_frozen BK462.out 11
                                    have p470 : 0 ≤ ((ji61) : Int) := of_decide_eq_true (by first | (with_reducible assumption) | assumption)
                                    have q470 : (ji61) < (l0_11.length : Int) := of_decide_eq_true (by first | (with_reducible assumption) | assumption)
                                    obtain ⟨ad470, e470, hx470_0, hx470_1⟩ := at_TGDirty HR0_11.out (ji61) p470 q470
                                    obtain rfl : ad467 = ad470 := (by injection e470)
                                    replace hx470_0 := (HB.out.cell (World.block_lt_of_cell? w _ hx470_0)).trans hx470_0
                                    replace hx470_1 := (HB.out.cell (World.block_lt_of_cell? w _ hx470_1)).trans hx470_1
                                    replace p470 := eq_true p470
                                    replace q470 := eq_true q470
                                    have hcz67_0 : wc.cell? ⟨gb468, 0, none⟩ = some (.int .i64 ((rd_TGDirty l0_11 x5_3).f0)) := (blk_cell BK468.out 0).trans rfl
                                    have hcz67_1 : wc.cell? ⟨gb468, 1, none⟩ = some (.int .u64 ((rd_TGDirty l0_11 x5_3).f1)) := (blk_cell BK468.out 1).trans rfl
                                    have hfz67_0 := blk_frozen BK468.out 0
                                    have hfz67_1 := blk_frozen BK468.out 1
                                    go_wp2
                                    repeat (go_quiet (fail); try go_wp2)
                                    go_ret
                                    exact ⟨by first | rfl | (simp [errW_none, errW_some] <;> rfl) | (simp only [← hji61]; first | rfl | (simp [errW_none, errW_some] <;> rfl)) | (simp [*, errW_none, errW_some] <;> rfl), by repeat (first | (with_reducible first | exact HB.out | apply below_alloc | apply pw_below_drewN | apply below_drew1 | refine below_set ?_ GE462.out | refine below_set ?_ GE468.out) | exact HB.out)⟩
                                  · rw [if_neg c64] at H
                                    have c64b0 : decide (((rd_TGDirty l0_11 x5_3).f0) ≤ ((rd_TGDirty l0_11 (ji61)).f0)) = false := decide_eq_false c64
                                    clear c64
                                    have H' := Aside0.mk H
                                    clear H
                                    have hnb68 := NB462_468.out
                                    have hnc68 := NB468_462.out
                                    have hcz69_0 : wc.cell? ⟨gb462, 0, none⟩ = some (.int .i64 a0_0) := (blk_cell BK462.out 0).trans rfl
                                    have hcz69_1 : wc.cell? ⟨gb462, 1, none⟩ = some (.int .u64 a0_1) := (blk_cell BK462.out 1).trans rfl
                                    have hcz69_2 : wc.cell? ⟨gb462, 2, none⟩ = some (.int .i64 a0_2) := (blk_cell BK462.out 2).trans rfl
                                    have hcz69_3 : wc.cell? ⟨gb462, 3, none⟩ = some (.int .u64 a0_3) := (blk_cell BK462.out 3).trans rfl
                                    have hcz69_4 : wc.cell? ⟨gb462, 4, none⟩ = some (.int .u64 a0_4) := (blk_cell BK462.out 4).trans rfl
                                    have hcz69_5 : wc.cell? ⟨gb462, 5, none⟩ = some (.int .i64 a0_5) := (blk_cell BK462.out 5).trans rfl
                                    have hcz69_6 : wc.cell? ⟨gb462, 6, none⟩ = some (.int .i64 a0_6) := (blk_cell BK462.out 6).trans rfl
                                    have hcz69_7 : wc.cell? ⟨gb462, 7, none⟩ = some (.string a0_7) := (blk_cell BK462.out 7).trans rfl
                                    have hcz69_8 : wc.cell? ⟨gb462, 8, none⟩ = some (.string a0_8) := (blk_cell BK462.out 8).trans rfl
                                    have hcz69_9 : wc.cell? ⟨gb462, 9, none⟩ = some (.string a0_9) := (blk_cell BK462.out 9).trans rfl
                                    have hcz69_10 : wc.cell? ⟨gb462, 10, none⟩ = some (.slice A0_10 l0_10.length c0_10) := (blk_cell BK462.out 10).trans rfl
                                    have hcz69_11 : wc.cell? ⟨gb462, 11, none⟩ = some (.slice (some ad467) l0_11.length c0_11) := (blk_cell BK462.out 11).trans rfl
                                    have hfz69_0 := blk_frozen BK462.out 0
                                    have hfz69_1 := blk_frozen BK462.out 1
                                    have hfz69_2 := blk_frozen BK462.out 2
                                    have hfz69_3 := blk_frozen BK462.out 3
                                    have hfz69_4 := blk_frozen BK462.out 4
                                    have hfz69_5 := blk_frozen BK462.out 5
                                    have hfz69_6 := blk_frozen BK462.out 6
                                    have hfz69_7 := blk_frozen BK462.out 7
                                    have hfz69_8 := blk_frozen BK462.out 8
                                    have hfz69_9 := blk_frozen BK462.out 9
                                    have hfz69_10 := blk_frozen BK462.out 10
                                    have hfz69_11 := blk_frozen BK462.out 11
                                    have p470 : 0 ≤ ((ji61) : Int) := of_decide_eq_true (by first | (with_reducible assumption) | assumption)
                                    have q470 : (ji61) < (l0_11.length : Int) := of_decide_eq_true (by first | (with_reducible assumption) | assumption)
                                    obtain ⟨ad470, e470, hx470_0, hx470_1⟩ := at_TGDirty HR0_11.out (ji61) p470 q470
                                    obtain rfl : ad467 = ad470 := (by injection e470)
                                    replace hx470_0 := (HB.out.cell (World.block_lt_of_cell? w _ hx470_0)).trans hx470_0
                                    replace hx470_1 := (HB.out.cell (World.block_lt_of_cell? w _ hx470_1)).trans hx470_1
                                    replace p470 := eq_true p470
                                    replace q470 := eq_true q470
                                    have hcz70_0 : wc.cell? ⟨gb468, 0, none⟩ = some (.int .i64 ((rd_TGDirty l0_11 x5_3).f0)) := (blk_cell BK468.out 0).trans rfl
                                    have hcz70_1 : wc.cell? ⟨gb468, 1, none⟩ = some (.int .u64 ((rd_TGDirty l0_11 x5_3).f1)) := (blk_cell BK468.out 1).trans rfl
                                    have hfz70_0 := blk_frozen BK468.out 0
                                    have hfz70_1 := blk_frozen BK468.out 1
                                    go_wp2
                                    repeat (go_quiet (fail); try go_wp2)
                                    go_roundg kj44
                                    case measure => have := HJ1.out; have := HK2.out; have := HK3.out; have := HJ44.out; omega
                                    case rel => exact ⟨(wrap64 (x5_3 + 1)), (by first | rfl | (simp; done) | (simp [*]; done)), H', ⟨by have := HJ1.out; have := HK2.out; have := HK3.out; have := HJ44.out; omega⟩, ⟨by (with_reducible repeat (first | refine blk_drewN ?_ _ | refine blk_drew ?_ | refine blk_alloc ?_ _)); exact BK462.out⟩, ⟨by repeat (first | (with_reducible first | exact HB.out | apply below_alloc | apply pw_below_drewN | apply below_drew1 | refine below_set ?_ GE462.out | refine below_set ?_ GE468.out) | exact HB.out)⟩⟩
                                · rw [if_neg c63] at H
                                  exact absurd H (by simp)
                              · rw [if_neg c62] at H
                                exact absurd H (by simp)
                            · rw [if_neg c60] at H
                              have c60b0 : decide (0 < x5_3) = false := decide_eq_false c60
                              clear c60
                              have H' := Aside0.mk H
                              clear H
                              go_wp2
                              repeat (go_quiet (fail); try go_wp2)
                              go_roundg kj44
                              case measure => have := HJ1.out; have := HK2.out; have := HK3.out; have := HJ44.out; omega
                              case rel => exact ⟨(wrap64 (x5_3 + 1)), (by first | rfl | (simp; done) | (simp [*]; done)), H', ⟨by have := HJ1.out; have := HK2.out; have := HK3.out; have := HJ44.out; omega⟩, ⟨by (with_reducible repeat (first | refine blk_drewN ?_ _ | refine blk_drew ?_ | refine blk_alloc ?_ _)); exact BK462.out⟩, ⟨by repeat (first | (with_reducible first | exact HB.out | apply below_alloc | apply pw_below_drewN | apply below_drew1 | refine below_set ?_ GE462.out | refine below_set ?_ GE468.out) | exact HB.out)⟩⟩
                    · rw [if_neg c44] at H
                      exact absurd H (by simp)
                  · rw [if_neg c43] at H
                    have c43b0 : decide (x5_3 < (l0_11.length : Int)) = false := decide_eq_false c43
                    clear c43
                    obtain rfl := Option.some.inj H
                    have hcz71_0 : wr.cell? ⟨gb462, 0, none⟩ = some (.int .i64 a0_0) := (blk_cell BK462.out 0).trans rfl
                    have hcz71_1 : wr.cell? ⟨gb462, 1, none⟩ = some (.int .u64 a0_1) := (blk_cell BK462.out 1).trans rfl
                    have hcz71_2 : wr.cell? ⟨gb462, 2, none⟩ = some (.int .i64 a0_2) := (blk_cell BK462.out 2).trans rfl
                    have hcz71_3 : wr.cell? ⟨gb462, 3, none⟩ = some (.int .u64 a0_3) := (blk_cell BK462.out 3).trans rfl
                    have hcz71_4 : wr.cell? ⟨gb462, 4, none⟩ = some (.int .u64 a0_4) := (blk_cell BK462.out 4).trans rfl
                    have hcz71_5 : wr.cell? ⟨gb462, 5, none⟩ = some (.int .i64 a0_5) := (blk_cell BK462.out 5).trans rfl
                    have hcz71_6 : wr.cell? ⟨gb462, 6, none⟩ = some (.int .i64 a0_6) := (blk_cell BK462.out 6).trans rfl
                    have hcz71_7 : wr.cell? ⟨gb462, 7, none⟩ = some (.string a0_7) := (blk_cell BK462.out 7).trans rfl
                    have hcz71_8 : wr.cell? ⟨gb462, 8, none⟩ = some (.string a0_8) := (blk_cell BK462.out 8).trans rfl
                    have hcz71_9 : wr.cell? ⟨gb462, 9, none⟩ = some (.string a0_9) := (blk_cell BK462.out 9).trans rfl
                    have hcz71_10 : wr.cell? ⟨gb462, 10, none⟩ = some (.slice A0_10 l0_10.length c0_10) := (blk_cell BK462.out 10).trans rfl
                    have hcz71_11 : wr.cell? ⟨gb462, 11, none⟩ = some (.slice A0_11 l0_11.length c0_11) := (blk_cell BK462.out 11).trans rfl
                    have hfz71_0 := blk_frozen BK462.out 0
                    have hfz71_1 := blk_frozen BK462.out 1
                    have hfz71_2 := blk_frozen BK462.out 2
                    have hfz71_3 := blk_frozen BK462.out 3
                    have hfz71_4 := blk_frozen BK462.out 4
                    have hfz71_5 := blk_frozen BK462.out 5
                    have hfz71_6 := blk_frozen BK462.out 6
                    have hfz71_7 := blk_frozen BK462.out 7
                    have hfz71_8 := blk_frozen BK462.out 8
                    have hfz71_9 := blk_frozen BK462.out 9
                    have hfz71_10 := blk_frozen BK462.out 10
                    have hfz71_11 := blk_frozen BK462.out 11
                    go_wp2
                    repeat (go_quiet (fail); try go_wp2)
                    go_ret
                    exact ⟨by first | rfl | (simp [errW_none, errW_some] <;> rfl) | (simp [*, errW_none, errW_some] <;> rfl), by repeat (first | (with_reducible first | exact HB.out | apply below_alloc | apply pw_below_drewN | apply below_drew1 | refine below_set ?_ GE462.out) | exact HB.out)⟩


end Go.Proofs.Ytaahfokdgfopcaa.Rf
