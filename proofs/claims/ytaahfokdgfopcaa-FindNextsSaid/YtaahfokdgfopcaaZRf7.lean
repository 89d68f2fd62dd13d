/- Functions of the Go text as Lean functions, and that the calls answer so. -/
import Derived.Test.YtaahfokdgfopcaaZRfT
import Derived.Test.YtaahfokdgfopcaaZRf5
import Derived.Test.YtaahfokdgfopcaaZRf6
namespace Go.Proofs.Ytaahfokdgfopcaa.Rf
open Go.RowKit Go.Proofs.YtaahfokdgfopcaaW.PrintWords Go.Proofs.YtaahfokdgfopcaaW.PrintLast Go.Proofs.YtaahfokdgfopcaaW.PrintMore
attribute [local go_sem] max2_int min2_int max_two min_two max_three min_three max_four min_four
set_option linter.unusedVariables false
set_option linter.unusedSimpArgs false

attribute [local go_sem high] eqAGAct
attribute [local go_sem high] eqAGTxn
attribute [local go_sem high] eqAGDirty

/-! ### flotillaref05_May -/
mutual
def flotillaref05_May.j0 : Nat → Bool → Int → Int → Int → Int → Int → Int → Int → ByteArray → ByteArray → ByteArray → List (SGTxn) → List (SGDirty) → Option (Bool)
  | 0, _, _, _, _, _, _, _, _, _, _, _, _, _ => none
  | k + 1, x30, x472000, x472001, x472002, x472003, x472004, x472005, x472006, x472007, x472008, x472009, x472010, x472011 => if x30 = true then (some false) else ((flotillaref05_Changes.f x472000).bind fun t473 => (if t473 = true then (if x472005 < 0 then (some false) else (if x472005 > 15 then (some false) else ((flotillaref05_ActMay.f x472006 x472007 x472008 x472009).bind fun t474 => (if t474 = true then (flotillaref05_May.j1 k x472000 x472001 x472002 x472003 x472004 x472005 x472006 x472007 x472008 x472009 x472010 x472011) else (some false))))) else (if x472005 = 0 then (if (!(x472006 == 0) || (!(x472007.toList == ([] : List UInt8)) || (!(x472008.toList == ([] : List UInt8)) || (!(x472009.toList == ([] : List UInt8)))))) = true then (some false) else (flotillaref05_May.j1 k x472000 x472001 x472002 x472003 x472004 x472005 x472006 x472007 x472008 x472009 x472010 x472011)) else (some false))))
def flotillaref05_May.j1 : Nat → Int → Int → Int → Int → Int → Int → Int → ByteArray → ByteArray → ByteArray → List (SGTxn) → List (SGDirty) → Option (Bool)
  | 0, _, _, _, _, _, _, _, _, _, _, _, _ => none
  | k + 1, x472000, x472001, x472002, x472003, x472004, x472005, x472006, x472007, x472008, x472009, x472010, x472011 => if x472000 = 2 then (flotillaref05_May.j2 k false x472000 x472001 x472002 x472003 x472004 x472005 x472006 x472007 x472008 x472009 x472010 x472011) else (flotillaref05_May.j2 k (x472004 != 0) x472000 x472001 x472002 x472003 x472004 x472005 x472006 x472007 x472008 x472009 x472010 x472011)
def flotillaref05_May.j2 : Nat → Bool → Int → Int → Int → Int → Int → Int → Int → ByteArray → ByteArray → ByteArray → List (SGTxn) → List (SGDirty) → Option (Bool)
  | 0, _, _, _, _, _, _, _, _, _, _, _, _, _ => none
  | k + 1, x64, x472000, x472001, x472002, x472003, x472004, x472005, x472006, x472007, x472008, x472009, x472010, x472011 => if x64 = true then (some false) else (if x472000 = 7 then (flotillaref05_May.j3 k true x472000 x472001 x472002 x472003 x472004 x472005 x472006 x472007 x472008 x472009 x472010 x472011) else (flotillaref05_May.j3 k (x472000 == 8) x472000 x472001 x472002 x472003 x472004 x472005 x472006 x472007 x472008 x472009 x472010 x472011))
def flotillaref05_May.j3 : Nat → Bool → Int → Int → Int → Int → Int → Int → Int → ByteArray → ByteArray → ByteArray → List (SGTxn) → List (SGDirty) → Option (Bool)
  | 0, _, _, _, _, _, _, _, _, _, _, _, _, _ => none
  | k + 1, x72, x472000, x472001, x472002, x472003, x472004, x472005, x472006, x472007, x472008, x472009, x472010, x472011 => if x72 = true then (if x472002 = 0 then (flotillaref05_May.j4 k (x472003 != 0) x472000 x472001 x472002 x472003 x472004 x472005 x472006 x472007 x472008 x472009 x472010 x472011) else (flotillaref05_May.j4 k true x472000 x472001 x472002 x472003 x472004 x472005 x472006 x472007 x472008 x472009 x472010 x472011)) else (if x472002 < 1 then (flotillaref05_May.j5 k true x472000 x472001 x472002 x472003 x472004 x472005 x472006 x472007 x472008 x472009 x472010 x472011) else (flotillaref05_May.j5 k (decide (x472002 > 1073741824)) x472000 x472001 x472002 x472003 x472004 x472005 x472006 x472007 x472008 x472009 x472010 x472011))
def flotillaref05_May.j4 : Nat → Bool → Int → Int → Int → Int → Int → Int → Int → ByteArray → ByteArray → ByteArray → List (SGTxn) → List (SGDirty) → Option (Bool)
  | 0, _, _, _, _, _, _, _, _, _, _, _, _, _ => none
  | k + 1, x80, x472000, x472001, x472002, x472003, x472004, x472005, x472006, x472007, x472008, x472009, x472010, x472011 => if x80 = true then (some false) else (if x472000 = 8 then ((flotillaref05_Rows.f k x472000 x472001 x472002 x472003 x472004 x472005 x472006 x472007 x472008 x472009 x472010 x472011).bind fun t475 => (some t475)) else (if (wrap64 ((x472010.length : Int) + (x472011.length : Int))) > 0 then (some false) else ((flotillaref05_Rows.f k x472000 x472001 x472002 x472003 x472004 x472005 x472006 x472007 x472008 x472009 x472010 x472011).bind fun t476 => (some t476))))
def flotillaref05_May.j5 : Nat → Bool → Int → Int → Int → Int → Int → Int → Int → ByteArray → ByteArray → ByteArray → List (SGTxn) → List (SGDirty) → Option (Bool)
  | 0, _, _, _, _, _, _, _, _, _, _, _, _, _ => none
  | k + 1, x88, x472000, x472001, x472002, x472003, x472004, x472005, x472006, x472007, x472008, x472009, x472010, x472011 => if x88 = true then (some false) else (if x472000 = 8 then ((flotillaref05_Rows.f k x472000 x472001 x472002 x472003 x472004 x472005 x472006 x472007 x472008 x472009 x472010 x472011).bind fun t477 => (some t477)) else (if (wrap64 ((x472010.length : Int) + (x472011.length : Int))) > 0 then (some false) else ((flotillaref05_Rows.f k x472000 x472001 x472002 x472003 x472004 x472005 x472006 x472007 x472008 x472009 x472010 x472011).bind fun t478 => (some t478))))
end
def flotillaref05_May.f (k : Nat) (a0_0 : Int) (a0_1 : Int) (a0_2 : Int) (a0_3 : Int) (a0_4 : Int) (a0_5 : Int) (a0_6 : Int) (a0_7 : ByteArray) (a0_8 : ByteArray) (a0_9 : ByteArray) (l0_10 : List (SGTxn)) (l0_11 : List (SGDirty)) : Option (Bool) := if a0_0 < 1 then (flotillaref05_May.j0 k true a0_0 a0_1 a0_2 a0_3 a0_4 a0_5 a0_6 a0_7 a0_8 a0_9 l0_10 l0_11) else (if a0_0 > 8 then (flotillaref05_May.j0 k true a0_0 a0_1 a0_2 a0_3 a0_4 a0_5 a0_6 a0_7 a0_8 a0_9 l0_10 l0_11) else ((flotillaref05_Numbered.f a0_1).bind fun t472 => (if t472 = true then (if a0_3 ≥ a0_1 then (flotillaref05_May.j0 k true a0_0 a0_1 a0_2 a0_3 a0_4 a0_5 a0_6 a0_7 a0_8 a0_9 l0_10 l0_11) else (flotillaref05_May.j0 k (decide (a0_4 ≥ a0_1)) a0_0 a0_1 a0_2 a0_3 a0_4 a0_5 a0_6 a0_7 a0_8 a0_9 l0_10 l0_11)) else (flotillaref05_May.j0 k true a0_0 a0_1 a0_2 a0_3 a0_4 a0_5 a0_6 a0_7 a0_8 a0_9 l0_10 l0_11))))
theorem flotillaref05_May.mono_l : ∀ k, (∀ y0 y1 y2 y3 y4 y5 y6 y7 y8 y9 y10 y11 y12, LeO (flotillaref05_May.j0 k y0 y1 y2 y3 y4 y5 y6 y7 y8 y9 y10 y11 y12) (flotillaref05_May.j0 (k + 1) y0 y1 y2 y3 y4 y5 y6 y7 y8 y9 y10 y11 y12)) ∧ (∀ y0 y1 y2 y3 y4 y5 y6 y7 y8 y9 y10 y11, LeO (flotillaref05_May.j1 k y0 y1 y2 y3 y4 y5 y6 y7 y8 y9 y10 y11) (flotillaref05_May.j1 (k + 1) y0 y1 y2 y3 y4 y5 y6 y7 y8 y9 y10 y11)) ∧ (∀ y0 y1 y2 y3 y4 y5 y6 y7 y8 y9 y10 y11 y12, LeO (flotillaref05_May.j2 k y0 y1 y2 y3 y4 y5 y6 y7 y8 y9 y10 y11 y12) (flotillaref05_May.j2 (k + 1) y0 y1 y2 y3 y4 y5 y6 y7 y8 y9 y10 y11 y12)) ∧ (∀ y0 y1 y2 y3 y4 y5 y6 y7 y8 y9 y10 y11 y12, LeO (flotillaref05_May.j3 k y0 y1 y2 y3 y4 y5 y6 y7 y8 y9 y10 y11 y12) (flotillaref05_May.j3 (k + 1) y0 y1 y2 y3 y4 y5 y6 y7 y8 y9 y10 y11 y12)) ∧ (∀ y0 y1 y2 y3 y4 y5 y6 y7 y8 y9 y10 y11 y12, LeO (flotillaref05_May.j4 k y0 y1 y2 y3 y4 y5 y6 y7 y8 y9 y10 y11 y12) (flotillaref05_May.j4 (k + 1) y0 y1 y2 y3 y4 y5 y6 y7 y8 y9 y10 y11 y12)) ∧ (∀ y0 y1 y2 y3 y4 y5 y6 y7 y8 y9 y10 y11 y12, LeO (flotillaref05_May.j5 k y0 y1 y2 y3 y4 y5 y6 y7 y8 y9 y10 y11 y12) (flotillaref05_May.j5 (k + 1) y0 y1 y2 y3 y4 y5 y6 y7 y8 y9 y10 y11 y12))
  | 0 => ⟨fun _ _ _ _ _ _ _ _ _ _ _ _ _ r h => by simp [flotillaref05_May.j0] at h, fun _ _ _ _ _ _ _ _ _ _ _ _ r h => by simp [flotillaref05_May.j1] at h, fun _ _ _ _ _ _ _ _ _ _ _ _ _ r h => by simp [flotillaref05_May.j2] at h, fun _ _ _ _ _ _ _ _ _ _ _ _ _ r h => by simp [flotillaref05_May.j3] at h, fun _ _ _ _ _ _ _ _ _ _ _ _ _ r h => by simp [flotillaref05_May.j4] at h, fun _ _ _ _ _ _ _ _ _ _ _ _ _ r h => by simp [flotillaref05_May.j5] at h⟩
  | k + 1 => by
    obtain ⟨ih0, ih1, ih2, ih3, ih4, ih5⟩ := flotillaref05_May.mono_l k
    refine ⟨?_, ?_, ?_, ?_, ?_, ?_⟩
    · intro y0 y1 y2 y3 y4 y5 y6 y7 y8 y9 y10 y11 y12
      unfold flotillaref05_May.j0
      repeat' first
      | (with_reducible exact ih0 _ _ _ _ _ _ _ _ _ _ _ _ _)
      | (with_reducible exact ih1 _ _ _ _ _ _ _ _ _ _ _ _)
      | (with_reducible exact ih2 _ _ _ _ _ _ _ _ _ _ _ _ _)
      | (with_reducible exact ih3 _ _ _ _ _ _ _ _ _ _ _ _ _)
      | (with_reducible exact ih4 _ _ _ _ _ _ _ _ _ _ _ _ _)
      | (with_reducible exact ih5 _ _ _ _ _ _ _ _ _ _ _ _ _)
      | (with_reducible exact flotillaref05_Rows.mono _ _ _ _ _ _ _ _ _ _ _ _ _)
      | (with_reducible exact LeO.refl _)
      | (with_reducible exact LeO.none _)
      | (with_reducible refine LeO.ite ?_ ?_)
      | (with_reducible refine LeO.bind ?_ (fun _ => ?_))
      | exact ih0 _ _ _ _ _ _ _ _ _ _ _ _ _
      | exact ih1 _ _ _ _ _ _ _ _ _ _ _ _
      | exact ih2 _ _ _ _ _ _ _ _ _ _ _ _ _
      | exact ih3 _ _ _ _ _ _ _ _ _ _ _ _ _
      | exact ih4 _ _ _ _ _ _ _ _ _ _ _ _ _
      | exact ih5 _ _ _ _ _ _ _ _ _ _ _ _ _
      | exact flotillaref05_Rows.mono _ _ _ _ _ _ _ _ _ _ _ _ _
      | exact LeO.none _
      | refine LeO.ite ?_ ?_
      | refine LeO.bind ?_ (fun _ => ?_)
    · intro y0 y1 y2 y3 y4 y5 y6 y7 y8 y9 y10 y11
      unfold flotillaref05_May.j1
      repeat' first
      | (with_reducible exact ih0 _ _ _ _ _ _ _ _ _ _ _ _ _)
      | (with_reducible exact ih1 _ _ _ _ _ _ _ _ _ _ _ _)
      | (with_reducible exact ih2 _ _ _ _ _ _ _ _ _ _ _ _ _)
      | (with_reducible exact ih3 _ _ _ _ _ _ _ _ _ _ _ _ _)
      | (with_reducible exact ih4 _ _ _ _ _ _ _ _ _ _ _ _ _)
      | (with_reducible exact ih5 _ _ _ _ _ _ _ _ _ _ _ _ _)
      | (with_reducible exact flotillaref05_Rows.mono _ _ _ _ _ _ _ _ _ _ _ _ _)
      | (with_reducible exact LeO.refl _)
      | (with_reducible exact LeO.none _)
      | (with_reducible refine LeO.ite ?_ ?_)
      | (with_reducible refine LeO.bind ?_ (fun _ => ?_))
      | exact ih0 _ _ _ _ _ _ _ _ _ _ _ _ _
      | exact ih1 _ _ _ _ _ _ _ _ _ _ _ _
      | exact ih2 _ _ _ _ _ _ _ _ _ _ _ _ _
      | exact ih3 _ _ _ _ _ _ _ _ _ _ _ _ _
      | exact ih4 _ _ _ _ _ _ _ _ _ _ _ _ _
      | exact ih5 _ _ _ _ _ _ _ _ _ _ _ _ _
      | exact flotillaref05_Rows.mono _ _ _ _ _ _ _ _ _ _ _ _ _
      | exact LeO.none _
      | refine LeO.ite ?_ ?_
      | refine LeO.bind ?_ (fun _ => ?_)
    · intro y0 y1 y2 y3 y4 y5 y6 y7 y8 y9 y10 y11 y12
      unfold flotillaref05_May.j2
      repeat' first
      | (with_reducible exact ih0 _ _ _ _ _ _ _ _ _ _ _ _ _)
      | (with_reducible exact ih1 _ _ _ _ _ _ _ _ _ _ _ _)
      | (with_reducible exact ih2 _ _ _ _ _ _ _ _ _ _ _ _ _)
      | (with_reducible exact ih3 _ _ _ _ _ _ _ _ _ _ _ _ _)
      | (with_reducible exact ih4 _ _ _ _ _ _ _ _ _ _ _ _ _)
      | (with_reducible exact ih5 _ _ _ _ _ _ _ _ _ _ _ _ _)
      | (with_reducible exact flotillaref05_Rows.mono _ _ _ _ _ _ _ _ _ _ _ _ _)
      | (with_reducible exact LeO.refl _)
      | (with_reducible exact LeO.none _)
      | (with_reducible refine LeO.ite ?_ ?_)
      | (with_reducible refine LeO.bind ?_ (fun _ => ?_))
      | exact ih0 _ _ _ _ _ _ _ _ _ _ _ _ _
      | exact ih1 _ _ _ _ _ _ _ _ _ _ _ _
      | exact ih2 _ _ _ _ _ _ _ _ _ _ _ _ _
      | exact ih3 _ _ _ _ _ _ _ _ _ _ _ _ _
      | exact ih4 _ _ _ _ _ _ _ _ _ _ _ _ _
      | exact ih5 _ _ _ _ _ _ _ _ _ _ _ _ _
      | exact flotillaref05_Rows.mono _ _ _ _ _ _ _ _ _ _ _ _ _
      | exact LeO.none _
      | refine LeO.ite ?_ ?_
      | refine LeO.bind ?_ (fun _ => ?_)
    · intro y0 y1 y2 y3 y4 y5 y6 y7 y8 y9 y10 y11 y12
      unfold flotillaref05_May.j3
      repeat' first
      | (with_reducible exact ih0 _ _ _ _ _ _ _ _ _ _ _ _ _)
      | (with_reducible exact ih1 _ _ _ _ _ _ _ _ _ _ _ _)
      | (with_reducible exact ih2 _ _ _ _ _ _ _ _ _ _ _ _ _)
      | (with_reducible exact ih3 _ _ _ _ _ _ _ _ _ _ _ _ _)
      | (with_reducible exact ih4 _ _ _ _ _ _ _ _ _ _ _ _ _)
      | (with_reducible exact ih5 _ _ _ _ _ _ _ _ _ _ _ _ _)
      | (with_reducible exact flotillaref05_Rows.mono _ _ _ _ _ _ _ _ _ _ _ _ _)
      | (with_reducible exact LeO.refl _)
      | (with_reducible exact LeO.none _)
      | (with_reducible refine LeO.ite ?_ ?_)
      | (with_reducible refine LeO.bind ?_ (fun _ => ?_))
      | exact ih0 _ _ _ _ _ _ _ _ _ _ _ _ _
      | exact ih1 _ _ _ _ _ _ _ _ _ _ _ _
      | exact ih2 _ _ _ _ _ _ _ _ _ _ _ _ _
      | exact ih3 _ _ _ _ _ _ _ _ _ _ _ _ _
      | exact ih4 _ _ _ _ _ _ _ _ _ _ _ _ _
      | exact ih5 _ _ _ _ _ _ _ _ _ _ _ _ _
      | exact flotillaref05_Rows.mono _ _ _ _ _ _ _ _ _ _ _ _ _
      | exact LeO.none _
      | refine LeO.ite ?_ ?_
      | refine LeO.bind ?_ (fun _ => ?_)
    · intro y0 y1 y2 y3 y4 y5 y6 y7 y8 y9 y10 y11 y12
      unfold flotillaref05_May.j4
      repeat' first
      | (with_reducible exact ih0 _ _ _ _ _ _ _ _ _ _ _ _ _)
      | (with_reducible exact ih1 _ _ _ _ _ _ _ _ _ _ _ _)
      | (with_reducible exact ih2 _ _ _ _ _ _ _ _ _ _ _ _ _)
      | (with_reducible exact ih3 _ _ _ _ _ _ _ _ _ _ _ _ _)
      | (with_reducible exact ih4 _ _ _ _ _ _ _ _ _ _ _ _ _)
      | (with_reducible exact ih5 _ _ _ _ _ _ _ _ _ _ _ _ _)
      | (with_reducible exact flotillaref05_Rows.mono _ _ _ _ _ _ _ _ _ _ _ _ _)
      | (with_reducible exact LeO.refl _)
      | (with_reducible exact LeO.none _)
      | (with_reducible refine LeO.ite ?_ ?_)
      | (with_reducible refine LeO.bind ?_ (fun _ => ?_))
      | exact ih0 _ _ _ _ _ _ _ _ _ _ _ _ _
      | exact ih1 _ _ _ _ _ _ _ _ _ _ _ _
      | exact ih2 _ _ _ _ _ _ _ _ _ _ _ _ _
      | exact ih3 _ _ _ _ _ _ _ _ _ _ _ _ _
      | exact ih4 _ _ _ _ _ _ _ _ _ _ _ _ _
      | exact ih5 _ _ _ _ _ _ _ _ _ _ _ _ _
      | exact flotillaref05_Rows.mono _ _ _ _ _ _ _ _ _ _ _ _ _
      | exact LeO.none _
      | refine LeO.ite ?_ ?_
      | refine LeO.bind ?_ (fun _ => ?_)
    · intro y0 y1 y2 y3 y4 y5 y6 y7 y8 y9 y10 y11 y12
      unfold flotillaref05_May.j5
      repeat' first
      | (with_reducible exact ih0 _ _ _ _ _ _ _ _ _ _ _ _ _)
      | (with_reducible exact ih1 _ _ _ _ _ _ _ _ _ _ _ _)
      | (with_reducible exact ih2 _ _ _ _ _ _ _ _ _ _ _ _ _)
      | (with_reducible exact ih3 _ _ _ _ _ _ _ _ _ _ _ _ _)
      | (with_reducible exact ih4 _ _ _ _ _ _ _ _ _ _ _ _ _)
      | (with_reducible exact ih5 _ _ _ _ _ _ _ _ _ _ _ _ _)
      | (with_reducible exact flotillaref05_Rows.mono _ _ _ _ _ _ _ _ _ _ _ _ _)
      | (with_reducible exact LeO.refl _)
      | (with_reducible exact LeO.none _)
      | (with_reducible refine LeO.ite ?_ ?_)
      | (with_reducible refine LeO.bind ?_ (fun _ => ?_))
      | exact ih0 _ _ _ _ _ _ _ _ _ _ _ _ _
      | exact ih1 _ _ _ _ _ _ _ _ _ _ _ _
      | exact ih2 _ _ _ _ _ _ _ _ _ _ _ _ _
      | exact ih3 _ _ _ _ _ _ _ _ _ _ _ _ _
      | exact ih4 _ _ _ _ _ _ _ _ _ _ _ _ _
      | exact ih5 _ _ _ _ _ _ _ _ _ _ _ _ _
      | exact flotillaref05_Rows.mono _ _ _ _ _ _ _ _ _ _ _ _ _
      | exact LeO.none _
      | refine LeO.ite ?_ ?_
      | refine LeO.bind ?_ (fun _ => ?_)
theorem flotillaref05_May.mono : ∀ a0 a1 a2 a3 a4 a5 a6 a7 a8 a9 a10 a11 k, LeO (flotillaref05_May.f k a0 a1 a2 a3 a4 a5 a6 a7 a8 a9 a10 a11) (flotillaref05_May.f (k + 1) a0 a1 a2 a3 a4 a5 a6 a7 a8 a9 a10 a11) := by
  intro a0 a1 a2 a3 a4 a5 a6 a7 a8 a9 a10 a11 k
  obtain ⟨ih0, ih1, ih2, ih3, ih4, ih5⟩ := flotillaref05_May.mono_l k
  unfold flotillaref05_May.f
  repeat' first
      | (with_reducible exact ih0 _ _ _ _ _ _ _ _ _ _ _ _ _)
      | (with_reducible exact ih1 _ _ _ _ _ _ _ _ _ _ _ _)
      | (with_reducible exact ih2 _ _ _ _ _ _ _ _ _ _ _ _ _)
      | (with_reducible exact ih3 _ _ _ _ _ _ _ _ _ _ _ _ _)
      | (with_reducible exact ih4 _ _ _ _ _ _ _ _ _ _ _ _ _)
      | (with_reducible exact ih5 _ _ _ _ _ _ _ _ _ _ _ _ _)
      | (with_reducible exact flotillaref05_Rows.mono _ _ _ _ _ _ _ _ _ _ _ _ _)
      | (with_reducible exact LeO.refl _)
      | (with_reducible exact LeO.none _)
      | (with_reducible refine LeO.ite ?_ ?_)
      | (with_reducible refine LeO.bind ?_ (fun _ => ?_))
      | exact ih0 _ _ _ _ _ _ _ _ _ _ _ _ _
      | exact ih1 _ _ _ _ _ _ _ _ _ _ _ _
      | exact ih2 _ _ _ _ _ _ _ _ _ _ _ _ _
      | exact ih3 _ _ _ _ _ _ _ _ _ _ _ _ _
      | exact ih4 _ _ _ _ _ _ _ _ _ _ _ _ _
      | exact ih5 _ _ _ _ _ _ _ _ _ _ _ _ _
      | exact flotillaref05_Rows.mono _ _ _ _ _ _ _ _ _ _ _ _ _
      | exact LeO.none _
      | refine LeO.ite ?_ ?_
      | refine LeO.bind ?_ (fun _ => ?_)
set_option maxHeartbeats 8000000 in
set_option maxRecDepth 100000 in
theorem flotillaref05_May.calls (k : Nat) (a0_0 : Int) (a0_1 : Int) (a0_2 : Int) (a0_3 : Int) (a0_4 : Int) (a0_5 : Int) (a0_6 : Int) (a0_7 : ByteArray) (a0_8 : ByteArray) (a0_9 : ByteArray) (A0_10 : Option Addr) (c0_10 : Nat) (l0_10 : List (SGTxn)) (A0_11 : Option Addr) (c0_11 : Nat) (l0_11 : List (SGDirty)) (r : Bool) (w : World) (hr0_10 : Kd.C kGTxn w A0_10 l0_10.length l0_10) (hc0_10 : l0_10.length ≤ c0_10) (hr0_11 : Kd.C kGDirty w A0_11 l0_11.length l0_11) (hc0_11 : l0_11.length ≤ c0_11) (h : flotillaref05_May.f k a0_0 a0_1 a0_2 a0_3 a0_4 a0_5 a0_6 a0_7 a0_8 a0_9 l0_10 l0_11 = some r) :
    Calls Try.prog 38 #[.agg #[.int .i64 a0_0, .int .u64 a0_1, .int .i64 a0_2, .int .u64 a0_3, .int .u64 a0_4, .int .i64 a0_5, .int .i64 a0_6, .string a0_7, .string a0_8, .string a0_9, .slice A0_10 l0_10.length c0_10, .slice A0_11 l0_11.length c0_11]] w fun e w' => e = .returned (.bool r) ∧ Below w.heap.size w w' := by
  have hu43 := Try.underlying43
  have hu41 := Try.underlying41
  have HR0_10 := Aside0.mk hr0_10
  have HC0_10 := Aside0.mk hc0_10
  clear hr0_10 hc0_10
  have HR0_11 := Aside0.mk hr0_11
  have HC0_11 := Aside0.mk hc0_11
  clear hr0_11 hc0_11
  have HB := Aside0.mk (Below.refl w.heap.size w)
  have H : (if a0_0 < 1 then (flotillaref05_May.j0 k true a0_0 a0_1 a0_2 a0_3 a0_4 a0_5 a0_6 a0_7 a0_8 a0_9 l0_10 l0_11) else (if a0_0 > 8 then (flotillaref05_May.j0 k true a0_0 a0_1 a0_2 a0_3 a0_4 a0_5 a0_6 a0_7 a0_8 a0_9 l0_10 l0_11) else ((flotillaref05_Numbered.f a0_1).bind fun t472 => (if t472 = true then (if a0_3 ≥ a0_1 then (flotillaref05_May.j0 k true a0_0 a0_1 a0_2 a0_3 a0_4 a0_5 a0_6 a0_7 a0_8 a0_9 l0_10 l0_11) else (flotillaref05_May.j0 k (decide (a0_4 ≥ a0_1)) a0_0 a0_1 a0_2 a0_3 a0_4 a0_5 a0_6 a0_7 a0_8 a0_9 l0_10 l0_11)) else (flotillaref05_May.j0 k true a0_0 a0_1 a0_2 a0_3 a0_4 a0_5 a0_6 a0_7 a0_8 a0_9 l0_10 l0_11))))) = some r := h
  clear h
  have HC2 := Aside0.mk H
  clear H
  go_enter Try.func38, Try.ntmps38
  go_upto_region 1 with (first | ((with_reducible refine gate_dst (N := 1) rfl ?_); (try (refine gate_guard (by rfl) ?_; dsimp only)); refine box_event ?hg (N := 1) ?hd (cs := #[.int .i64 a0_0, .int .u64 a0_1, .int .i64 a0_2, .int .u64 a0_3, .int .u64 a0_4, .int .i64 a0_5, .int .i64 a0_6, .string a0_7, .string a0_8, .string a0_9, .slice A0_10 l0_10.length c0_10, .slice A0_11 l0_11.length c0_11]) (t := 43) ?hr ?_; (case hd => rfl); (case hg => rfl); (case hr => first | (go_simp; done) | (go_simp; rfl)); intro gb471 hg w3 hbox hb; have n0_ := Aside0.mk (below_step (by repeat (first | (with_reducible first | exact HB.out | apply below_alloc | apply pw_below_drewN | apply below_drew1) | exact HB.out)) hb); have n1_ := Aside0.mk (hbox); have n2_ := Aside0.mk ((by rw [hg]; exact (below_size (by repeat (first | (with_reducible first | exact HB.out | apply below_alloc | apply pw_below_drewN | apply below_drew1) | exact HB.out))) : w.heap.size ≤ gb471)); have n3_ := Aside0.mk ((by rw [hg]; exact (below_size (by repeat (first | (with_reducible first | exact HB.out | apply below_alloc | apply pw_below_drewN | apply below_drew1) | exact HB.out))) : w.heap.size ≤ gb471)); clear HB; have HB := n0_; have BK471 := n1_; have GW471 := n2_; have GE471 := n3_; clear n0_ n1_ n2_ n3_; clear hb hbox hg))
  (try simp only [Act.put, List.setIfInBounds_toArray, List.set_cons_zero, List.set_cons_succ])
  go_cut [30] (fun v30 wc => ∃ (kq : Nat) (x30_1 : Bool), v30 = .bool x30_1 ∧ Aside0 (flotillaref05_May.j0 kq x30_1 a0_0 a0_1 a0_2 a0_3 a0_4 a0_5 a0_6 a0_7 a0_8 a0_9 l0_10 l0_11 = some r) ∧ Aside0 (kq ≤ k) ∧ Aside0 (wc.heap[gb471]? = some (.cells #[.int .i64 a0_0, .int .u64 a0_1, .int .i64 a0_2, .int .u64 a0_3, .int .u64 a0_4, .int .i64 a0_5, .int .i64 a0_6, .string a0_7, .string a0_8, .string a0_9, (.slice A0_10 l0_10.length c0_10), (.slice A0_11 l0_11.length c0_11)] 43 (0, 0))) ∧ Aside0 (Below w.heap.size w wc))
  case first =>
    have H := HC2.out
    clear HC2
    by_cases c4 : a0_0 < 1
    · rw [if_pos c4] at H
      have c4b0 : decide (a0_0 < 1) = true := decide_eq_true c4
      clear c4
      (first | rw [c4b0] | (simp only [i64_w, i32_w]; rw [c4b0]) | skip)
      have H' := Aside0.mk H
      clear H
      have hcz5_0 : w3.cell? ⟨gb471, 0, none⟩ = some (.int .i64 a0_0) := (blk_cell BK471.out 0).trans rfl
      have hcz5_1 : w3.cell? ⟨gb471, 1, none⟩ = some (.int .u64 a0_1) := (blk_cell BK471.out 1).trans rfl
      have hcz5_2 : w3.cell? ⟨gb471, 2, none⟩ = some (.int .i64 a0_2) := (blk_cell BK471.out 2).trans rfl
      have hcz5_3 : w3.cell? ⟨gb471, 3, none⟩ = some (.int .u64 a0_3) := (blk_cell BK471.out 3).trans rfl
      have hcz5_4 : w3.cell? ⟨gb471, 4, none⟩ = some (.int .u64 a0_4) := (blk_cell BK471.out 4).trans rfl
      have hcz5_5 : w3.cell? ⟨gb471, 5, none⟩ = some (.int .i64 a0_5) := (blk_cell BK471.out 5).trans rfl
      have hcz5_6 : w3.cell? ⟨gb471, 6, none⟩ = some (.int .i64 a0_6) := (blk_cell BK471.out 6).trans rfl
      have hcz5_7 : w3.cell? ⟨gb471, 7, none⟩ = some (.string a0_7) := (blk_cell BK471.out 7).trans rfl
      have hcz5_8 : w3.cell? ⟨gb471, 8, none⟩ = some (.string a0_8) := (blk_cell BK471.out 8).trans rfl
      have hcz5_9 : w3.cell? ⟨gb471, 9, none⟩ = some (.string a0_9) := (blk_cell BK471.out 9).trans rfl
      have hcz5_10 : w3.cell? ⟨gb471, 10, none⟩ = some (.slice A0_10 l0_10.length c0_10) := (blk_cell BK471.out 10).trans rfl
      have hcz5_11 : w3.cell? ⟨gb471, 11, none⟩ = some (.slice A0_11 l0_11.length c0_11) := (blk_cell BK471.out 11).trans rfl
      have hfz5_0 := blk_frozen BK471.out 0
      have hfz5_1 := blk_frozen BK471.out 1
      have hfz5_2 := blk_frozen BK471.out 2
      have hfz5_3 := blk_frozen BK471.out 3
      have hfz5_4 := blk_frozen BK471.out 4
      have hfz5_5 := blk_frozen BK471.out 5
      have hfz5_6 := blk_frozen BK471.out 6
      have hfz5_7 := blk_frozen BK471.out 7
      have hfz5_8 := blk_frozen BK471.out 8
      have hfz5_9 := blk_frozen BK471.out 9
      have hfz5_10 := blk_frozen BK471.out 10
      have hfz5_11 := blk_frozen BK471.out 11
      go_wp2
      go_meet
      case rel => exact ⟨_, (true), (by first | rfl | (simp; done) | (simp [*]; done)), H', ⟨by first | omega | exact Nat.le_refl _⟩, ⟨by (with_reducible repeat (first | refine blk_drewN ?_ _ | refine blk_drew ?_ | refine blk_alloc ?_ _)); exact BK471.out⟩, ⟨by repeat (first | (with_reducible first | exact HB.out | apply below_alloc | apply pw_below_drewN | apply below_drew1 | refine below_set ?_ GE471.out) | exact HB.out)⟩⟩
    · rw [if_neg c4] at H
      have c4b0 : decide (a0_0 < 1) = false := decide_eq_false c4
      clear c4
      (first | rw [c4b0] | (simp only [i64_w, i32_w]; rw [c4b0]) | skip)
      by_cases c6 : a0_0 > 8
      · rw [if_pos c6] at H
        have c6b0 : decide (8 < a0_0) = true := decide_eq_true c6
        clear c6
        have H' := Aside0.mk H
        clear H
        have hcz7_0 : w3.cell? ⟨gb471, 0, none⟩ = some (.int .i64 a0_0) := (blk_cell BK471.out 0).trans rfl
        have hcz7_1 : w3.cell? ⟨gb471, 1, none⟩ = some (.int .u64 a0_1) := (blk_cell BK471.out 1).trans rfl
        have hcz7_2 : w3.cell? ⟨gb471, 2, none⟩ = some (.int .i64 a0_2) := (blk_cell BK471.out 2).trans rfl
        have hcz7_3 : w3.cell? ⟨gb471, 3, none⟩ = some (.int .u64 a0_3) := (blk_cell BK471.out 3).trans rfl
        have hcz7_4 : w3.cell? ⟨gb471, 4, none⟩ = some (.int .u64 a0_4) := (blk_cell BK471.out 4).trans rfl
        have hcz7_5 : w3.cell? ⟨gb471, 5, none⟩ = some (.int .i64 a0_5) := (blk_cell BK471.out 5).trans rfl
        have hcz7_6 : w3.cell? ⟨gb471, 6, none⟩ = some (.int .i64 a0_6) := (blk_cell BK471.out 6).trans rfl
        have hcz7_7 : w3.cell? ⟨gb471, 7, none⟩ = some (.string a0_7) := (blk_cell BK471.out 7).trans rfl
        have hcz7_8 : w3.cell? ⟨gb471, 8, none⟩ = some (.string a0_8) := (blk_cell BK471.out 8).trans rfl
        have hcz7_9 : w3.cell? ⟨gb471, 9, none⟩ = some (.string a0_9) := (blk_cell BK471.out 9).trans rfl
        have hcz7_10 : w3.cell? ⟨gb471, 10, none⟩ = some (.slice A0_10 l0_10.length c0_10) := (blk_cell BK471.out 10).trans rfl
        have hcz7_11 : w3.cell? ⟨gb471, 11, none⟩ = some (.slice A0_11 l0_11.length c0_11) := (blk_cell BK471.out 11).trans rfl
        have hfz7_0 := blk_frozen BK471.out 0
        have hfz7_1 := blk_frozen BK471.out 1
        have hfz7_2 := blk_frozen BK471.out 2
        have hfz7_3 := blk_frozen BK471.out 3
        have hfz7_4 := blk_frozen BK471.out 4
        have hfz7_5 := blk_frozen BK471.out 5
        have hfz7_6 := blk_frozen BK471.out 6
        have hfz7_7 := blk_frozen BK471.out 7
        have hfz7_8 := blk_frozen BK471.out 8
        have hfz7_9 := blk_frozen BK471.out 9
        have hfz7_10 := blk_frozen BK471.out 10
        have hfz7_11 := blk_frozen BK471.out 11
        go_wp2
        go_meet
        case rel => exact ⟨_, (true), (by first | rfl | (simp; done) | (simp [*]; done)), H', ⟨by first | omega | exact Nat.le_refl _⟩, ⟨by (with_reducible repeat (first | refine blk_drewN ?_ _ | refine blk_drew ?_ | refine blk_alloc ?_ _)); exact BK471.out⟩, ⟨by repeat (first | (with_reducible first | exact HB.out | apply below_alloc | apply pw_below_drewN | apply below_drew1 | refine below_set ?_ GE471.out) | exact HB.out)⟩⟩
      · rw [if_neg c6] at H
        have c6b0 : decide (8 < a0_0) = false := decide_eq_false c6
        clear c6
        replace H := Option.bind_eq_some_iff.mp H
        obtain ⟨t472, A80, H⟩ := H
        replace H : (if t472 = true then (if a0_3 ≥ a0_1 then (flotillaref05_May.j0 k true a0_0 a0_1 a0_2 a0_3 a0_4 a0_5 a0_6 a0_7 a0_8 a0_9 l0_10 l0_11) else (flotillaref05_May.j0 k (decide (a0_4 ≥ a0_1)) a0_0 a0_1 a0_2 a0_3 a0_4 a0_5 a0_6 a0_7 a0_8 a0_9 l0_10 l0_11)) else (flotillaref05_May.j0 k true a0_0 a0_1 a0_2 a0_3 a0_4 a0_5 a0_6 a0_7 a0_8 a0_9 l0_10 l0_11)) = some r := H
        have A8 := Aside0.mk A80
        clear A80
        by_cases c9 : t472 = true
        · subst c9
          have H1 : (if a0_3 ≥ a0_1 then (flotillaref05_May.j0 k true a0_0 a0_1 a0_2 a0_3 a0_4 a0_5 a0_6 a0_7 a0_8 a0_9 l0_10 l0_11) else (flotillaref05_May.j0 k (decide (a0_4 ≥ a0_1)) a0_0 a0_1 a0_2 a0_3 a0_4 a0_5 a0_6 a0_7 a0_8 a0_9 l0_10 l0_11)) = some r := by rw [if_pos rfl] at H; exact H
          clear H
          have H := H1
          clear H1
          by_cases c10 : a0_3 ≥ a0_1
          · rw [if_pos c10] at H
            have c10b0 : decide (a0_1 ≤ a0_3) = true := decide_eq_true c10
            clear c10
            have H' := Aside0.mk H
            clear H
            have hcz11_0 : w3.cell? ⟨gb471, 0, none⟩ = some (.int .i64 a0_0) := (blk_cell BK471.out 0).trans rfl
            have hcz11_1 : w3.cell? ⟨gb471, 1, none⟩ = some (.int .u64 a0_1) := (blk_cell BK471.out 1).trans rfl
            have hcz11_2 : w3.cell? ⟨gb471, 2, none⟩ = some (.int .i64 a0_2) := (blk_cell BK471.out 2).trans rfl
            have hcz11_3 : w3.cell? ⟨gb471, 3, none⟩ = some (.int .u64 a0_3) := (blk_cell BK471.out 3).trans rfl
            have hcz11_4 : w3.cell? ⟨gb471, 4, none⟩ = some (.int .u64 a0_4) := (blk_cell BK471.out 4).trans rfl
            have hcz11_5 : w3.cell? ⟨gb471, 5, none⟩ = some (.int .i64 a0_5) := (blk_cell BK471.out 5).trans rfl
            have hcz11_6 : w3.cell? ⟨gb471, 6, none⟩ = some (.int .i64 a0_6) := (blk_cell BK471.out 6).trans rfl
            have hcz11_7 : w3.cell? ⟨gb471, 7, none⟩ = some (.string a0_7) := (blk_cell BK471.out 7).trans rfl
            have hcz11_8 : w3.cell? ⟨gb471, 8, none⟩ = some (.string a0_8) := (blk_cell BK471.out 8).trans rfl
            have hcz11_9 : w3.cell? ⟨gb471, 9, none⟩ = some (.string a0_9) := (blk_cell BK471.out 9).trans rfl
            have hcz11_10 : w3.cell? ⟨gb471, 10, none⟩ = some (.slice A0_10 l0_10.length c0_10) := (blk_cell BK471.out 10).trans rfl
            have hcz11_11 : w3.cell? ⟨gb471, 11, none⟩ = some (.slice A0_11 l0_11.length c0_11) := (blk_cell BK471.out 11).trans rfl
            have hfz11_0 := blk_frozen BK471.out 0
            have hfz11_1 := blk_frozen BK471.out 1
            have hfz11_2 := blk_frozen BK471.out 2
            have hfz11_3 := blk_frozen BK471.out 3
            have hfz11_4 := blk_frozen BK471.out 4
            have hfz11_5 := blk_frozen BK471.out 5
            have hfz11_6 := blk_frozen BK471.out 6
            have hfz11_7 := blk_frozen BK471.out 7
            have hfz11_8 := blk_frozen BK471.out 8
            have hfz11_9 := blk_frozen BK471.out 9
            have hfz11_10 := blk_frozen BK471.out 10
            have hfz11_11 := blk_frozen BK471.out 11
            go_wp2_with (first | (go_at_call 50; (with_reducible refine (flotillaref05_Numbered.calls a0_1 true _ A8.out).mono ?_); rintro e w' ⟨rfl, ⟨nd, rfl⟩⟩))
            go_meet
            case rel => exact ⟨_, (true), (by first | rfl | (simp; done) | (simp [*]; done)), H', ⟨by first | omega | exact Nat.le_refl _⟩, ⟨by (with_reducible repeat (first | refine blk_drewN ?_ _ | refine blk_drew ?_ | refine blk_alloc ?_ _)); exact BK471.out⟩, ⟨by repeat (first | (with_reducible first | exact HB.out | apply below_alloc | apply pw_below_drewN | apply below_drew1 | refine below_set ?_ GE471.out) | exact HB.out)⟩⟩
          · rw [if_neg c10] at H
            have c10b0 : decide (a0_1 ≤ a0_3) = false := decide_eq_false c10
            clear c10
            have H' := Aside0.mk H
            clear H
            have hcz12_0 : w3.cell? ⟨gb471, 0, none⟩ = some (.int .i64 a0_0) := (blk_cell BK471.out 0).trans rfl
            have hcz12_1 : w3.cell? ⟨gb471, 1, none⟩ = some (.int .u64 a0_1) := (blk_cell BK471.out 1).trans rfl
            have hcz12_2 : w3.cell? ⟨gb471, 2, none⟩ = some (.int .i64 a0_2) := (blk_cell BK471.out 2).trans rfl
            have hcz12_3 : w3.cell? ⟨gb471, 3, none⟩ = some (.int .u64 a0_3) := (blk_cell BK471.out 3).trans rfl
            have hcz12_4 : w3.cell? ⟨gb471, 4, none⟩ = some (.int .u64 a0_4) := (blk_cell BK471.out 4).trans rfl
            have hcz12_5 : w3.cell? ⟨gb471, 5, none⟩ = some (.int .i64 a0_5) := (blk_cell BK471.out 5).trans rfl
            have hcz12_6 : w3.cell? ⟨gb471, 6, none⟩ = some (.int .i64 a0_6) := (blk_cell BK471.out 6).trans rfl
            have hcz12_7 : w3.cell? ⟨gb471, 7, none⟩ = some (.string a0_7) := (blk_cell BK471.out 7).trans rfl
            have hcz12_8 : w3.cell? ⟨gb471, 8, none⟩ = some (.string a0_8) := (blk_cell BK471.out 8).trans rfl
            have hcz12_9 : w3.cell? ⟨gb471, 9, none⟩ = some (.string a0_9) := (blk_cell BK471.out 9).trans rfl
            have hcz12_10 : w3.cell? ⟨gb471, 10, none⟩ = some (.slice A0_10 l0_10.length c0_10) := (blk_cell BK471.out 10).trans rfl
            have hcz12_11 : w3.cell? ⟨gb471, 11, none⟩ = some (.slice A0_11 l0_11.length c0_11) := (blk_cell BK471.out 11).trans rfl
            have hfz12_0 := blk_frozen BK471.out 0
            have hfz12_1 := blk_frozen BK471.out 1
            have hfz12_2 := blk_frozen BK471.out 2
            have hfz12_3 := blk_frozen BK471.out 3
            have hfz12_4 := blk_frozen BK471.out 4
            have hfz12_5 := blk_frozen BK471.out 5
            have hfz12_6 := blk_frozen BK471.out 6
            have hfz12_7 := blk_frozen BK471.out 7
            have hfz12_8 := blk_frozen BK471.out 8
            have hfz12_9 := blk_frozen BK471.out 9
            have hfz12_10 := blk_frozen BK471.out 10
            have hfz12_11 := blk_frozen BK471.out 11
            go_wp2_with (first | (go_at_call 50; (with_reducible refine (flotillaref05_Numbered.calls a0_1 true _ A8.out).mono ?_); rintro e w' ⟨rfl, ⟨nd, rfl⟩⟩))
            go_meet
            case rel => exact ⟨_, (decide (a0_4 ≥ a0_1)), (by first | rfl | (simp; done) | (simp [*]; done)), H', ⟨by first | omega | exact Nat.le_refl _⟩, ⟨by (with_reducible repeat (first | refine blk_drewN ?_ _ | refine blk_drew ?_ | refine blk_alloc ?_ _)); exact BK471.out⟩, ⟨by repeat (first | (with_reducible first | exact HB.out | apply below_alloc | apply pw_below_drewN | apply below_drew1 | refine below_set ?_ GE471.out) | exact HB.out)⟩⟩
        · replace c9 := Bool.eq_false_iff.mpr c9
          subst c9
          have H1 : (flotillaref05_May.j0 k true a0_0 a0_1 a0_2 a0_3 a0_4 a0_5 a0_6 a0_7 a0_8 a0_9 l0_10 l0_11) = some r := by rw [if_neg (show ¬ (false = true) by decide)] at H; exact H
          clear H
          have H := H1
          clear H1
          have H' := Aside0.mk H
          clear H
          have hcz13_0 : w3.cell? ⟨gb471, 0, none⟩ = some (.int .i64 a0_0) := (blk_cell BK471.out 0).trans rfl
          have hcz13_1 : w3.cell? ⟨gb471, 1, none⟩ = some (.int .u64 a0_1) := (blk_cell BK471.out 1).trans rfl
          have hcz13_2 : w3.cell? ⟨gb471, 2, none⟩ = some (.int .i64 a0_2) := (blk_cell BK471.out 2).trans rfl
          have hcz13_3 : w3.cell? ⟨gb471, 3, none⟩ = some (.int .u64 a0_3) := (blk_cell BK471.out 3).trans rfl
          have hcz13_4 : w3.cell? ⟨gb471, 4, none⟩ = some (.int .u64 a0_4) := (blk_cell BK471.out 4).trans rfl
          have hcz13_5 : w3.cell? ⟨gb471, 5, none⟩ = some (.int .i64 a0_5) := (blk_cell BK471.out 5).trans rfl
          have hcz13_6 : w3.cell? ⟨gb471, 6, none⟩ = some (.int .i64 a0_6) := (blk_cell BK471.out 6).trans rfl
          have hcz13_7 : w3.cell? ⟨gb471, 7, none⟩ = some (.string a0_7) := (blk_cell BK471.out 7).trans rfl
          have hcz13_8 : w3.cell? ⟨gb471, 8, none⟩ = some (.string a0_8) := (blk_cell BK471.out 8).trans rfl
          have hcz13_9 : w3.cell? ⟨gb471, 9, none⟩ = some (.string a0_9) := (blk_cell BK471.out 9).trans rfl
          have hcz13_10 : w3.cell? ⟨gb471, 10, none⟩ = some (.slice A0_10 l0_10.length c0_10) := (blk_cell BK471.out 10).trans rfl
          have hcz13_11 : w3.cell? ⟨gb471, 11, none⟩ = some (.slice A0_11 l0_11.length c0_11) := (blk_cell BK471.out 11).trans rfl
          have hfz13_0 := blk_frozen BK471.out 0
          have hfz13_1 := blk_frozen BK471.out 1
          have hfz13_2 := blk_frozen BK471.out 2
          have hfz13_3 := blk_frozen BK471.out 3
          have hfz13_4 := blk_frozen BK471.out 4
          have hfz13_5 := blk_frozen BK471.out 5
          have hfz13_6 := blk_frozen BK471.out 6
          have hfz13_7 := blk_frozen BK471.out 7
          have hfz13_8 := blk_frozen BK471.out 8
          have hfz13_9 := blk_frozen BK471.out 9
          have hfz13_10 := blk_frozen BK471.out 10
          have hfz13_11 := blk_frozen BK471.out 11
          go_wp2_with (first | (go_at_call 50; (with_reducible refine (flotillaref05_Numbered.calls a0_1 false _ A8.out).mono ?_); rintro e w' ⟨rfl, ⟨nd, rfl⟩⟩))
          go_meet
          case rel => exact ⟨_, (true), (by first | rfl | (simp; done) | (simp [*]; done)), H', ⟨by first | omega | exact Nat.le_refl _⟩, ⟨by (with_reducible repeat (first | refine blk_drewN ?_ _ | refine blk_drew ?_ | refine blk_alloc ?_ _)); exact BK471.out⟩, ⟨by repeat (first | (with_reducible first | exact HB.out | apply below_alloc | apply pw_below_drewN | apply below_drew1 | refine below_set ?_ GE471.out) | exact HB.out)⟩⟩
  case rest =>
    clear HC2
    try clear c1
    try clear p2
    try clear c3
    try clear c4
    try clear c4b0
    try clear c6
    try clear c6b0
    try clear c9
    try clear c10
    try clear c10b0
    try clear hcz11_0
    try clear hcz11_1
    try clear hcz11_10
    try clear hcz11_11
    try clear hcz11_2
    try clear hcz11_3
    try clear hcz11_4
    try clear hcz11_5
    try clear hcz11_6
    try clear hcz11_7
    try clear hcz11_8
    try clear hcz11_9
    try clear hcz12_0
    try clear hcz12_1
    try clear hcz12_10
    try clear hcz12_11
    try clear hcz12_2
    try clear hcz12_3
    try clear hcz12_4
    try clear hcz12_5
    try clear hcz12_6
    try clear hcz12_7
    try clear hcz12_8
    try clear hcz12_9
    try clear hcz13_0
    try clear hcz13_1
    try clear hcz13_10
    try clear hcz13_11
    try clear hcz13_2
    try clear hcz13_3
    try clear hcz13_4
    try clear hcz13_5
    try clear hcz13_6
    try clear hcz13_7
    try clear hcz13_8
    try clear hcz13_9
    try clear hcz5_0
    try clear hcz5_1
    try clear hcz5_10
    try clear hcz5_11
    try clear hcz5_2
    try clear hcz5_3
    try clear hcz5_4
    try clear hcz5_5
    try clear hcz5_6
    try clear hcz5_7
    try clear hcz5_8
    try clear hcz5_9
    try clear hcz7_0
    try clear hcz7_1
    try clear hcz7_10
    try clear hcz7_11
    try clear hcz7_2
    try clear hcz7_3
    try clear hcz7_4
    try clear hcz7_5
    try clear hcz7_6
    try clear hcz7_7
    try clear hcz7_8
    try clear hcz7_9
    try clear hfz11_0
    try clear hfz11_1
    try clear hfz11_10
    try clear hfz11_11
    try clear hfz11_2
    try clear hfz11_3
    try clear hfz11_4
    try clear hfz11_5
    try clear hfz11_6
    try clear hfz11_7
    try clear hfz11_8
    try clear hfz11_9
    try clear hfz12_0
    try clear hfz12_1
    try clear hfz12_10
    try clear hfz12_11
    try clear hfz12_2
    try clear hfz12_3
    try clear hfz12_4
    try clear hfz12_5
    try clear hfz12_6
    try clear hfz12_7
    try clear hfz12_8
    try clear hfz12_9
    try clear hfz13_0
    try clear hfz13_1
    try clear hfz13_10
    try clear hfz13_11
    try clear hfz13_2
    try clear hfz13_3
    try clear hfz13_4
    try clear hfz13_5
    try clear hfz13_6
    try clear hfz13_7
    try clear hfz13_8
    try clear hfz13_9
    try clear hfz5_0
    try clear hfz5_1
    try clear hfz5_10
    try clear hfz5_11
    try clear hfz5_2
    try clear hfz5_3
    try clear hfz5_4
    try clear hfz5_5
    try clear hfz5_6
    try clear hfz5_7
    try clear hfz5_8
    try clear hfz5_9
    try clear hfz7_0
    try clear hfz7_1
    try clear hfz7_10
    try clear hfz7_11
    try clear hfz7_2
    try clear hfz7_3
    try clear hfz7_4
    try clear hfz7_5
    try clear hfz7_6
    try clear hfz7_7
    try clear hfz7_8
    try clear hfz7_9
    obtain ⟨kq, x30_1, rfl, HA, HJ1, BK471, HB⟩ := hcut
    cases kq with
    | zero => exact absurd HA.out (by simp [flotillaref05_May.j0])
    | succ kj1 =>
      have H := HA.out
      clear HA
      simp only [flotillaref05_May.j0] at H
      by_cases c14 : x30_1 = true
      · subst c14
        have H1 : (some false) = some r := by rw [if_pos rfl] at H; exact H
        clear H
        have H := H1
        clear H1
        obtain rfl := Option.some.inj H
        go_wp2
        go_ret
        exact ⟨by first | rfl | (simp [errW_none, errW_some] <;> rfl) | (simp [*, errW_none, errW_some] <;> rfl), by repeat (first | (with_reducible first | exact HB.out | apply below_alloc | apply pw_below_drewN | apply below_drew1 | refine below_set ?_ GE471.out) | exact HB.out)⟩
      · replace c14 := Bool.eq_false_iff.mpr c14
        subst c14
        have H1 : ((flotillaref05_Changes.f a0_0).bind fun t473 => (if t473 = true then (if a0_5 < 0 then (some false) else (if a0_5 > 15 then (some false) else ((flotillaref05_ActMay.f a0_6 a0_7 a0_8 a0_9).bind fun t474 => (if t474 = true then (flotillaref05_May.j1 kj1 a0_0 a0_1 a0_2 a0_3 a0_4 a0_5 a0_6 a0_7 a0_8 a0_9 l0_10 l0_11) else (some false))))) else (if a0_5 = 0 then (if (!(a0_6 == 0) || (!(a0_7.toList == ([] : List UInt8)) || (!(a0_8.toList == ([] : List UInt8)) || (!(a0_9.toList == ([] : List UInt8)))))) = true then (some false) else (flotillaref05_May.j1 kj1 a0_0 a0_1 a0_2 a0_3 a0_4 a0_5 a0_6 a0_7 a0_8 a0_9 l0_10 l0_11)) else (some false)))) = some r := by rw [if_neg (show ¬ (false = true) by decide)] at H; exact H
        clear H
        have H := H1
        clear H1
        replace H := Option.bind_eq_some_iff.mp H
        obtain ⟨t473, A150, H⟩ := H
        replace H : (if t473 = true then (if a0_5 < 0 then (some false) else (if a0_5 > 15 then (some false) else ((flotillaref05_ActMay.f a0_6 a0_7 a0_8 a0_9).bind fun t474 => (if t474 = true then (flotillaref05_May.j1 kj1 a0_0 a0_1 a0_2 a0_3 a0_4 a0_5 a0_6 a0_7 a0_8 a0_9 l0_10 l0_11) else (some false))))) else (if a0_5 = 0 then (if (!(a0_6 == 0) || (!(a0_7.toList == ([] : List UInt8)) || (!(a0_8.toList == ([] : List UInt8)) || (!(a0_9.toList == ([] : List UInt8)))))) = true then (some false) else (flotillaref05_May.j1 kj1 a0_0 a0_1 a0_2 a0_3 a0_4 a0_5 a0_6 a0_7 a0_8 a0_9 l0_10 l0_11)) else (some false))) = some r := H
        have A15 := Aside0.mk A150
        clear A150
        have HC16 := Aside0.mk H
        clear H
        have hcz17_0 : wc.cell? ⟨gb471, 0, none⟩ = some (.int .i64 a0_0) := (blk_cell BK471.out 0).trans rfl
        have hcz17_1 : wc.cell? ⟨gb471, 1, none⟩ = some (.int .u64 a0_1) := (blk_cell BK471.out 1).trans rfl
        have hcz17_2 : wc.cell? ⟨gb471, 2, none⟩ = some (.int .i64 a0_2) := (blk_cell BK471.out 2).trans rfl
        have hcz17_3 : wc.cell? ⟨gb471, 3, none⟩ = some (.int .u64 a0_3) := (blk_cell BK471.out 3).trans rfl
        have hcz17_4 : wc.cell? ⟨gb471, 4, none⟩ = some (.int .u64 a0_4) := (blk_cell BK471.out 4).trans rfl
        have hcz17_5 : wc.cell? ⟨gb471, 5, none⟩ = some (.int .i64 a0_5) := (blk_cell BK471.out 5).trans rfl
        have hcz17_6 : wc.cell? ⟨gb471, 6, none⟩ = some (.int .i64 a0_6) := (blk_cell BK471.out 6).trans rfl
        have hcz17_7 : wc.cell? ⟨gb471, 7, none⟩ = some (.string a0_7) := (blk_cell BK471.out 7).trans rfl
        have hcz17_8 : wc.cell? ⟨gb471, 8, none⟩ = some (.string a0_8) := (blk_cell BK471.out 8).trans rfl
        have hcz17_9 : wc.cell? ⟨gb471, 9, none⟩ = some (.string a0_9) := (blk_cell BK471.out 9).trans rfl
        have hcz17_10 : wc.cell? ⟨gb471, 10, none⟩ = some (.slice A0_10 l0_10.length c0_10) := (blk_cell BK471.out 10).trans rfl
        have hcz17_11 : wc.cell? ⟨gb471, 11, none⟩ = some (.slice A0_11 l0_11.length c0_11) := (blk_cell BK471.out 11).trans rfl
        have hfz17_0 := blk_frozen BK471.out 0
        have hfz17_1 := blk_frozen BK471.out 1
        have hfz17_2 := blk_frozen BK471.out 2
        have hfz17_3 := blk_frozen BK471.out 3
        have hfz17_4 := blk_frozen BK471.out 4
        have hfz17_5 := blk_frozen BK471.out 5
        have hfz17_6 := blk_frozen BK471.out 6
        have hfz17_7 := blk_frozen BK471.out 7
        have hfz17_8 := blk_frozen BK471.out 8
        have hfz17_9 := blk_frozen BK471.out 9
        have hfz17_10 := blk_frozen BK471.out 10
        have hfz17_11 := blk_frozen BK471.out 11
        go_upto_if 33 with (first | ((with_reducible refine gate_callee (f := 51) rfl ?_); refine goesL_ (some 33) rfl rfl Try.func51 (by kernel_rfl) rfl #[.int .i64 a0_0] rfl (by (try simp only [List.map_toArray, List.map_cons, List.map_nil]); first | done | rfl | (simp only [List.length_drop, List.length_take]; rfl)) ?_; (with_reducible refine (flotillaref05_Changes.calls a0_0 t473 _ A15.out).mono ?_); rintro e w' ⟨rfl, ⟨nd, rfl⟩⟩; refine ⟨_, rfl, ?_⟩))
        (try simp only [Act.put, List.setIfInBounds_toArray, List.set_cons_zero, List.set_cons_succ])
        go_cut [] (fun wc => ∃ (kq : Nat), Aside0 (flotillaref05_May.j1 kq a0_0 a0_1 a0_2 a0_3 a0_4 a0_5 a0_6 a0_7 a0_8 a0_9 l0_10 l0_11 = some r) ∧ Aside0 (kq ≤ kj1) ∧ Aside0 (wc.heap[gb471]? = some (.cells #[.int .i64 a0_0, .int .u64 a0_1, .int .i64 a0_2, .int .u64 a0_3, .int .u64 a0_4, .int .i64 a0_5, .int .i64 a0_6, .string a0_7, .string a0_8, .string a0_9, (.slice A0_10 l0_10.length c0_10), (.slice A0_11 l0_11.length c0_11)] 43 (0, 0))) ∧ Aside0 (Below w.heap.size w wc))
        case first =>
          have H := HC16.out
          clear HC16
          by_cases c18 : t473 = true
          · subst c18
            have H1 : (if a0_5 < 0 then (some false) else (if a0_5 > 15 then (some false) else ((flotillaref05_ActMay.f a0_6 a0_7 a0_8 a0_9).bind fun t474 => (if t474 = true then (flotillaref05_May.j1 kj1 a0_0 a0_1 a0_2 a0_3 a0_4 a0_5 a0_6 a0_7 a0_8 a0_9 l0_10 l0_11) else (some false))))) = some r := by rw [if_pos rfl] at H; exact H
            clear H
            have H := H1
            clear H1
            by_cases c19 : a0_5 < 0
            · rw [if_pos c19] at H
              have c19b0 : decide (a0_5 < 0) = true := decide_eq_true c19
              clear c19
              (first | rw [c19b0] | (simp only [i64_w, i32_w]; rw [c19b0]) | skip)
              obtain rfl := Option.some.inj H
              have hcz20_0 : wc.cell? ⟨gb471, 0, none⟩ = some (.int .i64 a0_0) := (blk_cell BK471.out 0).trans rfl
              have hcz20_1 : wc.cell? ⟨gb471, 1, none⟩ = some (.int .u64 a0_1) := (blk_cell BK471.out 1).trans rfl
              have hcz20_2 : wc.cell? ⟨gb471, 2, none⟩ = some (.int .i64 a0_2) := (blk_cell BK471.out 2).trans rfl
              have hcz20_3 : wc.cell? ⟨gb471, 3, none⟩ = some (.int .u64 a0_3) := (blk_cell BK471.out 3).trans rfl
              have hcz20_4 : wc.cell? ⟨gb471, 4, none⟩ = some (.int .u64 a0_4) := (blk_cell BK471.out 4).trans rfl
              have hcz20_5 : wc.cell? ⟨gb471, 5, none⟩ = some (.int .i64 a0_5) := (blk_cell BK471.out 5).trans rfl
              have hcz20_6 : wc.cell? ⟨gb471, 6, none⟩ = some (.int .i64 a0_6) := (blk_cell BK471.out 6).trans rfl
              have hcz20_7 : wc.cell? ⟨gb471, 7, none⟩ = some (.string a0_7) := (blk_cell BK471.out 7).trans rfl
              have hcz20_8 : wc.cell? ⟨gb471, 8, none⟩ = some (.string a0_8) := (blk_cell BK471.out 8).trans rfl
              have hcz20_9 : wc.cell? ⟨gb471, 9, none⟩ = some (.string a0_9) := (blk_cell BK471.out 9).trans rfl
              have hcz20_10 : wc.cell? ⟨gb471, 10, none⟩ = some (.slice A0_10 l0_10.length c0_10) := (blk_cell BK471.out 10).trans rfl
              have hcz20_11 : wc.cell? ⟨gb471, 11, none⟩ = some (.slice A0_11 l0_11.length c0_11) := (blk_cell BK471.out 11).trans rfl
              have hfz20_0 := blk_frozen BK471.out 0
              have hfz20_1 := blk_frozen BK471.out 1
              have hfz20_2 := blk_frozen BK471.out 2
              have hfz20_3 := blk_frozen BK471.out 3
              have hfz20_4 := blk_frozen BK471.out 4
              have hfz20_5 := blk_frozen BK471.out 5
              have hfz20_6 := blk_frozen BK471.out 6
              have hfz20_7 := blk_frozen BK471.out 7
              have hfz20_8 := blk_frozen BK471.out 8
              have hfz20_9 := blk_frozen BK471.out 9
              have hfz20_10 := blk_frozen BK471.out 10
              have hfz20_11 := blk_frozen BK471.out 11
              go_wp2
              go_ret
              exact ⟨by first | rfl | (simp [errW_none, errW_some] <;> rfl) | (simp [*, errW_none, errW_some] <;> rfl), by repeat (first | (with_reducible first | exact HB.out | apply below_alloc | apply pw_below_drewN | apply below_drew1 | refine below_set ?_ GE471.out) | exact HB.out)⟩
            · rw [if_neg c19] at H
              have c19b0 : decide (a0_5 < 0) = false := decide_eq_false c19
              clear c19
              (first | rw [c19b0] | (simp only [i64_w, i32_w]; rw [c19b0]) | skip)
              by_cases c21 : a0_5 > 15
              · rw [if_pos c21] at H
                have c21b0 : decide (15 < a0_5) = true := decide_eq_true c21
                clear c21
                obtain rfl := Option.some.inj H
                have hcz22_0 : wc.cell? ⟨gb471, 0, none⟩ = some (.int .i64 a0_0) := (blk_cell BK471.out 0).trans rfl
                have hcz22_1 : wc.cell? ⟨gb471, 1, none⟩ = some (.int .u64 a0_1) := (blk_cell BK471.out 1).trans rfl
                have hcz22_2 : wc.cell? ⟨gb471, 2, none⟩ = some (.int .i64 a0_2) := (blk_cell BK471.out 2).trans rfl
                have hcz22_3 : wc.cell? ⟨gb471, 3, none⟩ = some (.int .u64 a0_3) := (blk_cell BK471.out 3).trans rfl
                have hcz22_4 : wc.cell? ⟨gb471, 4, none⟩ = some (.int .u64 a0_4) := (blk_cell BK471.out 4).trans rfl
                have hcz22_5 : wc.cell? ⟨gb471, 5, none⟩ = some (.int .i64 a0_5) := (blk_cell BK471.out 5).trans rfl
                have hcz22_6 : wc.cell? ⟨gb471, 6, none⟩ = some (.int .i64 a0_6) := (blk_cell BK471.out 6).trans rfl
                have hcz22_7 : wc.cell? ⟨gb471, 7, none⟩ = some (.string a0_7) := (blk_cell BK471.out 7).trans rfl
                have hcz22_8 : wc.cell? ⟨gb471, 8, none⟩ = some (.string a0_8) := (blk_cell BK471.out 8).trans rfl
                have hcz22_9 : wc.cell? ⟨gb471, 9, none⟩ = some (.string a0_9) := (blk_cell BK471.out 9).trans rfl
                have hcz22_10 : wc.cell? ⟨gb471, 10, none⟩ = some (.slice A0_10 l0_10.length c0_10) := (blk_cell BK471.out 10).trans rfl
                have hcz22_11 : wc.cell? ⟨gb471, 11, none⟩ = some (.slice A0_11 l0_11.length c0_11) := (blk_cell BK471.out 11).trans rfl
                have hfz22_0 := blk_frozen BK471.out 0
                have hfz22_1 := blk_frozen BK471.out 1
                have hfz22_2 := blk_frozen BK471.out 2
                have hfz22_3 := blk_frozen BK471.out 3
                have hfz22_4 := blk_frozen BK471.out 4
                have hfz22_5 := blk_frozen BK471.out 5
                have hfz22_6 := blk_frozen BK471.out 6
                have hfz22_7 := blk_frozen BK471.out 7
                have hfz22_8 := blk_frozen BK471.out 8
                have hfz22_9 := blk_frozen BK471.out 9
                have hfz22_10 := blk_frozen BK471.out 10
                have hfz22_11 := blk_frozen BK471.out 11
                go_wp2
                go_ret
                exact ⟨by first | rfl | (simp [errW_none, errW_some] <;> rfl) | (simp [*, errW_none, errW_some] <;> rfl), by repeat (first | (with_reducible first | exact HB.out | apply below_alloc | apply pw_below_drewN | apply below_drew1 | refine below_set ?_ GE471.out) | exact HB.out)⟩
              · rw [if_neg c21] at H
                have c21b0 : decide (15 < a0_5) = false := decide_eq_false c21
                clear c21
                replace H := Option.bind_eq_some_iff.mp H
                obtain ⟨t474, A230, H⟩ := H
                replace H : (if t474 = true then (flotillaref05_May.j1 kj1 a0_0 a0_1 a0_2 a0_3 a0_4 a0_5 a0_6 a0_7 a0_8 a0_9 l0_10 l0_11) else (some false)) = some r := H
                have A23 := Aside0.mk A230
                clear A230
                by_cases c24 : t474 = true
                · subst c24
                  have H1 : (flotillaref05_May.j1 kj1 a0_0 a0_1 a0_2 a0_3 a0_4 a0_5 a0_6 a0_7 a0_8 a0_9 l0_10 l0_11) = some r := by rw [if_pos rfl] at H; exact H
                  clear H
                  have H := H1
                  clear H1
                  have H' := Aside0.mk H
                  clear H
                  have hcz25_0 : wc.cell? ⟨gb471, 0, none⟩ = some (.int .i64 a0_0) := (blk_cell BK471.out 0).trans rfl
                  have hcz25_1 : wc.cell? ⟨gb471, 1, none⟩ = some (.int .u64 a0_1) := (blk_cell BK471.out 1).trans rfl
                  have hcz25_2 : wc.cell? ⟨gb471, 2, none⟩ = some (.int .i64 a0_2) := (blk_cell BK471.out 2).trans rfl
                  have hcz25_3 : wc.cell? ⟨gb471, 3, none⟩ = some (.int .u64 a0_3) := (blk_cell BK471.out 3).trans rfl
                  have hcz25_4 : wc.cell? ⟨gb471, 4, none⟩ = some (.int .u64 a0_4) := (blk_cell BK471.out 4).trans rfl
                  have hcz25_5 : wc.cell? ⟨gb471, 5, none⟩ = some (.int .i64 a0_5) := (blk_cell BK471.out 5).trans rfl
                  have hcz25_6 : wc.cell? ⟨gb471, 6, none⟩ = some (.int .i64 a0_6) := (blk_cell BK471.out 6).trans rfl
                  have hcz25_7 : wc.cell? ⟨gb471, 7, none⟩ = some (.string a0_7) := (blk_cell BK471.out 7).trans rfl
                  have hcz25_8 : wc.cell? ⟨gb471, 8, none⟩ = some (.string a0_8) := (blk_cell BK471.out 8).trans rfl
                  have hcz25_9 : wc.cell? ⟨gb471, 9, none⟩ = some (.string a0_9) := (blk_cell BK471.out 9).trans rfl
                  have hcz25_10 : wc.cell? ⟨gb471, 10, none⟩ = some (.slice A0_10 l0_10.length c0_10) := (blk_cell BK471.out 10).trans rfl
                  have hcz25_11 : wc.cell? ⟨gb471, 11, none⟩ = some (.slice A0_11 l0_11.length c0_11) := (blk_cell BK471.out 11).trans rfl
                  have hfz25_0 := blk_frozen BK471.out 0
                  have hfz25_1 := blk_frozen BK471.out 1
                  have hfz25_2 := blk_frozen BK471.out 2
                  have hfz25_3 := blk_frozen BK471.out 3
                  have hfz25_4 := blk_frozen BK471.out 4
                  have hfz25_5 := blk_frozen BK471.out 5
                  have hfz25_6 := blk_frozen BK471.out 6
                  have hfz25_7 := blk_frozen BK471.out 7
                  have hfz25_8 := blk_frozen BK471.out 8
                  have hfz25_9 := blk_frozen BK471.out 9
                  have hfz25_10 := blk_frozen BK471.out 10
                  have hfz25_11 := blk_frozen BK471.out 11
                  go_wp2_with (first | (go_at_call 52; (with_reducible refine (flotillaref05_ActMay.calls a0_6 a0_7 a0_8 a0_9 true _ A23.out).mono ?_); rintro e w26 ⟨rfl, hb⟩; have n0_ := Aside0.mk (blk_below (g := gb471) (o := .cells #[.int .i64 a0_0, .int .u64 a0_1, .int .i64 a0_2, .int .u64 a0_3, .int .u64 a0_4, .int .i64 a0_5, .int .i64 a0_6, .string a0_7, .string a0_8, .string a0_9, .slice A0_10 l0_10.length c0_10, .slice A0_11 l0_11.length c0_11] 43 (0, 0)) (by (with_reducible repeat (first | refine blk_drewN ?_ _ | refine blk_drew ?_ | refine blk_alloc ?_ _)); exact BK471.out) hb); have n1_ := Aside0.mk (below_step (by repeat (first | (with_reducible first | exact HB.out | apply below_alloc | apply pw_below_drewN | apply below_drew1 | refine below_set ?_ GE471.out) | exact HB.out)) hb); clear BK471; clear HB; have BK471 := n0_; have HB := n1_; clear n0_ n1_; (try clear hb); (try clear hb2); (try clear hk); (try clear hi)))
                  go_meet
                  case rel => exact ⟨_, H', ⟨by have := HJ1.out; first | omega | exact Nat.le_refl _⟩, ⟨by (with_reducible repeat (first | refine blk_drewN ?_ _ | refine blk_drew ?_ | refine blk_alloc ?_ _)); exact BK471.out⟩, ⟨by repeat (first | (with_reducible first | exact HB.out | apply below_alloc | apply pw_below_drewN | apply below_drew1 | refine below_set ?_ GE471.out) | exact HB.out)⟩⟩
                · replace c24 := Bool.eq_false_iff.mpr c24
                  subst c24
                  have H1 : (some false) = some r := by rw [if_neg (show ¬ (false = true) by decide)] at H; exact H
                  clear H
                  have H := H1
                  clear H1
                  obtain rfl := Option.some.inj H
                  have hcz27_0 : wc.cell? ⟨gb471, 0, none⟩ = some (.int .i64 a0_0) := (blk_cell BK471.out 0).trans rfl
                  have hcz27_1 : wc.cell? ⟨gb471, 1, none⟩ = some (.int .u64 a0_1) := (blk_cell BK471.out 1).trans rfl
                  have hcz27_2 : wc.cell? ⟨gb471, 2, none⟩ = some (.int .i64 a0_2) := (blk_cell BK471.out 2).trans rfl
                  have hcz27_3 : wc.cell? ⟨gb471, 3, none⟩ = some (.int .u64 a0_3) := (blk_cell BK471.out 3).trans rfl
                  have hcz27_4 : wc.cell? ⟨gb471, 4, none⟩ = some (.int .u64 a0_4) := (blk_cell BK471.out 4).trans rfl
                  have hcz27_5 : wc.cell? ⟨gb471, 5, none⟩ = some (.int .i64 a0_5) := (blk_cell BK471.out 5).trans rfl
                  have hcz27_6 : wc.cell? ⟨gb471, 6, none⟩ = some (.int .i64 a0_6) := (blk_cell BK471.out 6).trans rfl
                  have hcz27_7 : wc.cell? ⟨gb471, 7, none⟩ = some (.string a0_7) := (blk_cell BK471.out 7).trans rfl
                  have hcz27_8 : wc.cell? ⟨gb471, 8, none⟩ = some (.string a0_8) := (blk_cell BK471.out 8).trans rfl
                  have hcz27_9 : wc.cell? ⟨gb471, 9, none⟩ = some (.string a0_9) := (blk_cell BK471.out 9).trans rfl
                  have hcz27_10 : wc.cell? ⟨gb471, 10, none⟩ = some (.slice A0_10 l0_10.length c0_10) := (blk_cell BK471.out 10).trans rfl
                  have hcz27_11 : wc.cell? ⟨gb471, 11, none⟩ = some (.slice A0_11 l0_11.length c0_11) := (blk_cell BK471.out 11).trans rfl
                  have hfz27_0 := blk_frozen BK471.out 0
                  have hfz27_1 := blk_frozen BK471.out 1
                  have hfz27_2 := blk_frozen BK471.out 2
                  have hfz27_3 := blk_frozen BK471.out 3
                  have hfz27_4 := blk_frozen BK471.out 4
                  have hfz27_5 := blk_frozen BK471.out 5
                  have hfz27_6 := blk_frozen BK471.out 6
                  have hfz27_7 := blk_frozen BK471.out 7
                  have hfz27_8 := blk_frozen BK471.out 8
                  have hfz27_9 := blk_frozen BK471.out 9
                  have hfz27_10 := blk_frozen BK471.out 10
                  have hfz27_11 := blk_frozen BK471.out 11
                  go_wp2_with (first | (go_at_call 52; (with_reducible refine (flotillaref05_ActMay.calls a0_6 a0_7 a0_8 a0_9 false _ A23.out).mono ?_); rintro e w28 ⟨rfl, hb⟩; have n0_ := Aside0.mk (blk_below (g := gb471) (o := .cells #[.int .i64 a0_0, .int .u64 a0_1, .int .i64 a0_2, .int .u64 a0_3, .int .u64 a0_4, .int .i64 a0_5, .int .i64 a0_6, .string a0_7, .string a0_8, .string a0_9, .slice A0_10 l0_10.length c0_10, .slice A0_11 l0_11.length c0_11] 43 (0, 0)) (by (with_reducible repeat (first | refine blk_drewN ?_ _ | refine blk_drew ?_ | refine blk_alloc ?_ _)); exact BK471.out) hb); have n1_ := Aside0.mk (below_step (by repeat (first | (with_reducible first | exact HB.out | apply below_alloc | apply pw_below_drewN | apply below_drew1 | refine below_set ?_ GE471.out) | exact HB.out)) hb); clear BK471; clear HB; have BK471 := n0_; have HB := n1_; clear n0_ n1_; (try clear hb); (try clear hb2); (try clear hk); (try clear hi)))
                  go_ret
                  exact ⟨by first | rfl | (simp [errW_none, errW_some] <;> rfl) | (simp [*, errW_none, errW_some] <;> rfl), by repeat (first | (with_reducible first | exact HB.out | apply below_alloc | apply pw_below_drewN | apply below_drew1 | refine below_set ?_ GE471.out) | exact HB.out)⟩
          · replace c18 := Bool.eq_false_iff.mpr c18
            subst c18
            have H1 : (if a0_5 = 0 then (if (!(a0_6 == 0) || (!(a0_7.toList == ([] : List UInt8)) || (!(a0_8.toList == ([] : List UInt8)) || (!(a0_9.toList == ([] : List UInt8)))))) = true then (some false) else (flotillaref05_May.j1 kj1 a0_0 a0_1 a0_2 a0_3 a0_4 a0_5 a0_6 a0_7 a0_8 a0_9 l0_10 l0_11)) else (some false)) = some r := by rw [if_neg (show ¬ (false = true) by decide)] at H; exact H
            clear H
            have H := H1
            clear H1
            by_cases c29 : a0_5 = 0
            · rw [if_pos c29] at H
              have c29b0 : (a0_5 == 0) = true := beq_iff_eq.mpr c29
              have c29b1 : (a0_5 != 0) = false := bne_eq_false_iff_eq.mpr c29
              clear c29
              by_cases c30 : (!(a0_6 == 0) || (!(a0_7.toList == ([] : List UInt8)) || (!(a0_8.toList == ([] : List UInt8)) || (!(a0_9.toList == ([] : List UInt8)))))) = true
              · rw [if_pos c30] at H
                have c30b0 : (!(a0_6 == 0) || (!(a0_7.toList == ([] : List UInt8)) || (!(a0_8.toList == ([] : List UInt8)) || (!(a0_9.toList == ([] : List UInt8)))))) = true := c30
                clear c30
                obtain rfl := Option.some.inj H
                have hcz31_0 : wc.cell? ⟨gb471, 0, none⟩ = some (.int .i64 a0_0) := (blk_cell BK471.out 0).trans rfl
                have hcz31_1 : wc.cell? ⟨gb471, 1, none⟩ = some (.int .u64 a0_1) := (blk_cell BK471.out 1).trans rfl
                have hcz31_2 : wc.cell? ⟨gb471, 2, none⟩ = some (.int .i64 a0_2) := (blk_cell BK471.out 2).trans rfl
                have hcz31_3 : wc.cell? ⟨gb471, 3, none⟩ = some (.int .u64 a0_3) := (blk_cell BK471.out 3).trans rfl
                have hcz31_4 : wc.cell? ⟨gb471, 4, none⟩ = some (.int .u64 a0_4) := (blk_cell BK471.out 4).trans rfl
                have hcz31_5 : wc.cell? ⟨gb471, 5, none⟩ = some (.int .i64 a0_5) := (blk_cell BK471.out 5).trans rfl
                have hcz31_6 : wc.cell? ⟨gb471, 6, none⟩ = some (.int .i64 a0_6) := (blk_cell BK471.out 6).trans rfl
                have hcz31_7 : wc.cell? ⟨gb471, 7, none⟩ = some (.string a0_7) := (blk_cell BK471.out 7).trans rfl
                have hcz31_8 : wc.cell? ⟨gb471, 8, none⟩ = some (.string a0_8) := (blk_cell BK471.out 8).trans rfl
                have hcz31_9 : wc.cell? ⟨gb471, 9, none⟩ = some (.string a0_9) := (blk_cell BK471.out 9).trans rfl
                have hcz31_10 : wc.cell? ⟨gb471, 10, none⟩ = some (.slice A0_10 l0_10.length c0_10) := (blk_cell BK471.out 10).trans rfl
                have hcz31_11 : wc.cell? ⟨gb471, 11, none⟩ = some (.slice A0_11 l0_11.length c0_11) := (blk_cell BK471.out 11).trans rfl
                have hfz31_0 := blk_frozen BK471.out 0
                have hfz31_1 := blk_frozen BK471.out 1
                have hfz31_2 := blk_frozen BK471.out 2
                have hfz31_3 := blk_frozen BK471.out 3
                have hfz31_4 := blk_frozen BK471.out 4
                have hfz31_5 := blk_frozen BK471.out 5
                have hfz31_6 := blk_frozen BK471.out 6
                have hfz31_7 := blk_frozen BK471.out 7
                have hfz31_8 := blk_frozen BK471.out 8
                have hfz31_9 := blk_frozen BK471.out 9
                have hfz31_10 := blk_frozen BK471.out 10
                have hfz31_11 := blk_frozen BK471.out 11
                go_wp2
                go_ret
                exact ⟨by first | rfl | (simp [errW_none, errW_some] <;> rfl) | (simp [*, errW_none, errW_some] <;> rfl), by repeat (first | (with_reducible first | exact HB.out | apply below_alloc | apply pw_below_drewN | apply below_drew1 | refine below_set ?_ GE471.out) | exact HB.out)⟩
                all_goals (exfalso; rename_i hq; obtain ⟨q0, q1, q2, q3⟩ := hq; have eE : ∀ s : ByteArray, (s.toList == ([] : List UInt8)) = s.toList.isEmpty := fun s => (by cases s.toList <;> rfl); simp [eE, q0, q1, q2, q3] at c30b0)
              · rw [if_neg c30] at H
                have c30b0 : (!(a0_6 == 0) || (!(a0_7.toList == ([] : List UInt8)) || (!(a0_8.toList == ([] : List UInt8)) || (!(a0_9.toList == ([] : List UInt8)))))) = false := by simpa using c30
                have eE : ∀ s : ByteArray, (s.toList == ([] : List UInt8)) = s.toList.isEmpty := fun s => (by cases s.toList <;> rfl)
                have dE := c30b0
                rw [eE, eE, eE] at dE
                simp only [Bool.or_eq_false_iff] at dE
                obtain ⟨dE0, dE1, dE2, dE3⟩ := dE
                have dF0 : (a0_6 == 0) = true := by simpa using dE0
                have dF1 : a0_7.toList.isEmpty = true := by simpa using dE1
                have dF2 : a0_8.toList.isEmpty = true := by simpa using dE2
                have dF3 : a0_9.toList.isEmpty = true := by simpa using dE3
                clear dE0 dE1 dE2 dE3 eE
                clear c30
                have H' := Aside0.mk H
                clear H
                have hcz32_0 : wc.cell? ⟨gb471, 0, none⟩ = some (.int .i64 a0_0) := (blk_cell BK471.out 0).trans rfl
                have hcz32_1 : wc.cell? ⟨gb471, 1, none⟩ = some (.int .u64 a0_1) := (blk_cell BK471.out 1).trans rfl
                have hcz32_2 : wc.cell? ⟨gb471, 2, none⟩ = some (.int .i64 a0_2) := (blk_cell BK471.out 2).trans rfl
                have hcz32_3 : wc.cell? ⟨gb471, 3, none⟩ = some (.int .u64 a0_3) := (blk_cell BK471.out 3).trans rfl
                have hcz32_4 : wc.cell? ⟨gb471, 4, none⟩ = some (.int .u64 a0_4) := (blk_cell BK471.out 4).trans rfl
                have hcz32_5 : wc.cell? ⟨gb471, 5, none⟩ = some (.int .i64 a0_5) := (blk_cell BK471.out 5).trans rfl
                have hcz32_6 : wc.cell? ⟨gb471, 6, none⟩ = some (.int .i64 a0_6) := (blk_cell BK471.out 6).trans rfl
                have hcz32_7 : wc.cell? ⟨gb471, 7, none⟩ = some (.string a0_7) := (blk_cell BK471.out 7).trans rfl
                have hcz32_8 : wc.cell? ⟨gb471, 8, none⟩ = some (.string a0_8) := (blk_cell BK471.out 8).trans rfl
                have hcz32_9 : wc.cell? ⟨gb471, 9, none⟩ = some (.string a0_9) := (blk_cell BK471.out 9).trans rfl
                have hcz32_10 : wc.cell? ⟨gb471, 10, none⟩ = some (.slice A0_10 l0_10.length c0_10) := (blk_cell BK471.out 10).trans rfl
                have hcz32_11 : wc.cell? ⟨gb471, 11, none⟩ = some (.slice A0_11 l0_11.length c0_11) := (blk_cell BK471.out 11).trans rfl
                have hfz32_0 := blk_frozen BK471.out 0
                have hfz32_1 := blk_frozen BK471.out 1
                have hfz32_2 := blk_frozen BK471.out 2
                have hfz32_3 := blk_frozen BK471.out 3
                have hfz32_4 := blk_frozen BK471.out 4
                have hfz32_5 := blk_frozen BK471.out 5
                have hfz32_6 := blk_frozen BK471.out 6
                have hfz32_7 := blk_frozen BK471.out 7
                have hfz32_8 := blk_frozen BK471.out 8
                have hfz32_9 := blk_frozen BK471.out 9
                have hfz32_10 := blk_frozen BK471.out 10
                have hfz32_11 := blk_frozen BK471.out 11
                go_wp2
                go_meet
                case rel => exact ⟨_, H', ⟨by have := HJ1.out; first | omega | exact Nat.le_refl _⟩, ⟨by (with_reducible repeat (first | refine blk_drewN ?_ _ | refine blk_drew ?_ | refine blk_alloc ?_ _)); exact BK471.out⟩, ⟨by repeat (first | (with_reducible first | exact HB.out | apply below_alloc | apply pw_below_drewN | apply below_drew1 | refine below_set ?_ GE471.out) | exact HB.out)⟩⟩
            · rw [if_neg c29] at H
              have c29b0 : (a0_5 == 0) = false := beq_eq_false_iff_ne.mpr c29
              have c29b1 : (a0_5 != 0) = true := bne_iff_ne.mpr c29
              obtain rfl := Option.some.inj H
              have hcz33_0 : wc.cell? ⟨gb471, 0, none⟩ = some (.int .i64 a0_0) := (blk_cell BK471.out 0).trans rfl
              have hcz33_1 : wc.cell? ⟨gb471, 1, none⟩ = some (.int .u64 a0_1) := (blk_cell BK471.out 1).trans rfl
              have hcz33_2 : wc.cell? ⟨gb471, 2, none⟩ = some (.int .i64 a0_2) := (blk_cell BK471.out 2).trans rfl
              have hcz33_3 : wc.cell? ⟨gb471, 3, none⟩ = some (.int .u64 a0_3) := (blk_cell BK471.out 3).trans rfl
              have hcz33_4 : wc.cell? ⟨gb471, 4, none⟩ = some (.int .u64 a0_4) := (blk_cell BK471.out 4).trans rfl
              have hcz33_5 : wc.cell? ⟨gb471, 5, none⟩ = some (.int .i64 a0_5) := (blk_cell BK471.out 5).trans rfl
              have hcz33_6 : wc.cell? ⟨gb471, 6, none⟩ = some (.int .i64 a0_6) := (blk_cell BK471.out 6).trans rfl
              have hcz33_7 : wc.cell? ⟨gb471, 7, none⟩ = some (.string a0_7) := (blk_cell BK471.out 7).trans rfl
              have hcz33_8 : wc.cell? ⟨gb471, 8, none⟩ = some (.string a0_8) := (blk_cell BK471.out 8).trans rfl
              have hcz33_9 : wc.cell? ⟨gb471, 9, none⟩ = some (.string a0_9) := (blk_cell BK471.out 9).trans rfl
              have hcz33_10 : wc.cell? ⟨gb471, 10, none⟩ = some (.slice A0_10 l0_10.length c0_10) := (blk_cell BK471.out 10).trans rfl
              have hcz33_11 : wc.cell? ⟨gb471, 11, none⟩ = some (.slice A0_11 l0_11.length c0_11) := (blk_cell BK471.out 11).trans rfl
              have hfz33_0 := blk_frozen BK471.out 0
              have hfz33_1 := blk_frozen BK471.out 1
              have hfz33_2 := blk_frozen BK471.out 2
              have hfz33_3 := blk_frozen BK471.out 3
              have hfz33_4 := blk_frozen BK471.out 4
              have hfz33_5 := blk_frozen BK471.out 5
              have hfz33_6 := blk_frozen BK471.out 6
              have hfz33_7 := blk_frozen BK471.out 7
              have hfz33_8 := blk_frozen BK471.out 8
              have hfz33_9 := blk_frozen BK471.out 9
              have hfz33_10 := blk_frozen BK471.out 10
              have hfz33_11 := blk_frozen BK471.out 11
              go_wp2
              go_ret
              exact ⟨by first | rfl | (simp [errW_none, errW_some] <;> rfl) | (simp [*, errW_none, errW_some] <;> rfl), by repeat (first | (with_reducible first | exact HB.out | apply below_alloc | apply pw_below_drewN | apply below_drew1 | refine below_set ?_ GE471.out) | exact HB.out)⟩
        case rest =>
          clear HC16
          try clear c1
          try clear c2
          try clear p2
          try clear c3
          try clear c4
          try clear c4b0
          try clear c5
          try clear c6
          try clear c6b0
          try clear c9
          try clear c10
          try clear c10b0
          try clear c14
          try clear c18
          try clear c19
          try clear c19b0
          try clear c21
          try clear c21b0
          try clear c24
          try clear c29
          try clear c29b0
          try clear c29b1
          try clear c30
          try clear c30b0
          try clear hcz11_0
          try clear hcz11_1
          try clear hcz11_10
          try clear hcz11_11
          try clear hcz11_2
          try clear hcz11_3
          try clear hcz11_4
          try clear hcz11_5
          try clear hcz11_6
          try clear hcz11_7
          try clear hcz11_8
          try clear hcz11_9
          try clear hcz12_0
          try clear hcz12_1
          try clear hcz12_10
          try clear hcz12_11
          try clear hcz12_2
          try clear hcz12_3
          try clear hcz12_4
          try clear hcz12_5
          try clear hcz12_6
          try clear hcz12_7
          try clear hcz12_8
          try clear hcz12_9
          try clear hcz13_0
          try clear hcz13_1
          try clear hcz13_10
          try clear hcz13_11
          try clear hcz13_2
          try clear hcz13_3
          try clear hcz13_4
          try clear hcz13_5
          try clear hcz13_6
          try clear hcz13_7
          try clear hcz13_8
          try clear hcz13_9
          try clear hcz17_0
          try clear hcz17_1
          try clear hcz17_10
          try clear hcz17_11
          try clear hcz17_2
          try clear hcz17_3
          try clear hcz17_4
          try clear hcz17_5
          try clear hcz17_6
          try clear hcz17_7
          try clear hcz17_8
          try clear hcz17_9
          try clear hcz20_0
          try clear hcz20_1
          try clear hcz20_10
          try clear hcz20_11
          try clear hcz20_2
          try clear hcz20_3
          try clear hcz20_4
          try clear hcz20_5
          try clear hcz20_6
          try clear hcz20_7
          try clear hcz20_8
          try clear hcz20_9
          try clear hcz22_0
          try clear hcz22_1
          try clear hcz22_10
          try clear hcz22_11
          try clear hcz22_2
          try clear hcz22_3
          try clear hcz22_4
          try clear hcz22_5
          try clear hcz22_6
          try clear hcz22_7
          try clear hcz22_8
          try clear hcz22_9
          try clear hcz25_0
          try clear hcz25_1
          try clear hcz25_10
          try clear hcz25_11
          try clear hcz25_2
          try clear hcz25_3
          try clear hcz25_4
          try clear hcz25_5
          try clear hcz25_6
          try clear hcz25_7
          try clear hcz25_8
          try clear hcz25_9
          try clear hcz27_0
          try clear hcz27_1
          try clear hcz27_10
          try clear hcz27_11
          try clear hcz27_2
          try clear hcz27_3
          try clear hcz27_4
          try clear hcz27_5
          try clear hcz27_6
          try clear hcz27_7
          try clear hcz27_8
          try clear hcz27_9
          try clear hcz31_0
          try clear hcz31_1
          try clear hcz31_10
          try clear hcz31_11
          try clear hcz31_2
          try clear hcz31_3
          try clear hcz31_4
          try clear hcz31_5
          try clear hcz31_6
          try clear hcz31_7
          try clear hcz31_8
          try clear hcz31_9
          try clear hcz32_0
          try clear hcz32_1
          try clear hcz32_10
          try clear hcz32_11
          try clear hcz32_2
          try clear hcz32_3
          try clear hcz32_4
          try clear hcz32_5
          try clear hcz32_6
          try clear hcz32_7
          try clear hcz32_8
          try clear hcz32_9
          try clear hcz33_0
          try clear hcz33_1
          try clear hcz33_10
          try clear hcz33_11
          try clear hcz33_2
          try clear hcz33_3
          try clear hcz33_4
          try clear hcz33_5
          try clear hcz33_6
          try clear hcz33_7
          try clear hcz33_8
          try clear hcz33_9
          try clear hcz5_0
          try clear hcz5_1
          try clear hcz5_10
          try clear hcz5_11
          try clear hcz5_2
          try clear hcz5_3
          try clear hcz5_4
          try clear hcz5_5
          try clear hcz5_6
          try clear hcz5_7
          try clear hcz5_8
          try clear hcz5_9
          try clear hcz7_0
          try clear hcz7_1
          try clear hcz7_10
          try clear hcz7_11
          try clear hcz7_2
          try clear hcz7_3
          try clear hcz7_4
          try clear hcz7_5
          try clear hcz7_6
          try clear hcz7_7
          try clear hcz7_8
          try clear hcz7_9
          try clear hfz11_0
          try clear hfz11_1
          try clear hfz11_10
          try clear hfz11_11
          try clear hfz11_2
          try clear hfz11_3
          try clear hfz11_4
          try clear hfz11_5
          try clear hfz11_6
          try clear hfz11_7
          try clear hfz11_8
          try clear hfz11_9
          try clear hfz12_0
          try clear hfz12_1
          try clear hfz12_10
          try clear hfz12_11
          try clear hfz12_2
          try clear hfz12_3
          try clear hfz12_4
          try clear hfz12_5
          try clear hfz12_6
          try clear hfz12_7
          try clear hfz12_8
          try clear hfz12_9
          try clear hfz13_0
          try clear hfz13_1
          try clear hfz13_10
          try clear hfz13_11
          try clear hfz13_2
          try clear hfz13_3
          try clear hfz13_4
          try clear hfz13_5
          try clear hfz13_6
          try clear hfz13_7
          try clear hfz13_8
          try clear hfz13_9
          try clear hfz17_0
          try clear hfz17_1
          try clear hfz17_10
          try clear hfz17_11
          try clear hfz17_2
          try clear hfz17_3
          try clear hfz17_4
          try clear hfz17_5
          try clear hfz17_6
          try clear hfz17_7
          try clear hfz17_8
          try clear hfz17_9
          try clear hfz20_0
          try clear hfz20_1
          try clear hfz20_10
          try clear hfz20_11
          try clear hfz20_2
          try clear hfz20_3
          try clear hfz20_4
          try clear hfz20_5
          try clear hfz20_6
          try clear hfz20_7
          try clear hfz20_8
          try clear hfz20_9
          try clear hfz22_0
          try clear hfz22_1
          try clear hfz22_10
          try clear hfz22_11
          try clear hfz22_2
          try clear hfz22_3
          try clear hfz22_4
          try clear hfz22_5
          try clear hfz22_6
          try clear hfz22_7
          try clear hfz22_8
          try clear hfz22_9
          try clear hfz25_0
          try clear hfz25_1
          try clear hfz25_10
          try clear hfz25_11
          try clear hfz25_2
          try clear hfz25_3
          try clear hfz25_4
          try clear hfz25_5
          try clear hfz25_6
          try clear hfz25_7
          try clear hfz25_8
          try clear hfz25_9
          try clear hfz27_0
          try clear hfz27_1
          try clear hfz27_10
          try clear hfz27_11
          try clear hfz27_2
          try clear hfz27_3
          try clear hfz27_4
          try clear hfz27_5
          try clear hfz27_6
          try clear hfz27_7
          try clear hfz27_8
          try clear hfz27_9
          try clear hfz31_0
          try clear hfz31_1
          try clear hfz31_10
          try clear hfz31_11
          try clear hfz31_2
          try clear hfz31_3
          try clear hfz31_4
          try clear hfz31_5
          try clear hfz31_6
          try clear hfz31_7
          try clear hfz31_8
          try clear hfz31_9
          try clear hfz32_0
          try clear hfz32_1
          try clear hfz32_10
          try clear hfz32_11
          try clear hfz32_2
          try clear hfz32_3
          try clear hfz32_4
          try clear hfz32_5
          try clear hfz32_6
          try clear hfz32_7
          try clear hfz32_8
          try clear hfz32_9
          try clear hfz33_0
          try clear hfz33_1
          try clear hfz33_10
          try clear hfz33_11
          try clear hfz33_2
          try clear hfz33_3
          try clear hfz33_4
          try clear hfz33_5
          try clear hfz33_6
          try clear hfz33_7
          try clear hfz33_8
          try clear hfz33_9
          try clear hfz5_0
          try clear hfz5_1
          try clear hfz5_10
          try clear hfz5_11
          try clear hfz5_2
          try clear hfz5_3
          try clear hfz5_4
          try clear hfz5_5
          try clear hfz5_6
          try clear hfz5_7
          try clear hfz5_8
          try clear hfz5_9
          try clear hfz7_0
          try clear hfz7_1
          try clear hfz7_10
          try clear hfz7_11
          try clear hfz7_2
          try clear hfz7_3
          try clear hfz7_4
          try clear hfz7_5
          try clear hfz7_6
          try clear hfz7_7
          try clear hfz7_8
          try clear hfz7_9
          try clear p2
          obtain ⟨kq, HA, HJ15, BK471, HB⟩ := hcut
          cases kq with
          | zero => exact absurd HA.out (by simp [flotillaref05_May.j1])
          | succ kj15 =>
            have H := HA.out
            clear HA
            simp only [flotillaref05_May.j1] at H
            have HC34 := Aside0.mk H
            clear H
            go_upto_region 8 with (fail)
            go_cut [64] (fun v64 wc => ∃ (kq : Nat) (x64_33 : Bool), v64 = .bool x64_33 ∧ Aside0 (flotillaref05_May.j2 kq x64_33 a0_0 a0_1 a0_2 a0_3 a0_4 a0_5 a0_6 a0_7 a0_8 a0_9 l0_10 l0_11 = some r) ∧ Aside0 (kq ≤ kj15) ∧ Aside0 (wc.heap[gb471]? = some (.cells #[.int .i64 a0_0, .int .u64 a0_1, .int .i64 a0_2, .int .u64 a0_3, .int .u64 a0_4, .int .i64 a0_5, .int .i64 a0_6, .string a0_7, .string a0_8, .string a0_9, (.slice A0_10 l0_10.length c0_10), (.slice A0_11 l0_11.length c0_11)] 43 (0, 0))) ∧ Aside0 (Below w.heap.size w wc))
            case first =>
              have H := HC34.out
              clear HC34
              by_cases c35 : a0_0 = 2
              · rw [if_pos c35] at H
                have c35b0 : (a0_0 == 2) = true := beq_iff_eq.mpr c35
                have c35b1 : (a0_0 != 2) = false := bne_eq_false_iff_eq.mpr c35
                clear c35
                (first | rw [c35b0] | (simp only [i64_w, i32_w]; rw [c35b0]) | skip)
                have H' := Aside0.mk H
                clear H
                have hcz36_0 : wc.cell? ⟨gb471, 0, none⟩ = some (.int .i64 a0_0) := (blk_cell BK471.out 0).trans rfl
                have hcz36_1 : wc.cell? ⟨gb471, 1, none⟩ = some (.int .u64 a0_1) := (blk_cell BK471.out 1).trans rfl
                have hcz36_2 : wc.cell? ⟨gb471, 2, none⟩ = some (.int .i64 a0_2) := (blk_cell BK471.out 2).trans rfl
                have hcz36_3 : wc.cell? ⟨gb471, 3, none⟩ = some (.int .u64 a0_3) := (blk_cell BK471.out 3).trans rfl
                have hcz36_4 : wc.cell? ⟨gb471, 4, none⟩ = some (.int .u64 a0_4) := (blk_cell BK471.out 4).trans rfl
                have hcz36_5 : wc.cell? ⟨gb471, 5, none⟩ = some (.int .i64 a0_5) := (blk_cell BK471.out 5).trans rfl
                have hcz36_6 : wc.cell? ⟨gb471, 6, none⟩ = some (.int .i64 a0_6) := (blk_cell BK471.out 6).trans rfl
                have hcz36_7 : wc.cell? ⟨gb471, 7, none⟩ = some (.string a0_7) := (blk_cell BK471.out 7).trans rfl
                have hcz36_8 : wc.cell? ⟨gb471, 8, none⟩ = some (.string a0_8) := (blk_cell BK471.out 8).trans rfl
                have hcz36_9 : wc.cell? ⟨gb471, 9, none⟩ = some (.string a0_9) := (blk_cell BK471.out 9).trans rfl
                have hcz36_10 : wc.cell? ⟨gb471, 10, none⟩ = some (.slice A0_10 l0_10.length c0_10) := (blk_cell BK471.out 10).trans rfl
                have hcz36_11 : wc.cell? ⟨gb471, 11, none⟩ = some (.slice A0_11 l0_11.length c0_11) := (blk_cell BK471.out 11).trans rfl
                have hfz36_0 := blk_frozen BK471.out 0
                have hfz36_1 := blk_frozen BK471.out 1
                have hfz36_2 := blk_frozen BK471.out 2
                have hfz36_3 := blk_frozen BK471.out 3
                have hfz36_4 := blk_frozen BK471.out 4
                have hfz36_5 := blk_frozen BK471.out 5
                have hfz36_6 := blk_frozen BK471.out 6
                have hfz36_7 := blk_frozen BK471.out 7
                have hfz36_8 := blk_frozen BK471.out 8
                have hfz36_9 := blk_frozen BK471.out 9
                have hfz36_10 := blk_frozen BK471.out 10
                have hfz36_11 := blk_frozen BK471.out 11
                go_wp2
                go_meet
                case rel => exact ⟨_, (false), (by first | rfl | (simp; done) | (simp [*]; done)), H', ⟨by have := HJ1.out; have := HJ15.out; first | omega | exact Nat.le_refl _⟩, ⟨by (with_reducible repeat (first | refine blk_drewN ?_ _ | refine blk_drew ?_ | refine blk_alloc ?_ _)); exact BK471.out⟩, ⟨by repeat (first | (with_reducible first | exact HB.out | apply below_alloc | apply pw_below_drewN | apply below_drew1 | refine below_set ?_ GE471.out) | exact HB.out)⟩⟩
              · rw [if_neg c35] at H
                have c35b0 : (a0_0 == 2) = false := beq_eq_false_iff_ne.mpr c35
                have c35b1 : (a0_0 != 2) = true := bne_iff_ne.mpr c35
                (first | rw [c35b0] | (simp only [i64_w, i32_w]; rw [c35b0]) | skip)
                have H' := Aside0.mk H
                clear H
                have hcz37_0 : wc.cell? ⟨gb471, 0, none⟩ = some (.int .i64 a0_0) := (blk_cell BK471.out 0).trans rfl
                have hcz37_1 : wc.cell? ⟨gb471, 1, none⟩ = some (.int .u64 a0_1) := (blk_cell BK471.out 1).trans rfl
                have hcz37_2 : wc.cell? ⟨gb471, 2, none⟩ = some (.int .i64 a0_2) := (blk_cell BK471.out 2).trans rfl
                have hcz37_3 : wc.cell? ⟨gb471, 3, none⟩ = some (.int .u64 a0_3) := (blk_cell BK471.out 3).trans rfl
                have hcz37_4 : wc.cell? ⟨gb471, 4, none⟩ = some (.int .u64 a0_4) := (blk_cell BK471.out 4).trans rfl
                have hcz37_5 : wc.cell? ⟨gb471, 5, none⟩ = some (.int .i64 a0_5) := (blk_cell BK471.out 5).trans rfl
                have hcz37_6 : wc.cell? ⟨gb471, 6, none⟩ = some (.int .i64 a0_6) := (blk_cell BK471.out 6).trans rfl
                have hcz37_7 : wc.cell? ⟨gb471, 7, none⟩ = some (.string a0_7) := (blk_cell BK471.out 7).trans rfl
                have hcz37_8 : wc.cell? ⟨gb471, 8, none⟩ = some (.string a0_8) := (blk_cell BK471.out 8).trans rfl
                have hcz37_9 : wc.cell? ⟨gb471, 9, none⟩ = some (.string a0_9) := (blk_cell BK471.out 9).trans rfl
                have hcz37_10 : wc.cell? ⟨gb471, 10, none⟩ = some (.slice A0_10 l0_10.length c0_10) := (blk_cell BK471.out 10).trans rfl
                have hcz37_11 : wc.cell? ⟨gb471, 11, none⟩ = some (.slice A0_11 l0_11.length c0_11) := (blk_cell BK471.out 11).trans rfl
                have hfz37_0 := blk_frozen BK471.out 0
                have hfz37_1 := blk_frozen BK471.out 1
                have hfz37_2 := blk_frozen BK471.out 2
                have hfz37_3 := blk_frozen BK471.out 3
                have hfz37_4 := blk_frozen BK471.out 4
                have hfz37_5 := blk_frozen BK471.out 5
                have hfz37_6 := blk_frozen BK471.out 6
                have hfz37_7 := blk_frozen BK471.out 7
                have hfz37_8 := blk_frozen BK471.out 8
                have hfz37_9 := blk_frozen BK471.out 9
                have hfz37_10 := blk_frozen BK471.out 10
                have hfz37_11 := blk_frozen BK471.out 11
                go_wp2
                go_meet
                case rel => exact ⟨_, ((a0_4 != 0)), (by first | rfl | (simp; done) | (simp [*]; done)), H', ⟨by have := HJ1.out; have := HJ15.out; first | omega | exact Nat.le_refl _⟩, ⟨by (with_reducible repeat (first | refine blk_drewN ?_ _ | refine blk_drew ?_ | refine blk_alloc ?_ _)); exact BK471.out⟩, ⟨by repeat (first | (with_reducible first | exact HB.out | apply below_alloc | apply pw_below_drewN | apply below_drew1 | refine below_set ?_ GE471.out) | exact HB.out)⟩⟩
            case rest =>
              clear HC34
              try clear c1
              try clear c2
              try clear p2
              try clear c3
              try clear c4
              try clear c4b0
              try clear c5
              try clear c6
              try clear c6b0
              try clear c9
              try clear c10
              try clear c10b0
              try clear c14
              try clear c18
              try clear c19
              try clear c19b0
              try clear c21
              try clear c21b0
              try clear c24
              try clear c29
              try clear c29b0
              try clear c29b1
              try clear c30
              try clear c30b0
              try clear c35
              try clear c35b0
              try clear c35b1
              try clear hcz11_0
              try clear hcz11_1
              try clear hcz11_10
              try clear hcz11_11
              try clear hcz11_2
              try clear hcz11_3
              try clear hcz11_4
              try clear hcz11_5
              try clear hcz11_6
              try clear hcz11_7
              try clear hcz11_8
              try clear hcz11_9
              try clear hcz12_0
              try clear hcz12_1
              try clear hcz12_10
              try clear hcz12_11
              try clear hcz12_2
              try clear hcz12_3
              try clear hcz12_4
              try clear hcz12_5
              try clear hcz12_6
              try clear hcz12_7
              try clear hcz12_8
              try clear hcz12_9
              try clear hcz13_0
              try clear hcz13_1
              try clear hcz13_10
              try clear hcz13_11
              try clear hcz13_2
              try clear hcz13_3
              try clear hcz13_4
              try clear hcz13_5
              try clear hcz13_6
              try clear hcz13_7
              try clear hcz13_8
              try clear hcz13_9
              try clear hcz17_0
              try clear hcz17_1
              try clear hcz17_10
              try clear hcz17_11
              try clear hcz17_2
              try clear hcz17_3
              try clear hcz17_4
              try clear hcz17_5
              try clear hcz17_6
              try clear hcz17_7
              try clear hcz17_8
              try clear hcz17_9
              try clear hcz20_0
              try clear hcz20_1
              try clear hcz20_10
              try clear hcz20_11
              try clear hcz20_2
              try clear hcz20_3
              try clear hcz20_4
              try clear hcz20_5
              try clear hcz20_6
              try clear hcz20_7
              try clear hcz20_8
              try clear hcz20_9
              try clear hcz22_0
              try clear hcz22_1
              try clear hcz22_10
              try clear hcz22_11
              try clear hcz22_2
              try clear hcz22_3
              try clear hcz22_4
              try clear hcz22_5
              try clear hcz22_6
              try clear hcz22_7
              try clear hcz22_8
              try clear hcz22_9
              try clear hcz25_0
              try clear hcz25_1
              try clear hcz25_10
              try clear hcz25_11
              try clear hcz25_2
              try clear hcz25_3
              try clear hcz25_4
              try clear hcz25_5
              try clear hcz25_6
              try clear hcz25_7
              try clear hcz25_8
              try clear hcz25_9
              try clear hcz27_0
              try clear hcz27_1
              try clear hcz27_10
              try clear hcz27_11
              try clear hcz27_2
              try clear hcz27_3
              try clear hcz27_4
              try clear hcz27_5
              try clear hcz27_6
              try clear hcz27_7
              try clear hcz27_8
              try clear hcz27_9
              try clear hcz31_0
              try clear hcz31_1
              try clear hcz31_10
              try clear hcz31_11
              try clear hcz31_2
              try clear hcz31_3
              try clear hcz31_4
              try clear hcz31_5
              try clear hcz31_6
              try clear hcz31_7
              try clear hcz31_8
              try clear hcz31_9
              try clear hcz32_0
              try clear hcz32_1
              try clear hcz32_10
              try clear hcz32_11
              try clear hcz32_2
              try clear hcz32_3
              try clear hcz32_4
              try clear hcz32_5
              try clear hcz32_6
              try clear hcz32_7
              try clear hcz32_8
              try clear hcz32_9
              try clear hcz33_0
              try clear hcz33_1
              try clear hcz33_10
              try clear hcz33_11
              try clear hcz33_2
              try clear hcz33_3
              try clear hcz33_4
              try clear hcz33_5
              try clear hcz33_6
              try clear hcz33_7
              try clear hcz33_8
              try clear hcz33_9
              try clear hcz36_0
              try clear hcz36_1
              try clear hcz36_10
              try clear hcz36_11
              try clear hcz36_2
              try clear hcz36_3
              try clear hcz36_4
              try clear hcz36_5
              try clear hcz36_6
              try clear hcz36_7
              try clear hcz36_8
              try clear hcz36_9
              try clear hcz37_0
              try clear hcz37_1
              try clear hcz37_10
              try clear hcz37_11
              try clear hcz37_2
              try clear hcz37_3
              try clear hcz37_4
              try clear hcz37_5
              try clear hcz37_6
              try clear hcz37_7
              try clear hcz37_8
              try clear hcz37_9
              try clear hcz5_0
              try clear hcz5_1
              try clear hcz5_10
              try clear hcz5_11
              try clear hcz5_2
              try clear hcz5_3
              try clear hcz5_4
              try clear hcz5_5
              try clear hcz5_6
              try clear hcz5_7
              try clear hcz5_8
              try clear hcz5_9
              try clear hcz7_0
              try clear hcz7_1
              try clear hcz7_10
              try clear hcz7_11
              try clear hcz7_2
              try clear hcz7_3
              try clear hcz7_4
              try clear hcz7_5
              try clear hcz7_6
              try clear hcz7_7
              try clear hcz7_8
              try clear hcz7_9
              try clear hfz11_0
              try clear hfz11_1
              try clear hfz11_10
              try clear hfz11_11
              try clear hfz11_2
              try clear hfz11_3
              try clear hfz11_4
              try clear hfz11_5
              try clear hfz11_6
              try clear hfz11_7
              try clear hfz11_8
              try clear hfz11_9
              try clear hfz12_0
              try clear hfz12_1
              try clear hfz12_10
              try clear hfz12_11
              try clear hfz12_2
              try clear hfz12_3
              try clear hfz12_4
              try clear hfz12_5
              try clear hfz12_6
              try clear hfz12_7
              try clear hfz12_8
              try clear hfz12_9
              try clear hfz13_0
              try clear hfz13_1
              try clear hfz13_10
              try clear hfz13_11
              try clear hfz13_2
              try clear hfz13_3
              try clear hfz13_4
              try clear hfz13_5
              try clear hfz13_6
              try clear hfz13_7
              try clear hfz13_8
              try clear hfz13_9
              try clear hfz17_0
              try clear hfz17_1
              try clear hfz17_10
              try clear hfz17_11
              try clear hfz17_2
              try clear hfz17_3
              try clear hfz17_4
              try clear hfz17_5
              try clear hfz17_6
              try clear hfz17_7
              try clear hfz17_8
              try clear hfz17_9
              try clear hfz20_0
              try clear hfz20_1
              try clear hfz20_10
              try clear hfz20_11
              try clear hfz20_2
              try clear hfz20_3
              try clear hfz20_4
              try clear hfz20_5
              try clear hfz20_6
              try clear hfz20_7
              try clear hfz20_8
              try clear hfz20_9
              try clear hfz22_0
              try clear hfz22_1
              try clear hfz22_10
              try clear hfz22_11
              try clear hfz22_2
              try clear hfz22_3
              try clear hfz22_4
              try clear hfz22_5
              try clear hfz22_6
              try clear hfz22_7
              try clear hfz22_8
              try clear hfz22_9
              try clear hfz25_0
              try clear hfz25_1
              try clear hfz25_10
              try clear hfz25_11
              try clear hfz25_2
              try clear hfz25_3
              try clear hfz25_4
              try clear hfz25_5
              try clear hfz25_6
              try clear hfz25_7
              try clear hfz25_8
              try clear hfz25_9
              try clear hfz27_0
              try clear hfz27_1
              try clear hfz27_10
              try clear hfz27_11
              try clear hfz27_2
              try clear hfz27_3
              try clear hfz27_4
              try clear hfz27_5
              try clear hfz27_6
              try clear hfz27_7
              try clear hfz27_8
              try clear hfz27_9
              try clear hfz31_0
              try clear hfz31_1
              try clear hfz31_10
              try clear hfz31_11
              try clear hfz31_2
              try clear hfz31_3
              try clear hfz31_4
              try clear hfz31_5
              try clear hfz31_6
              try clear hfz31_7
              try clear hfz31_8
              try clear hfz31_9
              try clear hfz32_0
              try clear hfz32_1
              try clear hfz32_10
              try clear hfz32_11
              try clear hfz32_2
              try clear hfz32_3
              try clear hfz32_4
              try clear hfz32_5
              try clear hfz32_6
              try clear hfz32_7
              try clear hfz32_8
              try clear hfz32_9
              try clear hfz33_0
              try clear hfz33_1
              try clear hfz33_10
              try clear hfz33_11
              try clear hfz33_2
              try clear hfz33_3
              try clear hfz33_4
              try clear hfz33_5
              try clear hfz33_6
              try clear hfz33_7
              try clear hfz33_8
              try clear hfz33_9
              try clear hfz36_0
              try clear hfz36_1
              try clear hfz36_10
              try clear hfz36_11
              try clear hfz36_2
              try clear hfz36_3
              try clear hfz36_4
              try clear hfz36_5
              try clear hfz36_6
              try clear hfz36_7
              try clear hfz36_8
              try clear hfz36_9
              try clear hfz37_0
              try clear hfz37_1
              try clear hfz37_10
              try clear hfz37_11
              try clear hfz37_2
              try clear hfz37_3
              try clear hfz37_4
              try clear hfz37_5
              try clear hfz37_6
              try clear hfz37_7
              try clear hfz37_8
              try clear hfz37_9
              try clear hfz5_0
              try clear hfz5_1
              try clear hfz5_10
              try clear hfz5_11
              try clear hfz5_2
              try clear hfz5_3
              try clear hfz5_4
              try clear hfz5_5
              try clear hfz5_6
              try clear hfz5_7
              try clear hfz5_8
              try clear hfz5_9
              try clear hfz7_0
              try clear hfz7_1
              try clear hfz7_10
              try clear hfz7_11
              try clear hfz7_2
              try clear hfz7_3
              try clear hfz7_4
              try clear hfz7_5
              try clear hfz7_6
              try clear hfz7_7
              try clear hfz7_8
              try clear hfz7_9
              try clear p2
              obtain ⟨kq, x64_33, rfl, HA, HJ33, BK471, HB⟩ := hcut
              cases kq with
              | zero => exact absurd HA.out (by simp [flotillaref05_May.j2])
              | succ kj33 =>
                have H := HA.out
                clear HA
                simp only [flotillaref05_May.j2] at H
                by_cases c38 : x64_33 = true
                · subst c38
                  have H1 : (some false) = some r := by rw [if_pos rfl] at H; exact H
                  clear H
                  have H := H1
                  clear H1
                  obtain rfl := Option.some.inj H
                  go_wp2
                  go_ret
                  exact ⟨by first | rfl | (simp [errW_none, errW_some] <;> rfl) | (simp [*, errW_none, errW_some] <;> rfl), by repeat (first | (with_reducible first | exact HB.out | apply below_alloc | apply pw_below_drewN | apply below_drew1 | refine below_set ?_ GE471.out) | exact HB.out)⟩
                · replace c38 := Bool.eq_false_iff.mpr c38
                  subst c38
                  have H1 : (if a0_0 = 7 then (flotillaref05_May.j3 kj33 true a0_0 a0_1 a0_2 a0_3 a0_4 a0_5 a0_6 a0_7 a0_8 a0_9 l0_10 l0_11) else (flotillaref05_May.j3 kj33 (a0_0 == 8) a0_0 a0_1 a0_2 a0_3 a0_4 a0_5 a0_6 a0_7 a0_8 a0_9 l0_10 l0_11)) = some r := by rw [if_neg (show ¬ (false = true) by decide)] at H; exact H
                  clear H
                  have H := H1
                  clear H1
                  have HC39 := Aside0.mk H
                  clear H
                  go_upto_region 10 with (fail)
                  go_cut [72] (fun v72 wc => ∃ (kq : Nat) (x72_38 : Bool), v72 = .bool x72_38 ∧ Aside0 (flotillaref05_May.j3 kq x72_38 a0_0 a0_1 a0_2 a0_3 a0_4 a0_5 a0_6 a0_7 a0_8 a0_9 l0_10 l0_11 = some r) ∧ Aside0 (kq ≤ kj33) ∧ Aside0 (wc.heap[gb471]? = some (.cells #[.int .i64 a0_0, .int .u64 a0_1, .int .i64 a0_2, .int .u64 a0_3, .int .u64 a0_4, .int .i64 a0_5, .int .i64 a0_6, .string a0_7, .string a0_8, .string a0_9, (.slice A0_10 l0_10.length c0_10), (.slice A0_11 l0_11.length c0_11)] 43 (0, 0))) ∧ Aside0 (Below w.heap.size w wc))
                  case first =>
                    have H := HC39.out
                    clear HC39
                    by_cases c40 : a0_0 = 7
                    · rw [if_pos c40] at H
                      have c40b0 : (a0_0 == 7) = true := beq_iff_eq.mpr c40
                      have c40b1 : (a0_0 != 7) = false := bne_eq_false_iff_eq.mpr c40
                      clear c40
                      (first | rw [c40b0] | (simp only [i64_w, i32_w]; rw [c40b0]) | skip)
                      have H' := Aside0.mk H
                      clear H
                      have hcz41_0 : wc.cell? ⟨gb471, 0, none⟩ = some (.int .i64 a0_0) := (blk_cell BK471.out 0).trans rfl
                      have hcz41_1 : wc.cell? ⟨gb471, 1, none⟩ = some (.int .u64 a0_1) := (blk_cell BK471.out 1).trans rfl
                      have hcz41_2 : wc.cell? ⟨gb471, 2, none⟩ = some (.int .i64 a0_2) := (blk_cell BK471.out 2).trans rfl
                      have hcz41_3 : wc.cell? ⟨gb471, 3, none⟩ = some (.int .u64 a0_3) := (blk_cell BK471.out 3).trans rfl
                      have hcz41_4 : wc.cell? ⟨gb471, 4, none⟩ = some (.int .u64 a0_4) := (blk_cell BK471.out 4).trans rfl
                      have hcz41_5 : wc.cell? ⟨gb471, 5, none⟩ = some (.int .i64 a0_5) := (blk_cell BK471.out 5).trans rfl
                      have hcz41_6 : wc.cell? ⟨gb471, 6, none⟩ = some (.int .i64 a0_6) := (blk_cell BK471.out 6).trans rfl
                      have hcz41_7 : wc.cell? ⟨gb471, 7, none⟩ = some (.string a0_7) := (blk_cell BK471.out 7).trans rfl
                      have hcz41_8 : wc.cell? ⟨gb471, 8, none⟩ = some (.string a0_8) := (blk_cell BK471.out 8).trans rfl
                      have hcz41_9 : wc.cell? ⟨gb471, 9, none⟩ = some (.string a0_9) := (blk_cell BK471.out 9).trans rfl
                      have hcz41_10 : wc.cell? ⟨gb471, 10, none⟩ = some (.slice A0_10 l0_10.length c0_10) := (blk_cell BK471.out 10).trans rfl
                      have hcz41_11 : wc.cell? ⟨gb471, 11, none⟩ = some (.slice A0_11 l0_11.length c0_11) := (blk_cell BK471.out 11).trans rfl
                      have hfz41_0 := blk_frozen BK471.out 0
                      have hfz41_1 := blk_frozen BK471.out 1
                      have hfz41_2 := blk_frozen BK471.out 2
                      have hfz41_3 := blk_frozen BK471.out 3
                      have hfz41_4 := blk_frozen BK471.out 4
                      have hfz41_5 := blk_frozen BK471.out 5
                      have hfz41_6 := blk_frozen BK471.out 6
                      have hfz41_7 := blk_frozen BK471.out 7
                      have hfz41_8 := blk_frozen BK471.out 8
                      have hfz41_9 := blk_frozen BK471.out 9
                      have hfz41_10 := blk_frozen BK471.out 10
                      have hfz41_11 := blk_frozen BK471.out 11
                      go_wp2
                      go_meet
                      case rel => exact ⟨_, (true), (by first | rfl | (simp; done) | (simp [*]; done)), H', ⟨by have := HJ1.out; have := HJ15.out; have := HJ33.out; first | omega | exact Nat.le_refl _⟩, ⟨by (with_reducible repeat (first | refine blk_drewN ?_ _ | refine blk_drew ?_ | refine blk_alloc ?_ _)); exact BK471.out⟩, ⟨by repeat (first | (with_reducible first | exact HB.out | apply below_alloc | apply pw_below_drewN | apply below_drew1 | refine below_set ?_ GE471.out) | exact HB.out)⟩⟩
                    · rw [if_neg c40] at H
                      have c40b0 : (a0_0 == 7) = false := beq_eq_false_iff_ne.mpr c40
                      have c40b1 : (a0_0 != 7) = true := bne_iff_ne.mpr c40
                      (first | rw [c40b0] | (simp only [i64_w, i32_w]; rw [c40b0]) | skip)
                      have H' := Aside0.mk H
                      clear H
                      have hcz42_0 : wc.cell? ⟨gb471, 0, none⟩ = some (.int .i64 a0_0) := (blk_cell BK471.out 0).trans rfl
                      have hcz42_1 : wc.cell? ⟨gb471, 1, none⟩ = some (.int .u64 a0_1) := (blk_cell BK471.out 1).trans rfl
                      have hcz42_2 : wc.cell? ⟨gb471, 2, none⟩ = some (.int .i64 a0_2) := (blk_cell BK471.out 2).trans rfl
                      have hcz42_3 : wc.cell? ⟨gb471, 3, none⟩ = some (.int .u64 a0_3) := (blk_cell BK471.out 3).trans rfl
                      have hcz42_4 : wc.cell? ⟨gb471, 4, none⟩ = some (.int .u64 a0_4) := (blk_cell BK471.out 4).trans rfl
                      have hcz42_5 : wc.cell? ⟨gb471, 5, none⟩ = some (.int .i64 a0_5) := (blk_cell BK471.out 5).trans rfl
                      have hcz42_6 : wc.cell? ⟨gb471, 6, none⟩ = some (.int .i64 a0_6) := (blk_cell BK471.out 6).trans rfl
                      have hcz42_7 : wc.cell? ⟨gb471, 7, none⟩ = some (.string a0_7) := (blk_cell BK471.out 7).trans rfl
                      have hcz42_8 : wc.cell? ⟨gb471, 8, none⟩ = some (.string a0_8) := (blk_cell BK471.out 8).trans rfl
                      have hcz42_9 : wc.cell? ⟨gb471, 9, none⟩ = some (.string a0_9) := (blk_cell BK471.out 9).trans rfl
                      have hcz42_10 : wc.cell? ⟨gb471, 10, none⟩ = some (.slice A0_10 l0_10.length c0_10) := (blk_cell BK471.out 10).trans rfl
                      have hcz42_11 : wc.cell? ⟨gb471, 11, none⟩ = some (.slice A0_11 l0_11.length c0_11) := (blk_cell BK471.out 11).trans rfl
                      have hfz42_0 := blk_frozen BK471.out 0
                      have hfz42_1 := blk_frozen BK471.out 1
                      have hfz42_2 := blk_frozen BK471.out 2
                      have hfz42_3 := blk_frozen BK471.out 3
                      have hfz42_4 := blk_frozen BK471.out 4
                      have hfz42_5 := blk_frozen BK471.out 5
                      have hfz42_6 := blk_frozen BK471.out 6
                      have hfz42_7 := blk_frozen BK471.out 7
                      have hfz42_8 := blk_frozen BK471.out 8
                      have hfz42_9 := blk_frozen BK471.out 9
                      have hfz42_10 := blk_frozen BK471.out 10
                      have hfz42_11 := blk_frozen BK471.out 11
                      go_wp2
                      go_meet
                      case rel => exact ⟨_, ((a0_0 == 8)), (by first | rfl | (simp; done) | (simp [*]; done)), H', ⟨by have := HJ1.out; have := HJ15.out; have := HJ33.out; first | omega | exact Nat.le_refl _⟩, ⟨by (with_reducible repeat (first | refine blk_drewN ?_ _ | refine blk_drew ?_ | refine blk_alloc ?_ _)); exact BK471.out⟩, ⟨by repeat (first | (with_reducible first | exact HB.out | apply below_alloc | apply pw_below_drewN | apply below_drew1 | refine below_set ?_ GE471.out) | exact HB.out)⟩⟩
                  case rest =>
                    clear HC39
                    try clear c1
                    try clear c2
                    try clear p2
                    try clear c3
                    try clear c4
                    try clear c4b0
                    try clear c5
                    try clear c6
                    try clear c6b0
                    try clear c9
                    try clear c10
                    try clear c10b0
                    try clear c14
                    try clear c18
                    try clear c19
                    try clear c19b0
                    try clear c21
                    try clear c21b0
                    try clear c24
                    try clear c29
                    try clear c29b0
                    try clear c29b1
                    try clear c30
                    try clear c30b0
                    try clear c35
                    try clear c35b0
                    try clear c35b1
                    try clear c38
                    try clear c40
                    try clear c40b0
                    try clear c40b1
                    try clear hcz11_0
                    try clear hcz11_1
                    try clear hcz11_10
                    try clear hcz11_11
                    try clear hcz11_2
                    try clear hcz11_3
                    try clear hcz11_4
                    try clear hcz11_5
                    try clear hcz11_6
                    try clear hcz11_7
                    try clear hcz11_8
                    try clear hcz11_9
                    try clear hcz12_0
                    try clear hcz12_1
                    try clear hcz12_10
                    try clear hcz12_11
                    try clear hcz12_2
                    try clear hcz12_3
                    try clear hcz12_4
                    try clear hcz12_5
                    try clear hcz12_6
                    try clear hcz12_7
                    try clear hcz12_8
                    try clear hcz12_9
                    try clear hcz13_0
                    try clear hcz13_1
                    try clear hcz13_10
                    try clear hcz13_11
                    try clear hcz13_2
                    try clear hcz13_3
                    try clear hcz13_4
                    try clear hcz13_5
                    try clear hcz13_6
                    try clear hcz13_7
                    try clear hcz13_8
                    try clear hcz13_9
                    try clear hcz17_0
                    try clear hcz17_1
                    try clear hcz17_10
                    try clear hcz17_11
                    try clear hcz17_2
                    try clear hcz17_3
                    try clear hcz17_4
                    try clear hcz17_5
                    try clear hcz17_6
                    try clear hcz17_7
                    try clear hcz17_8
                    try clear hcz17_9
                    try clear hcz20_0
                    try clear hcz20_1
                    try clear hcz20_10
                    try clear hcz20_11
                    try clear hcz20_2
                    try clear hcz20_3
                    try clear hcz20_4
                    try clear hcz20_5
                    try clear hcz20_6
                    try clear hcz20_7
                    try clear hcz20_8
                    try clear hcz20_9
                    try clear hcz22_0
                    try clear hcz22_1
                    try clear hcz22_10
                    try clear hcz22_11
                    try clear hcz22_2
                    try clear hcz22_3
                    try clear hcz22_4
                    try clear hcz22_5
                    try clear hcz22_6
                    try clear hcz22_7
                    try clear hcz22_8
                    try clear hcz22_9
                    try clear hcz25_0
                    try clear hcz25_1
                    try clear hcz25_10
                    try clear hcz25_11
                    try clear hcz25_2
                    try clear hcz25_3
                    try clear hcz25_4
                    try clear hcz25_5
                    try clear hcz25_6
                    try clear hcz25_7
                    try clear hcz25_8
                    try clear hcz25_9
                    try clear hcz27_0
                    try clear hcz27_1
                    try clear hcz27_10
                    try clear hcz27_11
                    try clear hcz27_2
                    try clear hcz27_3
                    try clear hcz27_4
                    try clear hcz27_5
                    try clear hcz27_6
                    try clear hcz27_7
                    try clear hcz27_8
                    try clear hcz27_9
                    try clear hcz31_0
                    try clear hcz31_1
                    try clear hcz31_10
                    try clear hcz31_11
                    try clear hcz31_2
                    try clear hcz31_3
                    try clear hcz31_4
                    try clear hcz31_5
                    try clear hcz31_6
                    try clear hcz31_7
                    try clear hcz31_8
                    try clear hcz31_9
                    try clear hcz32_0
                    try clear hcz32_1
                    try clear hcz32_10
                    try clear hcz32_11
                    try clear hcz32_2
                    try clear hcz32_3
                    try clear hcz32_4
                    try clear hcz32_5
                    try clear hcz32_6
                    try clear hcz32_7
                    try clear hcz32_8
                    try clear hcz32_9
                    try clear hcz33_0
                    try clear hcz33_1
                    try clear hcz33_10
                    try clear hcz33_11
                    try clear hcz33_2
                    try clear hcz33_3
                    try clear hcz33_4
                    try clear hcz33_5
                    try clear hcz33_6
                    try clear hcz33_7
                    try clear hcz33_8
                    try clear hcz33_9
                    try clear hcz36_0
                    try clear hcz36_1
                    try clear hcz36_10
                    try clear hcz36_11
                    try clear hcz36_2
                    try clear hcz36_3
                    try clear hcz36_4
                    try clear hcz36_5
                    try clear hcz36_6
                    try clear hcz36_7
                    try clear hcz36_8
                    try clear hcz36_9
                    try clear hcz37_0
                    try clear hcz37_1
                    try clear hcz37_10
                    try clear hcz37_11
                    try clear hcz37_2
                    try clear hcz37_3
                    try clear hcz37_4
                    try clear hcz37_5
                    try clear hcz37_6
                    try clear hcz37_7
                    try clear hcz37_8
                    try clear hcz37_9
                    try clear hcz41_0
                    try clear hcz41_1
                    try clear hcz41_10
                    try clear hcz41_11
                    try clear hcz41_2
                    try clear hcz41_3
                    try clear hcz41_4
                    try clear hcz41_5
                    try clear hcz41_6
                    try clear hcz41_7
                    try clear hcz41_8
                    try clear hcz41_9
                    try clear hcz42_0
                    try clear hcz42_1
                    try clear hcz42_10
                    try clear hcz42_11
                    try clear hcz42_2
                    try clear hcz42_3
                    try clear hcz42_4
                    try clear hcz42_5
                    try clear hcz42_6
                    try clear hcz42_7
                    try clear hcz42_8
                    try clear hcz42_9
                    try clear hcz5_0
                    try clear hcz5_1
                    try clear hcz5_10
                    try clear hcz5_11
                    try clear hcz5_2
                    try clear hcz5_3
                    try clear hcz5_4
                    try clear hcz5_5
                    try clear hcz5_6
                    try clear hcz5_7
                    try clear hcz5_8
                    try clear hcz5_9
                    try clear hcz7_0
                    try clear hcz7_1
                    try clear hcz7_10
                    try clear hcz7_11
                    try clear hcz7_2
                    try clear hcz7_3
                    try clear hcz7_4
                    try clear hcz7_5
                    try clear hcz7_6
                    try clear hcz7_7
                    try clear hcz7_8
                    try clear hcz7_9
                    try clear hfz11_0
                    try clear hfz11_1
                    try clear hfz11_10
                    try clear hfz11_11
                    try clear hfz11_2
                    try clear hfz11_3
                    try clear hfz11_4
                    try clear hfz11_5
                    try clear hfz11_6
                    try clear hfz11_7
                    try clear hfz11_8
                    try clear hfz11_9
                    try clear hfz12_0
                    try clear hfz12_1
                    try clear hfz12_10
                    try clear hfz12_11
                    try clear hfz12_2
                    try clear hfz12_3
                    try clear hfz12_4
                    try clear hfz12_5
                    try clear hfz12_6
                    try clear hfz12_7
                    try clear hfz12_8
                    try clear hfz12_9
                    try clear hfz13_0
                    try clear hfz13_1
                    try clear hfz13_10
                    try clear hfz13_11
                    try clear hfz13_2
                    try clear hfz13_3
                    try clear hfz13_4
                    try clear hfz13_5
                    try clear hfz13_6
                    try clear hfz13_7
                    try clear hfz13_8
                    try clear hfz13_9
                    try clear hfz17_0
                    try clear hfz17_1
                    try clear hfz17_10
                    try clear hfz17_11
                    try clear hfz17_2
                    try clear hfz17_3
                    try clear hfz17_4
                    try clear hfz17_5
                    try clear hfz17_6
                    try clear hfz17_7
                    try clear hfz17_8
                    try clear hfz17_9
                    try clear hfz20_0
                    try clear hfz20_1
                    try clear hfz20_10
                    try clear hfz20_11
                    try clear hfz20_2
                    try clear hfz20_3
                    try clear hfz20_4
                    try clear hfz20_5
                    try clear hfz20_6
                    try clear hfz20_7
                    try clear hfz20_8
                    try clear hfz20_9
                    try clear hfz22_0
                    try clear hfz22_1
                    try clear hfz22_10
                    try clear hfz22_11
                    try clear hfz22_2
                    try clear hfz22_3
                    try clear hfz22_4
                    try clear hfz22_5
                    try clear hfz22_6
                    try clear hfz22_7
                    try clear hfz22_8
                    try clear hfz22_9
                    try clear hfz25_0
                    try clear hfz25_1
                    try clear hfz25_10
                    try clear hfz25_11
                    try clear hfz25_2
                    try clear hfz25_3
                    try clear hfz25_4
                    try clear hfz25_5
                    try clear hfz25_6
                    try clear hfz25_7
                    try clear hfz25_8
                    try clear hfz25_9
                    try clear hfz27_0
                    try clear hfz27_1
                    try clear hfz27_10
                    try clear hfz27_11
                    try clear hfz27_2
                    try clear hfz27_3
                    try clear hfz27_4
                    try clear hfz27_5
                    try clear hfz27_6
                    try clear hfz27_7
                    try clear hfz27_8
                    try clear hfz27_9
                    try clear hfz31_0
                    try clear hfz31_1
                    try clear hfz31_10
                    try clear hfz31_11
                    try clear hfz31_2
                    try clear hfz31_3
                    try clear hfz31_4
                    try clear hfz31_5
                    try clear hfz31_6
                    try clear hfz31_7
                    try clear hfz31_8
                    try clear hfz31_9
                    try clear hfz32_0
                    try clear hfz32_1
                    try clear hfz32_10
                    try clear hfz32_11
                    try clear hfz32_2
                    try clear hfz32_3
                    try clear hfz32_4
                    try clear hfz32_5
                    try clear hfz32_6
                    try clear hfz32_7
                    try clear hfz32_8
                    try clear hfz32_9
                    try clear hfz33_0
                    try clear hfz33_1
                    try clear hfz33_10
                    try clear hfz33_11
                    try clear hfz33_2
                    try clear hfz33_3
                    try clear hfz33_4
                    try clear hfz33_5
                    try clear hfz33_6
                    try clear hfz33_7
                    try clear hfz33_8
                    try clear hfz33_9
                    try clear hfz36_0
                    try clear hfz36_1
                    try clear hfz36_10
                    try clear hfz36_11
                    try clear hfz36_2
                    try clear hfz36_3
                    try clear hfz36_4
                    try clear hfz36_5
                    try clear hfz36_6
                    try clear hfz36_7
                    try clear hfz36_8
                    try clear hfz36_9
                    try clear hfz37_0
                    try clear hfz37_1
                    try clear hfz37_10
                    try clear hfz37_11
                    try clear hfz37_2
                    try clear hfz37_3
                    try clear hfz37_4
                    try clear hfz37_5
                    try clear hfz37_6
                    try clear hfz37_7
                    try clear hfz37_8
                    try clear hfz37_9
                    try clear hfz41_0
                    try clear hfz41_1
                    try clear hfz41_10
                    try clear hfz41_11
                    try clear hfz41_2
                    try clear hfz41_3
                    try clear hfz41_4
                    try clear hfz41_5
                    try clear hfz41_6
                    try clear hfz41_7
                    try clear hfz41_8
                    try clear hfz41_9
                    try clear hfz42_0
                    try clear hfz42_1
                    try clear hfz42_10
                    try clear hfz42_11
                    try clear hfz42_2
                    try clear hfz42_3
                    try clear hfz42_4
                    try clear hfz42_5
                    try clear hfz42_6
                    try clear hfz42_7
                    try clear hfz42_8
                    try clear hfz42_9
                    try clear hfz5_0
                    try clear hfz5_1
                    try clear hfz5_10
                    try clear hfz5_11
                    try clear hfz5_2
                    try clear hfz5_3
                    try clear hfz5_4
                    try clear hfz5_5
                    try clear hfz5_6
                    try clear hfz5_7
                    try clear hfz5_8
                    try clear hfz5_9
                    try clear hfz7_0
                    try clear hfz7_1
                    try clear hfz7_10
                    try clear hfz7_11
                    try clear hfz7_2
                    try clear hfz7_3
                    try clear hfz7_4
                    try clear hfz7_5
                    try clear hfz7_6
                    try clear hfz7_7
                    try clear hfz7_8
                    try clear hfz7_9
                    try clear p2
                    obtain ⟨kq, x72_38, rfl, HA, HJ38, BK471, HB⟩ := hcut
                    cases kq with
                    | zero => exact absurd HA.out (by simp [flotillaref05_May.j3])
                    | succ kj38 =>
                      have H := HA.out
                      clear HA
                      simp only [flotillaref05_May.j3] at H
                      by_cases c43 : x72_38 = true
                      · subst c43
                        have H1 : (if a0_2 = 0 then (flotillaref05_May.j4 kj38 (a0_3 != 0) a0_0 a0_1 a0_2 a0_3 a0_4 a0_5 a0_6 a0_7 a0_8 a0_9 l0_10 l0_11) else (flotillaref05_May.j4 kj38 true a0_0 a0_1 a0_2 a0_3 a0_4 a0_5 a0_6 a0_7 a0_8 a0_9 l0_10 l0_11)) = some r := by rw [if_pos rfl] at H; exact H
                        clear H
                        have H := H1
                        clear H1
                        have HC44 := Aside0.mk H
                        clear H
                        go_upto_region 11 with (fail)
                        go_cut [80] (fun v80 wc => ∃ (kq : Nat) (x80_43 : Bool), v80 = .bool x80_43 ∧ Aside0 (flotillaref05_May.j4 kq x80_43 a0_0 a0_1 a0_2 a0_3 a0_4 a0_5 a0_6 a0_7 a0_8 a0_9 l0_10 l0_11 = some r) ∧ Aside0 (kq ≤ kj38) ∧ Aside0 (wc.heap[gb471]? = some (.cells #[.int .i64 a0_0, .int .u64 a0_1, .int .i64 a0_2, .int .u64 a0_3, .int .u64 a0_4, .int .i64 a0_5, .int .i64 a0_6, .string a0_7, .string a0_8, .string a0_9, (.slice A0_10 l0_10.length c0_10), (.slice A0_11 l0_11.length c0_11)] 43 (0, 0))) ∧ Aside0 (Below w.heap.size w wc))
                        case first =>
                          have H := HC44.out
                          clear HC44
                          by_cases c45 : a0_2 = 0
                          · rw [if_pos c45] at H
                            have c45b0 : (a0_2 == 0) = true := beq_iff_eq.mpr c45
                            have c45b1 : (a0_2 != 0) = false := bne_eq_false_iff_eq.mpr c45
                            clear c45
                            (first | rw [c45b0] | (simp only [i64_w, i32_w]; rw [c45b0]) | skip)
                            have H' := Aside0.mk H
                            clear H
                            have hcz46_0 : wc.cell? ⟨gb471, 0, none⟩ = some (.int .i64 a0_0) := (blk_cell BK471.out 0).trans rfl
                            have hcz46_1 : wc.cell? ⟨gb471, 1, none⟩ = some (.int .u64 a0_1) := (blk_cell BK471.out 1).trans rfl
                            have hcz46_2 : wc.cell? ⟨gb471, 2, none⟩ = some (.int .i64 a0_2) := (blk_cell BK471.out 2).trans rfl
                            have hcz46_3 : wc.cell? ⟨gb471, 3, none⟩ = some (.int .u64 a0_3) := (blk_cell BK471.out 3).trans rfl
                            have hcz46_4 : wc.cell? ⟨gb471, 4, none⟩ = some (.int .u64 a0_4) := (blk_cell BK471.out 4).trans rfl
                            have hcz46_5 : wc.cell? ⟨gb471, 5, none⟩ = some (.int .i64 a0_5) := (blk_cell BK471.out 5).trans rfl
                            have hcz46_6 : wc.cell? ⟨gb471, 6, none⟩ = some (.int .i64 a0_6) := (blk_cell BK471.out 6).trans rfl
                            have hcz46_7 : wc.cell? ⟨gb471, 7, none⟩ = some (.string a0_7) := (blk_cell BK471.out 7).trans rfl
                            have hcz46_8 : wc.cell? ⟨gb471, 8, none⟩ = some (.string a0_8) := (blk_cell BK471.out 8).trans rfl
                            have hcz46_9 : wc.cell? ⟨gb471, 9, none⟩ = some (.string a0_9) := (blk_cell BK471.out 9).trans rfl
                            have hcz46_10 : wc.cell? ⟨gb471, 10, none⟩ = some (.slice A0_10 l0_10.length c0_10) := (blk_cell BK471.out 10).trans rfl
                            have hcz46_11 : wc.cell? ⟨gb471, 11, none⟩ = some (.slice A0_11 l0_11.length c0_11) := (blk_cell BK471.out 11).trans rfl
                            have hfz46_0 := blk_frozen BK471.out 0
                            have hfz46_1 := blk_frozen BK471.out 1
                            have hfz46_2 := blk_frozen BK471.out 2
                            have hfz46_3 := blk_frozen BK471.out 3
                            have hfz46_4 := blk_frozen BK471.out 4
                            have hfz46_5 := blk_frozen BK471.out 5
                            have hfz46_6 := blk_frozen BK471.out 6
                            have hfz46_7 := blk_frozen BK471.out 7
                            have hfz46_8 := blk_frozen BK471.out 8
                            have hfz46_9 := blk_frozen BK471.out 9
                            have hfz46_10 := blk_frozen BK471.out 10
                            have hfz46_11 := blk_frozen BK471.out 11
                            go_wp2
                            go_meet
                            case rel => exact ⟨_, ((a0_3 != 0)), (by first | rfl | (simp; done) | (simp [*]; done)), H', ⟨by have := HJ1.out; have := HJ15.out; have := HJ33.out; have := HJ38.out; first | omega | exact Nat.le_refl _⟩, ⟨by (with_reducible repeat (first | refine blk_drewN ?_ _ | refine blk_drew ?_ | refine blk_alloc ?_ _)); exact BK471.out⟩, ⟨by repeat (first | (with_reducible first | exact HB.out | apply below_alloc | apply pw_below_drewN | apply below_drew1 | refine below_set ?_ GE471.out) | exact HB.out)⟩⟩
                          · rw [if_neg c45] at H
                            have c45b0 : (a0_2 == 0) = false := beq_eq_false_iff_ne.mpr c45
                            have c45b1 : (a0_2 != 0) = true := bne_iff_ne.mpr c45
                            (first | rw [c45b0] | (simp only [i64_w, i32_w]; rw [c45b0]) | skip)
                            have H' := Aside0.mk H
                            clear H
                            have hcz47_0 : wc.cell? ⟨gb471, 0, none⟩ = some (.int .i64 a0_0) := (blk_cell BK471.out 0).trans rfl
                            have hcz47_1 : wc.cell? ⟨gb471, 1, none⟩ = some (.int .u64 a0_1) := (blk_cell BK471.out 1).trans rfl
                            have hcz47_2 : wc.cell? ⟨gb471, 2, none⟩ = some (.int .i64 a0_2) := (blk_cell BK471.out 2).trans rfl
                            have hcz47_3 : wc.cell? ⟨gb471, 3, none⟩ = some (.int .u64 a0_3) := (blk_cell BK471.out 3).trans rfl
                            have hcz47_4 : wc.cell? ⟨gb471, 4, none⟩ = some (.int .u64 a0_4) := (blk_cell BK471.out 4).trans rfl
                            have hcz47_5 : wc.cell? ⟨gb471, 5, none⟩ = some (.int .i64 a0_5) := (blk_cell BK471.out 5).trans rfl
                            have hcz47_6 : wc.cell? ⟨gb471, 6, none⟩ = some (.int .i64 a0_6) := (blk_cell BK471.out 6).trans rfl
                            have hcz47_7 : wc.cell? ⟨gb471, 7, none⟩ = some (.string a0_7) := (blk_cell BK471.out 7).trans rfl
                            have hcz47_8 : wc.cell? ⟨gb471, 8, none⟩ = some (.string a0_8) := (blk_cell BK471.out 8).trans rfl
                            have hcz47_9 : wc.cell? ⟨gb471, 9, none⟩ = some (.string a0_9) := (blk_cell BK471.out 9).trans rfl
                            have hcz47_10 : wc.cell? ⟨gb471, 10, none⟩ = some (.slice A0_10 l0_10.length c0_10) := (blk_cell BK471.out 10).trans rfl
                            have hcz47_11 : wc.cell? ⟨gb471, 11, none⟩ = some (.slice A0_11 l0_11.length c0_11) := (blk_cell BK471.out 11).trans rfl
                            have hfz47_0 := blk_frozen BK471.out 0
                            have hfz47_1 := blk_frozen BK471.out 1
                            have hfz47_2 := blk_frozen BK471.out 2
                            have hfz47_3 := blk_frozen BK471.out 3
                            have hfz47_4 := blk_frozen BK471.out 4
                            have hfz47_5 := blk_frozen BK471.out 5
                            have hfz47_6 := blk_frozen BK471.out 6
                            have hfz47_7 := blk_frozen BK471.out 7
                            have hfz47_8 := blk_frozen BK471.out 8
                            have hfz47_9 := blk_frozen BK471.out 9
                            have hfz47_10 := blk_frozen BK471.out 10
                            have hfz47_11 := blk_frozen BK471.out 11
                            go_wp2
                            go_meet
                            case rel => exact ⟨_, (true), (by first | rfl | (simp; done) | (simp [*]; done)), H', ⟨by have := HJ1.out; have := HJ15.out; have := HJ33.out; have := HJ38.out; first | omega | exact Nat.le_refl _⟩, ⟨by (with_reducible repeat (first | refine blk_drewN ?_ _ | refine blk_drew ?_ | refine blk_alloc ?_ _)); exact BK471.out⟩, ⟨by repeat (first | (with_reducible first | exact HB.out | apply below_alloc | apply pw_below_drewN | apply below_drew1 | refine below_set ?_ GE471.out) | exact HB.out)⟩⟩
                        case rest =>
                          clear HC44
                          try clear c1
                          try clear c2
                          try clear p2
                          try clear c3
                          try clear c4
                          try clear c4b0
                          try clear c5
                          try clear c6
                          try clear c6b0
                          try clear c9
                          try clear c10
                          try clear c10b0
                          try clear c14
                          try clear c18
                          try clear c19
                          try clear c19b0
                          try clear c21
                          try clear c21b0
                          try clear c24
                          try clear c29
                          try clear c29b0
                          try clear c29b1
                          try clear c30
                          try clear c30b0
                          try clear c35
                          try clear c35b0
                          try clear c35b1
                          try clear c38
                          try clear c40
                          try clear c40b0
                          try clear c40b1
                          try clear c43
                          try clear c45
                          try clear c45b0
                          try clear c45b1
                          try clear hcz11_0
                          try clear hcz11_1
                          try clear hcz11_10
                          try clear hcz11_11
                          try clear hcz11_2
                          try clear hcz11_3
                          try clear hcz11_4
                          try clear hcz11_5
                          try clear hcz11_6
                          try clear hcz11_7
                          try clear hcz11_8
                          try clear hcz11_9
                          try clear hcz12_0
                          try clear hcz12_1
                          try clear hcz12_10
                          try clear hcz12_11
                          try clear hcz12_2
                          try clear hcz12_3
                          try clear hcz12_4
                          try clear hcz12_5
                          try clear hcz12_6
                          try clear hcz12_7
                          try clear hcz12_8
                          try clear hcz12_9
                          try clear hcz13_0
                          try clear hcz13_1
                          try clear hcz13_10
                          try clear hcz13_11
                          try clear hcz13_2
                          try clear hcz13_3
                          try clear hcz13_4
                          try clear hcz13_5
                          try clear hcz13_6
                          try clear hcz13_7
                          try clear hcz13_8
                          try clear hcz13_9
                          try clear hcz17_0
                          try clear hcz17_1
                          try clear hcz17_10
                          try clear hcz17_11
                          try clear hcz17_2
                          try clear hcz17_3
                          try clear hcz17_4
                          try clear hcz17_5
                          try clear hcz17_6
                          try clear hcz17_7
                          try clear hcz17_8
                          try clear hcz17_9
                          try clear hcz20_0
                          try clear hcz20_1
                          try clear hcz20_10
                          try clear hcz20_11
                          try clear hcz20_2
                          try clear hcz20_3
                          try clear hcz20_4
                          try clear hcz20_5
                          try clear hcz20_6
                          try clear hcz20_7
                          try clear hcz20_8
                          try clear hcz20_9
                          try clear hcz22_0
                          try clear hcz22_1
                          try clear hcz22_10
                          try clear hcz22_11
                          try clear hcz22_2
                          try clear hcz22_3
                          try clear hcz22_4
                          try clear hcz22_5
                          try clear hcz22_6
                          try clear hcz22_7
                          try clear hcz22_8
                          try clear hcz22_9
                          try clear hcz25_0
                          try clear hcz25_1
                          try clear hcz25_10
                          try clear hcz25_11
                          try clear hcz25_2
                          try clear hcz25_3
                          try clear hcz25_4
                          try clear hcz25_5
                          try clear hcz25_6
                          try clear hcz25_7
                          try clear hcz25_8
                          try clear hcz25_9
                          try clear hcz27_0
                          try clear hcz27_1
                          try clear hcz27_10
                          try clear hcz27_11
                          try clear hcz27_2
                          try clear hcz27_3
                          try clear hcz27_4
                          try clear hcz27_5
                          try clear hcz27_6
                          try clear hcz27_7
                          try clear hcz27_8
                          try clear hcz27_9
                          try clear hcz31_0
                          try clear hcz31_1
                          try clear hcz31_10
                          try clear hcz31_11
                          try clear hcz31_2
                          try clear hcz31_3
                          try clear hcz31_4
                          try clear hcz31_5
                          try clear hcz31_6
                          try clear hcz31_7
                          try clear hcz31_8
                          try clear hcz31_9
                          try clear hcz32_0
                          try clear hcz32_1
                          try clear hcz32_10
                          try clear hcz32_11
                          try clear hcz32_2
                          try clear hcz32_3
                          try clear hcz32_4
                          try clear hcz32_5
                          try clear hcz32_6
                          try clear hcz32_7
                          try clear hcz32_8
                          try clear hcz32_9
                          try clear hcz33_0
                          try clear hcz33_1
                          try clear hcz33_10
                          try clear hcz33_11
                          try clear hcz33_2
                          try clear hcz33_3
                          try clear hcz33_4
                          try clear hcz33_5
                          try clear hcz33_6
                          try clear hcz33_7
                          try clear hcz33_8
                          try clear hcz33_9
                          try clear hcz36_0
                          try clear hcz36_1
                          try clear hcz36_10
                          try clear hcz36_11
                          try clear hcz36_2
                          try clear hcz36_3
                          try clear hcz36_4
                          try clear hcz36_5
                          try clear hcz36_6
                          try clear hcz36_7
                          try clear hcz36_8
                          try clear hcz36_9
                          try clear hcz37_0
                          try clear hcz37_1
                          try clear hcz37_10
                          try clear hcz37_11
                          try clear hcz37_2
                          try clear hcz37_3
                          try clear hcz37_4
                          try clear hcz37_5
                          try clear hcz37_6
                          try clear hcz37_7
                          try clear hcz37_8
                          try clear hcz37_9
                          try clear hcz41_0
                          try clear hcz41_1
                          try clear hcz41_10
                          try clear hcz41_11
                          try clear hcz41_2
                          try clear hcz41_3
                          try clear hcz41_4
                          try clear hcz41_5
                          try clear hcz41_6
                          try clear hcz41_7
                          try clear hcz41_8
                          try clear hcz41_9
                          try clear hcz42_0
                          try clear hcz42_1
                          try clear hcz42_10
                          try clear hcz42_11
                          try clear hcz42_2
                          try clear hcz42_3
                          try clear hcz42_4
                          try clear hcz42_5
                          try clear hcz42_6
                          try clear hcz42_7
                          try clear hcz42_8
                          try clear hcz42_9
                          try clear hcz46_0
                          try clear hcz46_1
                          try clear hcz46_10
                          try clear hcz46_11
                          try clear hcz46_2
                          try clear hcz46_3
                          try clear hcz46_4
                          try clear hcz46_5
                          try clear hcz46_6
                          try clear hcz46_7
                          try clear hcz46_8
                          try clear hcz46_9
                          try clear hcz47_0
                          try clear hcz47_1
                          try clear hcz47_10
                          try clear hcz47_11
                          try clear hcz47_2
                          try clear hcz47_3
                          try clear hcz47_4
                          try clear hcz47_5
                          try clear hcz47_6
                          try clear hcz47_7
                          try clear hcz47_8
                          try clear hcz47_9
                          try clear hcz5_0
                          try clear hcz5_1
                          try clear hcz5_10
                          try clear hcz5_11
                          try clear hcz5_2
                          try clear hcz5_3
                          try clear hcz5_4
                          try clear hcz5_5
                          try clear hcz5_6
                          try clear hcz5_7
                          try clear hcz5_8
                          try clear hcz5_9
                          try clear hcz7_0
                          try clear hcz7_1
                          try clear hcz7_10
                          try clear hcz7_11
                          try clear hcz7_2
                          try clear hcz7_3
                          try clear hcz7_4
                          try clear hcz7_5
                          try clear hcz7_6
                          try clear hcz7_7
                          try clear hcz7_8
                          try clear hcz7_9
                          try clear hfz11_0
                          try clear hfz11_1
                          try clear hfz11_10
                          try clear hfz11_11
                          try clear hfz11_2
                          try clear hfz11_3
                          try clear hfz11_4
                          try clear hfz11_5
                          try clear hfz11_6
                          try clear hfz11_7
                          try clear hfz11_8
                          try clear hfz11_9
                          try clear hfz12_0
                          try clear hfz12_1
                          try clear hfz12_10
                          try clear hfz12_11
                          try clear hfz12_2
                          try clear hfz12_3
                          try clear hfz12_4
                          try clear hfz12_5
                          try clear hfz12_6
                          try clear hfz12_7
                          try clear hfz12_8
                          try clear hfz12_9
                          try clear hfz13_0
                          try clear hfz13_1
                          try clear hfz13_10
                          try clear hfz13_11
                          try clear hfz13_2
                          try clear hfz13_3
                          try clear hfz13_4
                          try clear hfz13_5
                          try clear hfz13_6
                          try clear hfz13_7
                          try clear hfz13_8
                          try clear hfz13_9
                          try clear hfz17_0
                          try clear hfz17_1
                          try clear hfz17_10
                          try clear hfz17_11
                          try clear hfz17_2
                          try clear hfz17_3
                          try clear hfz17_4
                          try clear hfz17_5
                          try clear hfz17_6
                          try clear hfz17_7
                          try clear hfz17_8
                          try clear hfz17_9
                          try clear hfz20_0
                          try clear hfz20_1
                          try clear hfz20_10
                          try clear hfz20_11
                          try clear hfz20_2
                          try clear hfz20_3
                          try clear hfz20_4
                          try clear hfz20_5
                          try clear hfz20_6
                          try clear hfz20_7
                          try clear hfz20_8
                          try clear hfz20_9
                          try clear hfz22_0
                          try clear hfz22_1
                          try clear hfz22_10
                          try clear hfz22_11
                          try clear hfz22_2
                          try clear hfz22_3
                          try clear hfz22_4
                          try clear hfz22_5
                          try clear hfz22_6
                          try clear hfz22_7
                          try clear hfz22_8
                          try clear hfz22_9
                          try clear hfz25_0
                          try clear hfz25_1
                          try clear hfz25_10
                          try clear hfz25_11
                          try clear hfz25_2
                          try clear hfz25_3
                          try clear hfz25_4
                          try clear hfz25_5
                          try clear hfz25_6
                          try clear hfz25_7
                          try clear hfz25_8
                          try clear hfz25_9
                          try clear hfz27_0
                          try clear hfz27_1
                          try clear hfz27_10
                          try clear hfz27_11
                          try clear hfz27_2
                          try clear hfz27_3
                          try clear hfz27_4
                          try clear hfz27_5
                          try clear hfz27_6
                          try clear hfz27_7
                          try clear hfz27_8
                          try clear hfz27_9
                          try clear hfz31_0
                          try clear hfz31_1
                          try clear hfz31_10
                          try clear hfz31_11
                          try clear hfz31_2
                          try clear hfz31_3
                          try clear hfz31_4
                          try clear hfz31_5
                          try clear hfz31_6
                          try clear hfz31_7
                          try clear hfz31_8
                          try clear hfz31_9
                          try clear hfz32_0
                          try clear hfz32_1
                          try clear hfz32_10
                          try clear hfz32_11
                          try clear hfz32_2
                          try clear hfz32_3
                          try clear hfz32_4
                          try clear hfz32_5
                          try clear hfz32_6
                          try clear hfz32_7
                          try clear hfz32_8
                          try clear hfz32_9
                          try clear hfz33_0
                          try clear hfz33_1
                          try clear hfz33_10
                          try clear hfz33_11
                          try clear hfz33_2
                          try clear hfz33_3
                          try clear hfz33_4
                          try clear hfz33_5
                          try clear hfz33_6
                          try clear hfz33_7
                          try clear hfz33_8
                          try clear hfz33_9
                          try clear hfz36_0
                          try clear hfz36_1
                          try clear hfz36_10
                          try clear hfz36_11
                          try clear hfz36_2
                          try clear hfz36_3
                          try clear hfz36_4
                          try clear hfz36_5
                          try clear hfz36_6
                          try clear hfz36_7
                          try clear hfz36_8
                          try clear hfz36_9
                          try clear hfz37_0
                          try clear hfz37_1
                          try clear hfz37_10
                          try clear hfz37_11
                          try clear hfz37_2
                          try clear hfz37_3
                          try clear hfz37_4
                          try clear hfz37_5
                          try clear hfz37_6
                          try clear hfz37_7
                          try clear hfz37_8
                          try clear hfz37_9
                          try clear hfz41_0
                          try clear hfz41_1
                          try clear hfz41_10
                          try clear hfz41_11
                          try clear hfz41_2
                          try clear hfz41_3
                          try clear hfz41_4
                          try clear hfz41_5
                          try clear hfz41_6
                          try clear hfz41_7
                          try clear hfz41_8
                          try clear hfz41_9
                          try clear hfz42_0
                          try clear hfz42_1
                          try clear hfz42_10
                          try clear hfz42_11
                          try clear hfz42_2
                          try clear hfz42_3
                          try clear hfz42_4
                          try clear hfz42_5
                          try clear hfz42_6
                          try clear hfz42_7
                          try clear hfz42_8
                          try clear hfz42_9
                          try clear hfz46_0
                          try clear hfz46_1
                          try clear hfz46_10
                          try clear hfz46_11
                          try clear hfz46_2
                          try clear hfz46_3
                          try clear hfz46_4
                          try clear hfz46_5
                          try clear hfz46_6
                          try clear hfz46_7
                          try clear hfz46_8
                          try clear hfz46_9
                          try clear hfz47_0
                          try clear hfz47_1
                          try clear hfz47_10
                          try clear hfz47_11
                          try clear hfz47_2
                          try clear hfz47_3
                          try clear hfz47_4
                          try clear hfz47_5
                          try clear hfz47_6
                          try clear hfz47_7
                          try clear hfz47_8
                          try clear hfz47_9
                          try clear hfz5_0
                          try clear hfz5_1
                          try clear hfz5_10
                          try clear hfz5_11
                          try clear hfz5_2
                          try clear hfz5_3
                          try clear hfz5_4
                          try clear hfz5_5
                          try clear hfz5_6
                          try clear hfz5_7
                          try clear hfz5_8
                          try clear hfz5_9
                          try clear hfz7_0
                          try clear hfz7_1
                          try clear hfz7_10
                          try clear hfz7_11
                          try clear hfz7_2
                          try clear hfz7_3
                          try clear hfz7_4
                          try clear hfz7_5
                          try clear hfz7_6
                          try clear hfz7_7
                          try clear hfz7_8
                          try clear hfz7_9
                          try clear p2
                          obtain ⟨kq, x80_43, rfl, HA, HJ43, BK471, HB⟩ := hcut
                          cases kq with
                          | zero => exact absurd HA.out (by simp [flotillaref05_May.j4])
                          | succ kj43 =>
                            have H := HA.out
                            clear HA
                            simp only [flotillaref05_May.j4] at H
                            by_cases c48 : x80_43 = true
                            · subst c48
                              have H1 : (some false) = some r := by rw [if_pos rfl] at H; exact H
                              clear H
                              have H := H1
                              clear H1
                              obtain rfl := Option.some.inj H
                              go_wp2
                              go_ret
                              exact ⟨by first | rfl | (simp [errW_none, errW_some] <;> rfl) | (simp [*, errW_none, errW_some] <;> rfl), by repeat (first | (with_reducible first | exact HB.out | apply below_alloc | apply pw_below_drewN | apply below_drew1 | refine below_set ?_ GE471.out) | exact HB.out)⟩
                            · replace c48 := Bool.eq_false_iff.mpr c48
                              subst c48
                              have H1 : (if a0_0 = 8 then ((flotillaref05_Rows.f kj43 a0_0 a0_1 a0_2 a0_3 a0_4 a0_5 a0_6 a0_7 a0_8 a0_9 l0_10 l0_11).bind fun t475 => (some t475)) else (if (wrap64 ((l0_10.length : Int) + (l0_11.length : Int))) > 0 then (some false) else ((flotillaref05_Rows.f kj43 a0_0 a0_1 a0_2 a0_3 a0_4 a0_5 a0_6 a0_7 a0_8 a0_9 l0_10 l0_11).bind fun t476 => (some t476)))) = some r := by rw [if_neg (show ¬ (false = true) by decide)] at H; exact H
                              clear H
                              have H := H1
                              clear H1
                              by_cases c49 : a0_0 = 8
                              · rw [if_pos c49] at H
                                have c49b0 : (a0_0 == 8) = true := beq_iff_eq.mpr c49
                                have c49b1 : (a0_0 != 8) = false := bne_eq_false_iff_eq.mpr c49
                                clear c49
                                replace H := Option.bind_eq_some_iff.mp H
                                obtain ⟨t475, A500, H⟩ := H
                                replace H : (some t475) = some r := H
                                have A50 := Aside0.mk A500
                                clear A500
                                obtain rfl := Option.some.inj H
                                have hcz51_0 : wc.cell? ⟨gb471, 0, none⟩ = some (.int .i64 a0_0) := (blk_cell BK471.out 0).trans rfl
                                have hcz51_1 : wc.cell? ⟨gb471, 1, none⟩ = some (.int .u64 a0_1) := (blk_cell BK471.out 1).trans rfl
                                have hcz51_2 : wc.cell? ⟨gb471, 2, none⟩ = some (.int .i64 a0_2) := (blk_cell BK471.out 2).trans rfl
                                have hcz51_3 : wc.cell? ⟨gb471, 3, none⟩ = some (.int .u64 a0_3) := (blk_cell BK471.out 3).trans rfl
                                have hcz51_4 : wc.cell? ⟨gb471, 4, none⟩ = some (.int .u64 a0_4) := (blk_cell BK471.out 4).trans rfl
                                have hcz51_5 : wc.cell? ⟨gb471, 5, none⟩ = some (.int .i64 a0_5) := (blk_cell BK471.out 5).trans rfl
                                have hcz51_6 : wc.cell? ⟨gb471, 6, none⟩ = some (.int .i64 a0_6) := (blk_cell BK471.out 6).trans rfl
                                have hcz51_7 : wc.cell? ⟨gb471, 7, none⟩ = some (.string a0_7) := (blk_cell BK471.out 7).trans rfl
                                have hcz51_8 : wc.cell? ⟨gb471, 8, none⟩ = some (.string a0_8) := (blk_cell BK471.out 8).trans rfl
                                have hcz51_9 : wc.cell? ⟨gb471, 9, none⟩ = some (.string a0_9) := (blk_cell BK471.out 9).trans rfl
                                have hcz51_10 : wc.cell? ⟨gb471, 10, none⟩ = some (.slice A0_10 l0_10.length c0_10) := (blk_cell BK471.out 10).trans rfl
                                have hcz51_11 : wc.cell? ⟨gb471, 11, none⟩ = some (.slice A0_11 l0_11.length c0_11) := (blk_cell BK471.out 11).trans rfl
                                have hfz51_0 := blk_frozen BK471.out 0
                                have hfz51_1 := blk_frozen BK471.out 1
                                have hfz51_2 := blk_frozen BK471.out 2
                                have hfz51_3 := blk_frozen BK471.out 3
                                have hfz51_4 := blk_frozen BK471.out 4
                                have hfz51_5 := blk_frozen BK471.out 5
                                have hfz51_6 := blk_frozen BK471.out 6
                                have hfz51_7 := blk_frozen BK471.out 7
                                have hfz51_8 := blk_frozen BK471.out 8
                                have hfz51_9 := blk_frozen BK471.out 9
                                have hfz51_10 := blk_frozen BK471.out 10
                                have hfz51_11 := blk_frozen BK471.out 11
                                go_wp2_with (first | ((with_reducible refine gate_callee (f := 53) rfl ?_); refine goesL_ (some 103) rfl rfl Try.func53 (by kernel_rfl) rfl #[.agg #[.int .i64 a0_0, .int .u64 a0_1, .int .i64 a0_2, .int .u64 a0_3, .int .u64 a0_4, .int .i64 a0_5, .int .i64 a0_6, .string a0_7, .string a0_8, .string a0_9, .slice A0_10 l0_10.length c0_10, .slice A0_11 l0_11.length c0_11]] rfl (by (try simp only [List.map_toArray, List.map_cons, List.map_nil]); first | done | rfl | (simp only [List.length_drop, List.length_take]; rfl)) ?_; (with_reducible refine (flotillaref05_Rows.calls kj43 a0_0 a0_1 a0_2 a0_3 a0_4 a0_5 a0_6 a0_7 a0_8 a0_9 _ _ l0_10 _ _ l0_11 t475 _ ?side1 ?side2 ?side3 ?side4 A50.out).mono ?_); (case side1 => repeat (first | exact (Kd.C_below HR0_10.out HB.out) | (with_reducible refine Kd.C_alloc ?_ _) | (with_reducible refine Kd.C_drewN ?_ _) | (with_reducible refine Kd.C_drew ?_))); (case side2 => exact HC0_10.out); (case side3 => repeat (first | exact (Kd.C_below HR0_11.out HB.out) | (with_reducible refine Kd.C_alloc ?_ _) | (with_reducible refine Kd.C_drewN ?_ _) | (with_reducible refine Kd.C_drew ?_))); (case side4 => exact HC0_11.out); rintro e w52 ⟨rfl, hb⟩; refine ⟨_, rfl, ?_⟩; have n0_ := Aside0.mk (blk_below (g := gb471) (o := .cells #[.int .i64 a0_0, .int .u64 a0_1, .int .i64 a0_2, .int .u64 a0_3, .int .u64 a0_4, .int .i64 a0_5, .int .i64 a0_6, .string a0_7, .string a0_8, .string a0_9, .slice A0_10 l0_10.length c0_10, .slice A0_11 l0_11.length c0_11] 43 (0, 0)) (by (with_reducible repeat (first | refine blk_drewN ?_ _ | refine blk_drew ?_ | refine blk_alloc ?_ _)); exact BK471.out) hb); have n1_ := Aside0.mk (below_step (by repeat (first | (with_reducible first | exact HB.out | apply below_alloc | apply pw_below_drewN | apply below_drew1 | refine below_set ?_ GE471.out) | exact HB.out)) hb); clear BK471; clear HB; have BK471 := n0_; have HB := n1_; clear n0_ n1_; (try clear hb); (try clear hb2); (try clear hk); (try clear hi)))
                                go_ret
                                exact ⟨by first | rfl | (simp [errW_none, errW_some] <;> rfl) | (simp [*, errW_none, errW_some] <;> rfl), by repeat (first | (with_reducible first | exact HB.out | apply below_alloc | apply pw_below_drewN | apply below_drew1 | refine below_set ?_ GE471.out) | exact HB.out)⟩
                              · rw [if_neg c49] at H
                                have c49b0 : (a0_0 == 8) = false := beq_eq_false_iff_ne.mpr c49
                                have c49b1 : (a0_0 != 8) = true := bne_iff_ne.mpr c49
                                by_cases c53 : (wrap64 ((l0_10.length : Int) + (l0_11.length : Int))) > 0
                                · rw [if_pos c53] at H
                                  have c53b0 : decide (0 < (wrap64 ((l0_10.length : Int) + (l0_11.length : Int)))) = true := decide_eq_true c53
                                  clear c53
                                  obtain rfl := Option.some.inj H
                                  have hcz54_0 : wc.cell? ⟨gb471, 0, none⟩ = some (.int .i64 a0_0) := (blk_cell BK471.out 0).trans rfl
                                  have hcz54_1 : wc.cell? ⟨gb471, 1, none⟩ = some (.int .u64 a0_1) := (blk_cell BK471.out 1).trans rfl
                                  have hcz54_2 : wc.cell? ⟨gb471, 2, none⟩ = some (.int .i64 a0_2) := (blk_cell BK471.out 2).trans rfl
                                  have hcz54_3 : wc.cell? ⟨gb471, 3, none⟩ = some (.int .u64 a0_3) := (blk_cell BK471.out 3).trans rfl
                                  have hcz54_4 : wc.cell? ⟨gb471, 4, none⟩ = some (.int .u64 a0_4) := (blk_cell BK471.out 4).trans rfl
                                  have hcz54_5 : wc.cell? ⟨gb471, 5, none⟩ = some (.int .i64 a0_5) := (blk_cell BK471.out 5).trans rfl
                                  have hcz54_6 : wc.cell? ⟨gb471, 6, none⟩ = some (.int .i64 a0_6) := (blk_cell BK471.out 6).trans rfl
                                  have hcz54_7 : wc.cell? ⟨gb471, 7, none⟩ = some (.string a0_7) := (blk_cell BK471.out 7).trans rfl
                                  have hcz54_8 : wc.cell? ⟨gb471, 8, none⟩ = some (.string a0_8) := (blk_cell BK471.out 8).trans rfl
                                  have hcz54_9 : wc.cell? ⟨gb471, 9, none⟩ = some (.string a0_9) := (blk_cell BK471.out 9).trans rfl
                                  have hcz54_10 : wc.cell? ⟨gb471, 10, none⟩ = some (.slice A0_10 l0_10.length c0_10) := (blk_cell BK471.out 10).trans rfl
                                  have hcz54_11 : wc.cell? ⟨gb471, 11, none⟩ = some (.slice A0_11 l0_11.length c0_11) := (blk_cell BK471.out 11).trans rfl
                                  have hfz54_0 := blk_frozen BK471.out 0
                                  have hfz54_1 := blk_frozen BK471.out 1
                                  have hfz54_2 := blk_frozen BK471.out 2
                                  have hfz54_3 := blk_frozen BK471.out 3
                                  have hfz54_4 := blk_frozen BK471.out 4
                                  have hfz54_5 := blk_frozen BK471.out 5
                                  have hfz54_6 := blk_frozen BK471.out 6
                                  have hfz54_7 := blk_frozen BK471.out 7
                                  have hfz54_8 := blk_frozen BK471.out 8
                                  have hfz54_9 := blk_frozen BK471.out 9
                                  have hfz54_10 := blk_frozen BK471.out 10
                                  have hfz54_11 := blk_frozen BK471.out 11
                                  go_wp2
                                  go_ret
                                  exact ⟨by first | rfl | (simp [errW_none, errW_some] <;> rfl) | (simp [*, errW_none, errW_some] <;> rfl), by repeat (first | (with_reducible first | exact HB.out | apply below_alloc | apply pw_below_drewN | apply below_drew1 | refine below_set ?_ GE471.out) | exact HB.out)⟩
                                · rw [if_neg c53] at H
                                  have c53b0 : decide (0 < (wrap64 ((l0_10.length : Int) + (l0_11.length : Int)))) = false := decide_eq_false c53
                                  clear c53
                                  replace H := Option.bind_eq_some_iff.mp H
                                  obtain ⟨t476, A550, H⟩ := H
                                  replace H : (some t476) = some r := H
                                  have A55 := Aside0.mk A550
                                  clear A550
                                  obtain rfl := Option.some.inj H
                                  have hcz56_0 : wc.cell? ⟨gb471, 0, none⟩ = some (.int .i64 a0_0) := (blk_cell BK471.out 0).trans rfl
                                  have hcz56_1 : wc.cell? ⟨gb471, 1, none⟩ = some (.int .u64 a0_1) := (blk_cell BK471.out 1).trans rfl
                                  have hcz56_2 : wc.cell? ⟨gb471, 2, none⟩ = some (.int .i64 a0_2) := (blk_cell BK471.out 2).trans rfl
                                  have hcz56_3 : wc.cell? ⟨gb471, 3, none⟩ = some (.int .u64 a0_3) := (blk_cell BK471.out 3).trans rfl
                                  have hcz56_4 : wc.cell? ⟨gb471, 4, none⟩ = some (.int .u64 a0_4) := (blk_cell BK471.out 4).trans rfl
                                  have hcz56_5 : wc.cell? ⟨gb471, 5, none⟩ = some (.int .i64 a0_5) := (blk_cell BK471.out 5).trans rfl
                                  have hcz56_6 : wc.cell? ⟨gb471, 6, none⟩ = some (.int .i64 a0_6) := (blk_cell BK471.out 6).trans rfl
                                  have hcz56_7 : wc.cell? ⟨gb471, 7, none⟩ = some (.string a0_7) := (blk_cell BK471.out 7).trans rfl
                                  have hcz56_8 : wc.cell? ⟨gb471, 8, none⟩ = some (.string a0_8) := (blk_cell BK471.out 8).trans rfl
                                  have hcz56_9 : wc.cell? ⟨gb471, 9, none⟩ = some (.string a0_9) := (blk_cell BK471.out 9).trans rfl
                                  have hcz56_10 : wc.cell? ⟨gb471, 10, none⟩ = some (.slice A0_10 l0_10.length c0_10) := (blk_cell BK471.out 10).trans rfl
                                  have hcz56_11 : wc.cell? ⟨gb471, 11, none⟩ = some (.slice A0_11 l0_11.length c0_11) := (blk_cell BK471.out 11).trans rfl
                                  have hfz56_0 := blk_frozen BK471.out 0
                                  have hfz56_1 := blk_frozen BK471.out 1
                                  have hfz56_2 := blk_frozen BK471.out 2
                                  have hfz56_3 := blk_frozen BK471.out 3
                                  have hfz56_4 := blk_frozen BK471.out 4
                                  have hfz56_5 := blk_frozen BK471.out 5
                                  have hfz56_6 := blk_frozen BK471.out 6
                                  have hfz56_7 := blk_frozen BK471.out 7
                                  have hfz56_8 := blk_frozen BK471.out 8
                                  have hfz56_9 := blk_frozen BK471.out 9
                                  have hfz56_10 := blk_frozen BK471.out 10
                                  have hfz56_11 := blk_frozen BK471.out 11
                                  go_wp2_with (first | ((with_reducible refine gate_callee (f := 53) rfl ?_); refine goesL_ (some 103) rfl rfl Try.func53 (by kernel_rfl) rfl #[.agg #[.int .i64 a0_0, .int .u64 a0_1, .int .i64 a0_2, .int .u64 a0_3, .int .u64 a0_4, .int .i64 a0_5, .int .i64 a0_6, .string a0_7, .string a0_8, .string a0_9, .slice A0_10 l0_10.length c0_10, .slice A0_11 l0_11.length c0_11]] rfl (by (try simp only [List.map_toArray, List.map_cons, List.map_nil]); first | done | rfl | (simp only [List.length_drop, List.length_take]; rfl)) ?_; (with_reducible refine (flotillaref05_Rows.calls kj43 a0_0 a0_1 a0_2 a0_3 a0_4 a0_5 a0_6 a0_7 a0_8 a0_9 _ _ l0_10 _ _ l0_11 t476 _ ?side1 ?side2 ?side3 ?side4 A55.out).mono ?_); (case side1 => repeat (first | exact (Kd.C_below HR0_10.out HB.out) | (with_reducible refine Kd.C_alloc ?_ _) | (with_reducible refine Kd.C_drewN ?_ _) | (with_reducible refine Kd.C_drew ?_))); (case side2 => exact HC0_10.out); (case side3 => repeat (first | exact (Kd.C_below HR0_11.out HB.out) | (with_reducible refine Kd.C_alloc ?_ _) | (with_reducible refine Kd.C_drewN ?_ _) | (with_reducible refine Kd.C_drew ?_))); (case side4 => exact HC0_11.out); rintro e w57 ⟨rfl, hb⟩; refine ⟨_, rfl, ?_⟩; have n0_ := Aside0.mk (blk_below (g := gb471) (o := .cells #[.int .i64 a0_0, .int .u64 a0_1, .int .i64 a0_2, .int .u64 a0_3, .int .u64 a0_4, .int .i64 a0_5, .int .i64 a0_6, .string a0_7, .string a0_8, .string a0_9, .slice A0_10 l0_10.length c0_10, .slice A0_11 l0_11.length c0_11] 43 (0, 0)) (by (with_reducible repeat (first | refine blk_drewN ?_ _ | refine blk_drew ?_ | refine blk_alloc ?_ _)); exact BK471.out) hb); have n1_ := Aside0.mk (below_step (by repeat (first | (with_reducible first | exact HB.out | apply below_alloc | apply pw_below_drewN | apply below_drew1 | refine below_set ?_ GE471.out) | exact HB.out)) hb); clear BK471; clear HB; have BK471 := n0_; have HB := n1_; clear n0_ n1_; (try clear hb); (try clear hb2); (try clear hk); (try clear hi)))
                                  go_ret
                                  exact ⟨by first | rfl | (simp [errW_none, errW_some] <;> rfl) | (simp [*, errW_none, errW_some] <;> rfl), by repeat (first | (with_reducible first | exact HB.out | apply below_alloc | apply pw_below_drewN | apply below_drew1 | refine below_set ?_ GE471.out) | exact HB.out)⟩
                      · replace c43 := Bool.eq_false_iff.mpr c43
                        subst c43
                        have H1 : (if a0_2 < 1 then (flotillaref05_May.j5 kj38 true a0_0 a0_1 a0_2 a0_3 a0_4 a0_5 a0_6 a0_7 a0_8 a0_9 l0_10 l0_11) else (flotillaref05_May.j5 kj38 (decide (a0_2 > 1073741824)) a0_0 a0_1 a0_2 a0_3 a0_4 a0_5 a0_6 a0_7 a0_8 a0_9 l0_10 l0_11)) = some r := by rw [if_neg (show ¬ (false = true) by decide)] at H; exact H
                        clear H
                        have H := H1
                        clear H1
                        have HC58 := Aside0.mk H
                        clear H
                        go_upto_region 13 with (fail)
                        go_cut [88] (fun v88 wc => ∃ (kq : Nat) (x88_57 : Bool), v88 = .bool x88_57 ∧ Aside0 (flotillaref05_May.j5 kq x88_57 a0_0 a0_1 a0_2 a0_3 a0_4 a0_5 a0_6 a0_7 a0_8 a0_9 l0_10 l0_11 = some r) ∧ Aside0 (kq ≤ kj38) ∧ Aside0 (wc.heap[gb471]? = some (.cells #[.int .i64 a0_0, .int .u64 a0_1, .int .i64 a0_2, .int .u64 a0_3, .int .u64 a0_4, .int .i64 a0_5, .int .i64 a0_6, .string a0_7, .string a0_8, .string a0_9, (.slice A0_10 l0_10.length c0_10), (.slice A0_11 l0_11.length c0_11)] 43 (0, 0))) ∧ Aside0 (Below w.heap.size w wc))
                        case first =>
                          have H := HC58.out
                          clear HC58
                          by_cases c59 : a0_2 < 1
                          · rw [if_pos c59] at H
                            have c59b0 : decide (a0_2 < 1) = true := decide_eq_true c59
                            clear c59
                            (first | rw [c59b0] | (simp only [i64_w, i32_w]; rw [c59b0]) | skip)
                            have H' := Aside0.mk H
                            clear H
                            have hcz60_0 : wc.cell? ⟨gb471, 0, none⟩ = some (.int .i64 a0_0) := (blk_cell BK471.out 0).trans rfl
                            have hcz60_1 : wc.cell? ⟨gb471, 1, none⟩ = some (.int .u64 a0_1) := (blk_cell BK471.out 1).trans rfl
                            have hcz60_2 : wc.cell? ⟨gb471, 2, none⟩ = some (.int .i64 a0_2) := (blk_cell BK471.out 2).trans rfl
                            have hcz60_3 : wc.cell? ⟨gb471, 3, none⟩ = some (.int .u64 a0_3) := (blk_cell BK471.out 3).trans rfl
                            have hcz60_4 : wc.cell? ⟨gb471, 4, none⟩ = some (.int .u64 a0_4) := (blk_cell BK471.out 4).trans rfl
                            have hcz60_5 : wc.cell? ⟨gb471, 5, none⟩ = some (.int .i64 a0_5) := (blk_cell BK471.out 5).trans rfl
                            have hcz60_6 : wc.cell? ⟨gb471, 6, none⟩ = some (.int .i64 a0_6) := (blk_cell BK471.out 6).trans rfl
                            have hcz60_7 : wc.cell? ⟨gb471, 7, none⟩ = some (.string a0_7) := (blk_cell BK471.out 7).trans rfl
                            have hcz60_8 : wc.cell? ⟨gb471, 8, none⟩ = some (.string a0_8) := (blk_cell BK471.out 8).trans rfl
                            have hcz60_9 : wc.cell? ⟨gb471, 9, none⟩ = some (.string a0_9) := (blk_cell BK471.out 9).trans rfl
                            have hcz60_10 : wc.cell? ⟨gb471, 10, none⟩ = some (.slice A0_10 l0_10.length c0_10) := (blk_cell BK471.out 10).trans rfl
                            have hcz60_11 : wc.cell? ⟨gb471, 11, none⟩ = some (.slice A0_11 l0_11.length c0_11) := (blk_cell BK471.out 11).trans rfl
                            have hfz60_0 := blk_frozen BK471.out 0
                            have hfz60_1 := blk_frozen BK471.out 1
                            have hfz60_2 := blk_frozen BK471.out 2
                            have hfz60_3 := blk_frozen BK471.out 3
                            have hfz60_4 := blk_frozen BK471.out 4
                            have hfz60_5 := blk_frozen BK471.out 5
                            have hfz60_6 := blk_frozen BK471.out 6
                            have hfz60_7 := blk_frozen BK471.out 7
                            have hfz60_8 := blk_frozen BK471.out 8
                            have hfz60_9 := blk_frozen BK471.out 9
                            have hfz60_10 := blk_frozen BK471.out 10
                            have hfz60_11 := blk_frozen BK471.out 11
                            go_wp2
                            go_meet
                            case rel => exact ⟨_, (true), (by first | rfl | (simp; done) | (simp [*]; done)), H', ⟨by have := HJ1.out; have := HJ15.out; have := HJ33.out; have := HJ38.out; first | omega | exact Nat.le_refl _⟩, ⟨by (with_reducible repeat (first | refine blk_drewN ?_ _ | refine blk_drew ?_ | refine blk_alloc ?_ _)); exact BK471.out⟩, ⟨by repeat (first | (with_reducible first | exact HB.out | apply below_alloc | apply pw_below_drewN | apply below_drew1 | refine below_set ?_ GE471.out) | exact HB.out)⟩⟩
                          · rw [if_neg c59] at H
                            have c59b0 : decide (a0_2 < 1) = false := decide_eq_false c59
                            clear c59
                            (first | rw [c59b0] | (simp only [i64_w, i32_w]; rw [c59b0]) | skip)
                            have H' := Aside0.mk H
                            clear H
                            have hcz61_0 : wc.cell? ⟨gb471, 0, none⟩ = some (.int .i64 a0_0) := (blk_cell BK471.out 0).trans rfl
                            have hcz61_1 : wc.cell? ⟨gb471, 1, none⟩ = some (.int .u64 a0_1) := (blk_cell BK471.out 1).trans rfl
                            have hcz61_2 : wc.cell? ⟨gb471, 2, none⟩ = some (.int .i64 a0_2) := (blk_cell BK471.out 2).trans rfl
                            have hcz61_3 : wc.cell? ⟨gb471, 3, none⟩ = some (.int .u64 a0_3) := (blk_cell BK471.out 3).trans rfl
                            have hcz61_4 : wc.cell? ⟨gb471, 4, none⟩ = some (.int .u64 a0_4) := (blk_cell BK471.out 4).trans rfl
                            have hcz61_5 : wc.cell? ⟨gb471, 5, none⟩ = some (.int .i64 a0_5) := (blk_cell BK471.out 5).trans rfl
                            have hcz61_6 : wc.cell? ⟨gb471, 6, none⟩ = some (.int .i64 a0_6) := (blk_cell BK471.out 6).trans rfl
                            have hcz61_7 : wc.cell? ⟨gb471, 7, none⟩ = some (.string a0_7) := (blk_cell BK471.out 7).trans rfl
                            have hcz61_8 : wc.cell? ⟨gb471, 8, none⟩ = some (.string a0_8) := (blk_cell BK471.out 8).trans rfl
                            have hcz61_9 : wc.cell? ⟨gb471, 9, none⟩ = some (.string a0_9) := (blk_cell BK471.out 9).trans rfl
                            have hcz61_10 : wc.cell? ⟨gb471, 10, none⟩ = some (.slice A0_10 l0_10.length c0_10) := (blk_cell BK471.out 10).trans rfl
                            have hcz61_11 : wc.cell? ⟨gb471, 11, none⟩ = some (.slice A0_11 l0_11.length c0_11) := (blk_cell BK471.out 11).trans rfl
                            have hfz61_0 := blk_frozen BK471.out 0
                            have hfz61_1 := blk_frozen BK471.out 1
                            have hfz61_2 := blk_frozen BK471.out 2
                            have hfz61_3 := blk_frozen BK471.out 3
                            have hfz61_4 := blk_frozen BK471.out 4
                            have hfz61_5 := blk_frozen BK471.out 5
                            have hfz61_6 := blk_frozen BK471.out 6
                            have hfz61_7 := blk_frozen BK471.out 7
                            have hfz61_8 := blk_frozen BK471.out 8
                            have hfz61_9 := blk_frozen BK471.out 9
                            have hfz61_10 := blk_frozen BK471.out 10
                            have hfz61_11 := blk_frozen BK471.out 11
                            go_wp2
                            go_meet
                            case rel => exact ⟨_, (decide (a0_2 > 1073741824)), (by first | rfl | (simp; done) | (simp [*]; done)), H', ⟨by have := HJ1.out; have := HJ15.out; have := HJ33.out; have := HJ38.out; first | omega | exact Nat.le_refl _⟩, ⟨by (with_reducible repeat (first | refine blk_drewN ?_ _ | refine blk_drew ?_ | refine blk_alloc ?_ _)); exact BK471.out⟩, ⟨by repeat (first | (with_reducible first | exact HB.out | apply below_alloc | apply pw_below_drewN | apply below_drew1 | refine below_set ?_ GE471.out) | exact HB.out)⟩⟩
                        case rest =>
                          clear HC58
                          try clear p2
                          try clear c4
                          try clear c5
                          try clear p6
                          try clear c43
                          try clear c48
                          try clear c49
                          try clear c49b0
                          try clear c49b1
                          try clear c53
                          try clear c53b0
                          try clear c59
                          try clear c59b0
                          try clear hcz22_9
                          try clear hcz25_0
                          try clear hcz25_1
                          try clear hcz25_10
                          try clear hcz25_11
                          try clear hcz25_2
                          try clear hcz25_3
                          try clear hcz25_4
                          try clear hcz25_5
                          try clear hcz25_6
                          try clear hcz25_7
                          try clear hcz25_8
                          try clear hcz25_9
                          try clear hcz27_0
                          try clear hcz27_1
                          try clear hcz27_10
                          try clear hcz27_11
                          try clear hcz27_2
                          try clear hcz27_3
                          try clear hcz27_4
                          try clear hcz27_5
                          try clear hcz27_6
                          try clear hcz27_7
                          try clear hcz27_8
                          try clear hcz27_9
                          try clear hcz31_0
                          try clear hcz31_1
                          try clear hcz31_10
                          try clear hcz31_11
                          try clear hcz31_2
                          try clear hcz31_3
                          try clear hcz31_4
                          try clear hcz31_5
                          try clear hcz31_6
                          try clear hcz31_7
                          try clear hcz31_8
                          try clear hcz31_9
                          try clear hcz32_0
                          try clear hcz32_1
                          try clear hcz32_10
                          try clear hcz32_11
                          try clear hcz32_2
                          try clear hcz32_3
                          try clear hcz32_4
                          try clear hcz32_5
                          try clear hcz32_6
                          try clear hcz32_7
                          try clear hcz32_8
                          try clear hcz32_9
                          try clear hcz33_0
                          try clear hcz33_1
                          try clear hcz33_10
                          try clear hcz33_11
                          try clear hcz33_2
                          try clear hcz33_3
                          try clear hcz33_4
                          try clear hcz33_5
                          try clear hcz33_6
                          try clear hcz33_7
                          try clear hcz33_8
                          try clear hcz33_9
                          try clear hcz36_0
                          try clear hcz36_1
                          try clear hcz36_10
                          try clear hcz36_11
                          try clear hcz36_2
                          try clear hcz36_3
                          try clear hcz36_4
                          try clear hcz36_5
                          try clear hcz36_6
                          try clear hcz36_7
                          try clear hcz36_8
                          try clear hcz36_9
                          try clear hcz37_0
                          try clear hcz37_1
                          try clear hcz37_10
                          try clear hcz37_11
                          try clear hcz37_2
                          try clear hcz37_3
                          try clear hcz37_4
                          try clear hcz37_5
                          try clear hcz37_6
                          try clear hcz37_7
                          try clear hcz37_8
                          try clear hcz37_9
                          try clear hcz41_0
                          try clear hcz41_1
                          try clear hcz41_10
                          try clear hcz41_11
                          try clear hcz41_2
                          try clear hcz41_3
                          try clear hcz41_4
                          try clear hcz41_5
                          try clear hcz41_6
                          try clear hcz41_7
                          try clear hcz41_8
                          try clear hcz41_9
                          try clear hcz42_0
                          try clear hcz42_1
                          try clear hcz42_10
                          try clear hcz42_11
                          try clear hcz42_2
                          try clear hcz42_3
                          try clear hcz42_4
                          try clear hcz42_5
                          try clear hcz42_6
                          try clear hcz42_7
                          try clear hcz42_8
                          try clear hcz42_9
                          try clear hcz46_0
                          try clear hcz46_1
                          try clear hcz46_10
                          try clear hcz46_11
                          try clear hcz46_2
                          try clear hcz46_3
                          try clear hcz46_4
                          try clear hcz46_5
                          try clear hcz46_6
                          try clear hcz46_7
                          try clear hcz46_8
                          try clear hcz46_9
                          try clear hcz47_0
                          try clear hcz47_1
                          try clear hcz47_10
                          try clear hcz47_11
                          try clear hcz47_2
                          try clear hcz47_3
                          try clear hcz47_4
                          try clear hcz47_5
                          try clear hcz47_6
                          try clear hcz47_7
                          try clear hcz47_8
                          try clear hcz47_9
                          try clear hcz51_0
                          try clear hcz51_1
                          try clear hcz51_10
                          try clear hcz51_11
                          try clear hcz51_2
                          try clear hcz51_3
                          try clear hcz51_4
                          try clear hcz51_5
                          try clear hcz51_6
                          try clear hcz51_7
                          try clear hcz51_8
                          try clear hcz51_9
                          try clear hcz54_0
                          try clear hcz54_1
                          try clear hcz54_10
                          try clear hcz54_11
                          try clear hcz54_2
                          try clear hcz54_3
                          try clear hcz54_4
                          try clear hcz54_5
                          try clear hcz54_6
                          try clear hcz54_7
                          try clear hcz54_8
                          try clear hcz54_9
                          try clear hcz56_0
                          try clear hcz56_1
                          try clear hcz56_10
                          try clear hcz56_11
                          try clear hcz56_2
                          try clear hcz56_3
                          try clear hcz56_4
                          try clear hcz56_5
                          try clear hcz56_6
                          try clear hcz56_7
                          try clear hcz56_8
                          try clear hcz56_9
                          try clear hcz5_0
                          try clear hcz5_1
                          try clear hcz5_10
                          try clear hcz5_11
                          try clear hcz5_2
                          try clear hcz5_3
                          try clear hcz5_4
                          try clear hcz5_5
                          try clear hcz5_6
                          try clear hcz5_7
                          try clear hcz5_8
                          try clear hcz5_9
                          try clear hcz60_0
                          try clear hcz60_1
                          try clear hcz60_10
                          try clear hcz60_11
                          try clear hcz60_2
                          try clear hcz60_3
                          try clear hcz60_4
                          try clear hcz60_5
                          try clear hcz60_6
                          try clear hcz60_7
                          try clear hcz60_8
                          try clear hcz60_9
                          try clear hcz61_0
                          try clear hcz61_1
                          try clear hcz61_10
                          try clear hcz61_11
                          try clear hcz61_2
                          try clear hcz61_3
                          try clear hcz61_4
                          try clear hcz61_5
                          try clear hcz61_6
                          try clear hcz61_7
                          try clear hcz61_8
                          try clear hcz61_9
                          try clear hcz7_0
                          try clear hcz7_1
                          try clear hcz7_10
                          try clear hcz7_11
                          try clear hcz7_2
                          try clear hcz7_3
                          try clear hcz7_4
                          try clear hcz7_5
                          try clear hcz7_6
                          try clear hcz7_7
                          try clear hcz7_8
                          try clear hcz7_9
                          try clear hfz11_0
                          try clear hfz11_1
                          try clear hfz11_10
                          try clear hfz11_11
                          try clear hfz11_2
                          try clear hfz11_3
                          try clear hfz11_4
                          try clear hfz11_5
                          try clear hfz11_6
                          try clear hfz11_7
                          try clear hfz11_8
                          try clear hfz11_9
                          try clear hfz12_0
                          try clear hfz12_1
                          try clear hfz12_10
                          try clear hfz12_11
                          try clear hfz12_2
                          try clear hfz12_3
                          try clear hfz12_4
                          try clear hfz12_5
                          try clear hfz12_6
                          try clear hfz12_7
                          try clear hfz12_8
                          try clear hfz12_9
                          try clear hfz13_0
                          try clear hfz13_1
                          try clear hfz13_10
                          try clear hfz13_11
                          try clear hfz13_2
                          try clear hfz13_3
                          try clear hfz13_4
                          try clear hfz13_5
                          try clear hfz13_6
                          try clear hfz13_7
                          try clear hfz13_8
                          try clear hfz13_9
                          try clear hfz17_0
                          try clear hfz17_1
                          try clear hfz17_10
                          try clear hfz17_11
                          try clear hfz17_2
                          try clear hfz17_3
                          try clear hfz17_4
                          try clear hfz17_5
                          try clear hfz17_6
                          try clear hfz17_7
                          try clear hfz17_8
                          try clear hfz17_9
                          try clear hfz20_0
                          try clear hfz20_1
                          try clear hfz20_10
                          try clear hfz20_11
                          try clear hfz20_2
                          try clear hfz20_3
                          try clear hfz20_4
                          try clear hfz20_5
                          try clear hfz20_6
                          try clear hfz20_7
                          try clear hfz20_8
                          try clear hfz20_9
                          try clear hfz22_0
                          try clear hfz22_1
                          try clear hfz22_10
                          try clear hfz22_11
                          try clear hfz22_2
                          try clear hfz22_3
                          try clear hfz22_4
                          try clear hfz22_5
                          try clear hfz22_6
                          try clear hfz22_7
                          try clear hfz22_8
                          try clear hfz22_9
                          try clear hfz25_0
                          try clear hfz25_1
                          try clear hfz25_10
                          try clear hfz25_11
                          try clear hfz25_2
                          try clear hfz25_3
                          try clear hfz25_4
                          try clear hfz25_5
                          try clear hfz25_6
                          try clear hfz25_7
                          try clear hfz25_8
                          try clear hfz25_9
                          try clear hfz27_0
                          try clear hfz27_1
                          try clear hfz27_10
                          try clear hfz27_11
                          try clear hfz27_2
                          try clear hfz27_3
                          try clear hfz27_4
                          try clear hfz27_5
                          try clear hfz27_6
                          try clear hfz27_7
                          try clear hfz27_8
                          try clear hfz27_9
                          try clear hfz31_0
                          try clear hfz31_1
                          try clear hfz31_10
                          try clear hfz31_11
                          try clear hfz31_2
                          try clear hfz31_3
                          try clear hfz31_4
                          try clear hfz31_5
                          try clear hfz31_6
                          try clear hfz31_7
                          try clear hfz31_8
                          try clear hfz31_9
                          try clear hfz32_0
                          try clear hfz32_1
                          try clear hfz32_10
                          try clear hfz32_11
                          try clear hfz32_2
                          try clear hfz32_3
                          try clear hfz32_4
                          try clear hfz32_5
                          try clear hfz32_6
                          try clear hfz32_7
                          try clear hfz32_8
                          try clear hfz32_9
                          try clear hfz33_0
                          try clear hfz33_1
                          try clear hfz33_10
                          try clear hfz33_11
                          try clear hfz33_2
                          try clear hfz33_3
                          try clear hfz33_4
                          try clear hfz33_5
                          try clear hfz33_6
                          try clear hfz33_7
                          try clear hfz33_8
                          try clear hfz33_9
                          try clear hfz36_0
                          try clear hfz36_1
                          try clear hfz36_10
                          try clear hfz36_11
                          try clear hfz36_2
                          try clear hfz36_3
                          try clear hfz36_4
                          try clear hfz36_5
                          try clear hfz36_6
                          try clear hfz36_7
                          try clear hfz36_8
                          try clear hfz36_9
                          try clear hfz37_0
                          try clear hfz37_1
                          try clear hfz37_10
                          try clear hfz37_11
                          try clear hfz37_2
                          try clear hfz37_3
                          try clear hfz37_4
                          try clear hfz37_5
                          try clear hfz37_6
                          try clear hfz37_7
                          try clear hfz37_8
                          try clear hfz37_9
                          try clear hfz41_0
                          try clear hfz41_1
                          try clear hfz41_10
                          try clear hfz41_11
                          try clear hfz41_2
                          try clear hfz41_3
                          try clear hfz41_4
                          try clear hfz41_5
                          try clear hfz41_6
                          try clear hfz41_7
                          try clear hfz41_8
                          try clear hfz41_9
                          try clear hfz42_0
                          try clear hfz42_1
                          try clear hfz42_10
                          try clear hfz42_11
                          try clear hfz42_2
                          try clear hfz42_3
                          try clear hfz42_4
                          try clear hfz42_5
                          try clear hfz42_6
                          try clear hfz42_7
                          try clear hfz42_8
                          try clear hfz42_9
                          try clear hfz46_0
                          try clear hfz46_1
                          try clear hfz46_10
                          try clear hfz46_11
                          try clear hfz46_2
                          try clear hfz46_3
                          try clear hfz46_4
                          try clear hfz46_5
                          try clear hfz46_6
                          try clear hfz46_7
                          try clear hfz46_8
                          try clear hfz46_9
                          try clear hfz47_0
                          try clear hfz47_1
                          try clear hfz47_10
                          try clear hfz47_11
                          try clear hfz47_2
                          try clear hfz47_3
                          try clear hfz47_4
                          try clear hfz47_5
                          try clear hfz47_6
                          try clear hfz47_7
                          try clear hfz47_8
                          try clear hfz47_9
                          try clear hfz51_0
                          try clear hfz51_1
                          try clear hfz51_10
                          try clear hfz51_11
                          try clear hfz51_2
                          try clear hfz51_3
                          try clear hfz51_4
                          try clear hfz51_5
                          try clear hfz51_6
                          try clear hfz51_7
                          try clear hfz51_8
                          try clear hfz51_9
                          try clear hfz54_0
                          try clear hfz54_1
                          try clear hfz54_10
                          try clear hfz54_11
                          try clear hfz54_2
                          try clear hfz54_3
                          try clear hfz54_4
                          try clear hfz54_5
                          try clear hfz54_6
                          try clear hfz54_7
                          try clear hfz54_8
                          try clear hfz54_9
                          try clear hfz56_0
                          try clear hfz56_1
                          try clear hfz56_10
                          try clear hfz56_11
                          try clear hfz56_2
                          try clear hfz56_3
                          try clear hfz56_4
                          try clear hfz56_5
                          try clear hfz56_6
                          try clear hfz56_7
                          try clear hfz56_8
                          try clear hfz56_9
                          try clear hfz5_0
                          try clear hfz5_1
                          try clear hfz5_10
                          try clear hfz5_11
                          try clear hfz5_2
                          try clear hfz5_3
                          try clear hfz5_4
                          try clear hfz5_5
                          try clear hfz5_6
                          try clear hfz5_7
                          try clear hfz5_8
                          try clear hfz5_9
                          try clear hfz60_0
                          try clear hfz60_1
                          try clear hfz60_10
                          try clear hfz60_11
                          try clear hfz60_2
                          try clear hfz60_3
                          try clear hfz60_4
                          try clear hfz60_5
                          try clear hfz60_6
                          try clear hfz60_7
                          try clear hfz60_8
                          try clear hfz60_9
                          try clear hfz61_0
                          try clear hfz61_1
                          try clear hfz61_10
                          try clear hfz61_11
                          try clear hfz61_2
                          try clear hfz61_3
                          try clear hfz61_4
                          try clear hfz61_5
                          try clear hfz61_6
                          try clear hfz61_7
                          try clear hfz61_8
                          try clear hfz61_9
                          try clear hfz7_0
                          try clear hfz7_1
                          try clear hfz7_10
                          try clear hfz7_11
                          try clear hfz7_2
                          try clear hfz7_3
                          try clear hfz7_4
                          try clear hfz7_5
                          try clear hfz7_6
                          try clear hfz7_7
                          try clear hfz7_8
                          try clear hfz7_9
                          try clear p2
                          obtain ⟨kq, x88_57, rfl, HA, HJ57, BK471, HB⟩ := hcut
                          cases kq with
                          | zero => exact absurd HA.out (by simp [flotillaref05_May.j5])
                          | succ kj57 =>
                            have H := HA.out
                            clear HA
                            simp only [flotillaref05_May.j5] at H
                            by_cases c62 : x88_57 = true
                            · subst c62
                              have H1 : (some false) = some r := by rw [if_pos rfl] at H; exact H
                              clear H
                              have H := H1
                              clear H1
                              obtain rfl := Option.some.inj H
                              go_wp2
                              go_ret
                              exact ⟨by first | rfl | (simp [errW_none, errW_some] <;> rfl) | (simp [*, errW_none, errW_some] <;> rfl), by repeat (first | (with_reducible first | exact HB.out | apply below_alloc | apply pw_below_drewN | apply below_drew1 | refine below_set ?_ GE471.out) | exact HB.out)⟩
                            · replace c62 := Bool.eq_false_iff.mpr c62
                              subst c62
                              have H1 : (if a0_0 = 8 then ((flotillaref05_Rows.f kj57 a0_0 a0_1 a0_2 a0_3 a0_4 a0_5 a0_6 a0_7 a0_8 a0_9 l0_10 l0_11).bind fun t477 => (some t477)) else (if (wrap64 ((l0_10.length : Int) + (l0_11.length : Int))) > 0 then (some false) else ((flotillaref05_Rows.f kj57 a0_0 a0_1 a0_2 a0_3 a0_4 a0_5 a0_6 a0_7 a0_8 a0_9 l0_10 l0_11).bind fun t478 => (some t478)))) = some r := by rw [if_neg (show ¬ (false = true) by decide)] at H; exact H
                              clear H
                              have H := H1
                              clear H1
                              by_cases c63 : a0_0 = 8
                              · rw [if_pos c63] at H
                                have c63b0 : (a0_0 == 8) = true := beq_iff_eq.mpr c63
                                have c63b1 : (a0_0 != 8) = false := bne_eq_false_iff_eq.mpr c63
                                clear c63
                                replace H := Option.bind_eq_some_iff.mp H
                                obtain ⟨t477, A640, H⟩ := H
                                replace H : (some t477) = some r := H
                                have A64 := Aside0.mk A640
                                clear A640
                                obtain rfl := Option.some.inj H
                                have hcz65_0 : wc.cell? ⟨gb471, 0, none⟩ = some (.int .i64 a0_0) := (blk_cell BK471.out 0).trans rfl
                                have hcz65_1 : wc.cell? ⟨gb471, 1, none⟩ = some (.int .u64 a0_1) := (blk_cell BK471.out 1).trans rfl
                                have hcz65_2 : wc.cell? ⟨gb471, 2, none⟩ = some (.int .i64 a0_2) := (blk_cell BK471.out 2).trans rfl
                                have hcz65_3 : wc.cell? ⟨gb471, 3, none⟩ = some (.int .u64 a0_3) := (blk_cell BK471.out 3).trans rfl
                                have hcz65_4 : wc.cell? ⟨gb471, 4, none⟩ = some (.int .u64 a0_4) := (blk_cell BK471.out 4).trans rfl
                                have hcz65_5 : wc.cell? ⟨gb471, 5, none⟩ = some (.int .i64 a0_5) := (blk_cell BK471.out 5).trans rfl
                                have hcz65_6 : wc.cell? ⟨gb471, 6, none⟩ = some (.int .i64 a0_6) := (blk_cell BK471.out 6).trans rfl
                                have hcz65_7 : wc.cell? ⟨gb471, 7, none⟩ = some (.string a0_7) := (blk_cell BK471.out 7).trans rfl
                                have hcz65_8 : wc.cell? ⟨gb471, 8, none⟩ = some (.string a0_8) := (blk_cell BK471.out 8).trans rfl
                                have hcz65_9 : wc.cell? ⟨gb471, 9, none⟩ = some (.string a0_9) := (blk_cell BK471.out 9).trans rfl
                                have hcz65_10 : wc.cell? ⟨gb471, 10, none⟩ = some (.slice A0_10 l0_10.length c0_10) := (blk_cell BK471.out 10).trans rfl
                                have hcz65_11 : wc.cell? ⟨gb471, 11, none⟩ = some (.slice A0_11 l0_11.length c0_11) := (blk_cell BK471.out 11).trans rfl
                                have hfz65_0 := blk_frozen BK471.out 0
                                have hfz65_1 := blk_frozen BK471.out 1
                                have hfz65_2 := blk_frozen BK471.out 2
                                have hfz65_3 := blk_frozen BK471.out 3
                                have hfz65_4 := blk_frozen BK471.out 4
                                have hfz65_5 := blk_frozen BK471.out 5
                                have hfz65_6 := blk_frozen BK471.out 6
                                have hfz65_7 := blk_frozen BK471.out 7
                                have hfz65_8 := blk_frozen BK471.out 8
                                have hfz65_9 := blk_frozen BK471.out 9
                                have hfz65_10 := blk_frozen BK471.out 10
                                have hfz65_11 := blk_frozen BK471.out 11
                                go_wp2_with (first | ((with_reducible refine gate_callee (f := 53) rfl ?_); refine goesL_ (some 103) rfl rfl Try.func53 (by kernel_rfl) rfl #[.agg #[.int .i64 a0_0, .int .u64 a0_1, .int .i64 a0_2, .int .u64 a0_3, .int .u64 a0_4, .int .i64 a0_5, .int .i64 a0_6, .string a0_7, .string a0_8, .string a0_9, .slice A0_10 l0_10.length c0_10, .slice A0_11 l0_11.length c0_11]] rfl (by (try simp only [List.map_toArray, List.map_cons, List.map_nil]); first | done | rfl | (simp only [List.length_drop, List.length_take]; rfl)) ?_; (with_reducible refine (flotillaref05_Rows.calls kj57 a0_0 a0_1 a0_2 a0_3 a0_4 a0_5 a0_6 a0_7 a0_8 a0_9 _ _ l0_10 _ _ l0_11 t477 _ ?side1 ?side2 ?side3 ?side4 A64.out).mono ?_); (case side1 => repeat (first | exact (Kd.C_below HR0_10.out HB.out) | (with_reducible refine Kd.C_alloc ?_ _) | (with_reducible refine Kd.C_drewN ?_ _) | (with_reducible refine Kd.C_drew ?_))); (case side2 => exact HC0_10.out); (case side3 => repeat (first | exact (Kd.C_below HR0_11.out HB.out) | (with_reducible refine Kd.C_alloc ?_ _) | (with_reducible refine Kd.C_drewN ?_ _) | (with_reducible refine Kd.C_drew ?_))); (case side4 => exact HC0_11.out); rintro e w66 ⟨rfl, hb⟩; refine ⟨_, rfl, ?_⟩; have n0_ := Aside0.mk (blk_below (g := gb471) (o := .cells #[.int .i64 a0_0, .int .u64 a0_1, .int .i64 a0_2, .int .u64 a0_3, .int .u64 a0_4, .int .i64 a0_5, .int .i64 a0_6, .string a0_7, .string a0_8, .string a0_9, .slice A0_10 l0_10.length c0_10, .slice A0_11 l0_11.length c0_11] 43 (0, 0)) (by (with_reducible repeat (first | refine blk_drewN ?_ _ | refine blk_drew ?_ | refine blk_alloc ?_ _)); exact BK471.out) hb); have n1_ := Aside0.mk (below_step (by repeat (first | (with_reducible first | exact HB.out | apply below_alloc | apply pw_below_drewN | apply below_drew1 | refine below_set ?_ GE471.out) | exact HB.out)) hb); clear BK471; clear HB; have BK471 := n0_; have HB := n1_; clear n0_ n1_; (try clear hb); (try clear hb2); (try clear hk); (try clear hi)))
                                go_ret
                                exact ⟨by first | rfl | (simp [errW_none, errW_some] <;> rfl) | (simp [*, errW_none, errW_some] <;> rfl), by repeat (first | (with_reducible first | exact HB.out | apply below_alloc | apply pw_below_drewN | apply below_drew1 | refine below_set ?_ GE471.out) | exact HB.out)⟩
                              · rw [if_neg c63] at H
                                have c63b0 : (a0_0 == 8) = false := beq_eq_false_iff_ne.mpr c63
                                have c63b1 : (a0_0 != 8) = true := bne_iff_ne.mpr c63
                                by_cases c67 : (wrap64 ((l0_10.length : Int) + (l0_11.length : Int))) > 0
                                · rw [if_pos c67] at H
                                  have c67b0 : decide (0 < (wrap64 ((l0_10.length : Int) + (l0_11.length : Int)))) = true := decide_eq_true c67
                                  clear c67
                                  obtain rfl := Option.some.inj H
                                  have hcz68_0 : wc.cell? ⟨gb471, 0, none⟩ = some (.int .i64 a0_0) := (blk_cell BK471.out 0).trans rfl
                                  have hcz68_1 : wc.cell? ⟨gb471, 1, none⟩ = some (.int .u64 a0_1) := (blk_cell BK471.out 1).trans rfl
                                  have hcz68_2 : wc.cell? ⟨gb471, 2, none⟩ = some (.int .i64 a0_2) := (blk_cell BK471.out 2).trans rfl
                                  have hcz68_3 : wc.cell? ⟨gb471, 3, none⟩ = some (.int .u64 a0_3) := (blk_cell BK471.out 3).trans rfl
                                  have hcz68_4 : wc.cell? ⟨gb471, 4, none⟩ = some (.int .u64 a0_4) := (blk_cell BK471.out 4).trans rfl
                                  have hcz68_5 : wc.cell? ⟨gb471, 5, none⟩ = some (.int .i64 a0_5) := (blk_cell BK471.out 5).trans rfl
                                  have hcz68_6 : wc.cell? ⟨gb471, 6, none⟩ = some (.int .i64 a0_6) := (blk_cell BK471.out 6).trans rfl
                                  have hcz68_7 : wc.cell? ⟨gb471, 7, none⟩ = some (.string a0_7) := (blk_cell BK471.out 7).trans rfl
                                  have hcz68_8 : wc.cell? ⟨gb471, 8, none⟩ = some (.string a0_8) := (blk_cell BK471.out 8).trans rfl
                                  have hcz68_9 : wc.cell? ⟨gb471, 9, none⟩ = some (.string a0_9) := (blk_cell BK471.out 9).trans rfl
                                  have hcz68_10 : wc.cell? ⟨gb471, 10, none⟩ = some (.slice A0_10 l0_10.length c0_10) := (blk_cell BK471.out 10).trans rfl
                                  have hcz68_11 : wc.cell? ⟨gb471, 11, none⟩ = some (.slice A0_11 l0_11.length c0_11) := (blk_cell BK471.out 11).trans rfl
                                  have hfz68_0 := blk_frozen BK471.out 0
                                  have hfz68_1 := blk_frozen BK471.out 1
                                  have hfz68_2 := blk_frozen BK471.out 2
                                  have hfz68_3 := blk_frozen BK471.out 3
                                  have hfz68_4 := blk_frozen BK471.out 4
                                  have hfz68_5 := blk_frozen BK471.out 5
                                  have hfz68_6 := blk_frozen BK471.out 6
                                  have hfz68_7 := blk_frozen BK471.out 7
                                  have hfz68_8 := blk_frozen BK471.out 8
                                  have hfz68_9 := blk_frozen BK471.out 9
                                  have hfz68_10 := blk_frozen BK471.out 10
                                  have hfz68_11 := blk_frozen BK471.out 11
                                  go_wp2
                                  go_ret
                                  exact ⟨by first | rfl | (simp [errW_none, errW_some] <;> rfl) | (simp [*, errW_none, errW_some] <;> rfl), by repeat (first | (with_reducible first | exact HB.out | apply below_alloc | apply pw_below_drewN | apply below_drew1 | refine below_set ?_ GE471.out) | exact HB.out)⟩
                                · rw [if_neg c67] at H
                                  have c67b0 : decide (0 < (wrap64 ((l0_10.length : Int) + (l0_11.length : Int)))) = false := decide_eq_false c67
                                  clear c67
                                  replace H := Option.bind_eq_some_iff.mp H
                                  obtain ⟨t478, A690, H⟩ := H
                                  replace H : (some t478) = some r := H
                                  have A69 := Aside0.mk A690
                                  clear A690
                                  obtain rfl := Option.some.inj H
                                  have hcz70_0 : wc.cell? ⟨gb471, 0, none⟩ = some (.int .i64 a0_0) := (blk_cell BK471.out 0).trans rfl
                                  have hcz70_1 : wc.cell? ⟨gb471, 1, none⟩ = some (.int .u64 a0_1) := (blk_cell BK471.out 1).trans rfl
                                  have hcz70_2 : wc.cell? ⟨gb471, 2, none⟩ = some (.int .i64 a0_2) := (blk_cell BK471.out 2).trans rfl
                                  have hcz70_3 : wc.cell? ⟨gb471, 3, none⟩ = some (.int .u64 a0_3) := (blk_cell BK471.out 3).trans rfl
                                  have hcz70_4 : wc.cell? ⟨gb471, 4, none⟩ = some (.int .u64 a0_4) := (blk_cell BK471.out 4).trans rfl
                                  have hcz70_5 : wc.cell? ⟨gb471, 5, none⟩ = some (.int .i64 a0_5) := (blk_cell BK471.out 5).trans rfl
                                  have hcz70_6 : wc.cell? ⟨gb471, 6, none⟩ = some (.int .i64 a0_6) := (blk_cell BK471.out 6).trans rfl
                                  have hcz70_7 : wc.cell? ⟨gb471, 7, none⟩ = some (.string a0_7) := (blk_cell BK471.out 7).trans rfl
                                  have hcz70_8 : wc.cell? ⟨gb471, 8, none⟩ = some (.string a0_8) := (blk_cell BK471.out 8).trans rfl
                                  have hcz70_9 : wc.cell? ⟨gb471, 9, none⟩ = some (.string a0_9) := (blk_cell BK471.out 9).trans rfl
                                  have hcz70_10 : wc.cell? ⟨gb471, 10, none⟩ = some (.slice A0_10 l0_10.length c0_10) := (blk_cell BK471.out 10).trans rfl
                                  have hcz70_11 : wc.cell? ⟨gb471, 11, none⟩ = some (.slice A0_11 l0_11.length c0_11) := (blk_cell BK471.out 11).trans rfl
                                  have hfz70_0 := blk_frozen BK471.out 0
                                  have hfz70_1 := blk_frozen BK471.out 1
                                  have hfz70_2 := blk_frozen BK471.out 2
                                  have hfz70_3 := blk_frozen BK471.out 3
                                  have hfz70_4 := blk_frozen BK471.out 4
                                  have hfz70_5 := blk_frozen BK471.out 5
                                  have hfz70_6 := blk_frozen BK471.out 6
                                  have hfz70_7 := blk_frozen BK471.out 7
                                  have hfz70_8 := blk_frozen BK471.out 8
                                  have hfz70_9 := blk_frozen BK471.out 9
                                  have hfz70_10 := blk_frozen BK471.out 10
                                  have hfz70_11 := blk_frozen BK471.out 11
                                  go_wp2_with (first | ((with_reducible refine gate_callee (f := 53) rfl ?_); refine goesL_ (some 103) rfl rfl Try.func53 (by kernel_rfl) rfl #[.agg #[.int .i64 a0_0, .int .u64 a0_1, .int .i64 a0_2, .int .u64 a0_3, .int .u64 a0_4, .int .i64 a0_5, .int .i64 a0_6, .string a0_7, .string a0_8, .string a0_9, .slice A0_10 l0_10.length c0_10, .slice A0_11 l0_11.length c0_11]] rfl (by (try simp only [List.map_toArray, List.map_cons, List.map_nil]); first | done | rfl | (simp only [List.length_drop, List.length_take]; rfl)) ?_; (with_reducible refine (flotillaref05_Rows.calls kj57 a0_0 a0_1 a0_2 a0_3 a0_4 a0_5 a0_6 a0_7 a0_8 a0_9 _ _ l0_10 _ _ l0_11 t478 _ ?side1 ?side2 ?side3 ?side4 A69.out).mono ?_); (case side1 => repeat (first | exact (Kd.C_below HR0_10.out HB.out) | (with_reducible refine Kd.C_alloc ?_ _) | (with_reducible refine Kd.C_drewN ?_ _) | (with_reducible refine Kd.C_drew ?_))); (case side2 => exact HC0_10.out); (case side3 => repeat (first | exact (Kd.C_below HR0_11.out HB.out) | (with_reducible refine Kd.C_alloc ?_ _) | (with_reducible refine Kd.C_drewN ?_ _) | (with_reducible refine Kd.C_drew ?_))); (case side4 => exact HC0_11.out); rintro e w71 ⟨rfl, hb⟩; refine ⟨_, rfl, ?_⟩; have n0_ := Aside0.mk (blk_below (g := gb471) (o := .cells #[.int .i64 a0_0, .int .u64 a0_1, .int .i64 a0_2, .int .u64 a0_3, .int .u64 a0_4, .int .i64 a0_5, .int .i64 a0_6, .string a0_7, .string a0_8, .string a0_9, .slice A0_10 l0_10.length c0_10, .slice A0_11 l0_11.length c0_11] 43 (0, 0)) (by (with_reducible repeat (first | refine blk_drewN ?_ _ | refine blk_drew ?_ | refine blk_alloc ?_ _)); exact BK471.out) hb); have n1_ := Aside0.mk (below_step (by repeat (first | (with_reducible first | exact HB.out | apply below_alloc | apply pw_below_drewN | apply below_drew1 | refine below_set ?_ GE471.out) | exact HB.out)) hb); clear BK471; clear HB; have BK471 := n0_; have HB := n1_; clear n0_ n1_; (try clear hb); (try clear hb2); (try clear hk); (try clear hi)))
                                  go_ret
                                  exact ⟨by first | rfl | (simp [errW_none, errW_some] <;> rfl) | (simp [*, errW_none, errW_some] <;> rfl), by repeat (first | (with_reducible first | exact HB.out | apply below_alloc | apply pw_below_drewN | apply below_drew1 | refine below_set ?_ GE471.out) | exact HB.out)⟩


end Go.Proofs.Ytaahfokdgfopcaa.Rf
