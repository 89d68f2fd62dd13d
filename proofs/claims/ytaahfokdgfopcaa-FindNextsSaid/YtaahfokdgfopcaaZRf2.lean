/- Functions of the Go text as Lean functions, and that the calls answer so. -/
import Derived.Test.YtaahfokdgfopcaaZRfT
import Derived.Test.YtaahfokdgfopcaaZRf0
import Derived.Test.YtaahfokdgfopcaaZRb
namespace Go.Proofs.Ytaahfokdgfopcaa.Rf
open Go.RowKit Go.Proofs.YtaahfokdgfopcaaW.PrintWords Go.Proofs.YtaahfokdgfopcaaW.PrintLast Go.Proofs.YtaahfokdgfopcaaW.PrintMore
attribute [local go_sem] max2_int min2_int max_two min_two max_three min_three max_four min_four
set_option linter.unusedVariables false
set_option linter.unusedSimpArgs false

attribute [local go_sem high] eqAGAct
attribute [local go_sem high] eqAGTxn
attribute [local go_sem high] eqAGDirty

/-! ### rec_Check -/
mutual
def rec_Check.j0 : Nat → Bool → Int → Int → Int → Int → Int → Int → Int → ByteArray → ByteArray → ByteArray → List (SGTxn) → List (SGDirty) → Option (Int)
  | 0, _, _, _, _, _, _, _, _, _, _, _, _, _ => none
  | k + 1, x3, x118000, x118001, x118002, x118003, x118004, x118005, x118006, x118007, x118008, x118009, x118010, x118011 => (rec_changes.f x118000).bind fun t119 => (if t119 = true then (if x3 = true then ((rec_page.f x118005).bind fun t120 => (if t120 = true then ((rec_mayAct.f k x118006 x118007 x118008 x118009).bind fun t121 => (rec_Check.j1 k t121 x118000 x118001 x118002 x118003 x118004 x118005 x118006 x118007 x118008 x118009 x118010 x118011)) else (rec_Check.j1 k false x118000 x118001 x118002 x118003 x118004 x118005 x118006 x118007 x118008 x118009 x118010 x118011))) else (rec_Check.j1 k false x118000 x118001 x118002 x118003 x118004 x118005 x118006 x118007 x118008 x118009 x118010 x118011)) else (if x3 = true then (if x118005 = 0 then (rec_Check.j1 k (x118006 == 0 && (x118007.toList == ([] : List UInt8) && (x118008.toList == ([] : List UInt8) && (x118009.toList == ([] : List UInt8))))) x118000 x118001 x118002 x118003 x118004 x118005 x118006 x118007 x118008 x118009 x118010 x118011) else (rec_Check.j1 k false x118000 x118001 x118002 x118003 x118004 x118005 x118006 x118007 x118008 x118009 x118010 x118011)) else (rec_Check.j1 k false x118000 x118001 x118002 x118003 x118004 x118005 x118006 x118007 x118008 x118009 x118010 x118011)))
def rec_Check.j1 : Nat → Bool → Int → Int → Int → Int → Int → Int → Int → ByteArray → ByteArray → ByteArray → List (SGTxn) → List (SGDirty) → Option (Int)
  | 0, _, _, _, _, _, _, _, _, _, _, _, _, _ => none
  | k + 1, x3, x118000, x118001, x118002, x118003, x118004, x118005, x118006, x118007, x118008, x118009, x118010, x118011 => (rec_points.f x118000).bind fun t122 => (if t122 = true then (if x3 = true then (if x118002 = 0 then (rec_Check.j2 k (x118003 == 0) x118000 x118001 x118002 x118003 x118004 x118005 x118006 x118007 x118008 x118009 x118010 x118011) else (rec_Check.j2 k false x118000 x118001 x118002 x118003 x118004 x118005 x118006 x118007 x118008 x118009 x118010 x118011)) else (rec_Check.j2 k false x118000 x118001 x118002 x118003 x118004 x118005 x118006 x118007 x118008 x118009 x118010 x118011)) else (if x3 = true then ((rec_txn.f x118002).bind fun t123 => (rec_Check.j2 k t123 x118000 x118001 x118002 x118003 x118004 x118005 x118006 x118007 x118008 x118009 x118010 x118011)) else (rec_Check.j2 k false x118000 x118001 x118002 x118003 x118004 x118005 x118006 x118007 x118008 x118009 x118010 x118011)))
def rec_Check.j2 : Nat → Bool → Int → Int → Int → Int → Int → Int → Int → ByteArray → ByteArray → ByteArray → List (SGTxn) → List (SGDirty) → Option (Int)
  | 0, _, _, _, _, _, _, _, _, _, _, _, _, _ => none
  | k + 1, x3, x118000, x118001, x118002, x118003, x118004, x118005, x118006, x118007, x118008, x118009, x118010, x118011 => if x118000 = 8 then (if x3 = true then (if x118000 = 2 then ((rec_tables.f k x118000 x118001 x118002 x118003 x118004 x118005 x118006 x118007 x118008 x118009 x118010 x118011).bind fun t124 => (if t124 = true then (some 0) else (some 1))) else (if x118004 = 0 then ((rec_tables.f k x118000 x118001 x118002 x118003 x118004 x118005 x118006 x118007 x118008 x118009 x118010 x118011).bind fun t125 => (if t125 = true then (some 0) else (some 1))) else (some 1))) else (some 1)) else (if x3 = true then (if (x118010.length : Int) = 0 then (if ((x118011.length : Int) = 0) then (if x118000 = 2 then ((rec_tables.f k x118000 x118001 x118002 x118003 x118004 x118005 x118006 x118007 x118008 x118009 x118010 x118011).bind fun t126 => (if t126 = true then (some 0) else (some 1))) else (if x118004 = 0 then ((rec_tables.f k x118000 x118001 x118002 x118003 x118004 x118005 x118006 x118007 x118008 x118009 x118010 x118011).bind fun t127 => (if t127 = true then (some 0) else (some 1))) else (some 1))) else (some 1)) else (some 1)) else (some 1))
end
def rec_Check.f (k : Nat) (a0_0 : Int) (a0_1 : Int) (a0_2 : Int) (a0_3 : Int) (a0_4 : Int) (a0_5 : Int) (a0_6 : Int) (a0_7 : ByteArray) (a0_8 : ByteArray) (a0_9 : ByteArray) (l0_10 : List (SGTxn)) (l0_11 : List (SGDirty)) : Option (Int) := if a0_0 > 0 then (if a0_0 < 9 then ((rec_numbered.f a0_1).bind fun t118 => (if t118 = true then (if a0_3 < a0_1 then (rec_Check.j0 k (decide (a0_4 < a0_1)) a0_0 a0_1 a0_2 a0_3 a0_4 a0_5 a0_6 a0_7 a0_8 a0_9 l0_10 l0_11) else (rec_Check.j0 k false a0_0 a0_1 a0_2 a0_3 a0_4 a0_5 a0_6 a0_7 a0_8 a0_9 l0_10 l0_11)) else (rec_Check.j0 k false a0_0 a0_1 a0_2 a0_3 a0_4 a0_5 a0_6 a0_7 a0_8 a0_9 l0_10 l0_11))) else (rec_Check.j0 k false a0_0 a0_1 a0_2 a0_3 a0_4 a0_5 a0_6 a0_7 a0_8 a0_9 l0_10 l0_11)) else (rec_Check.j0 k false a0_0 a0_1 a0_2 a0_3 a0_4 a0_5 a0_6 a0_7 a0_8 a0_9 l0_10 l0_11)
theorem rec_Check.mono_l : ∀ k, (∀ y0 y1 y2 y3 y4 y5 y6 y7 y8 y9 y10 y11 y12, LeO (rec_Check.j0 k y0 y1 y2 y3 y4 y5 y6 y7 y8 y9 y10 y11 y12) (rec_Check.j0 (k + 1) y0 y1 y2 y3 y4 y5 y6 y7 y8 y9 y10 y11 y12)) ∧ (∀ y0 y1 y2 y3 y4 y5 y6 y7 y8 y9 y10 y11 y12, LeO (rec_Check.j1 k y0 y1 y2 y3 y4 y5 y6 y7 y8 y9 y10 y11 y12) (rec_Check.j1 (k + 1) y0 y1 y2 y3 y4 y5 y6 y7 y8 y9 y10 y11 y12)) ∧ (∀ y0 y1 y2 y3 y4 y5 y6 y7 y8 y9 y10 y11 y12, LeO (rec_Check.j2 k y0 y1 y2 y3 y4 y5 y6 y7 y8 y9 y10 y11 y12) (rec_Check.j2 (k + 1) y0 y1 y2 y3 y4 y5 y6 y7 y8 y9 y10 y11 y12))
  | 0 => ⟨fun _ _ _ _ _ _ _ _ _ _ _ _ _ r h => by simp [rec_Check.j0] at h, fun _ _ _ _ _ _ _ _ _ _ _ _ _ r h => by simp [rec_Check.j1] at h, fun _ _ _ _ _ _ _ _ _ _ _ _ _ r h => by simp [rec_Check.j2] at h⟩
  | k + 1 => by
    obtain ⟨ih0, ih1, ih2⟩ := rec_Check.mono_l k
    refine ⟨?_, ?_, ?_⟩
    · intro y0 y1 y2 y3 y4 y5 y6 y7 y8 y9 y10 y11 y12
      unfold rec_Check.j0
      repeat' first
      | (with_reducible exact ih0 _ _ _ _ _ _ _ _ _ _ _ _ _)
      | (with_reducible exact ih1 _ _ _ _ _ _ _ _ _ _ _ _ _)
      | (with_reducible exact ih2 _ _ _ _ _ _ _ _ _ _ _ _ _)
      | (with_reducible exact rec_mayAct.mono _ _ _ _ _)
      | (with_reducible exact rec_tables.mono _ _ _ _ _ _ _ _ _ _ _ _ _)
      | (with_reducible exact LeO.refl _)
      | (with_reducible exact LeO.none _)
      | (with_reducible refine LeO.ite ?_ ?_)
      | (with_reducible refine LeO.bind ?_ (fun _ => ?_))
      | exact ih0 _ _ _ _ _ _ _ _ _ _ _ _ _
      | exact ih1 _ _ _ _ _ _ _ _ _ _ _ _ _
      | exact ih2 _ _ _ _ _ _ _ _ _ _ _ _ _
      | exact rec_mayAct.mono _ _ _ _ _
      | exact rec_tables.mono _ _ _ _ _ _ _ _ _ _ _ _ _
      | exact LeO.none _
      | refine LeO.ite ?_ ?_
      | refine LeO.bind ?_ (fun _ => ?_)
    · intro y0 y1 y2 y3 y4 y5 y6 y7 y8 y9 y10 y11 y12
      unfold rec_Check.j1
      repeat' first
      | (with_reducible exact ih0 _ _ _ _ _ _ _ _ _ _ _ _ _)
      | (with_reducible exact ih1 _ _ _ _ _ _ _ _ _ _ _ _ _)
      | (with_reducible exact ih2 _ _ _ _ _ _ _ _ _ _ _ _ _)
      | (with_reducible exact rec_mayAct.mono _ _ _ _ _)
      | (with_reducible exact rec_tables.mono _ _ _ _ _ _ _ _ _ _ _ _ _)
      | (with_reducible exact LeO.refl _)
      | (with_reducible exact LeO.none _)
      | (with_reducible refine LeO.ite ?_ ?_)
      | (with_reducible refine LeO.bind ?_ (fun _ => ?_))
      | exact ih0 _ _ _ _ _ _ _ _ _ _ _ _ _
      | exact ih1 _ _ _ _ _ _ _ _ _ _ _ _ _
      | exact ih2 _ _ _ _ _ _ _ _ _ _ _ _ _
      | exact rec_mayAct.mono _ _ _ _ _
      | exact rec_tables.mono _ _ _ _ _ _ _ _ _ _ _ _ _
      | exact LeO.none _
      | refine LeO.ite ?_ ?_
      | refine LeO.bind ?_ (fun _ => ?_)
    · intro y0 y1 y2 y3 y4 y5 y6 y7 y8 y9 y10 y11 y12
      unfold rec_Check.j2
      repeat' first
      | (with_reducible exact ih0 _ _ _ _ _ _ _ _ _ _ _ _ _)
      | (with_reducible exact ih1 _ _ _ _ _ _ _ _ _ _ _ _ _)
      | (with_reducible exact ih2 _ _ _ _ _ _ _ _ _ _ _ _ _)
      | (with_reducible exact rec_mayAct.mono _ _ _ _ _)
      | (with_reducible exact rec_tables.mono _ _ _ _ _ _ _ _ _ _ _ _ _)
      | (with_reducible exact LeO.refl _)
      | (with_reducible exact LeO.none _)
      | (with_reducible refine LeO.ite ?_ ?_)
      | (with_reducible refine LeO.bind ?_ (fun _ => ?_))
      | exact ih0 _ _ _ _ _ _ _ _ _ _ _ _ _
      | exact ih1 _ _ _ _ _ _ _ _ _ _ _ _ _
      | exact ih2 _ _ _ _ _ _ _ _ _ _ _ _ _
      | exact rec_mayAct.mono _ _ _ _ _
      | exact rec_tables.mono _ _ _ _ _ _ _ _ _ _ _ _ _
      | exact LeO.none _
      | refine LeO.ite ?_ ?_
      | refine LeO.bind ?_ (fun _ => ?_)
theorem rec_Check.mono : ∀ a0 a1 a2 a3 a4 a5 a6 a7 a8 a9 a10 a11 k, LeO (rec_Check.f k a0 a1 a2 a3 a4 a5 a6 a7 a8 a9 a10 a11) (rec_Check.f (k + 1) a0 a1 a2 a3 a4 a5 a6 a7 a8 a9 a10 a11) := by
  intro a0 a1 a2 a3 a4 a5 a6 a7 a8 a9 a10 a11 k
  obtain ⟨ih0, ih1, ih2⟩ := rec_Check.mono_l k
  unfold rec_Check.f
  repeat' first
      | (with_reducible exact ih0 _ _ _ _ _ _ _ _ _ _ _ _ _)
      | (with_reducible exact ih1 _ _ _ _ _ _ _ _ _ _ _ _ _)
      | (with_reducible exact ih2 _ _ _ _ _ _ _ _ _ _ _ _ _)
      | (with_reducible exact rec_mayAct.mono _ _ _ _ _)
      | (with_reducible exact rec_tables.mono _ _ _ _ _ _ _ _ _ _ _ _ _)
      | (with_reducible exact LeO.refl _)
      | (with_reducible exact LeO.none _)
      | (with_reducible refine LeO.ite ?_ ?_)
      | (with_reducible refine LeO.bind ?_ (fun _ => ?_))
      | exact ih0 _ _ _ _ _ _ _ _ _ _ _ _ _
      | exact ih1 _ _ _ _ _ _ _ _ _ _ _ _ _
      | exact ih2 _ _ _ _ _ _ _ _ _ _ _ _ _
      | exact rec_mayAct.mono _ _ _ _ _
      | exact rec_tables.mono _ _ _ _ _ _ _ _ _ _ _ _ _
      | exact LeO.none _
      | refine LeO.ite ?_ ?_
      | refine LeO.bind ?_ (fun _ => ?_)
set_option maxHeartbeats 8000000 in
set_option maxRecDepth 100000 in
theorem rec_Check.calls (k : Nat) (a0_0 : Int) (a0_1 : Int) (a0_2 : Int) (a0_3 : Int) (a0_4 : Int) (a0_5 : Int) (a0_6 : Int) (a0_7 : ByteArray) (a0_8 : ByteArray) (a0_9 : ByteArray) (A0_10 : Option Addr) (c0_10 : Nat) (l0_10 : List (SGTxn)) (A0_11 : Option Addr) (c0_11 : Nat) (l0_11 : List (SGDirty)) (r : Int) (w : World) (hr0_10 : Kd.C kGTxn w A0_10 l0_10.length l0_10) (hc0_10 : l0_10.length ≤ c0_10) (hr0_11 : Kd.C kGDirty w A0_11 l0_11.length l0_11) (hc0_11 : l0_11.length ≤ c0_11) (h : rec_Check.f k a0_0 a0_1 a0_2 a0_3 a0_4 a0_5 a0_6 a0_7 a0_8 a0_9 l0_10 l0_11 = some r) :
    Calls Try.prog 34 #[.agg #[.int .i64 a0_0, .int .u64 a0_1, .int .i64 a0_2, .int .u64 a0_3, .int .u64 a0_4, .int .i64 a0_5, .int .i64 a0_6, .string a0_7, .string a0_8, .string a0_9, .slice A0_10 l0_10.length c0_10, .slice A0_11 l0_11.length c0_11]] w fun e w' => e = .returned (.int .i64 r) ∧ Below w.heap.size w w' := by
  have hu43 := Try.underlying43
  have hu41 := Try.underlying41
  have HR0_10 := Aside0.mk hr0_10
  have HC0_10 := Aside0.mk hc0_10
  clear hr0_10 hc0_10
  have HR0_11 := Aside0.mk hr0_11
  have HC0_11 := Aside0.mk hc0_11
  clear hr0_11 hc0_11
  have HB := Aside0.mk (Below.refl w.heap.size w)
  have H : (if a0_0 > 0 then (if a0_0 < 9 then ((rec_numbered.f a0_1).bind fun t118 => (if t118 = true then (if a0_3 < a0_1 then (rec_Check.j0 k (decide (a0_4 < a0_1)) a0_0 a0_1 a0_2 a0_3 a0_4 a0_5 a0_6 a0_7 a0_8 a0_9 l0_10 l0_11) else (rec_Check.j0 k false a0_0 a0_1 a0_2 a0_3 a0_4 a0_5 a0_6 a0_7 a0_8 a0_9 l0_10 l0_11)) else (rec_Check.j0 k false a0_0 a0_1 a0_2 a0_3 a0_4 a0_5 a0_6 a0_7 a0_8 a0_9 l0_10 l0_11))) else (rec_Check.j0 k false a0_0 a0_1 a0_2 a0_3 a0_4 a0_5 a0_6 a0_7 a0_8 a0_9 l0_10 l0_11)) else (rec_Check.j0 k false a0_0 a0_1 a0_2 a0_3 a0_4 a0_5 a0_6 a0_7 a0_8 a0_9 l0_10 l0_11)) = some r := h
  clear h
  have HC2 := Aside0.mk H
  clear H
  go_enter Try.func34, Try.ntmps34
  go_upto_region 1 with (first | ((with_reducible refine gate_dst (N := 1) rfl ?_); (try (refine gate_guard (by rfl) ?_; dsimp only)); refine box_event ?hg (N := 1) ?hd (cs := #[.int .i64 a0_0, .int .u64 a0_1, .int .i64 a0_2, .int .u64 a0_3, .int .u64 a0_4, .int .i64 a0_5, .int .i64 a0_6, .string a0_7, .string a0_8, .string a0_9, .slice A0_10 l0_10.length c0_10, .slice A0_11 l0_11.length c0_11]) (t := 43) ?hr ?_; (case hd => rfl); (case hg => rfl); (case hr => first | (go_simp; done) | (go_simp; rfl)); intro gb117 hg w3 hbox hb; have n0_ := Aside0.mk (below_step (by repeat (first | (with_reducible first | exact HB.out | apply below_alloc | apply pw_below_drewN | apply below_drew1) | exact HB.out)) hb); have n1_ := Aside0.mk (hbox); have n2_ := Aside0.mk ((by rw [hg]; exact (below_size (by repeat (first | (with_reducible first | exact HB.out | apply below_alloc | apply pw_below_drewN | apply below_drew1) | exact HB.out))) : w.heap.size ≤ gb117)); have n3_ := Aside0.mk ((by rw [hg]; exact (below_size (by repeat (first | (with_reducible first | exact HB.out | apply below_alloc | apply pw_below_drewN | apply below_drew1) | exact HB.out))) : w.heap.size ≤ gb117)); clear HB; have HB := n0_; have BK117 := n1_; have GW117 := n2_; have GE117 := n3_; clear n0_ n1_ n2_ n3_; clear hb hbox hg))
  (try simp only [Act.put, List.setIfInBounds_toArray, List.set_cons_zero, List.set_cons_succ])
  go_cut [3] (fun v3 wc => ∃ (kq : Nat) (x3_1 : Bool), v3 = .bool x3_1 ∧ Aside0 (rec_Check.j0 kq x3_1 a0_0 a0_1 a0_2 a0_3 a0_4 a0_5 a0_6 a0_7 a0_8 a0_9 l0_10 l0_11 = some r) ∧ Aside0 (kq ≤ k) ∧ Aside0 (wc.heap[gb117]? = some (.cells #[.int .i64 a0_0, .int .u64 a0_1, .int .i64 a0_2, .int .u64 a0_3, .int .u64 a0_4, .int .i64 a0_5, .int .i64 a0_6, .string a0_7, .string a0_8, .string a0_9, (.slice A0_10 l0_10.length c0_10), (.slice A0_11 l0_11.length c0_11)] 43 (0, 0))) ∧ Aside0 (Below w.heap.size w wc))
  case first =>
    have H := HC2.out
    clear HC2
    by_cases c4 : a0_0 > 0
    · rw [if_pos c4] at H
      have c4b0 : decide (0 < a0_0) = true := decide_eq_true c4
      clear c4
      (first | rw [c4b0] | (simp only [i64_w, i32_w]; rw [c4b0]) | skip)
      by_cases c5 : a0_0 < 9
      · rw [if_pos c5] at H
        have c5b0 : decide (a0_0 < 9) = true := decide_eq_true c5
        clear c5
        replace H := Option.bind_eq_some_iff.mp H
        obtain ⟨t118, A60, H⟩ := H
        replace H : (if t118 = true then (if a0_3 < a0_1 then (rec_Check.j0 k (decide (a0_4 < a0_1)) a0_0 a0_1 a0_2 a0_3 a0_4 a0_5 a0_6 a0_7 a0_8 a0_9 l0_10 l0_11) else (rec_Check.j0 k false a0_0 a0_1 a0_2 a0_3 a0_4 a0_5 a0_6 a0_7 a0_8 a0_9 l0_10 l0_11)) else (rec_Check.j0 k false a0_0 a0_1 a0_2 a0_3 a0_4 a0_5 a0_6 a0_7 a0_8 a0_9 l0_10 l0_11)) = some r := H
        have A6 := Aside0.mk A60
        clear A60
        by_cases c7 : t118 = true
        · subst c7
          have H1 : (if a0_3 < a0_1 then (rec_Check.j0 k (decide (a0_4 < a0_1)) a0_0 a0_1 a0_2 a0_3 a0_4 a0_5 a0_6 a0_7 a0_8 a0_9 l0_10 l0_11) else (rec_Check.j0 k false a0_0 a0_1 a0_2 a0_3 a0_4 a0_5 a0_6 a0_7 a0_8 a0_9 l0_10 l0_11)) = some r := by rw [if_pos rfl] at H; exact H
          clear H
          have H := H1
          clear H1
          by_cases c8 : a0_3 < a0_1
          · rw [if_pos c8] at H
            have c8b0 : decide (a0_3 < a0_1) = true := decide_eq_true c8
            clear c8
            have H' := Aside0.mk H
            clear H
            have hcz9_0 : w3.cell? ⟨gb117, 0, none⟩ = some (.int .i64 a0_0) := (blk_cell BK117.out 0).trans rfl
            have hcz9_1 : w3.cell? ⟨gb117, 1, none⟩ = some (.int .u64 a0_1) := (blk_cell BK117.out 1).trans rfl
            have hcz9_2 : w3.cell? ⟨gb117, 2, none⟩ = some (.int .i64 a0_2) := (blk_cell BK117.out 2).trans rfl
            have hcz9_3 : w3.cell? ⟨gb117, 3, none⟩ = some (.int .u64 a0_3) := (blk_cell BK117.out 3).trans rfl
            have hcz9_4 : w3.cell? ⟨gb117, 4, none⟩ = some (.int .u64 a0_4) := (blk_cell BK117.out 4).trans rfl
            have hcz9_5 : w3.cell? ⟨gb117, 5, none⟩ = some (.int .i64 a0_5) := (blk_cell BK117.out 5).trans rfl
            have hcz9_6 : w3.cell? ⟨gb117, 6, none⟩ = some (.int .i64 a0_6) := (blk_cell BK117.out 6).trans rfl
            have hcz9_7 : w3.cell? ⟨gb117, 7, none⟩ = some (.string a0_7) := (blk_cell BK117.out 7).trans rfl
            have hcz9_8 : w3.cell? ⟨gb117, 8, none⟩ = some (.string a0_8) := (blk_cell BK117.out 8).trans rfl
            have hcz9_9 : w3.cell? ⟨gb117, 9, none⟩ = some (.string a0_9) := (blk_cell BK117.out 9).trans rfl
            have hcz9_10 : w3.cell? ⟨gb117, 10, none⟩ = some (.slice A0_10 l0_10.length c0_10) := (blk_cell BK117.out 10).trans rfl
            have hcz9_11 : w3.cell? ⟨gb117, 11, none⟩ = some (.slice A0_11 l0_11.length c0_11) := (blk_cell BK117.out 11).trans rfl
            have hfz9_0 := blk_frozen BK117.out 0
            have hfz9_1 := blk_frozen BK117.out 1
            have hfz9_2 := blk_frozen BK117.out 2
            have hfz9_3 := blk_frozen BK117.out 3
            have hfz9_4 := blk_frozen BK117.out 4
            have hfz9_5 := blk_frozen BK117.out 5
            have hfz9_6 := blk_frozen BK117.out 6
            have hfz9_7 := blk_frozen BK117.out 7
            have hfz9_8 := blk_frozen BK117.out 8
            have hfz9_9 := blk_frozen BK117.out 9
            have hfz9_10 := blk_frozen BK117.out 10
            have hfz9_11 := blk_frozen BK117.out 11
            go_wp2_with (first | (go_at_call 43; (with_reducible refine (rec_numbered.calls a0_1 true _ A6.out).mono ?_); rintro e w' ⟨rfl, ⟨nd, rfl⟩⟩))
            go_meet
            case rel => exact ⟨_, (decide (a0_4 < a0_1)), (by first | rfl | (simp; done) | (simp [*]; done)), H', ⟨by first | omega | exact Nat.le_refl _⟩, ⟨by (with_reducible repeat (first | refine blk_drewN ?_ _ | refine blk_drew ?_ | refine blk_alloc ?_ _)); exact BK117.out⟩, ⟨by repeat (first | (with_reducible first | exact HB.out | apply below_alloc | apply pw_below_drewN | apply below_drew1 | refine below_set ?_ GE117.out) | exact HB.out)⟩⟩
          · rw [if_neg c8] at H
            have c8b0 : decide (a0_3 < a0_1) = false := decide_eq_false c8
            clear c8
            have H' := Aside0.mk H
            clear H
            have hcz10_0 : w3.cell? ⟨gb117, 0, none⟩ = some (.int .i64 a0_0) := (blk_cell BK117.out 0).trans rfl
            have hcz10_1 : w3.cell? ⟨gb117, 1, none⟩ = some (.int .u64 a0_1) := (blk_cell BK117.out 1).trans rfl
            have hcz10_2 : w3.cell? ⟨gb117, 2, none⟩ = some (.int .i64 a0_2) := (blk_cell BK117.out 2).trans rfl
            have hcz10_3 : w3.cell? ⟨gb117, 3, none⟩ = some (.int .u64 a0_3) := (blk_cell BK117.out 3).trans rfl
            have hcz10_4 : w3.cell? ⟨gb117, 4, none⟩ = some (.int .u64 a0_4) := (blk_cell BK117.out 4).trans rfl
            have hcz10_5 : w3.cell? ⟨gb117, 5, none⟩ = some (.int .i64 a0_5) := (blk_cell BK117.out 5).trans rfl
            have hcz10_6 : w3.cell? ⟨gb117, 6, none⟩ = some (.int .i64 a0_6) := (blk_cell BK117.out 6).trans rfl
            have hcz10_7 : w3.cell? ⟨gb117, 7, none⟩ = some (.string a0_7) := (blk_cell BK117.out 7).trans rfl
            have hcz10_8 : w3.cell? ⟨gb117, 8, none⟩ = some (.string a0_8) := (blk_cell BK117.out 8).trans rfl
            have hcz10_9 : w3.cell? ⟨gb117, 9, none⟩ = some (.string a0_9) := (blk_cell BK117.out 9).trans rfl
            have hcz10_10 : w3.cell? ⟨gb117, 10, none⟩ = some (.slice A0_10 l0_10.length c0_10) := (blk_cell BK117.out 10).trans rfl
            have hcz10_11 : w3.cell? ⟨gb117, 11, none⟩ = some (.slice A0_11 l0_11.length c0_11) := (blk_cell BK117.out 11).trans rfl
            have hfz10_0 := blk_frozen BK117.out 0
            have hfz10_1 := blk_frozen BK117.out 1
            have hfz10_2 := blk_frozen BK117.out 2
            have hfz10_3 := blk_frozen BK117.out 3
            have hfz10_4 := blk_frozen BK117.out 4
            have hfz10_5 := blk_frozen BK117.out 5
            have hfz10_6 := blk_frozen BK117.out 6
            have hfz10_7 := blk_frozen BK117.out 7
            have hfz10_8 := blk_frozen BK117.out 8
            have hfz10_9 := blk_frozen BK117.out 9
            have hfz10_10 := blk_frozen BK117.out 10
            have hfz10_11 := blk_frozen BK117.out 11
            go_wp2_with (first | (go_at_call 43; (with_reducible refine (rec_numbered.calls a0_1 true _ A6.out).mono ?_); rintro e w' ⟨rfl, ⟨nd, rfl⟩⟩))
            go_meet
            case rel => exact ⟨_, (false), (by first | rfl | (simp; done) | (simp [*]; done)), H', ⟨by first | omega | exact Nat.le_refl _⟩, ⟨by (with_reducible repeat (first | refine blk_drewN ?_ _ | refine blk_drew ?_ | refine blk_alloc ?_ _)); exact BK117.out⟩, ⟨by repeat (first | (with_reducible first | exact HB.out | apply below_alloc | apply pw_below_drewN | apply below_drew1 | refine below_set ?_ GE117.out) | exact HB.out)⟩⟩
        · replace c7 := Bool.eq_false_iff.mpr c7
          subst c7
          have H1 : (rec_Check.j0 k false a0_0 a0_1 a0_2 a0_3 a0_4 a0_5 a0_6 a0_7 a0_8 a0_9 l0_10 l0_11) = some r := by rw [if_neg (show ¬ (false = true) by decide)] at H; exact H
          clear H
          have H := H1
          clear H1
          have H' := Aside0.mk H
          clear H
          have hcz11_0 : w3.cell? ⟨gb117, 0, none⟩ = some (.int .i64 a0_0) := (blk_cell BK117.out 0).trans rfl
          have hcz11_1 : w3.cell? ⟨gb117, 1, none⟩ = some (.int .u64 a0_1) := (blk_cell BK117.out 1).trans rfl
          have hcz11_2 : w3.cell? ⟨gb117, 2, none⟩ = some (.int .i64 a0_2) := (blk_cell BK117.out 2).trans rfl
          have hcz11_3 : w3.cell? ⟨gb117, 3, none⟩ = some (.int .u64 a0_3) := (blk_cell BK117.out 3).trans rfl
          have hcz11_4 : w3.cell? ⟨gb117, 4, none⟩ = some (.int .u64 a0_4) := (blk_cell BK117.out 4).trans rfl
          have hcz11_5 : w3.cell? ⟨gb117, 5, none⟩ = some (.int .i64 a0_5) := (blk_cell BK117.out 5).trans rfl
          have hcz11_6 : w3.cell? ⟨gb117, 6, none⟩ = some (.int .i64 a0_6) := (blk_cell BK117.out 6).trans rfl
          have hcz11_7 : w3.cell? ⟨gb117, 7, none⟩ = some (.string a0_7) := (blk_cell BK117.out 7).trans rfl
          have hcz11_8 : w3.cell? ⟨gb117, 8, none⟩ = some (.string a0_8) := (blk_cell BK117.out 8).trans rfl
          have hcz11_9 : w3.cell? ⟨gb117, 9, none⟩ = some (.string a0_9) := (blk_cell BK117.out 9).trans rfl
          have hcz11_10 : w3.cell? ⟨gb117, 10, none⟩ = some (.slice A0_10 l0_10.length c0_10) := (blk_cell BK117.out 10).trans rfl
          have hcz11_11 : w3.cell? ⟨gb117, 11, none⟩ = some (.slice A0_11 l0_11.length c0_11) := (blk_cell BK117.out 11).trans rfl
          have hfz11_0 := blk_frozen BK117.out 0
          have hfz11_1 := blk_frozen BK117.out 1
          have hfz11_2 := blk_frozen BK117.out 2
          have hfz11_3 := blk_frozen BK117.out 3
          have hfz11_4 := blk_frozen BK117.out 4
          have hfz11_5 := blk_frozen BK117.out 5
          have hfz11_6 := blk_frozen BK117.out 6
          have hfz11_7 := blk_frozen BK117.out 7
          have hfz11_8 := blk_frozen BK117.out 8
          have hfz11_9 := blk_frozen BK117.out 9
          have hfz11_10 := blk_frozen BK117.out 10
          have hfz11_11 := blk_frozen BK117.out 11
          go_wp2_with (first | (go_at_call 43; (with_reducible refine (rec_numbered.calls a0_1 false _ A6.out).mono ?_); rintro e w' ⟨rfl, ⟨nd, rfl⟩⟩))
          go_meet
          case rel => exact ⟨_, (false), (by first | rfl | (simp; done) | (simp [*]; done)), H', ⟨by first | omega | exact Nat.le_refl _⟩, ⟨by (with_reducible repeat (first | refine blk_drewN ?_ _ | refine blk_drew ?_ | refine blk_alloc ?_ _)); exact BK117.out⟩, ⟨by repeat (first | (with_reducible first | exact HB.out | apply below_alloc | apply pw_below_drewN | apply below_drew1 | refine below_set ?_ GE117.out) | exact HB.out)⟩⟩
      · rw [if_neg c5] at H
        have c5b0 : decide (a0_0 < 9) = false := decide_eq_false c5
        clear c5
        have H' := Aside0.mk H
        clear H
        have hcz12_0 : w3.cell? ⟨gb117, 0, none⟩ = some (.int .i64 a0_0) := (blk_cell BK117.out 0).trans rfl
        have hcz12_1 : w3.cell? ⟨gb117, 1, none⟩ = some (.int .u64 a0_1) := (blk_cell BK117.out 1).trans rfl
        have hcz12_2 : w3.cell? ⟨gb117, 2, none⟩ = some (.int .i64 a0_2) := (blk_cell BK117.out 2).trans rfl
        have hcz12_3 : w3.cell? ⟨gb117, 3, none⟩ = some (.int .u64 a0_3) := (blk_cell BK117.out 3).trans rfl
        have hcz12_4 : w3.cell? ⟨gb117, 4, none⟩ = some (.int .u64 a0_4) := (blk_cell BK117.out 4).trans rfl
        have hcz12_5 : w3.cell? ⟨gb117, 5, none⟩ = some (.int .i64 a0_5) := (blk_cell BK117.out 5).trans rfl
        have hcz12_6 : w3.cell? ⟨gb117, 6, none⟩ = some (.int .i64 a0_6) := (blk_cell BK117.out 6).trans rfl
        have hcz12_7 : w3.cell? ⟨gb117, 7, none⟩ = some (.string a0_7) := (blk_cell BK117.out 7).trans rfl
        have hcz12_8 : w3.cell? ⟨gb117, 8, none⟩ = some (.string a0_8) := (blk_cell BK117.out 8).trans rfl
        have hcz12_9 : w3.cell? ⟨gb117, 9, none⟩ = some (.string a0_9) := (blk_cell BK117.out 9).trans rfl
        have hcz12_10 : w3.cell? ⟨gb117, 10, none⟩ = some (.slice A0_10 l0_10.length c0_10) := (blk_cell BK117.out 10).trans rfl
        have hcz12_11 : w3.cell? ⟨gb117, 11, none⟩ = some (.slice A0_11 l0_11.length c0_11) := (blk_cell BK117.out 11).trans rfl
        have hfz12_0 := blk_frozen BK117.out 0
        have hfz12_1 := blk_frozen BK117.out 1
        have hfz12_2 := blk_frozen BK117.out 2
        have hfz12_3 := blk_frozen BK117.out 3
        have hfz12_4 := blk_frozen BK117.out 4
        have hfz12_5 := blk_frozen BK117.out 5
        have hfz12_6 := blk_frozen BK117.out 6
        have hfz12_7 := blk_frozen BK117.out 7
        have hfz12_8 := blk_frozen BK117.out 8
        have hfz12_9 := blk_frozen BK117.out 9
        have hfz12_10 := blk_frozen BK117.out 10
        have hfz12_11 := blk_frozen BK117.out 11
        go_wp2
        go_meet
        case rel => exact ⟨_, (false), (by first | rfl | (simp; done) | (simp [*]; done)), H', ⟨by first | omega | exact Nat.le_refl _⟩, ⟨by (with_reducible repeat (first | refine blk_drewN ?_ _ | refine blk_drew ?_ | refine blk_alloc ?_ _)); exact BK117.out⟩, ⟨by repeat (first | (with_reducible first | exact HB.out | apply below_alloc | apply pw_below_drewN | apply below_drew1 | refine below_set ?_ GE117.out) | exact HB.out)⟩⟩
    · rw [if_neg c4] at H
      have c4b0 : decide (0 < a0_0) = false := decide_eq_false c4
      clear c4
      (first | rw [c4b0] | (simp only [i64_w, i32_w]; rw [c4b0]) | skip)
      have H' := Aside0.mk H
      clear H
      have hcz13_0 : w3.cell? ⟨gb117, 0, none⟩ = some (.int .i64 a0_0) := (blk_cell BK117.out 0).trans rfl
      have hcz13_1 : w3.cell? ⟨gb117, 1, none⟩ = some (.int .u64 a0_1) := (blk_cell BK117.out 1).trans rfl
      have hcz13_2 : w3.cell? ⟨gb117, 2, none⟩ = some (.int .i64 a0_2) := (blk_cell BK117.out 2).trans rfl
      have hcz13_3 : w3.cell? ⟨gb117, 3, none⟩ = some (.int .u64 a0_3) := (blk_cell BK117.out 3).trans rfl
      have hcz13_4 : w3.cell? ⟨gb117, 4, none⟩ = some (.int .u64 a0_4) := (blk_cell BK117.out 4).trans rfl
      have hcz13_5 : w3.cell? ⟨gb117, 5, none⟩ = some (.int .i64 a0_5) := (blk_cell BK117.out 5).trans rfl
      have hcz13_6 : w3.cell? ⟨gb117, 6, none⟩ = some (.int .i64 a0_6) := (blk_cell BK117.out 6).trans rfl
      have hcz13_7 : w3.cell? ⟨gb117, 7, none⟩ = some (.string a0_7) := (blk_cell BK117.out 7).trans rfl
      have hcz13_8 : w3.cell? ⟨gb117, 8, none⟩ = some (.string a0_8) := (blk_cell BK117.out 8).trans rfl
      have hcz13_9 : w3.cell? ⟨gb117, 9, none⟩ = some (.string a0_9) := (blk_cell BK117.out 9).trans rfl
      have hcz13_10 : w3.cell? ⟨gb117, 10, none⟩ = some (.slice A0_10 l0_10.length c0_10) := (blk_cell BK117.out 10).trans rfl
      have hcz13_11 : w3.cell? ⟨gb117, 11, none⟩ = some (.slice A0_11 l0_11.length c0_11) := (blk_cell BK117.out 11).trans rfl
      have hfz13_0 := blk_frozen BK117.out 0
      have hfz13_1 := blk_frozen BK117.out 1
      have hfz13_2 := blk_frozen BK117.out 2
      have hfz13_3 := blk_frozen BK117.out 3
      have hfz13_4 := blk_frozen BK117.out 4
      have hfz13_5 := blk_frozen BK117.out 5
      have hfz13_6 := blk_frozen BK117.out 6
      have hfz13_7 := blk_frozen BK117.out 7
      have hfz13_8 := blk_frozen BK117.out 8
      have hfz13_9 := blk_frozen BK117.out 9
      have hfz13_10 := blk_frozen BK117.out 10
      have hfz13_11 := blk_frozen BK117.out 11
      go_wp2
      go_meet
      case rel => exact ⟨_, (false), (by first | rfl | (simp; done) | (simp [*]; done)), H', ⟨by first | omega | exact Nat.le_refl _⟩, ⟨by (with_reducible repeat (first | refine blk_drewN ?_ _ | refine blk_drew ?_ | refine blk_alloc ?_ _)); exact BK117.out⟩, ⟨by repeat (first | (with_reducible first | exact HB.out | apply below_alloc | apply pw_below_drewN | apply below_drew1 | refine below_set ?_ GE117.out) | exact HB.out)⟩⟩
  case rest =>
    clear HC2
    try clear p2
    try clear c3
    try clear c4
    try clear c4b0
    try clear c5
    try clear c5b0
    try clear c7
    try clear c8
    try clear c8b0
    try clear hcz10_0
    try clear hcz10_1
    try clear hcz10_10
    try clear hcz10_11
    try clear hcz10_2
    try clear hcz10_3
    try clear hcz10_4
    try clear hcz10_5
    try clear hcz10_6
    try clear hcz10_7
    try clear hcz10_8
    try clear hcz10_9
    try clear hcz11_0
    try clear hcz11_1
    try clear hcz11_10
    try clear hcz11_11
    try clear hcz11_2
    try clear hcz11_3
    try clear hcz11_4
    try clear hcz11_5
    try clear hcz11_6
    try clear hcz11_7
    try clear hcz11_8
    try clear hcz11_9
    try clear hcz12_0
    try clear hcz12_1
    try clear hcz12_10
    try clear hcz12_11
    try clear hcz12_2
    try clear hcz12_3
    try clear hcz12_4
    try clear hcz12_5
    try clear hcz12_6
    try clear hcz12_7
    try clear hcz12_8
    try clear hcz12_9
    try clear hcz13_0
    try clear hcz13_1
    try clear hcz13_10
    try clear hcz13_11
    try clear hcz13_2
    try clear hcz13_3
    try clear hcz13_4
    try clear hcz13_5
    try clear hcz13_6
    try clear hcz13_7
    try clear hcz13_8
    try clear hcz13_9
    try clear hcz9_0
    try clear hcz9_1
    try clear hcz9_10
    try clear hcz9_11
    try clear hcz9_2
    try clear hcz9_3
    try clear hcz9_4
    try clear hcz9_5
    try clear hcz9_6
    try clear hcz9_7
    try clear hcz9_8
    try clear hcz9_9
    try clear hfz10_0
    try clear hfz10_1
    try clear hfz10_10
    try clear hfz10_11
    try clear hfz10_2
    try clear hfz10_3
    try clear hfz10_4
    try clear hfz10_5
    try clear hfz10_6
    try clear hfz10_7
    try clear hfz10_8
    try clear hfz10_9
    try clear hfz11_0
    try clear hfz11_1
    try clear hfz11_10
    try clear hfz11_11
    try clear hfz11_2
    try clear hfz11_3
    try clear hfz11_4
    try clear hfz11_5
    try clear hfz11_6
    try clear hfz11_7
    try clear hfz11_8
    try clear hfz11_9
    try clear hfz12_0
    try clear hfz12_1
    try clear hfz12_10
    try clear hfz12_11
    try clear hfz12_2
    try clear hfz12_3
    try clear hfz12_4
    try clear hfz12_5
    try clear hfz12_6
    try clear hfz12_7
    try clear hfz12_8
    try clear hfz12_9
    try clear hfz13_0
    try clear hfz13_1
    try clear hfz13_10
    try clear hfz13_11
    try clear hfz13_2
    try clear hfz13_3
    try clear hfz13_4
    try clear hfz13_5
    try clear hfz13_6
    try clear hfz13_7
    try clear hfz13_8
    try clear hfz13_9
    try clear hfz9_0
    try clear hfz9_1
    try clear hfz9_10
    try clear hfz9_11
    try clear hfz9_2
    try clear hfz9_3
    try clear hfz9_4
    try clear hfz9_5
    try clear hfz9_6
    try clear hfz9_7
    try clear hfz9_8
    try clear hfz9_9
    obtain ⟨kq, x3_1, rfl, HA, HJ1, BK117, HB⟩ := hcut
    cases kq with
    | zero => exact absurd HA.out (by simp [rec_Check.j0])
    | succ kj1 =>
      have H := HA.out
      clear HA
      simp only [rec_Check.j0] at H
      replace H := Option.bind_eq_some_iff.mp H
      obtain ⟨t119, A140, H⟩ := H
      replace H : (if t119 = true then (if x3_1 = true then ((rec_page.f a0_5).bind fun t120 => (if t120 = true then ((rec_mayAct.f kj1 a0_6 a0_7 a0_8 a0_9).bind fun t121 => (rec_Check.j1 kj1 t121 a0_0 a0_1 a0_2 a0_3 a0_4 a0_5 a0_6 a0_7 a0_8 a0_9 l0_10 l0_11)) else (rec_Check.j1 kj1 false a0_0 a0_1 a0_2 a0_3 a0_4 a0_5 a0_6 a0_7 a0_8 a0_9 l0_10 l0_11))) else (rec_Check.j1 kj1 false a0_0 a0_1 a0_2 a0_3 a0_4 a0_5 a0_6 a0_7 a0_8 a0_9 l0_10 l0_11)) else (if x3_1 = true then (if a0_5 = 0 then (rec_Check.j1 kj1 (a0_6 == 0 && (a0_7.toList == ([] : List UInt8) && (a0_8.toList == ([] : List UInt8) && (a0_9.toList == ([] : List UInt8))))) a0_0 a0_1 a0_2 a0_3 a0_4 a0_5 a0_6 a0_7 a0_8 a0_9 l0_10 l0_11) else (rec_Check.j1 kj1 false a0_0 a0_1 a0_2 a0_3 a0_4 a0_5 a0_6 a0_7 a0_8 a0_9 l0_10 l0_11)) else (rec_Check.j1 kj1 false a0_0 a0_1 a0_2 a0_3 a0_4 a0_5 a0_6 a0_7 a0_8 a0_9 l0_10 l0_11))) = some r := H
      have A14 := Aside0.mk A140
      clear A140
      have HC15 := Aside0.mk H
      clear H
      have hcz16_0 : wc.cell? ⟨gb117, 0, none⟩ = some (.int .i64 a0_0) := (blk_cell BK117.out 0).trans rfl
      have hcz16_1 : wc.cell? ⟨gb117, 1, none⟩ = some (.int .u64 a0_1) := (blk_cell BK117.out 1).trans rfl
      have hcz16_2 : wc.cell? ⟨gb117, 2, none⟩ = some (.int .i64 a0_2) := (blk_cell BK117.out 2).trans rfl
      have hcz16_3 : wc.cell? ⟨gb117, 3, none⟩ = some (.int .u64 a0_3) := (blk_cell BK117.out 3).trans rfl
      have hcz16_4 : wc.cell? ⟨gb117, 4, none⟩ = some (.int .u64 a0_4) := (blk_cell BK117.out 4).trans rfl
      have hcz16_5 : wc.cell? ⟨gb117, 5, none⟩ = some (.int .i64 a0_5) := (blk_cell BK117.out 5).trans rfl
      have hcz16_6 : wc.cell? ⟨gb117, 6, none⟩ = some (.int .i64 a0_6) := (blk_cell BK117.out 6).trans rfl
      have hcz16_7 : wc.cell? ⟨gb117, 7, none⟩ = some (.string a0_7) := (blk_cell BK117.out 7).trans rfl
      have hcz16_8 : wc.cell? ⟨gb117, 8, none⟩ = some (.string a0_8) := (blk_cell BK117.out 8).trans rfl
      have hcz16_9 : wc.cell? ⟨gb117, 9, none⟩ = some (.string a0_9) := (blk_cell BK117.out 9).trans rfl
      have hcz16_10 : wc.cell? ⟨gb117, 10, none⟩ = some (.slice A0_10 l0_10.length c0_10) := (blk_cell BK117.out 10).trans rfl
      have hcz16_11 : wc.cell? ⟨gb117, 11, none⟩ = some (.slice A0_11 l0_11.length c0_11) := (blk_cell BK117.out 11).trans rfl
      have hfz16_0 := blk_frozen BK117.out 0
      have hfz16_1 := blk_frozen BK117.out 1
      have hfz16_2 := blk_frozen BK117.out 2
      have hfz16_3 := blk_frozen BK117.out 3
      have hfz16_4 := blk_frozen BK117.out 4
      have hfz16_5 := blk_frozen BK117.out 5
      have hfz16_6 := blk_frozen BK117.out 6
      have hfz16_7 := blk_frozen BK117.out 7
      have hfz16_8 := blk_frozen BK117.out 8
      have hfz16_9 := blk_frozen BK117.out 9
      have hfz16_10 := blk_frozen BK117.out 10
      have hfz16_11 := blk_frozen BK117.out 11
      go_upto_if 33 with (first | ((with_reducible refine gate_callee (f := 44) rfl ?_); refine goesL_ (some 33) rfl rfl Try.func44 (by kernel_rfl) rfl #[.int .i64 a0_0] rfl (by (try simp only [List.map_toArray, List.map_cons, List.map_nil]); first | done | rfl | (simp only [List.length_drop, List.length_take]; rfl)) ?_; (with_reducible refine (rec_changes.calls a0_0 t119 _ A14.out).mono ?_); rintro e w' ⟨rfl, ⟨nd, rfl⟩⟩; refine ⟨_, rfl, ?_⟩))
      (try simp only [Act.put, List.setIfInBounds_toArray, List.set_cons_zero, List.set_cons_succ])
      go_cut [3] (fun v3 wc => ∃ (kq : Nat) (x3_14 : Bool), v3 = .bool x3_14 ∧ Aside0 (rec_Check.j1 kq x3_14 a0_0 a0_1 a0_2 a0_3 a0_4 a0_5 a0_6 a0_7 a0_8 a0_9 l0_10 l0_11 = some r) ∧ Aside0 (kq ≤ kj1) ∧ Aside0 (wc.heap[gb117]? = some (.cells #[.int .i64 a0_0, .int .u64 a0_1, .int .i64 a0_2, .int .u64 a0_3, .int .u64 a0_4, .int .i64 a0_5, .int .i64 a0_6, .string a0_7, .string a0_8, .string a0_9, (.slice A0_10 l0_10.length c0_10), (.slice A0_11 l0_11.length c0_11)] 43 (0, 0))) ∧ Aside0 (Below w.heap.size w wc))
      case first =>
        have H := HC15.out
        clear HC15
        by_cases c17 : t119 = true
        · subst c17
          have H1 : (if x3_1 = true then ((rec_page.f a0_5).bind fun t120 => (if t120 = true then ((rec_mayAct.f kj1 a0_6 a0_7 a0_8 a0_9).bind fun t121 => (rec_Check.j1 kj1 t121 a0_0 a0_1 a0_2 a0_3 a0_4 a0_5 a0_6 a0_7 a0_8 a0_9 l0_10 l0_11)) else (rec_Check.j1 kj1 false a0_0 a0_1 a0_2 a0_3 a0_4 a0_5 a0_6 a0_7 a0_8 a0_9 l0_10 l0_11))) else (rec_Check.j1 kj1 false a0_0 a0_1 a0_2 a0_3 a0_4 a0_5 a0_6 a0_7 a0_8 a0_9 l0_10 l0_11)) = some r := by rw [if_pos rfl] at H; exact H
          clear H
          have H := H1
          clear H1
          by_cases c18 : x3_1 = true
          · subst c18
            have H1 : ((rec_page.f a0_5).bind fun t120 => (if t120 = true then ((rec_mayAct.f kj1 a0_6 a0_7 a0_8 a0_9).bind fun t121 => (rec_Check.j1 kj1 t121 a0_0 a0_1 a0_2 a0_3 a0_4 a0_5 a0_6 a0_7 a0_8 a0_9 l0_10 l0_11)) else (rec_Check.j1 kj1 false a0_0 a0_1 a0_2 a0_3 a0_4 a0_5 a0_6 a0_7 a0_8 a0_9 l0_10 l0_11))) = some r := by rw [if_pos rfl] at H; exact H
            clear H
            have H := H1
            clear H1
            replace H := Option.bind_eq_some_iff.mp H
            obtain ⟨t120, A190, H⟩ := H
            replace H : (if t120 = true then ((rec_mayAct.f kj1 a0_6 a0_7 a0_8 a0_9).bind fun t121 => (rec_Check.j1 kj1 t121 a0_0 a0_1 a0_2 a0_3 a0_4 a0_5 a0_6 a0_7 a0_8 a0_9 l0_10 l0_11)) else (rec_Check.j1 kj1 false a0_0 a0_1 a0_2 a0_3 a0_4 a0_5 a0_6 a0_7 a0_8 a0_9 l0_10 l0_11)) = some r := H
            have A19 := Aside0.mk A190
            clear A190
            by_cases c20 : t120 = true
            · subst c20
              have H1 : ((rec_mayAct.f kj1 a0_6 a0_7 a0_8 a0_9).bind fun t121 => (rec_Check.j1 kj1 t121 a0_0 a0_1 a0_2 a0_3 a0_4 a0_5 a0_6 a0_7 a0_8 a0_9 l0_10 l0_11)) = some r := by rw [if_pos rfl] at H; exact H
              clear H
              have H := H1
              clear H1
              replace H := Option.bind_eq_some_iff.mp H
              obtain ⟨t121, A210, H⟩ := H
              replace H : (rec_Check.j1 kj1 t121 a0_0 a0_1 a0_2 a0_3 a0_4 a0_5 a0_6 a0_7 a0_8 a0_9 l0_10 l0_11) = some r := H
              have A21 := Aside0.mk A210
              clear A210
              have H' := Aside0.mk H
              clear H
              have hcz22_0 : wc.cell? ⟨gb117, 0, none⟩ = some (.int .i64 a0_0) := (blk_cell BK117.out 0).trans rfl
              have hcz22_1 : wc.cell? ⟨gb117, 1, none⟩ = some (.int .u64 a0_1) := (blk_cell BK117.out 1).trans rfl
              have hcz22_2 : wc.cell? ⟨gb117, 2, none⟩ = some (.int .i64 a0_2) := (blk_cell BK117.out 2).trans rfl
              have hcz22_3 : wc.cell? ⟨gb117, 3, none⟩ = some (.int .u64 a0_3) := (blk_cell BK117.out 3).trans rfl
              have hcz22_4 : wc.cell? ⟨gb117, 4, none⟩ = some (.int .u64 a0_4) := (blk_cell BK117.out 4).trans rfl
              have hcz22_5 : wc.cell? ⟨gb117, 5, none⟩ = some (.int .i64 a0_5) := (blk_cell BK117.out 5).trans rfl
              have hcz22_6 : wc.cell? ⟨gb117, 6, none⟩ = some (.int .i64 a0_6) := (blk_cell BK117.out 6).trans rfl
              have hcz22_7 : wc.cell? ⟨gb117, 7, none⟩ = some (.string a0_7) := (blk_cell BK117.out 7).trans rfl
              have hcz22_8 : wc.cell? ⟨gb117, 8, none⟩ = some (.string a0_8) := (blk_cell BK117.out 8).trans rfl
              have hcz22_9 : wc.cell? ⟨gb117, 9, none⟩ = some (.string a0_9) := (blk_cell BK117.out 9).trans rfl
              have hcz22_10 : wc.cell? ⟨gb117, 10, none⟩ = some (.slice A0_10 l0_10.length c0_10) := (blk_cell BK117.out 10).trans rfl
              have hcz22_11 : wc.cell? ⟨gb117, 11, none⟩ = some (.slice A0_11 l0_11.length c0_11) := (blk_cell BK117.out 11).trans rfl
              have hfz22_0 := blk_frozen BK117.out 0
              have hfz22_1 := blk_frozen BK117.out 1
              have hfz22_2 := blk_frozen BK117.out 2
              have hfz22_3 := blk_frozen BK117.out 3
              have hfz22_4 := blk_frozen BK117.out 4
              have hfz22_5 := blk_frozen BK117.out 5
              have hfz22_6 := blk_frozen BK117.out 6
              have hfz22_7 := blk_frozen BK117.out 7
              have hfz22_8 := blk_frozen BK117.out 8
              have hfz22_9 := blk_frozen BK117.out 9
              have hfz22_10 := blk_frozen BK117.out 10
              have hfz22_11 := blk_frozen BK117.out 11
              go_wp2_with (first | (go_at_call 45; (with_reducible refine (rec_page.calls a0_5 true _ A19.out).mono ?_); rintro e w' ⟨rfl, ⟨nd, rfl⟩⟩) | (go_at_call 46; (with_reducible refine (rec_mayAct.calls kj1 a0_6 a0_7 a0_8 a0_9 t121 _ A21.out).mono ?_); rintro e w23 ⟨rfl, hb⟩; have n0_ := Aside0.mk (blk_below (g := gb117) (o := .cells #[.int .i64 a0_0, .int .u64 a0_1, .int .i64 a0_2, .int .u64 a0_3, .int .u64 a0_4, .int .i64 a0_5, .int .i64 a0_6, .string a0_7, .string a0_8, .string a0_9, .slice A0_10 l0_10.length c0_10, .slice A0_11 l0_11.length c0_11] 43 (0, 0)) (by (with_reducible repeat (first | refine blk_drewN ?_ _ | refine blk_drew ?_ | refine blk_alloc ?_ _)); exact BK117.out) hb); have n1_ := Aside0.mk (below_step (by repeat (first | (with_reducible first | exact HB.out | apply below_alloc | apply pw_below_drewN | apply below_drew1 | refine below_set ?_ GE117.out) | exact HB.out)) hb); clear BK117; clear HB; have BK117 := n0_; have HB := n1_; clear n0_ n1_; (try clear hb); (try clear hb2); (try clear hk); (try clear hi)))
              go_meet
              case rel => exact ⟨_, (t121), (by first | rfl | (simp; done) | (simp [*]; done)), H', ⟨by have := HJ1.out; first | omega | exact Nat.le_refl _⟩, ⟨by (with_reducible repeat (first | refine blk_drewN ?_ _ | refine blk_drew ?_ | refine blk_alloc ?_ _)); exact BK117.out⟩, ⟨by repeat (first | (with_reducible first | exact HB.out | apply below_alloc | apply pw_below_drewN | apply below_drew1 | refine below_set ?_ GE117.out) | exact HB.out)⟩⟩
            · replace c20 := Bool.eq_false_iff.mpr c20
              subst c20
              have H1 : (rec_Check.j1 kj1 false a0_0 a0_1 a0_2 a0_3 a0_4 a0_5 a0_6 a0_7 a0_8 a0_9 l0_10 l0_11) = some r := by rw [if_neg (show ¬ (false = true) by decide)] at H; exact H
              clear H
              have H := H1
              clear H1
              have H' := Aside0.mk H
              clear H
              have hcz24_0 : wc.cell? ⟨gb117, 0, none⟩ = some (.int .i64 a0_0) := (blk_cell BK117.out 0).trans rfl
              have hcz24_1 : wc.cell? ⟨gb117, 1, none⟩ = some (.int .u64 a0_1) := (blk_cell BK117.out 1).trans rfl
              have hcz24_2 : wc.cell? ⟨gb117, 2, none⟩ = some (.int .i64 a0_2) := (blk_cell BK117.out 2).trans rfl
              have hcz24_3 : wc.cell? ⟨gb117, 3, none⟩ = some (.int .u64 a0_3) := (blk_cell BK117.out 3).trans rfl
              have hcz24_4 : wc.cell? ⟨gb117, 4, none⟩ = some (.int .u64 a0_4) := (blk_cell BK117.out 4).trans rfl
              have hcz24_5 : wc.cell? ⟨gb117, 5, none⟩ = some (.int .i64 a0_5) := (blk_cell BK117.out 5).trans rfl
              have hcz24_6 : wc.cell? ⟨gb117, 6, none⟩ = some (.int .i64 a0_6) := (blk_cell BK117.out 6).trans rfl
              have hcz24_7 : wc.cell? ⟨gb117, 7, none⟩ = some (.string a0_7) := (blk_cell BK117.out 7).trans rfl
              have hcz24_8 : wc.cell? ⟨gb117, 8, none⟩ = some (.string a0_8) := (blk_cell BK117.out 8).trans rfl
              have hcz24_9 : wc.cell? ⟨gb117, 9, none⟩ = some (.string a0_9) := (blk_cell BK117.out 9).trans rfl
              have hcz24_10 : wc.cell? ⟨gb117, 10, none⟩ = some (.slice A0_10 l0_10.length c0_10) := (blk_cell BK117.out 10).trans rfl
              have hcz24_11 : wc.cell? ⟨gb117, 11, none⟩ = some (.slice A0_11 l0_11.length c0_11) := (blk_cell BK117.out 11).trans rfl
              have hfz24_0 := blk_frozen BK117.out 0
              have hfz24_1 := blk_frozen BK117.out 1
              have hfz24_2 := blk_frozen BK117.out 2
              have hfz24_3 := blk_frozen BK117.out 3
              have hfz24_4 := blk_frozen BK117.out 4
              have hfz24_5 := blk_frozen BK117.out 5
              have hfz24_6 := blk_frozen BK117.out 6
              have hfz24_7 := blk_frozen BK117.out 7
              have hfz24_8 := blk_frozen BK117.out 8
              have hfz24_9 := blk_frozen BK117.out 9
              have hfz24_10 := blk_frozen BK117.out 10
              have hfz24_11 := blk_frozen BK117.out 11
              go_wp2_with (first | (go_at_call 45; (with_reducible refine (rec_page.calls a0_5 false _ A19.out).mono ?_); rintro e w' ⟨rfl, ⟨nd, rfl⟩⟩))
              go_meet
              case rel => exact ⟨_, (false), (by first | rfl | (simp; done) | (simp [*]; done)), H', ⟨by have := HJ1.out; first | omega | exact Nat.le_refl _⟩, ⟨by (with_reducible repeat (first | refine blk_drewN ?_ _ | refine blk_drew ?_ | refine blk_alloc ?_ _)); exact BK117.out⟩, ⟨by repeat (first | (with_reducible first | exact HB.out | apply below_alloc | apply pw_below_drewN | apply below_drew1 | refine below_set ?_ GE117.out) | exact HB.out)⟩⟩
          · replace c18 := Bool.eq_false_iff.mpr c18
            subst c18
            have H1 : (rec_Check.j1 kj1 false a0_0 a0_1 a0_2 a0_3 a0_4 a0_5 a0_6 a0_7 a0_8 a0_9 l0_10 l0_11) = some r := by rw [if_neg (show ¬ (false = true) by decide)] at H; exact H
            clear H
            have H := H1
            clear H1
            have H' := Aside0.mk H
            clear H
            go_wp2
            go_meet
            case rel => exact ⟨_, (false), (by first | rfl | (simp; done) | (simp [*]; done)), H', ⟨by have := HJ1.out; first | omega | exact Nat.le_refl _⟩, ⟨by (with_reducible repeat (first | refine blk_drewN ?_ _ | refine blk_drew ?_ | refine blk_alloc ?_ _)); exact BK117.out⟩, ⟨by repeat (first | (with_reducible first | exact HB.out | apply below_alloc | apply pw_below_drewN | apply below_drew1 | refine below_set ?_ GE117.out) | exact HB.out)⟩⟩
        · replace c17 := Bool.eq_false_iff.mpr c17
          subst c17
          have H1 : (if x3_1 = true then (if a0_5 = 0 then (rec_Check.j1 kj1 (a0_6 == 0 && (a0_7.toList == ([] : List UInt8) && (a0_8.toList == ([] : List UInt8) && (a0_9.toList == ([] : List UInt8))))) a0_0 a0_1 a0_2 a0_3 a0_4 a0_5 a0_6 a0_7 a0_8 a0_9 l0_10 l0_11) else (rec_Check.j1 kj1 false a0_0 a0_1 a0_2 a0_3 a0_4 a0_5 a0_6 a0_7 a0_8 a0_9 l0_10 l0_11)) else (rec_Check.j1 kj1 false a0_0 a0_1 a0_2 a0_3 a0_4 a0_5 a0_6 a0_7 a0_8 a0_9 l0_10 l0_11)) = some r := by rw [if_neg (show ¬ (false = true) by decide)] at H; exact H
          clear H
          have H := H1
          clear H1
          by_cases c25 : x3_1 = true
          · subst c25
            have H1 : (if a0_5 = 0 then (rec_Check.j1 kj1 (a0_6 == 0 && (a0_7.toList == ([] : List UInt8) && (a0_8.toList == ([] : List UInt8) && (a0_9.toList == ([] : List UInt8))))) a0_0 a0_1 a0_2 a0_3 a0_4 a0_5 a0_6 a0_7 a0_8 a0_9 l0_10 l0_11) else (rec_Check.j1 kj1 false a0_0 a0_1 a0_2 a0_3 a0_4 a0_5 a0_6 a0_7 a0_8 a0_9 l0_10 l0_11)) = some r := by rw [if_pos rfl] at H; exact H
            clear H
            have H := H1
            clear H1
            by_cases c26 : a0_5 = 0
            · rw [if_pos c26] at H
              have c26b0 : (a0_5 == 0) = true := beq_iff_eq.mpr c26
              have c26b1 : (a0_5 != 0) = false := bne_eq_false_iff_eq.mpr c26
              clear c26
              (first | rw [c26b0] | (simp only [i64_w, i32_w]; rw [c26b0]) | skip)
              have H' := Aside0.mk H
              clear H
              have hcz27_0 : wc.cell? ⟨gb117, 0, none⟩ = some (.int .i64 a0_0) := (blk_cell BK117.out 0).trans rfl
              have hcz27_1 : wc.cell? ⟨gb117, 1, none⟩ = some (.int .u64 a0_1) := (blk_cell BK117.out 1).trans rfl
              have hcz27_2 : wc.cell? ⟨gb117, 2, none⟩ = some (.int .i64 a0_2) := (blk_cell BK117.out 2).trans rfl
              have hcz27_3 : wc.cell? ⟨gb117, 3, none⟩ = some (.int .u64 a0_3) := (blk_cell BK117.out 3).trans rfl
              have hcz27_4 : wc.cell? ⟨gb117, 4, none⟩ = some (.int .u64 a0_4) := (blk_cell BK117.out 4).trans rfl
              have hcz27_5 : wc.cell? ⟨gb117, 5, none⟩ = some (.int .i64 a0_5) := (blk_cell BK117.out 5).trans rfl
              have hcz27_6 : wc.cell? ⟨gb117, 6, none⟩ = some (.int .i64 a0_6) := (blk_cell BK117.out 6).trans rfl
              have hcz27_7 : wc.cell? ⟨gb117, 7, none⟩ = some (.string a0_7) := (blk_cell BK117.out 7).trans rfl
              have hcz27_8 : wc.cell? ⟨gb117, 8, none⟩ = some (.string a0_8) := (blk_cell BK117.out 8).trans rfl
              have hcz27_9 : wc.cell? ⟨gb117, 9, none⟩ = some (.string a0_9) := (blk_cell BK117.out 9).trans rfl
              have hcz27_10 : wc.cell? ⟨gb117, 10, none⟩ = some (.slice A0_10 l0_10.length c0_10) := (blk_cell BK117.out 10).trans rfl
              have hcz27_11 : wc.cell? ⟨gb117, 11, none⟩ = some (.slice A0_11 l0_11.length c0_11) := (blk_cell BK117.out 11).trans rfl
              have hfz27_0 := blk_frozen BK117.out 0
              have hfz27_1 := blk_frozen BK117.out 1
              have hfz27_2 := blk_frozen BK117.out 2
              have hfz27_3 := blk_frozen BK117.out 3
              have hfz27_4 := blk_frozen BK117.out 4
              have hfz27_5 := blk_frozen BK117.out 5
              have hfz27_6 := blk_frozen BK117.out 6
              have hfz27_7 := blk_frozen BK117.out 7
              have hfz27_8 := blk_frozen BK117.out 8
              have hfz27_9 := blk_frozen BK117.out 9
              have hfz27_10 := blk_frozen BK117.out 10
              have hfz27_11 := blk_frozen BK117.out 11
              go_wp2
              go_meet
              case rel => exact ⟨_, ((a0_6 == 0 && (a0_7.toList == ([] : List UInt8) && (a0_8.toList == ([] : List UInt8) && (a0_9.toList == ([] : List UInt8)))))), (by first | rfl | (simp; done) | (simp [*]; done)), H', ⟨by have := HJ1.out; first | omega | exact Nat.le_refl _⟩, ⟨by (with_reducible repeat (first | refine blk_drewN ?_ _ | refine blk_drew ?_ | refine blk_alloc ?_ _)); exact BK117.out⟩, ⟨by repeat (first | (with_reducible first | exact HB.out | apply below_alloc | apply pw_below_drewN | apply below_drew1 | refine below_set ?_ GE117.out) | exact HB.out)⟩⟩
            · rw [if_neg c26] at H
              have c26b0 : (a0_5 == 0) = false := beq_eq_false_iff_ne.mpr c26
              have c26b1 : (a0_5 != 0) = true := bne_iff_ne.mpr c26
              (first | rw [c26b0] | (simp only [i64_w, i32_w]; rw [c26b0]) | skip)
              have H' := Aside0.mk H
              clear H
              have hcz28_0 : wc.cell? ⟨gb117, 0, none⟩ = some (.int .i64 a0_0) := (blk_cell BK117.out 0).trans rfl
              have hcz28_1 : wc.cell? ⟨gb117, 1, none⟩ = some (.int .u64 a0_1) := (blk_cell BK117.out 1).trans rfl
              have hcz28_2 : wc.cell? ⟨gb117, 2, none⟩ = some (.int .i64 a0_2) := (blk_cell BK117.out 2).trans rfl
              have hcz28_3 : wc.cell? ⟨gb117, 3, none⟩ = some (.int .u64 a0_3) := (blk_cell BK117.out 3).trans rfl
              have hcz28_4 : wc.cell? ⟨gb117, 4, none⟩ = some (.int .u64 a0_4) := (blk_cell BK117.out 4).trans rfl
              have hcz28_5 : wc.cell? ⟨gb117, 5, none⟩ = some (.int .i64 a0_5) := (blk_cell BK117.out 5).trans rfl
              have hcz28_6 : wc.cell? ⟨gb117, 6, none⟩ = some (.int .i64 a0_6) := (blk_cell BK117.out 6).trans rfl
              have hcz28_7 : wc.cell? ⟨gb117, 7, none⟩ = some (.string a0_7) := (blk_cell BK117.out 7).trans rfl
              have hcz28_8 : wc.cell? ⟨gb117, 8, none⟩ = some (.string a0_8) := (blk_cell BK117.out 8).trans rfl
              have hcz28_9 : wc.cell? ⟨gb117, 9, none⟩ = some (.string a0_9) := (blk_cell BK117.out 9).trans rfl
              have hcz28_10 : wc.cell? ⟨gb117, 10, none⟩ = some (.slice A0_10 l0_10.length c0_10) := (blk_cell BK117.out 10).trans rfl
              have hcz28_11 : wc.cell? ⟨gb117, 11, none⟩ = some (.slice A0_11 l0_11.length c0_11) := (blk_cell BK117.out 11).trans rfl
              have hfz28_0 := blk_frozen BK117.out 0
              have hfz28_1 := blk_frozen BK117.out 1
              have hfz28_2 := blk_frozen BK117.out 2
              have hfz28_3 := blk_frozen BK117.out 3
              have hfz28_4 := blk_frozen BK117.out 4
              have hfz28_5 := blk_frozen BK117.out 5
              have hfz28_6 := blk_frozen BK117.out 6
              have hfz28_7 := blk_frozen BK117.out 7
              have hfz28_8 := blk_frozen BK117.out 8
              have hfz28_9 := blk_frozen BK117.out 9
              have hfz28_10 := blk_frozen BK117.out 10
              have hfz28_11 := blk_frozen BK117.out 11
              go_wp2
              go_meet
              case rel => exact ⟨_, (false), (by first | rfl | (simp; done) | (simp [*]; done)), H', ⟨by have := HJ1.out; first | omega | exact Nat.le_refl _⟩, ⟨by (with_reducible repeat (first | refine blk_drewN ?_ _ | refine blk_drew ?_ | refine blk_alloc ?_ _)); exact BK117.out⟩, ⟨by repeat (first | (with_reducible first | exact HB.out | apply below_alloc | apply pw_below_drewN | apply below_drew1 | refine below_set ?_ GE117.out) | exact HB.out)⟩⟩
          · replace c25 := Bool.eq_false_iff.mpr c25
            subst c25
            have H1 : (rec_Check.j1 kj1 false a0_0 a0_1 a0_2 a0_3 a0_4 a0_5 a0_6 a0_7 a0_8 a0_9 l0_10 l0_11) = some r := by rw [if_neg (show ¬ (false = true) by decide)] at H; exact H
            clear H
            have H := H1
            clear H1
            have H' := Aside0.mk H
            clear H
            go_wp2
            go_meet
            case rel => exact ⟨_, (false), (by first | rfl | (simp; done) | (simp [*]; done)), H', ⟨by have := HJ1.out; first | omega | exact Nat.le_refl _⟩, ⟨by (with_reducible repeat (first | refine blk_drewN ?_ _ | refine blk_drew ?_ | refine blk_alloc ?_ _)); exact BK117.out⟩, ⟨by repeat (first | (with_reducible first | exact HB.out | apply below_alloc | apply pw_below_drewN | apply below_drew1 | refine below_set ?_ GE117.out) | exact HB.out)⟩⟩
      case rest =>
        clear HC15
        try clear c1
        try clear c2
        try clear p2
        try clear c3
        try clear c4
        try clear c4b0
        try clear c5
        try clear c5b0
        try clear c7
        try clear c8
        try clear c8b0
        try clear c17
        try clear c18
        try clear c20
        try clear c25
        try clear c26
        try clear c26b0
        try clear c26b1
        try clear hcz10_0
        try clear hcz10_1
        try clear hcz10_10
        try clear hcz10_11
        try clear hcz10_2
        try clear hcz10_3
        try clear hcz10_4
        try clear hcz10_5
        try clear hcz10_6
        try clear hcz10_7
        try clear hcz10_8
        try clear hcz10_9
        try clear hcz11_0
        try clear hcz11_1
        try clear hcz11_10
        try clear hcz11_11
        try clear hcz11_2
        try clear hcz11_3
        try clear hcz11_4
        try clear hcz11_5
        try clear hcz11_6
        try clear hcz11_7
        try clear hcz11_8
        try clear hcz11_9
        try clear hcz12_0
        try clear hcz12_1
        try clear hcz12_10
        try clear hcz12_11
        try clear hcz12_2
        try clear hcz12_3
        try clear hcz12_4
        try clear hcz12_5
        try clear hcz12_6
        try clear hcz12_7
        try clear hcz12_8
        try clear hcz12_9
        try clear hcz13_0
        try clear hcz13_1
        try clear hcz13_10
        try clear hcz13_11
        try clear hcz13_2
        try clear hcz13_3
        try clear hcz13_4
        try clear hcz13_5
        try clear hcz13_6
        try clear hcz13_7
        try clear hcz13_8
        try clear hcz13_9
        try clear hcz16_0
        try clear hcz16_1
        try clear hcz16_10
        try clear hcz16_11
        try clear hcz16_2
        try clear hcz16_3
        try clear hcz16_4
        try clear hcz16_5
        try clear hcz16_6
        try clear hcz16_7
        try clear hcz16_8
        try clear hcz16_9
        try clear hcz22_0
        try clear hcz22_1
        try clear hcz22_10
        try clear hcz22_11
        try clear hcz22_2
        try clear hcz22_3
        try clear hcz22_4
        try clear hcz22_5
        try clear hcz22_6
        try clear hcz22_7
        try clear hcz22_8
        try clear hcz22_9
        try clear hcz24_0
        try clear hcz24_1
        try clear hcz24_10
        try clear hcz24_11
        try clear hcz24_2
        try clear hcz24_3
        try clear hcz24_4
        try clear hcz24_5
        try clear hcz24_6
        try clear hcz24_7
        try clear hcz24_8
        try clear hcz24_9
        try clear hcz27_0
        try clear hcz27_1
        try clear hcz27_10
        try clear hcz27_11
        try clear hcz27_2
        try clear hcz27_3
        try clear hcz27_4
        try clear hcz27_5
        try clear hcz27_6
        try clear hcz27_7
        try clear hcz27_8
        try clear hcz27_9
        try clear hcz28_0
        try clear hcz28_1
        try clear hcz28_10
        try clear hcz28_11
        try clear hcz28_2
        try clear hcz28_3
        try clear hcz28_4
        try clear hcz28_5
        try clear hcz28_6
        try clear hcz28_7
        try clear hcz28_8
        try clear hcz28_9
        try clear hcz9_0
        try clear hcz9_1
        try clear hcz9_10
        try clear hcz9_11
        try clear hcz9_2
        try clear hcz9_3
        try clear hcz9_4
        try clear hcz9_5
        try clear hcz9_6
        try clear hcz9_7
        try clear hcz9_8
        try clear hcz9_9
        try clear hfz10_0
        try clear hfz10_1
        try clear hfz10_10
        try clear hfz10_11
        try clear hfz10_2
        try clear hfz10_3
        try clear hfz10_4
        try clear hfz10_5
        try clear hfz10_6
        try clear hfz10_7
        try clear hfz10_8
        try clear hfz10_9
        try clear hfz11_0
        try clear hfz11_1
        try clear hfz11_10
        try clear hfz11_11
        try clear hfz11_2
        try clear hfz11_3
        try clear hfz11_4
        try clear hfz11_5
        try clear hfz11_6
        try clear hfz11_7
        try clear hfz11_8
        try clear hfz11_9
        try clear hfz12_0
        try clear hfz12_1
        try clear hfz12_10
        try clear hfz12_11
        try clear hfz12_2
        try clear hfz12_3
        try clear hfz12_4
        try clear hfz12_5
        try clear hfz12_6
        try clear hfz12_7
        try clear hfz12_8
        try clear hfz12_9
        try clear hfz13_0
        try clear hfz13_1
        try clear hfz13_10
        try clear hfz13_11
        try clear hfz13_2
        try clear hfz13_3
        try clear hfz13_4
        try clear hfz13_5
        try clear hfz13_6
        try clear hfz13_7
        try clear hfz13_8
        try clear hfz13_9
        try clear hfz16_0
        try clear hfz16_1
        try clear hfz16_10
        try clear hfz16_11
        try clear hfz16_2
        try clear hfz16_3
        try clear hfz16_4
        try clear hfz16_5
        try clear hfz16_6
        try clear hfz16_7
        try clear hfz16_8
        try clear hfz16_9
        try clear hfz22_0
        try clear hfz22_1
        try clear hfz22_10
        try clear hfz22_11
        try clear hfz22_2
        try clear hfz22_3
        try clear hfz22_4
        try clear hfz22_5
        try clear hfz22_6
        try clear hfz22_7
        try clear hfz22_8
        try clear hfz22_9
        try clear hfz24_0
        try clear hfz24_1
        try clear hfz24_10
        try clear hfz24_11
        try clear hfz24_2
        try clear hfz24_3
        try clear hfz24_4
        try clear hfz24_5
        try clear hfz24_6
        try clear hfz24_7
        try clear hfz24_8
        try clear hfz24_9
        try clear hfz27_0
        try clear hfz27_1
        try clear hfz27_10
        try clear hfz27_11
        try clear hfz27_2
        try clear hfz27_3
        try clear hfz27_4
        try clear hfz27_5
        try clear hfz27_6
        try clear hfz27_7
        try clear hfz27_8
        try clear hfz27_9
        try clear hfz28_0
        try clear hfz28_1
        try clear hfz28_10
        try clear hfz28_11
        try clear hfz28_2
        try clear hfz28_3
        try clear hfz28_4
        try clear hfz28_5
        try clear hfz28_6
        try clear hfz28_7
        try clear hfz28_8
        try clear hfz28_9
        try clear hfz9_0
        try clear hfz9_1
        try clear hfz9_10
        try clear hfz9_11
        try clear hfz9_2
        try clear hfz9_3
        try clear hfz9_4
        try clear hfz9_5
        try clear hfz9_6
        try clear hfz9_7
        try clear hfz9_8
        try clear hfz9_9
        try clear p2
        obtain ⟨kq, x3_14, rfl, HA, HJ14, BK117, HB⟩ := hcut
        cases kq with
        | zero => exact absurd HA.out (by simp [rec_Check.j1])
        | succ kj14 =>
          have H := HA.out
          clear HA
          simp only [rec_Check.j1] at H
          replace H := Option.bind_eq_some_iff.mp H
          obtain ⟨t122, A290, H⟩ := H
          replace H : (if t122 = true then (if x3_14 = true then (if a0_2 = 0 then (rec_Check.j2 kj14 (a0_3 == 0) a0_0 a0_1 a0_2 a0_3 a0_4 a0_5 a0_6 a0_7 a0_8 a0_9 l0_10 l0_11) else (rec_Check.j2 kj14 false a0_0 a0_1 a0_2 a0_3 a0_4 a0_5 a0_6 a0_7 a0_8 a0_9 l0_10 l0_11)) else (rec_Check.j2 kj14 false a0_0 a0_1 a0_2 a0_3 a0_4 a0_5 a0_6 a0_7 a0_8 a0_9 l0_10 l0_11)) else (if x3_14 = true then ((rec_txn.f a0_2).bind fun t123 => (rec_Check.j2 kj14 t123 a0_0 a0_1 a0_2 a0_3 a0_4 a0_5 a0_6 a0_7 a0_8 a0_9 l0_10 l0_11)) else (rec_Check.j2 kj14 false a0_0 a0_1 a0_2 a0_3 a0_4 a0_5 a0_6 a0_7 a0_8 a0_9 l0_10 l0_11))) = some r := H
          have A29 := Aside0.mk A290
          clear A290
          have HC30 := Aside0.mk H
          clear H
          have hcz31_0 : wc.cell? ⟨gb117, 0, none⟩ = some (.int .i64 a0_0) := (blk_cell BK117.out 0).trans rfl
          have hcz31_1 : wc.cell? ⟨gb117, 1, none⟩ = some (.int .u64 a0_1) := (blk_cell BK117.out 1).trans rfl
          have hcz31_2 : wc.cell? ⟨gb117, 2, none⟩ = some (.int .i64 a0_2) := (blk_cell BK117.out 2).trans rfl
          have hcz31_3 : wc.cell? ⟨gb117, 3, none⟩ = some (.int .u64 a0_3) := (blk_cell BK117.out 3).trans rfl
          have hcz31_4 : wc.cell? ⟨gb117, 4, none⟩ = some (.int .u64 a0_4) := (blk_cell BK117.out 4).trans rfl
          have hcz31_5 : wc.cell? ⟨gb117, 5, none⟩ = some (.int .i64 a0_5) := (blk_cell BK117.out 5).trans rfl
          have hcz31_6 : wc.cell? ⟨gb117, 6, none⟩ = some (.int .i64 a0_6) := (blk_cell BK117.out 6).trans rfl
          have hcz31_7 : wc.cell? ⟨gb117, 7, none⟩ = some (.string a0_7) := (blk_cell BK117.out 7).trans rfl
          have hcz31_8 : wc.cell? ⟨gb117, 8, none⟩ = some (.string a0_8) := (blk_cell BK117.out 8).trans rfl
          have hcz31_9 : wc.cell? ⟨gb117, 9, none⟩ = some (.string a0_9) := (blk_cell BK117.out 9).trans rfl
          have hcz31_10 : wc.cell? ⟨gb117, 10, none⟩ = some (.slice A0_10 l0_10.length c0_10) := (blk_cell BK117.out 10).trans rfl
          have hcz31_11 : wc.cell? ⟨gb117, 11, none⟩ = some (.slice A0_11 l0_11.length c0_11) := (blk_cell BK117.out 11).trans rfl
          have hfz31_0 := blk_frozen BK117.out 0
          have hfz31_1 := blk_frozen BK117.out 1
          have hfz31_2 := blk_frozen BK117.out 2
          have hfz31_3 := blk_frozen BK117.out 3
          have hfz31_4 := blk_frozen BK117.out 4
          have hfz31_5 := blk_frozen BK117.out 5
          have hfz31_6 := blk_frozen BK117.out 6
          have hfz31_7 := blk_frozen BK117.out 7
          have hfz31_8 := blk_frozen BK117.out 8
          have hfz31_9 := blk_frozen BK117.out 9
          have hfz31_10 := blk_frozen BK117.out 10
          have hfz31_11 := blk_frozen BK117.out 11
          go_upto_if 59 with (first | ((with_reducible refine gate_callee (f := 47) rfl ?_); refine goesL_ (some 59) rfl rfl Try.func47 (by kernel_rfl) rfl #[.int .i64 a0_0] rfl (by (try simp only [List.map_toArray, List.map_cons, List.map_nil]); first | done | rfl | (simp only [List.length_drop, List.length_take]; rfl)) ?_; (with_reducible refine (rec_points.calls a0_0 t122 _ A29.out).mono ?_); rintro e w' ⟨rfl, ⟨nd, rfl⟩⟩; refine ⟨_, rfl, ?_⟩))
          (try simp only [Act.put, List.setIfInBounds_toArray, List.set_cons_zero, List.set_cons_succ])
          go_cut [3] (fun v3 wc => ∃ (kq : Nat) (x3_29 : Bool), v3 = .bool x3_29 ∧ Aside0 (rec_Check.j2 kq x3_29 a0_0 a0_1 a0_2 a0_3 a0_4 a0_5 a0_6 a0_7 a0_8 a0_9 l0_10 l0_11 = some r) ∧ Aside0 (kq ≤ kj14) ∧ Aside0 (wc.heap[gb117]? = some (.cells #[.int .i64 a0_0, .int .u64 a0_1, .int .i64 a0_2, .int .u64 a0_3, .int .u64 a0_4, .int .i64 a0_5, .int .i64 a0_6, .string a0_7, .string a0_8, .string a0_9, (.slice A0_10 l0_10.length c0_10), (.slice A0_11 l0_11.length c0_11)] 43 (0, 0))) ∧ Aside0 (Below w.heap.size w wc))
          case first =>
            have H := HC30.out
            clear HC30
            by_cases c32 : t122 = true
            · subst c32
              have H1 : (if x3_14 = true then (if a0_2 = 0 then (rec_Check.j2 kj14 (a0_3 == 0) a0_0 a0_1 a0_2 a0_3 a0_4 a0_5 a0_6 a0_7 a0_8 a0_9 l0_10 l0_11) else (rec_Check.j2 kj14 false a0_0 a0_1 a0_2 a0_3 a0_4 a0_5 a0_6 a0_7 a0_8 a0_9 l0_10 l0_11)) else (rec_Check.j2 kj14 false a0_0 a0_1 a0_2 a0_3 a0_4 a0_5 a0_6 a0_7 a0_8 a0_9 l0_10 l0_11)) = some r := by rw [if_pos rfl] at H; exact H
              clear H
              have H := H1
              clear H1
              by_cases c33 : x3_14 = true
              · subst c33
                have H1 : (if a0_2 = 0 then (rec_Check.j2 kj14 (a0_3 == 0) a0_0 a0_1 a0_2 a0_3 a0_4 a0_5 a0_6 a0_7 a0_8 a0_9 l0_10 l0_11) else (rec_Check.j2 kj14 false a0_0 a0_1 a0_2 a0_3 a0_4 a0_5 a0_6 a0_7 a0_8 a0_9 l0_10 l0_11)) = some r := by rw [if_pos rfl] at H; exact H
                clear H
                have H := H1
                clear H1
                by_cases c34 : a0_2 = 0
                · rw [if_pos c34] at H
                  have c34b0 : (a0_2 == 0) = true := beq_iff_eq.mpr c34
                  have c34b1 : (a0_2 != 0) = false := bne_eq_false_iff_eq.mpr c34
                  clear c34
                  (first | rw [c34b0] | (simp only [i64_w, i32_w]; rw [c34b0]) | skip)
                  have H' := Aside0.mk H
                  clear H
                  have hcz35_0 : wc.cell? ⟨gb117, 0, none⟩ = some (.int .i64 a0_0) := (blk_cell BK117.out 0).trans rfl
                  have hcz35_1 : wc.cell? ⟨gb117, 1, none⟩ = some (.int .u64 a0_1) := (blk_cell BK117.out 1).trans rfl
                  have hcz35_2 : wc.cell? ⟨gb117, 2, none⟩ = some (.int .i64 a0_2) := (blk_cell BK117.out 2).trans rfl
                  have hcz35_3 : wc.cell? ⟨gb117, 3, none⟩ = some (.int .u64 a0_3) := (blk_cell BK117.out 3).trans rfl
                  have hcz35_4 : wc.cell? ⟨gb117, 4, none⟩ = some (.int .u64 a0_4) := (blk_cell BK117.out 4).trans rfl
                  have hcz35_5 : wc.cell? ⟨gb117, 5, none⟩ = some (.int .i64 a0_5) := (blk_cell BK117.out 5).trans rfl
                  have hcz35_6 : wc.cell? ⟨gb117, 6, none⟩ = some (.int .i64 a0_6) := (blk_cell BK117.out 6).trans rfl
                  have hcz35_7 : wc.cell? ⟨gb117, 7, none⟩ = some (.string a0_7) := (blk_cell BK117.out 7).trans rfl
                  have hcz35_8 : wc.cell? ⟨gb117, 8, none⟩ = some (.string a0_8) := (blk_cell BK117.out 8).trans rfl
                  have hcz35_9 : wc.cell? ⟨gb117, 9, none⟩ = some (.string a0_9) := (blk_cell BK117.out 9).trans rfl
                  have hcz35_10 : wc.cell? ⟨gb117, 10, none⟩ = some (.slice A0_10 l0_10.length c0_10) := (blk_cell BK117.out 10).trans rfl
                  have hcz35_11 : wc.cell? ⟨gb117, 11, none⟩ = some (.slice A0_11 l0_11.length c0_11) := (blk_cell BK117.out 11).trans rfl
                  have hfz35_0 := blk_frozen BK117.out 0
                  have hfz35_1 := blk_frozen BK117.out 1
                  have hfz35_2 := blk_frozen BK117.out 2
                  have hfz35_3 := blk_frozen BK117.out 3
                  have hfz35_4 := blk_frozen BK117.out 4
                  have hfz35_5 := blk_frozen BK117.out 5
                  have hfz35_6 := blk_frozen BK117.out 6
                  have hfz35_7 := blk_frozen BK117.out 7
                  have hfz35_8 := blk_frozen BK117.out 8
                  have hfz35_9 := blk_frozen BK117.out 9
                  have hfz35_10 := blk_frozen BK117.out 10
                  have hfz35_11 := blk_frozen BK117.out 11
                  go_wp2
                  go_meet
                  case rel => exact ⟨_, ((a0_3 == 0)), (by first | rfl | (simp; done) | (simp [*]; done)), H', ⟨by have := HJ1.out; have := HJ14.out; first | omega | exact Nat.le_refl _⟩, ⟨by (with_reducible repeat (first | refine blk_drewN ?_ _ | refine blk_drew ?_ | refine blk_alloc ?_ _)); exact BK117.out⟩, ⟨by repeat (first | (with_reducible first | exact HB.out | apply below_alloc | apply pw_below_drewN | apply below_drew1 | refine below_set ?_ GE117.out) | exact HB.out)⟩⟩
                · rw [if_neg c34] at H
                  have c34b0 : (a0_2 == 0) = false := beq_eq_false_iff_ne.mpr c34
                  have c34b1 : (a0_2 != 0) = true := bne_iff_ne.mpr c34
                  (first | rw [c34b0] | (simp only [i64_w, i32_w]; rw [c34b0]) | skip)
                  have H' := Aside0.mk H
                  clear H
                  have hcz36_0 : wc.cell? ⟨gb117, 0, none⟩ = some (.int .i64 a0_0) := (blk_cell BK117.out 0).trans rfl
                  have hcz36_1 : wc.cell? ⟨gb117, 1, none⟩ = some (.int .u64 a0_1) := (blk_cell BK117.out 1).trans rfl
                  have hcz36_2 : wc.cell? ⟨gb117, 2, none⟩ = some (.int .i64 a0_2) := (blk_cell BK117.out 2).trans rfl
                  have hcz36_3 : wc.cell? ⟨gb117, 3, none⟩ = some (.int .u64 a0_3) := (blk_cell BK117.out 3).trans rfl
                  have hcz36_4 : wc.cell? ⟨gb117, 4, none⟩ = some (.int .u64 a0_4) := (blk_cell BK117.out 4).trans rfl
                  have hcz36_5 : wc.cell? ⟨gb117, 5, none⟩ = some (.int .i64 a0_5) := (blk_cell BK117.out 5).trans rfl
                  have hcz36_6 : wc.cell? ⟨gb117, 6, none⟩ = some (.int .i64 a0_6) := (blk_cell BK117.out 6).trans rfl
                  have hcz36_7 : wc.cell? ⟨gb117, 7, none⟩ = some (.string a0_7) := (blk_cell BK117.out 7).trans rfl
                  have hcz36_8 : wc.cell? ⟨gb117, 8, none⟩ = some (.string a0_8) := (blk_cell BK117.out 8).trans rfl
                  have hcz36_9 : wc.cell? ⟨gb117, 9, none⟩ = some (.string a0_9) := (blk_cell BK117.out 9).trans rfl
                  have hcz36_10 : wc.cell? ⟨gb117, 10, none⟩ = some (.slice A0_10 l0_10.length c0_10) := (blk_cell BK117.out 10).trans rfl
                  have hcz36_11 : wc.cell? ⟨gb117, 11, none⟩ = some (.slice A0_11 l0_11.length c0_11) := (blk_cell BK117.out 11).trans rfl
                  have hfz36_0 := blk_frozen BK117.out 0
                  have hfz36_1 := blk_frozen BK117.out 1
                  have hfz36_2 := blk_frozen BK117.out 2
                  have hfz36_3 := blk_frozen BK117.out 3
                  have hfz36_4 := blk_frozen BK117.out 4
                  have hfz36_5 := blk_frozen BK117.out 5
                  have hfz36_6 := blk_frozen BK117.out 6
                  have hfz36_7 := blk_frozen BK117.out 7
                  have hfz36_8 := blk_frozen BK117.out 8
                  have hfz36_9 := blk_frozen BK117.out 9
                  have hfz36_10 := blk_frozen BK117.out 10
                  have hfz36_11 := blk_frozen BK117.out 11
                  go_wp2
                  go_meet
                  case rel => exact ⟨_, (false), (by first | rfl | (simp; done) | (simp [*]; done)), H', ⟨by have := HJ1.out; have := HJ14.out; first | omega | exact Nat.le_refl _⟩, ⟨by (with_reducible repeat (first | refine blk_drewN ?_ _ | refine blk_drew ?_ | refine blk_alloc ?_ _)); exact BK117.out⟩, ⟨by repeat (first | (with_reducible first | exact HB.out | apply below_alloc | apply pw_below_drewN | apply below_drew1 | refine below_set ?_ GE117.out) | exact HB.out)⟩⟩
              · replace c33 := Bool.eq_false_iff.mpr c33
                subst c33
                have H1 : (rec_Check.j2 kj14 false a0_0 a0_1 a0_2 a0_3 a0_4 a0_5 a0_6 a0_7 a0_8 a0_9 l0_10 l0_11) = some r := by rw [if_neg (show ¬ (false = true) by decide)] at H; exact H
                clear H
                have H := H1
                clear H1
                have H' := Aside0.mk H
                clear H
                go_wp2
                go_meet
                case rel => exact ⟨_, (false), (by first | rfl | (simp; done) | (simp [*]; done)), H', ⟨by have := HJ1.out; have := HJ14.out; first | omega | exact Nat.le_refl _⟩, ⟨by (with_reducible repeat (first | refine blk_drewN ?_ _ | refine blk_drew ?_ | refine blk_alloc ?_ _)); exact BK117.out⟩, ⟨by repeat (first | (with_reducible first | exact HB.out | apply below_alloc | apply pw_below_drewN | apply below_drew1 | refine below_set ?_ GE117.out) | exact HB.out)⟩⟩
            · replace c32 := Bool.eq_false_iff.mpr c32
              subst c32
              have H1 : (if x3_14 = true then ((rec_txn.f a0_2).bind fun t123 => (rec_Check.j2 kj14 t123 a0_0 a0_1 a0_2 a0_3 a0_4 a0_5 a0_6 a0_7 a0_8 a0_9 l0_10 l0_11)) else (rec_Check.j2 kj14 false a0_0 a0_1 a0_2 a0_3 a0_4 a0_5 a0_6 a0_7 a0_8 a0_9 l0_10 l0_11)) = some r := by rw [if_neg (show ¬ (false = true) by decide)] at H; exact H
              clear H
              have H := H1
              clear H1
              by_cases c37 : x3_14 = true
              · subst c37
                have H1 : ((rec_txn.f a0_2).bind fun t123 => (rec_Check.j2 kj14 t123 a0_0 a0_1 a0_2 a0_3 a0_4 a0_5 a0_6 a0_7 a0_8 a0_9 l0_10 l0_11)) = some r := by rw [if_pos rfl] at H; exact H
                clear H
                have H := H1
                clear H1
                replace H := Option.bind_eq_some_iff.mp H
                obtain ⟨t123, A380, H⟩ := H
                replace H : (rec_Check.j2 kj14 t123 a0_0 a0_1 a0_2 a0_3 a0_4 a0_5 a0_6 a0_7 a0_8 a0_9 l0_10 l0_11) = some r := H
                have A38 := Aside0.mk A380
                clear A380
                have H' := Aside0.mk H
                clear H
                have hcz39_0 : wc.cell? ⟨gb117, 0, none⟩ = some (.int .i64 a0_0) := (blk_cell BK117.out 0).trans rfl
                have hcz39_1 : wc.cell? ⟨gb117, 1, none⟩ = some (.int .u64 a0_1) := (blk_cell BK117.out 1).trans rfl
                have hcz39_2 : wc.cell? ⟨gb117, 2, none⟩ = some (.int .i64 a0_2) := (blk_cell BK117.out 2).trans rfl
                have hcz39_3 : wc.cell? ⟨gb117, 3, none⟩ = some (.int .u64 a0_3) := (blk_cell BK117.out 3).trans rfl
                have hcz39_4 : wc.cell? ⟨gb117, 4, none⟩ = some (.int .u64 a0_4) := (blk_cell BK117.out 4).trans rfl
                have hcz39_5 : wc.cell? ⟨gb117, 5, none⟩ = some (.int .i64 a0_5) := (blk_cell BK117.out 5).trans rfl
                have hcz39_6 : wc.cell? ⟨gb117, 6, none⟩ = some (.int .i64 a0_6) := (blk_cell BK117.out 6).trans rfl
                have hcz39_7 : wc.cell? ⟨gb117, 7, none⟩ = some (.string a0_7) := (blk_cell BK117.out 7).trans rfl
                have hcz39_8 : wc.cell? ⟨gb117, 8, none⟩ = some (.string a0_8) := (blk_cell BK117.out 8).trans rfl
                have hcz39_9 : wc.cell? ⟨gb117, 9, none⟩ = some (.string a0_9) := (blk_cell BK117.out 9).trans rfl
                have hcz39_10 : wc.cell? ⟨gb117, 10, none⟩ = some (.slice A0_10 l0_10.length c0_10) := (blk_cell BK117.out 10).trans rfl
                have hcz39_11 : wc.cell? ⟨gb117, 11, none⟩ = some (.slice A0_11 l0_11.length c0_11) := (blk_cell BK117.out 11).trans rfl
                have hfz39_0 := blk_frozen BK117.out 0
                have hfz39_1 := blk_frozen BK117.out 1
                have hfz39_2 := blk_frozen BK117.out 2
                have hfz39_3 := blk_frozen BK117.out 3
                have hfz39_4 := blk_frozen BK117.out 4
                have hfz39_5 := blk_frozen BK117.out 5
                have hfz39_6 := blk_frozen BK117.out 6
                have hfz39_7 := blk_frozen BK117.out 7
                have hfz39_8 := blk_frozen BK117.out 8
                have hfz39_9 := blk_frozen BK117.out 9
                have hfz39_10 := blk_frozen BK117.out 10
                have hfz39_11 := blk_frozen BK117.out 11
                go_wp2_with (first | (go_at_call 48; (with_reducible refine (rec_txn.calls a0_2 t123 _ A38.out).mono ?_); rintro e w' ⟨rfl, ⟨nd, rfl⟩⟩))
                go_meet
                case rel => exact ⟨_, (t123), (by first | rfl | (simp; done) | (simp [*]; done)), H', ⟨by have := HJ1.out; have := HJ14.out; first | omega | exact Nat.le_refl _⟩, ⟨by (with_reducible repeat (first | refine blk_drewN ?_ _ | refine blk_drew ?_ | refine blk_alloc ?_ _)); exact BK117.out⟩, ⟨by repeat (first | (with_reducible first | exact HB.out | apply below_alloc | apply pw_below_drewN | apply below_drew1 | refine below_set ?_ GE117.out) | exact HB.out)⟩⟩
              · replace c37 := Bool.eq_false_iff.mpr c37
                subst c37
                have H1 : (rec_Check.j2 kj14 false a0_0 a0_1 a0_2 a0_3 a0_4 a0_5 a0_6 a0_7 a0_8 a0_9 l0_10 l0_11) = some r := by rw [if_neg (show ¬ (false = true) by decide)] at H; exact H
                clear H
                have H := H1
                clear H1
                have H' := Aside0.mk H
                clear H
                go_wp2
                go_meet
                case rel => exact ⟨_, (false), (by first | rfl | (simp; done) | (simp [*]; done)), H', ⟨by have := HJ1.out; have := HJ14.out; first | omega | exact Nat.le_refl _⟩, ⟨by (with_reducible repeat (first | refine blk_drewN ?_ _ | refine blk_drew ?_ | refine blk_alloc ?_ _)); exact BK117.out⟩, ⟨by repeat (first | (with_reducible first | exact HB.out | apply below_alloc | apply pw_below_drewN | apply below_drew1 | refine below_set ?_ GE117.out) | exact HB.out)⟩⟩
          case rest =>
            clear HC30
            try clear c1
            try clear c2
            try clear p2
            try clear c3
            try clear c4
            try clear c4b0
            try clear c5
            try clear c5b0
            try clear c7
            try clear c8
            try clear c8b0
            try clear c17
            try clear c18
            try clear c20
            try clear c25
            try clear c26
            try clear c26b0
            try clear c26b1
            try clear c32
            try clear c33
            try clear c34
            try clear c34b0
            try clear c34b1
            try clear c37
            try clear hcz10_0
            try clear hcz10_1
            try clear hcz10_10
            try clear hcz10_11
            try clear hcz10_2
            try clear hcz10_3
            try clear hcz10_4
            try clear hcz10_5
            try clear hcz10_6
            try clear hcz10_7
            try clear hcz10_8
            try clear hcz10_9
            try clear hcz11_0
            try clear hcz11_1
            try clear hcz11_10
            try clear hcz11_11
            try clear hcz11_2
            try clear hcz11_3
            try clear hcz11_4
            try clear hcz11_5
            try clear hcz11_6
            try clear hcz11_7
            try clear hcz11_8
            try clear hcz11_9
            try clear hcz12_0
            try clear hcz12_1
            try clear hcz12_10
            try clear hcz12_11
            try clear hcz12_2
            try clear hcz12_3
            try clear hcz12_4
            try clear hcz12_5
            try clear hcz12_6
            try clear hcz12_7
            try clear hcz12_8
            try clear hcz12_9
            try clear hcz13_0
            try clear hcz13_1
            try clear hcz13_10
            try clear hcz13_11
            try clear hcz13_2
            try clear hcz13_3
            try clear hcz13_4
            try clear hcz13_5
            try clear hcz13_6
            try clear hcz13_7
            try clear hcz13_8
            try clear hcz13_9
            try clear hcz16_0
            try clear hcz16_1
            try clear hcz16_10
            try clear hcz16_11
            try clear hcz16_2
            try clear hcz16_3
            try clear hcz16_4
            try clear hcz16_5
            try clear hcz16_6
            try clear hcz16_7
            try clear hcz16_8
            try clear hcz16_9
            try clear hcz22_0
            try clear hcz22_1
            try clear hcz22_10
            try clear hcz22_11
            try clear hcz22_2
            try clear hcz22_3
            try clear hcz22_4
            try clear hcz22_5
            try clear hcz22_6
            try clear hcz22_7
            try clear hcz22_8
            try clear hcz22_9
            try clear hcz24_0
            try clear hcz24_1
            try clear hcz24_10
            try clear hcz24_11
            try clear hcz24_2
            try clear hcz24_3
            try clear hcz24_4
            try clear hcz24_5
            try clear hcz24_6
            try clear hcz24_7
            try clear hcz24_8
            try clear hcz24_9
            try clear hcz27_0
            try clear hcz27_1
            try clear hcz27_10
            try clear hcz27_11
            try clear hcz27_2
            try clear hcz27_3
            try clear hcz27_4
            try clear hcz27_5
            try clear hcz27_6
            try clear hcz27_7
            try clear hcz27_8
            try clear hcz27_9
            try clear hcz28_0
            try clear hcz28_1
            try clear hcz28_10
            try clear hcz28_11
            try clear hcz28_2
            try clear hcz28_3
            try clear hcz28_4
            try clear hcz28_5
            try clear hcz28_6
            try clear hcz28_7
            try clear hcz28_8
            try clear hcz28_9
            try clear hcz31_0
            try clear hcz31_1
            try clear hcz31_10
            try clear hcz31_11
            try clear hcz31_2
            try clear hcz31_3
            try clear hcz31_4
            try clear hcz31_5
            try clear hcz31_6
            try clear hcz31_7
            try clear hcz31_8
            try clear hcz31_9
            try clear hcz35_0
            try clear hcz35_1
            try clear hcz35_10
            try clear hcz35_11
            try clear hcz35_2
            try clear hcz35_3
            try clear hcz35_4
            try clear hcz35_5
            try clear hcz35_6
            try clear hcz35_7
            try clear hcz35_8
            try clear hcz35_9
            try clear hcz36_0
            try clear hcz36_1
            try clear hcz36_10
            try clear hcz36_11
            try clear hcz36_2
            try clear hcz36_3
            try clear hcz36_4
            try clear hcz36_5
            try clear hcz36_6
            try clear hcz36_7
            try clear hcz36_8
            try clear hcz36_9
            try clear hcz39_0
            try clear hcz39_1
            try clear hcz39_10
            try clear hcz39_11
            try clear hcz39_2
            try clear hcz39_3
            try clear hcz39_4
            try clear hcz39_5
            try clear hcz39_6
            try clear hcz39_7
            try clear hcz39_8
            try clear hcz39_9
            try clear hcz9_0
            try clear hcz9_1
            try clear hcz9_10
            try clear hcz9_11
            try clear hcz9_2
            try clear hcz9_3
            try clear hcz9_4
            try clear hcz9_5
            try clear hcz9_6
            try clear hcz9_7
            try clear hcz9_8
            try clear hcz9_9
            try clear hfz10_0
            try clear hfz10_1
            try clear hfz10_10
            try clear hfz10_11
            try clear hfz10_2
            try clear hfz10_3
            try clear hfz10_4
            try clear hfz10_5
            try clear hfz10_6
            try clear hfz10_7
            try clear hfz10_8
            try clear hfz10_9
            try clear hfz11_0
            try clear hfz11_1
            try clear hfz11_10
            try clear hfz11_11
            try clear hfz11_2
            try clear hfz11_3
            try clear hfz11_4
            try clear hfz11_5
            try clear hfz11_6
            try clear hfz11_7
            try clear hfz11_8
            try clear hfz11_9
            try clear hfz12_0
            try clear hfz12_1
            try clear hfz12_10
            try clear hfz12_11
            try clear hfz12_2
            try clear hfz12_3
            try clear hfz12_4
            try clear hfz12_5
            try clear hfz12_6
            try clear hfz12_7
            try clear hfz12_8
            try clear hfz12_9
            try clear hfz13_0
            try clear hfz13_1
            try clear hfz13_10
            try clear hfz13_11
            try clear hfz13_2
            try clear hfz13_3
            try clear hfz13_4
            try clear hfz13_5
            try clear hfz13_6
            try clear hfz13_7
            try clear hfz13_8
            try clear hfz13_9
            try clear hfz16_0
            try clear hfz16_1
            try clear hfz16_10
            try clear hfz16_11
            try clear hfz16_2
            try clear hfz16_3
            try clear hfz16_4
            try clear hfz16_5
            try clear hfz16_6
            try clear hfz16_7
            try clear hfz16_8
            try clear hfz16_9
            try clear hfz22_0
            try clear hfz22_1
            try clear hfz22_10
            try clear hfz22_11
            try clear hfz22_2
            try clear hfz22_3
            try clear hfz22_4
            try clear hfz22_5
            try clear hfz22_6
            try clear hfz22_7
            try clear hfz22_8
            try clear hfz22_9
            try clear hfz24_0
            try clear hfz24_1
            try clear hfz24_10
            try clear hfz24_11
            try clear hfz24_2
            try clear hfz24_3
            try clear hfz24_4
            try clear hfz24_5
            try clear hfz24_6
            try clear hfz24_7
            try clear hfz24_8
            try clear hfz24_9
            try clear hfz27_0
            try clear hfz27_1
            try clear hfz27_10
            try clear hfz27_11
            try clear hfz27_2
            try clear hfz27_3
            try clear hfz27_4
            try clear hfz27_5
            try clear hfz27_6
            try clear hfz27_7
            try clear hfz27_8
            try clear hfz27_9
            try clear hfz28_0
            try clear hfz28_1
            try clear hfz28_10
            try clear hfz28_11
            try clear hfz28_2
            try clear hfz28_3
            try clear hfz28_4
            try clear hfz28_5
            try clear hfz28_6
            try clear hfz28_7
            try clear hfz28_8
            try clear hfz28_9
            try clear hfz31_0
            try clear hfz31_1
            try clear hfz31_10
            try clear hfz31_11
            try clear hfz31_2
            try clear hfz31_3
            try clear hfz31_4
            try clear hfz31_5
            try clear hfz31_6
            try clear hfz31_7
            try clear hfz31_8
            try clear hfz31_9
            try clear hfz35_0
            try clear hfz35_1
            try clear hfz35_10
            try clear hfz35_11
            try clear hfz35_2
            try clear hfz35_3
            try clear hfz35_4
            try clear hfz35_5
            try clear hfz35_6
            try clear hfz35_7
            try clear hfz35_8
            try clear hfz35_9
            try clear hfz36_0
            try clear hfz36_1
            try clear hfz36_10
            try clear hfz36_11
            try clear hfz36_2
            try clear hfz36_3
            try clear hfz36_4
            try clear hfz36_5
            try clear hfz36_6
            try clear hfz36_7
            try clear hfz36_8
            try clear hfz36_9
            try clear hfz39_0
            try clear hfz39_1
            try clear hfz39_10
            try clear hfz39_11
            try clear hfz39_2
            try clear hfz39_3
            try clear hfz39_4
            try clear hfz39_5
            try clear hfz39_6
            try clear hfz39_7
            try clear hfz39_8
            try clear hfz39_9
            try clear hfz9_0
            try clear hfz9_1
            try clear hfz9_10
            try clear hfz9_11
            try clear hfz9_2
            try clear hfz9_3
            try clear hfz9_4
            try clear hfz9_5
            try clear hfz9_6
            try clear hfz9_7
            try clear hfz9_8
            try clear hfz9_9
            try clear p2
            obtain ⟨kq, x3_29, rfl, HA, HJ29, BK117, HB⟩ := hcut
            cases kq with
            | zero => exact absurd HA.out (by simp [rec_Check.j2])
            | succ kj29 =>
              have H := HA.out
              clear HA
              simp only [rec_Check.j2] at H
              by_cases c40 : a0_0 = 8
              · rw [if_pos c40] at H
                have c40b0 : (a0_0 == 8) = true := beq_iff_eq.mpr c40
                have c40b1 : (a0_0 != 8) = false := bne_eq_false_iff_eq.mpr c40
                clear c40
                by_cases c41 : x3_29 = true
                · subst c41
                  have H1 : (if a0_0 = 2 then ((rec_tables.f kj29 a0_0 a0_1 a0_2 a0_3 a0_4 a0_5 a0_6 a0_7 a0_8 a0_9 l0_10 l0_11).bind fun t124 => (if t124 = true then (some 0) else (some 1))) else (if a0_4 = 0 then ((rec_tables.f kj29 a0_0 a0_1 a0_2 a0_3 a0_4 a0_5 a0_6 a0_7 a0_8 a0_9 l0_10 l0_11).bind fun t125 => (if t125 = true then (some 0) else (some 1))) else (some 1))) = some r := by rw [if_pos rfl] at H; exact H
                  clear H
                  have H := H1
                  clear H1
                  by_cases c42 : a0_0 = 2
                  · rw [if_pos c42] at H
                    have c42b0 : (a0_0 == 2) = true := beq_iff_eq.mpr c42
                    have c42b1 : (a0_0 != 2) = false := bne_eq_false_iff_eq.mpr c42
                    clear c42
                    replace H := Option.bind_eq_some_iff.mp H
                    obtain ⟨t124, A430, H⟩ := H
                    replace H : (if t124 = true then (some 0) else (some 1)) = some r := H
                    have A43 := Aside0.mk A430
                    clear A430
                    by_cases c44 : t124 = true
                    · subst c44
                      have H1 : (some 0) = some r := by rw [if_pos rfl] at H; exact H
                      clear H
                      have H := H1
                      clear H1
                      obtain rfl := Option.some.inj H
                      have hcz45_0 : wc.cell? ⟨gb117, 0, none⟩ = some (.int .i64 a0_0) := (blk_cell BK117.out 0).trans rfl
                      have hcz45_1 : wc.cell? ⟨gb117, 1, none⟩ = some (.int .u64 a0_1) := (blk_cell BK117.out 1).trans rfl
                      have hcz45_2 : wc.cell? ⟨gb117, 2, none⟩ = some (.int .i64 a0_2) := (blk_cell BK117.out 2).trans rfl
                      have hcz45_3 : wc.cell? ⟨gb117, 3, none⟩ = some (.int .u64 a0_3) := (blk_cell BK117.out 3).trans rfl
                      have hcz45_4 : wc.cell? ⟨gb117, 4, none⟩ = some (.int .u64 a0_4) := (blk_cell BK117.out 4).trans rfl
                      have hcz45_5 : wc.cell? ⟨gb117, 5, none⟩ = some (.int .i64 a0_5) := (blk_cell BK117.out 5).trans rfl
                      have hcz45_6 : wc.cell? ⟨gb117, 6, none⟩ = some (.int .i64 a0_6) := (blk_cell BK117.out 6).trans rfl
                      have hcz45_7 : wc.cell? ⟨gb117, 7, none⟩ = some (.string a0_7) := (blk_cell BK117.out 7).trans rfl
                      have hcz45_8 : wc.cell? ⟨gb117, 8, none⟩ = some (.string a0_8) := (blk_cell BK117.out 8).trans rfl
                      have hcz45_9 : wc.cell? ⟨gb117, 9, none⟩ = some (.string a0_9) := (blk_cell BK117.out 9).trans rfl
                      have hcz45_10 : wc.cell? ⟨gb117, 10, none⟩ = some (.slice A0_10 l0_10.length c0_10) := (blk_cell BK117.out 10).trans rfl
                      have hcz45_11 : wc.cell? ⟨gb117, 11, none⟩ = some (.slice A0_11 l0_11.length c0_11) := (blk_cell BK117.out 11).trans rfl
                      have hfz45_0 := blk_frozen BK117.out 0
                      have hfz45_1 := blk_frozen BK117.out 1
                      have hfz45_2 := blk_frozen BK117.out 2
                      have hfz45_3 := blk_frozen BK117.out 3
                      have hfz45_4 := blk_frozen BK117.out 4
                      have hfz45_5 := blk_frozen BK117.out 5
                      have hfz45_6 := blk_frozen BK117.out 6
                      have hfz45_7 := blk_frozen BK117.out 7
                      have hfz45_8 := blk_frozen BK117.out 8
                      have hfz45_9 := blk_frozen BK117.out 9
                      have hfz45_10 := blk_frozen BK117.out 10
                      have hfz45_11 := blk_frozen BK117.out 11
                      go_wp2_with (first | (go_at_call 49; (with_reducible refine (rec_tables.calls kj29 a0_0 a0_1 a0_2 a0_3 a0_4 a0_5 a0_6 a0_7 a0_8 a0_9 _ _ l0_10 _ _ l0_11 true _ ?side1 ?side2 ?side3 ?side4 A43.out).mono ?_); (case side1 => repeat (first | exact (Kd.C_below HR0_10.out HB.out) | (with_reducible refine Kd.C_alloc ?_ _) | (with_reducible refine Kd.C_drewN ?_ _) | (with_reducible refine Kd.C_drew ?_))); (case side2 => exact HC0_10.out); (case side3 => repeat (first | exact (Kd.C_below HR0_11.out HB.out) | (with_reducible refine Kd.C_alloc ?_ _) | (with_reducible refine Kd.C_drewN ?_ _) | (with_reducible refine Kd.C_drew ?_))); (case side4 => exact HC0_11.out); rintro e w46 ⟨rfl, hb⟩; have n0_ := Aside0.mk (blk_below (g := gb117) (o := .cells #[.int .i64 a0_0, .int .u64 a0_1, .int .i64 a0_2, .int .u64 a0_3, .int .u64 a0_4, .int .i64 a0_5, .int .i64 a0_6, .string a0_7, .string a0_8, .string a0_9, .slice A0_10 l0_10.length c0_10, .slice A0_11 l0_11.length c0_11] 43 (0, 0)) (by (with_reducible repeat (first | refine blk_drewN ?_ _ | refine blk_drew ?_ | refine blk_alloc ?_ _)); exact BK117.out) hb); have n1_ := Aside0.mk (below_step (by repeat (first | (with_reducible first | exact HB.out | apply below_alloc | apply pw_below_drewN | apply below_drew1 | refine below_set ?_ GE117.out) | exact HB.out)) hb); clear BK117; clear HB; have BK117 := n0_; have HB := n1_; clear n0_ n1_; (try clear hb); (try clear hb2); (try clear hk); (try clear hi)))
                      go_ret
                      exact ⟨by first | rfl | (simp [errW_none, errW_some] <;> rfl) | (simp [*, errW_none, errW_some] <;> rfl), by repeat (first | (with_reducible first | exact HB.out | apply below_alloc | apply pw_below_drewN | apply below_drew1 | refine below_set ?_ GE117.out) | exact HB.out)⟩
                    · replace c44 := Bool.eq_false_iff.mpr c44
                      subst c44
                      have H1 : (some 1) = some r := by rw [if_neg (show ¬ (false = true) by decide)] at H; exact H
                      clear H
                      have H := H1
                      clear H1
                      obtain rfl := Option.some.inj H
                      have hcz47_0 : wc.cell? ⟨gb117, 0, none⟩ = some (.int .i64 a0_0) := (blk_cell BK117.out 0).trans rfl
                      have hcz47_1 : wc.cell? ⟨gb117, 1, none⟩ = some (.int .u64 a0_1) := (blk_cell BK117.out 1).trans rfl
                      have hcz47_2 : wc.cell? ⟨gb117, 2, none⟩ = some (.int .i64 a0_2) := (blk_cell BK117.out 2).trans rfl
                      have hcz47_3 : wc.cell? ⟨gb117, 3, none⟩ = some (.int .u64 a0_3) := (blk_cell BK117.out 3).trans rfl
                      have hcz47_4 : wc.cell? ⟨gb117, 4, none⟩ = some (.int .u64 a0_4) := (blk_cell BK117.out 4).trans rfl
                      have hcz47_5 : wc.cell? ⟨gb117, 5, none⟩ = some (.int .i64 a0_5) := (blk_cell BK117.out 5).trans rfl
                      have hcz47_6 : wc.cell? ⟨gb117, 6, none⟩ = some (.int .i64 a0_6) := (blk_cell BK117.out 6).trans rfl
                      have hcz47_7 : wc.cell? ⟨gb117, 7, none⟩ = some (.string a0_7) := (blk_cell BK117.out 7).trans rfl
                      have hcz47_8 : wc.cell? ⟨gb117, 8, none⟩ = some (.string a0_8) := (blk_cell BK117.out 8).trans rfl
                      have hcz47_9 : wc.cell? ⟨gb117, 9, none⟩ = some (.string a0_9) := (blk_cell BK117.out 9).trans rfl
                      have hcz47_10 : wc.cell? ⟨gb117, 10, none⟩ = some (.slice A0_10 l0_10.length c0_10) := (blk_cell BK117.out 10).trans rfl
                      have hcz47_11 : wc.cell? ⟨gb117, 11, none⟩ = some (.slice A0_11 l0_11.length c0_11) := (blk_cell BK117.out 11).trans rfl
                      have hfz47_0 := blk_frozen BK117.out 0
                      have hfz47_1 := blk_frozen BK117.out 1
                      have hfz47_2 := blk_frozen BK117.out 2
                      have hfz47_3 := blk_frozen BK117.out 3
                      have hfz47_4 := blk_frozen BK117.out 4
                      have hfz47_5 := blk_frozen BK117.out 5
                      have hfz47_6 := blk_frozen BK117.out 6
                      have hfz47_7 := blk_frozen BK117.out 7
                      have hfz47_8 := blk_frozen BK117.out 8
                      have hfz47_9 := blk_frozen BK117.out 9
                      have hfz47_10 := blk_frozen BK117.out 10
                      have hfz47_11 := blk_frozen BK117.out 11
                      go_wp2_with (first | (go_at_call 49; (with_reducible refine (rec_tables.calls kj29 a0_0 a0_1 a0_2 a0_3 a0_4 a0_5 a0_6 a0_7 a0_8 a0_9 _ _ l0_10 _ _ l0_11 false _ ?side1 ?side2 ?side3 ?side4 A43.out).mono ?_); (case side1 => repeat (first | exact (Kd.C_below HR0_10.out HB.out) | (with_reducible refine Kd.C_alloc ?_ _) | (with_reducible refine Kd.C_drewN ?_ _) | (with_reducible refine Kd.C_drew ?_))); (case side2 => exact HC0_10.out); (case side3 => repeat (first | exact (Kd.C_below HR0_11.out HB.out) | (with_reducible refine Kd.C_alloc ?_ _) | (with_reducible refine Kd.C_drewN ?_ _) | (with_reducible refine Kd.C_drew ?_))); (case side4 => exact HC0_11.out); rintro e w48 ⟨rfl, hb⟩; have n0_ := Aside0.mk (blk_below (g := gb117) (o := .cells #[.int .i64 a0_0, .int .u64 a0_1, .int .i64 a0_2, .int .u64 a0_3, .int .u64 a0_4, .int .i64 a0_5, .int .i64 a0_6, .string a0_7, .string a0_8, .string a0_9, .slice A0_10 l0_10.length c0_10, .slice A0_11 l0_11.length c0_11] 43 (0, 0)) (by (with_reducible repeat (first | refine blk_drewN ?_ _ | refine blk_drew ?_ | refine blk_alloc ?_ _)); exact BK117.out) hb); have n1_ := Aside0.mk (below_step (by repeat (first | (with_reducible first | exact HB.out | apply below_alloc | apply pw_below_drewN | apply below_drew1 | refine below_set ?_ GE117.out) | exact HB.out)) hb); clear BK117; clear HB; have BK117 := n0_; have HB := n1_; clear n0_ n1_; (try clear hb); (try clear hb2); (try clear hk); (try clear hi)))
                      go_ret
                      exact ⟨by first | rfl | (simp [errW_none, errW_some] <;> rfl) | (simp [*, errW_none, errW_some] <;> rfl), by repeat (first | (with_reducible first | exact HB.out | apply below_alloc | apply pw_below_drewN | apply below_drew1 | refine below_set ?_ GE117.out) | exact HB.out)⟩
                  · rw [if_neg c42] at H
                    have c42b0 : (a0_0 == 2) = false := beq_eq_false_iff_ne.mpr c42
                    have c42b1 : (a0_0 != 2) = true := bne_iff_ne.mpr c42
                    by_cases c49 : a0_4 = 0
                    · rw [if_pos c49] at H
                      have c49b0 : (a0_4 == 0) = true := beq_iff_eq.mpr c49
                      have c49b1 : (a0_4 != 0) = false := bne_eq_false_iff_eq.mpr c49
                      clear c49
                      replace H := Option.bind_eq_some_iff.mp H
                      obtain ⟨t125, A500, H⟩ := H
                      replace H : (if t125 = true then (some 0) else (some 1)) = some r := H
                      have A50 := Aside0.mk A500
                      clear A500
                      by_cases c51 : t125 = true
                      · subst c51
                        have H1 : (some 0) = some r := by rw [if_pos rfl] at H; exact H
                        clear H
                        have H := H1
                        clear H1
                        obtain rfl := Option.some.inj H
                        have hcz52_0 : wc.cell? ⟨gb117, 0, none⟩ = some (.int .i64 a0_0) := (blk_cell BK117.out 0).trans rfl
                        have hcz52_1 : wc.cell? ⟨gb117, 1, none⟩ = some (.int .u64 a0_1) := (blk_cell BK117.out 1).trans rfl
                        have hcz52_2 : wc.cell? ⟨gb117, 2, none⟩ = some (.int .i64 a0_2) := (blk_cell BK117.out 2).trans rfl
                        have hcz52_3 : wc.cell? ⟨gb117, 3, none⟩ = some (.int .u64 a0_3) := (blk_cell BK117.out 3).trans rfl
                        have hcz52_4 : wc.cell? ⟨gb117, 4, none⟩ = some (.int .u64 a0_4) := (blk_cell BK117.out 4).trans rfl
                        have hcz52_5 : wc.cell? ⟨gb117, 5, none⟩ = some (.int .i64 a0_5) := (blk_cell BK117.out 5).trans rfl
                        have hcz52_6 : wc.cell? ⟨gb117, 6, none⟩ = some (.int .i64 a0_6) := (blk_cell BK117.out 6).trans rfl
                        have hcz52_7 : wc.cell? ⟨gb117, 7, none⟩ = some (.string a0_7) := (blk_cell BK117.out 7).trans rfl
                        have hcz52_8 : wc.cell? ⟨gb117, 8, none⟩ = some (.string a0_8) := (blk_cell BK117.out 8).trans rfl
                        have hcz52_9 : wc.cell? ⟨gb117, 9, none⟩ = some (.string a0_9) := (blk_cell BK117.out 9).trans rfl
                        have hcz52_10 : wc.cell? ⟨gb117, 10, none⟩ = some (.slice A0_10 l0_10.length c0_10) := (blk_cell BK117.out 10).trans rfl
                        have hcz52_11 : wc.cell? ⟨gb117, 11, none⟩ = some (.slice A0_11 l0_11.length c0_11) := (blk_cell BK117.out 11).trans rfl
                        have hfz52_0 := blk_frozen BK117.out 0
                        have hfz52_1 := blk_frozen BK117.out 1
                        have hfz52_2 := blk_frozen BK117.out 2
                        have hfz52_3 := blk_frozen BK117.out 3
                        have hfz52_4 := blk_frozen BK117.out 4
                        have hfz52_5 := blk_frozen BK117.out 5
                        have hfz52_6 := blk_frozen BK117.out 6
                        have hfz52_7 := blk_frozen BK117.out 7
                        have hfz52_8 := blk_frozen BK117.out 8
                        have hfz52_9 := blk_frozen BK117.out 9
                        have hfz52_10 := blk_frozen BK117.out 10
                        have hfz52_11 := blk_frozen BK117.out 11
                        go_wp2_with (first | (go_at_call 49; (with_reducible refine (rec_tables.calls kj29 a0_0 a0_1 a0_2 a0_3 a0_4 a0_5 a0_6 a0_7 a0_8 a0_9 _ _ l0_10 _ _ l0_11 true _ ?side1 ?side2 ?side3 ?side4 A50.out).mono ?_); (case side1 => repeat (first | exact (Kd.C_below HR0_10.out HB.out) | (with_reducible refine Kd.C_alloc ?_ _) | (with_reducible refine Kd.C_drewN ?_ _) | (with_reducible refine Kd.C_drew ?_))); (case side2 => exact HC0_10.out); (case side3 => repeat (first | exact (Kd.C_below HR0_11.out HB.out) | (with_reducible refine Kd.C_alloc ?_ _) | (with_reducible refine Kd.C_drewN ?_ _) | (with_reducible refine Kd.C_drew ?_))); (case side4 => exact HC0_11.out); rintro e w53 ⟨rfl, hb⟩; have n0_ := Aside0.mk (blk_below (g := gb117) (o := .cells #[.int .i64 a0_0, .int .u64 a0_1, .int .i64 a0_2, .int .u64 a0_3, .int .u64 a0_4, .int .i64 a0_5, .int .i64 a0_6, .string a0_7, .string a0_8, .string a0_9, .slice A0_10 l0_10.length c0_10, .slice A0_11 l0_11.length c0_11] 43 (0, 0)) (by (with_reducible repeat (first | refine blk_drewN ?_ _ | refine blk_drew ?_ | refine blk_alloc ?_ _)); exact BK117.out) hb); have n1_ := Aside0.mk (below_step (by repeat (first | (with_reducible first | exact HB.out | apply below_alloc | apply pw_below_drewN | apply below_drew1 | refine below_set ?_ GE117.out) | exact HB.out)) hb); clear BK117; clear HB; have BK117 := n0_; have HB := n1_; clear n0_ n1_; (try clear hb); (try clear hb2); (try clear hk); (try clear hi)))
                        go_ret
                        exact ⟨by first | rfl | (simp [errW_none, errW_some] <;> rfl) | (simp [*, errW_none, errW_some] <;> rfl), by repeat (first | (with_reducible first | exact HB.out | apply below_alloc | apply pw_below_drewN | apply below_drew1 | refine below_set ?_ GE117.out) | exact HB.out)⟩
                      · replace c51 := Bool.eq_false_iff.mpr c51
                        subst c51
                        have H1 : (some 1) = some r := by rw [if_neg (show ¬ (false = true) by decide)] at H; exact H
                        clear H
                        have H := H1
                        clear H1
                        obtain rfl := Option.some.inj H
                        have hcz54_0 : wc.cell? ⟨gb117, 0, none⟩ = some (.int .i64 a0_0) := (blk_cell BK117.out 0).trans rfl
                        have hcz54_1 : wc.cell? ⟨gb117, 1, none⟩ = some (.int .u64 a0_1) := (blk_cell BK117.out 1).trans rfl
                        have hcz54_2 : wc.cell? ⟨gb117, 2, none⟩ = some (.int .i64 a0_2) := (blk_cell BK117.out 2).trans rfl
                        have hcz54_3 : wc.cell? ⟨gb117, 3, none⟩ = some (.int .u64 a0_3) := (blk_cell BK117.out 3).trans rfl
                        have hcz54_4 : wc.cell? ⟨gb117, 4, none⟩ = some (.int .u64 a0_4) := (blk_cell BK117.out 4).trans rfl
                        have hcz54_5 : wc.cell? ⟨gb117, 5, none⟩ = some (.int .i64 a0_5) := (blk_cell BK117.out 5).trans rfl
                        have hcz54_6 : wc.cell? ⟨gb117, 6, none⟩ = some (.int .i64 a0_6) := (blk_cell BK117.out 6).trans rfl
                        have hcz54_7 : wc.cell? ⟨gb117, 7, none⟩ = some (.string a0_7) := (blk_cell BK117.out 7).trans rfl
                        have hcz54_8 : wc.cell? ⟨gb117, 8, none⟩ = some (.string a0_8) := (blk_cell BK117.out 8).trans rfl
                        have hcz54_9 : wc.cell? ⟨gb117, 9, none⟩ = some (.string a0_9) := (blk_cell BK117.out 9).trans rfl
                        have hcz54_10 : wc.cell? ⟨gb117, 10, none⟩ = some (.slice A0_10 l0_10.length c0_10) := (blk_cell BK117.out 10).trans rfl
                        have hcz54_11 : wc.cell? ⟨gb117, 11, none⟩ = some (.slice A0_11 l0_11.length c0_11) := (blk_cell BK117.out 11).trans rfl
                        have hfz54_0 := blk_frozen BK117.out 0
                        have hfz54_1 := blk_frozen BK117.out 1
                        have hfz54_2 := blk_frozen BK117.out 2
                        have hfz54_3 := blk_frozen BK117.out 3
                        have hfz54_4 := blk_frozen BK117.out 4
                        have hfz54_5 := blk_frozen BK117.out 5
                        have hfz54_6 := blk_frozen BK117.out 6
                        have hfz54_7 := blk_frozen BK117.out 7
                        have hfz54_8 := blk_frozen BK117.out 8
                        have hfz54_9 := blk_frozen BK117.out 9
                        have hfz54_10 := blk_frozen BK117.out 10
                        have hfz54_11 := blk_frozen BK117.out 11
                        go_wp2_with (first | (go_at_call 49; (with_reducible refine (rec_tables.calls kj29 a0_0 a0_1 a0_2 a0_3 a0_4 a0_5 a0_6 a0_7 a0_8 a0_9 _ _ l0_10 _ _ l0_11 false _ ?side1 ?side2 ?side3 ?side4 A50.out).mono ?_); (case side1 => repeat (first | exact (Kd.C_below HR0_10.out HB.out) | (with_reducible refine Kd.C_alloc ?_ _) | (with_reducible refine Kd.C_drewN ?_ _) | (with_reducible refine Kd.C_drew ?_))); (case side2 => exact HC0_10.out); (case side3 => repeat (first | exact (Kd.C_below HR0_11.out HB.out) | (with_reducible refine Kd.C_alloc ?_ _) | (with_reducible refine Kd.C_drewN ?_ _) | (with_reducible refine Kd.C_drew ?_))); (case side4 => exact HC0_11.out); rintro e w55 ⟨rfl, hb⟩; have n0_ := Aside0.mk (blk_below (g := gb117) (o := .cells #[.int .i64 a0_0, .int .u64 a0_1, .int .i64 a0_2, .int .u64 a0_3, .int .u64 a0_4, .int .i64 a0_5, .int .i64 a0_6, .string a0_7, .string a0_8, .string a0_9, .slice A0_10 l0_10.length c0_10, .slice A0_11 l0_11.length c0_11] 43 (0, 0)) (by (with_reducible repeat (first | refine blk_drewN ?_ _ | refine blk_drew ?_ | refine blk_alloc ?_ _)); exact BK117.out) hb); have n1_ := Aside0.mk (below_step (by repeat (first | (with_reducible first | exact HB.out | apply below_alloc | apply pw_below_drewN | apply below_drew1 | refine below_set ?_ GE117.out) | exact HB.out)) hb); clear BK117; clear HB; have BK117 := n0_; have HB := n1_; clear n0_ n1_; (try clear hb); (try clear hb2); (try clear hk); (try clear hi)))
                        go_ret
                        exact ⟨by first | rfl | (simp [errW_none, errW_some] <;> rfl) | (simp [*, errW_none, errW_some] <;> rfl), by repeat (first | (with_reducible first | exact HB.out | apply below_alloc | apply pw_below_drewN | apply below_drew1 | refine below_set ?_ GE117.out) | exact HB.out)⟩
                    · rw [if_neg c49] at H
                      have c49b0 : (a0_4 == 0) = false := beq_eq_false_iff_ne.mpr c49
                      have c49b1 : (a0_4 != 0) = true := bne_iff_ne.mpr c49
                      obtain rfl := Option.some.inj H
                      have hcz56_0 : wc.cell? ⟨gb117, 0, none⟩ = some (.int .i64 a0_0) := (blk_cell BK117.out 0).trans rfl
                      have hcz56_1 : wc.cell? ⟨gb117, 1, none⟩ = some (.int .u64 a0_1) := (blk_cell BK117.out 1).trans rfl
                      have hcz56_2 : wc.cell? ⟨gb117, 2, none⟩ = some (.int .i64 a0_2) := (blk_cell BK117.out 2).trans rfl
                      have hcz56_3 : wc.cell? ⟨gb117, 3, none⟩ = some (.int .u64 a0_3) := (blk_cell BK117.out 3).trans rfl
                      have hcz56_4 : wc.cell? ⟨gb117, 4, none⟩ = some (.int .u64 a0_4) := (blk_cell BK117.out 4).trans rfl
                      have hcz56_5 : wc.cell? ⟨gb117, 5, none⟩ = some (.int .i64 a0_5) := (blk_cell BK117.out 5).trans rfl
                      have hcz56_6 : wc.cell? ⟨gb117, 6, none⟩ = some (.int .i64 a0_6) := (blk_cell BK117.out 6).trans rfl
                      have hcz56_7 : wc.cell? ⟨gb117, 7, none⟩ = some (.string a0_7) := (blk_cell BK117.out 7).trans rfl
                      have hcz56_8 : wc.cell? ⟨gb117, 8, none⟩ = some (.string a0_8) := (blk_cell BK117.out 8).trans rfl
                      have hcz56_9 : wc.cell? ⟨gb117, 9, none⟩ = some (.string a0_9) := (blk_cell BK117.out 9).trans rfl
                      have hcz56_10 : wc.cell? ⟨gb117, 10, none⟩ = some (.slice A0_10 l0_10.length c0_10) := (blk_cell BK117.out 10).trans rfl
                      have hcz56_11 : wc.cell? ⟨gb117, 11, none⟩ = some (.slice A0_11 l0_11.length c0_11) := (blk_cell BK117.out 11).trans rfl
                      have hfz56_0 := blk_frozen BK117.out 0
                      have hfz56_1 := blk_frozen BK117.out 1
                      have hfz56_2 := blk_frozen BK117.out 2
                      have hfz56_3 := blk_frozen BK117.out 3
                      have hfz56_4 := blk_frozen BK117.out 4
                      have hfz56_5 := blk_frozen BK117.out 5
                      have hfz56_6 := blk_frozen BK117.out 6
                      have hfz56_7 := blk_frozen BK117.out 7
                      have hfz56_8 := blk_frozen BK117.out 8
                      have hfz56_9 := blk_frozen BK117.out 9
                      have hfz56_10 := blk_frozen BK117.out 10
                      have hfz56_11 := blk_frozen BK117.out 11
                      go_wp2
                      go_ret
                      exact ⟨by first | rfl | (simp [errW_none, errW_some] <;> rfl) | (simp [*, errW_none, errW_some] <;> rfl), by repeat (first | (with_reducible first | exact HB.out | apply below_alloc | apply pw_below_drewN | apply below_drew1 | refine below_set ?_ GE117.out) | exact HB.out)⟩
                · replace c41 := Bool.eq_false_iff.mpr c41
                  subst c41
                  have H1 : (some 1) = some r := by rw [if_neg (show ¬ (false = true) by decide)] at H; exact H
                  clear H
                  have H := H1
                  clear H1
                  obtain rfl := Option.some.inj H
                  have hcz57_0 : wc.cell? ⟨gb117, 0, none⟩ = some (.int .i64 a0_0) := (blk_cell BK117.out 0).trans rfl
                  have hcz57_1 : wc.cell? ⟨gb117, 1, none⟩ = some (.int .u64 a0_1) := (blk_cell BK117.out 1).trans rfl
                  have hcz57_2 : wc.cell? ⟨gb117, 2, none⟩ = some (.int .i64 a0_2) := (blk_cell BK117.out 2).trans rfl
                  have hcz57_3 : wc.cell? ⟨gb117, 3, none⟩ = some (.int .u64 a0_3) := (blk_cell BK117.out 3).trans rfl
                  have hcz57_4 : wc.cell? ⟨gb117, 4, none⟩ = some (.int .u64 a0_4) := (blk_cell BK117.out 4).trans rfl
                  have hcz57_5 : wc.cell? ⟨gb117, 5, none⟩ = some (.int .i64 a0_5) := (blk_cell BK117.out 5).trans rfl
                  have hcz57_6 : wc.cell? ⟨gb117, 6, none⟩ = some (.int .i64 a0_6) := (blk_cell BK117.out 6).trans rfl
                  have hcz57_7 : wc.cell? ⟨gb117, 7, none⟩ = some (.string a0_7) := (blk_cell BK117.out 7).trans rfl
                  have hcz57_8 : wc.cell? ⟨gb117, 8, none⟩ = some (.string a0_8) := (blk_cell BK117.out 8).trans rfl
                  have hcz57_9 : wc.cell? ⟨gb117, 9, none⟩ = some (.string a0_9) := (blk_cell BK117.out 9).trans rfl
                  have hcz57_10 : wc.cell? ⟨gb117, 10, none⟩ = some (.slice A0_10 l0_10.length c0_10) := (blk_cell BK117.out 10).trans rfl
                  have hcz57_11 : wc.cell? ⟨gb117, 11, none⟩ = some (.slice A0_11 l0_11.length c0_11) := (blk_cell BK117.out 11).trans rfl
                  have hfz57_0 := blk_frozen BK117.out 0
                  have hfz57_1 := blk_frozen BK117.out 1
                  have hfz57_2 := blk_frozen BK117.out 2
                  have hfz57_3 := blk_frozen BK117.out 3
                  have hfz57_4 := blk_frozen BK117.out 4
                  have hfz57_5 := blk_frozen BK117.out 5
                  have hfz57_6 := blk_frozen BK117.out 6
                  have hfz57_7 := blk_frozen BK117.out 7
                  have hfz57_8 := blk_frozen BK117.out 8
                  have hfz57_9 := blk_frozen BK117.out 9
                  have hfz57_10 := blk_frozen BK117.out 10
                  have hfz57_11 := blk_frozen BK117.out 11
                  go_wp2
                  go_ret
                  exact ⟨by first | rfl | (simp [errW_none, errW_some] <;> rfl) | (simp [*, errW_none, errW_some] <;> rfl), by repeat (first | (with_reducible first | exact HB.out | apply below_alloc | apply pw_below_drewN | apply below_drew1 | refine below_set ?_ GE117.out) | exact HB.out)⟩
              · rw [if_neg c40] at H
                have c40b0 : (a0_0 == 8) = false := beq_eq_false_iff_ne.mpr c40
                have c40b1 : (a0_0 != 8) = true := bne_iff_ne.mpr c40
                by_cases c58 : x3_29 = true
                · subst c58
                  have H1 : (if (l0_10.length : Int) = 0 then (if ((l0_11.length : Int) = 0) then (if a0_0 = 2 then ((rec_tables.f kj29 a0_0 a0_1 a0_2 a0_3 a0_4 a0_5 a0_6 a0_7 a0_8 a0_9 l0_10 l0_11).bind fun t126 => (if t126 = true then (some 0) else (some 1))) else (if a0_4 = 0 then ((rec_tables.f kj29 a0_0 a0_1 a0_2 a0_3 a0_4 a0_5 a0_6 a0_7 a0_8 a0_9 l0_10 l0_11).bind fun t127 => (if t127 = true then (some 0) else (some 1))) else (some 1))) else (some 1)) else (some 1)) = some r := by rw [if_pos rfl] at H; exact H
                  clear H
                  have H := H1
                  clear H1
                  by_cases c59 : (l0_10.length : Int) = 0
                  · rw [if_pos c59] at H
                    have c59b0 : ((l0_10.length : Int) == 0) = true := beq_iff_eq.mpr c59
                    have c59b1 : ((l0_10.length : Int) != 0) = false := bne_eq_false_iff_eq.mpr c59
                    clear c59
                    by_cases c60 : ((l0_11.length : Int) = 0)
                    · rw [if_pos c60] at H
                      have c60b0 : ((l0_11.length : Int) == 0) = true := beq_iff_eq.mpr c60
                      have c60b1 : ((l0_11.length : Int) != 0) = false := bne_eq_false_iff_eq.mpr c60
                      clear c60
                      by_cases c61 : a0_0 = 2
                      · rw [if_pos c61] at H
                        have c61b0 : (a0_0 == 2) = true := beq_iff_eq.mpr c61
                        have c61b1 : (a0_0 != 2) = false := bne_eq_false_iff_eq.mpr c61
                        clear c61
                        replace H := Option.bind_eq_some_iff.mp H
                        obtain ⟨t126, A620, H⟩ := H
                        replace H : (if t126 = true then (some 0) else (some 1)) = some r := H
                        have A62 := Aside0.mk A620
                        clear A620
                        by_cases c63 : t126 = true
                        · subst c63
                          have H1 : (some 0) = some r := by rw [if_pos rfl] at H; exact H
                          clear H
                          have H := H1
                          clear H1
                          obtain rfl := Option.some.inj H
                          have hcz64_0 : wc.cell? ⟨gb117, 0, none⟩ = some (.int .i64 a0_0) := (blk_cell BK117.out 0).trans rfl
                          have hcz64_1 : wc.cell? ⟨gb117, 1, none⟩ = some (.int .u64 a0_1) := (blk_cell BK117.out 1).trans rfl
                          have hcz64_2 : wc.cell? ⟨gb117, 2, none⟩ = some (.int .i64 a0_2) := (blk_cell BK117.out 2).trans rfl
                          have hcz64_3 : wc.cell? ⟨gb117, 3, none⟩ = some (.int .u64 a0_3) := (blk_cell BK117.out 3).trans rfl
                          have hcz64_4 : wc.cell? ⟨gb117, 4, none⟩ = some (.int .u64 a0_4) := (blk_cell BK117.out 4).trans rfl
                          have hcz64_5 : wc.cell? ⟨gb117, 5, none⟩ = some (.int .i64 a0_5) := (blk_cell BK117.out 5).trans rfl
                          have hcz64_6 : wc.cell? ⟨gb117, 6, none⟩ = some (.int .i64 a0_6) := (blk_cell BK117.out 6).trans rfl
                          have hcz64_7 : wc.cell? ⟨gb117, 7, none⟩ = some (.string a0_7) := (blk_cell BK117.out 7).trans rfl
                          have hcz64_8 : wc.cell? ⟨gb117, 8, none⟩ = some (.string a0_8) := (blk_cell BK117.out 8).trans rfl
                          have hcz64_9 : wc.cell? ⟨gb117, 9, none⟩ = some (.string a0_9) := (blk_cell BK117.out 9).trans rfl
                          have hcz64_10 : wc.cell? ⟨gb117, 10, none⟩ = some (.slice A0_10 l0_10.length c0_10) := (blk_cell BK117.out 10).trans rfl
                          have hcz64_11 : wc.cell? ⟨gb117, 11, none⟩ = some (.slice A0_11 l0_11.length c0_11) := (blk_cell BK117.out 11).trans rfl
                          have hfz64_0 := blk_frozen BK117.out 0
                          have hfz64_1 := blk_frozen BK117.out 1
                          have hfz64_2 := blk_frozen BK117.out 2
                          have hfz64_3 := blk_frozen BK117.out 3
                          have hfz64_4 := blk_frozen BK117.out 4
                          have hfz64_5 := blk_frozen BK117.out 5
                          have hfz64_6 := blk_frozen BK117.out 6
                          have hfz64_7 := blk_frozen BK117.out 7
                          have hfz64_8 := blk_frozen BK117.out 8
                          have hfz64_9 := blk_frozen BK117.out 9
                          have hfz64_10 := blk_frozen BK117.out 10
                          have hfz64_11 := blk_frozen BK117.out 11
                          go_wp2_with (first | (go_at_call 49; (with_reducible refine (rec_tables.calls kj29 a0_0 a0_1 a0_2 a0_3 a0_4 a0_5 a0_6 a0_7 a0_8 a0_9 _ _ l0_10 _ _ l0_11 true _ ?side1 ?side2 ?side3 ?side4 A62.out).mono ?_); (case side1 => repeat (first | exact (Kd.C_below HR0_10.out HB.out) | (with_reducible refine Kd.C_alloc ?_ _) | (with_reducible refine Kd.C_drewN ?_ _) | (with_reducible refine Kd.C_drew ?_))); (case side2 => exact HC0_10.out); (case side3 => repeat (first | exact (Kd.C_below HR0_11.out HB.out) | (with_reducible refine Kd.C_alloc ?_ _) | (with_reducible refine Kd.C_drewN ?_ _) | (with_reducible refine Kd.C_drew ?_))); (case side4 => exact HC0_11.out); rintro e w65 ⟨rfl, hb⟩; have n0_ := Aside0.mk (blk_below (g := gb117) (o := .cells #[.int .i64 a0_0, .int .u64 a0_1, .int .i64 a0_2, .int .u64 a0_3, .int .u64 a0_4, .int .i64 a0_5, .int .i64 a0_6, .string a0_7, .string a0_8, .string a0_9, .slice A0_10 l0_10.length c0_10, .slice A0_11 l0_11.length c0_11] 43 (0, 0)) (by (with_reducible repeat (first | refine blk_drewN ?_ _ | refine blk_drew ?_ | refine blk_alloc ?_ _)); exact BK117.out) hb); have n1_ := Aside0.mk (below_step (by repeat (first | (with_reducible first | exact HB.out | apply below_alloc | apply pw_below_drewN | apply below_drew1 | refine below_set ?_ GE117.out) | exact HB.out)) hb); clear BK117; clear HB; have BK117 := n0_; have HB := n1_; clear n0_ n1_; (try clear hb); (try clear hb2); (try clear hk); (try clear hi)))
                          go_ret
                          exact ⟨by first | rfl | (simp [errW_none, errW_some] <;> rfl) | (simp [*, errW_none, errW_some] <;> rfl), by repeat (first | (with_reducible first | exact HB.out | apply below_alloc | apply pw_below_drewN | apply below_drew1 | refine below_set ?_ GE117.out) | exact HB.out)⟩
                        · replace c63 := Bool.eq_false_iff.mpr c63
                          subst c63
                          have H1 : (some 1) = some r := by rw [if_neg (show ¬ (false = true) by decide)] at H; exact H
                          clear H
                          have H := H1
                          clear H1
                          obtain rfl := Option.some.inj H
                          have hcz66_0 : wc.cell? ⟨gb117, 0, none⟩ = some (.int .i64 a0_0) := (blk_cell BK117.out 0).trans rfl
                          have hcz66_1 : wc.cell? ⟨gb117, 1, none⟩ = some (.int .u64 a0_1) := (blk_cell BK117.out 1).trans rfl
                          have hcz66_2 : wc.cell? ⟨gb117, 2, none⟩ = some (.int .i64 a0_2) := (blk_cell BK117.out 2).trans rfl
                          have hcz66_3 : wc.cell? ⟨gb117, 3, none⟩ = some (.int .u64 a0_3) := (blk_cell BK117.out 3).trans rfl
                          have hcz66_4 : wc.cell? ⟨gb117, 4, none⟩ = some (.int .u64 a0_4) := (blk_cell BK117.out 4).trans rfl
                          have hcz66_5 : wc.cell? ⟨gb117, 5, none⟩ = some (.int .i64 a0_5) := (blk_cell BK117.out 5).trans rfl
                          have hcz66_6 : wc.cell? ⟨gb117, 6, none⟩ = some (.int .i64 a0_6) := (blk_cell BK117.out 6).trans rfl
                          have hcz66_7 : wc.cell? ⟨gb117, 7, none⟩ = some (.string a0_7) := (blk_cell BK117.out 7).trans rfl
                          have hcz66_8 : wc.cell? ⟨gb117, 8, none⟩ = some (.string a0_8) := (blk_cell BK117.out 8).trans rfl
                          have hcz66_9 : wc.cell? ⟨gb117, 9, none⟩ = some (.string a0_9) := (blk_cell BK117.out 9).trans rfl
                          have hcz66_10 : wc.cell? ⟨gb117, 10, none⟩ = some (.slice A0_10 l0_10.length c0_10) := (blk_cell BK117.out 10).trans rfl
                          have hcz66_11 : wc.cell? ⟨gb117, 11, none⟩ = some (.slice A0_11 l0_11.length c0_11) := (blk_cell BK117.out 11).trans rfl
                          have hfz66_0 := blk_frozen BK117.out 0
                          have hfz66_1 := blk_frozen BK117.out 1
                          have hfz66_2 := blk_frozen BK117.out 2
                          have hfz66_3 := blk_frozen BK117.out 3
                          have hfz66_4 := blk_frozen BK117.out 4
                          have hfz66_5 := blk_frozen BK117.out 5
                          have hfz66_6 := blk_frozen BK117.out 6
                          have hfz66_7 := blk_frozen BK117.out 7
                          have hfz66_8 := blk_frozen BK117.out 8
                          have hfz66_9 := blk_frozen BK117.out 9
                          have hfz66_10 := blk_frozen BK117.out 10
                          have hfz66_11 := blk_frozen BK117.out 11
                          go_wp2_with (first | (go_at_call 49; (with_reducible refine (rec_tables.calls kj29 a0_0 a0_1 a0_2 a0_3 a0_4 a0_5 a0_6 a0_7 a0_8 a0_9 _ _ l0_10 _ _ l0_11 false _ ?side1 ?side2 ?side3 ?side4 A62.out).mono ?_); (case side1 => repeat (first | exact (Kd.C_below HR0_10.out HB.out) | (with_reducible refine Kd.C_alloc ?_ _) | (with_reducible refine Kd.C_drewN ?_ _) | (with_reducible refine Kd.C_drew ?_))); (case side2 => exact HC0_10.out); (case side3 => repeat (first | exact (Kd.C_below HR0_11.out HB.out) | (with_reducible refine Kd.C_alloc ?_ _) | (with_reducible refine Kd.C_drewN ?_ _) | (with_reducible refine Kd.C_drew ?_))); (case side4 => exact HC0_11.out); rintro e w67 ⟨rfl, hb⟩; have n0_ := Aside0.mk (blk_below (g := gb117) (o := .cells #[.int .i64 a0_0, .int .u64 a0_1, .int .i64 a0_2, .int .u64 a0_3, .int .u64 a0_4, .int .i64 a0_5, .int .i64 a0_6, .string a0_7, .string a0_8, .string a0_9, .slice A0_10 l0_10.length c0_10, .slice A0_11 l0_11.length c0_11] 43 (0, 0)) (by (with_reducible repeat (first | refine blk_drewN ?_ _ | refine blk_drew ?_ | refine blk_alloc ?_ _)); exact BK117.out) hb); have n1_ := Aside0.mk (below_step (by repeat (first | (with_reducible first | exact HB.out | apply below_alloc | apply pw_below_drewN | apply below_drew1 | refine below_set ?_ GE117.out) | exact HB.out)) hb); clear BK117; clear HB; have BK117 := n0_; have HB := n1_; clear n0_ n1_; (try clear hb); (try clear hb2); (try clear hk); (try clear hi)))
                          go_ret
                          exact ⟨by first | rfl | (simp [errW_none, errW_some] <;> rfl) | (simp [*, errW_none, errW_some] <;> rfl), by repeat (first | (with_reducible first | exact HB.out | apply below_alloc | apply pw_below_drewN | apply below_drew1 | refine below_set ?_ GE117.out) | exact HB.out)⟩
                      · rw [if_neg c61] at H
                        have c61b0 : (a0_0 == 2) = false := beq_eq_false_iff_ne.mpr c61
                        have c61b1 : (a0_0 != 2) = true := bne_iff_ne.mpr c61
                        by_cases c68 : a0_4 = 0
                        · rw [if_pos c68] at H
                          have c68b0 : (a0_4 == 0) = true := beq_iff_eq.mpr c68
                          have c68b1 : (a0_4 != 0) = false := bne_eq_false_iff_eq.mpr c68
                          clear c68
                          replace H := Option.bind_eq_some_iff.mp H
                          obtain ⟨t127, A690, H⟩ := H
                          replace H : (if t127 = true then (some 0) else (some 1)) = some r := H
                          have A69 := Aside0.mk A690
                          clear A690
                          by_cases c70 : t127 = true
                          · subst c70
                            have H1 : (some 0) = some r := by rw [if_pos rfl] at H; exact H
                            clear H
                            have H := H1
                            clear H1
                            obtain rfl := Option.some.inj H
                            have hcz71_0 : wc.cell? ⟨gb117, 0, none⟩ = some (.int .i64 a0_0) := (blk_cell BK117.out 0).trans rfl
                            have hcz71_1 : wc.cell? ⟨gb117, 1, none⟩ = some (.int .u64 a0_1) := (blk_cell BK117.out 1).trans rfl
                            have hcz71_2 : wc.cell? ⟨gb117, 2, none⟩ = some (.int .i64 a0_2) := (blk_cell BK117.out 2).trans rfl
                            have hcz71_3 : wc.cell? ⟨gb117, 3, none⟩ = some (.int .u64 a0_3) := (blk_cell BK117.out 3).trans rfl
                            have hcz71_4 : wc.cell? ⟨gb117, 4, none⟩ = some (.int .u64 a0_4) := (blk_cell BK117.out 4).trans rfl
                            have hcz71_5 : wc.cell? ⟨gb117, 5, none⟩ = some (.int .i64 a0_5) := (blk_cell BK117.out 5).trans rfl
                            have hcz71_6 : wc.cell? ⟨gb117, 6, none⟩ = some (.int .i64 a0_6) := (blk_cell BK117.out 6).trans rfl
                            have hcz71_7 : wc.cell? ⟨gb117, 7, none⟩ = some (.string a0_7) := (blk_cell BK117.out 7).trans rfl
                            have hcz71_8 : wc.cell? ⟨gb117, 8, none⟩ = some (.string a0_8) := (blk_cell BK117.out 8).trans rfl
                            have hcz71_9 : wc.cell? ⟨gb117, 9, none⟩ = some (.string a0_9) := (blk_cell BK117.out 9).trans rfl
                            have hcz71_10 : wc.cell? ⟨gb117, 10, none⟩ = some (.slice A0_10 l0_10.length c0_10) := (blk_cell BK117.out 10).trans rfl
                            have hcz71_11 : wc.cell? ⟨gb117, 11, none⟩ = some (.slice A0_11 l0_11.length c0_11) := (blk_cell BK117.out 11).trans rfl
                            have hfz71_0 := blk_frozen BK117.out 0
                            have hfz71_1 := blk_frozen BK117.out 1
                            have hfz71_2 := blk_frozen BK117.out 2
                            have hfz71_3 := blk_frozen BK117.out 3
                            have hfz71_4 := blk_frozen BK117.out 4
                            have hfz71_5 := blk_frozen BK117.out 5
                            have hfz71_6 := blk_frozen BK117.out 6
                            have hfz71_7 := blk_frozen BK117.out 7
                            have hfz71_8 := blk_frozen BK117.out 8
                            have hfz71_9 := blk_frozen BK117.out 9
                            have hfz71_10 := blk_frozen BK117.out 10
                            have hfz71_11 := blk_frozen BK117.out 11
                            go_wp2_with (first | (go_at_call 49; (with_reducible refine (rec_tables.calls kj29 a0_0 a0_1 a0_2 a0_3 a0_4 a0_5 a0_6 a0_7 a0_8 a0_9 _ _ l0_10 _ _ l0_11 true _ ?side1 ?side2 ?side3 ?side4 A69.out).mono ?_); (case side1 => repeat (first | exact (Kd.C_below HR0_10.out HB.out) | (with_reducible refine Kd.C_alloc ?_ _) | (with_reducible refine Kd.C_drewN ?_ _) | (with_reducible refine Kd.C_drew ?_))); (case side2 => exact HC0_10.out); (case side3 => repeat (first | exact (Kd.C_below HR0_11.out HB.out) | (with_reducible refine Kd.C_alloc ?_ _) | (with_reducible refine Kd.C_drewN ?_ _) | (with_reducible refine Kd.C_drew ?_))); (case side4 => exact HC0_11.out); rintro e w72 ⟨rfl, hb⟩; have n0_ := Aside0.mk (blk_below (g := gb117) (o := .cells #[.int .i64 a0_0, .int .u64 a0_1, .int .i64 a0_2, .int .u64 a0_3, .int .u64 a0_4, .int .i64 a0_5, .int .i64 a0_6, .string a0_7, .string a0_8, .string a0_9, .slice A0_10 l0_10.length c0_10, .slice A0_11 l0_11.length c0_11] 43 (0, 0)) (by (with_reducible repeat (first | refine blk_drewN ?_ _ | refine blk_drew ?_ | refine blk_alloc ?_ _)); exact BK117.out) hb); have n1_ := Aside0.mk (below_step (by repeat (first | (with_reducible first | exact HB.out | apply below_alloc | apply pw_below_drewN | apply below_drew1 | refine below_set ?_ GE117.out) | exact HB.out)) hb); clear BK117; clear HB; have BK117 := n0_; have HB := n1_; clear n0_ n1_; (try clear hb); (try clear hb2); (try clear hk); (try clear hi)))
                            go_ret
                            exact ⟨by first | rfl | (simp [errW_none, errW_some] <;> rfl) | (simp [*, errW_none, errW_some] <;> rfl), by repeat (first | (with_reducible first | exact HB.out | apply below_alloc | apply pw_below_drewN | apply below_drew1 | refine below_set ?_ GE117.out) | exact HB.out)⟩
                          · replace c70 := Bool.eq_false_iff.mpr c70
                            subst c70
                            have H1 : (some 1) = some r := by rw [if_neg (show ¬ (false = true) by decide)] at H; exact H
                            clear H
                            have H := H1
                            clear H1
                            obtain rfl := Option.some.inj H
                            have hcz73_0 : wc.cell? ⟨gb117, 0, none⟩ = some (.int .i64 a0_0) := (blk_cell BK117.out 0).trans rfl
                            have hcz73_1 : wc.cell? ⟨gb117, 1, none⟩ = some (.int .u64 a0_1) := (blk_cell BK117.out 1).trans rfl
                            have hcz73_2 : wc.cell? ⟨gb117, 2, none⟩ = some (.int .i64 a0_2) := (blk_cell BK117.out 2).trans rfl
                            have hcz73_3 : wc.cell? ⟨gb117, 3, none⟩ = some (.int .u64 a0_3) := (blk_cell BK117.out 3).trans rfl
                            have hcz73_4 : wc.cell? ⟨gb117, 4, none⟩ = some (.int .u64 a0_4) := (blk_cell BK117.out 4).trans rfl
                            have hcz73_5 : wc.cell? ⟨gb117, 5, none⟩ = some (.int .i64 a0_5) := (blk_cell BK117.out 5).trans rfl
                            have hcz73_6 : wc.cell? ⟨gb117, 6, none⟩ = some (.int .i64 a0_6) := (blk_cell BK117.out 6).trans rfl
                            have hcz73_7 : wc.cell? ⟨gb117, 7, none⟩ = some (.string a0_7) := (blk_cell BK117.out 7).trans rfl
                            have hcz73_8 : wc.cell? ⟨gb117, 8, none⟩ = some (.string a0_8) := (blk_cell BK117.out 8).trans rfl
                            have hcz73_9 : wc.cell? ⟨gb117, 9, none⟩ = some (.string a0_9) := (blk_cell BK117.out 9).trans rfl
                            have hcz73_10 : wc.cell? ⟨gb117, 10, none⟩ = some (.slice A0_10 l0_10.length c0_10) := (blk_cell BK117.out 10).trans rfl
                            have hcz73_11 : wc.cell? ⟨gb117, 11, none⟩ = some (.slice A0_11 l0_11.length c0_11) := (blk_cell BK117.out 11).trans rfl
                            have hfz73_0 := blk_frozen BK117.out 0
                            have hfz73_1 := blk_frozen BK117.out 1
                            have hfz73_2 := blk_frozen BK117.out 2
                            have hfz73_3 := blk_frozen BK117.out 3
                            have hfz73_4 := blk_frozen BK117.out 4
                            have hfz73_5 := blk_frozen BK117.out 5
                            have hfz73_6 := blk_frozen BK117.out 6
                            have hfz73_7 := blk_frozen BK117.out 7
                            have hfz73_8 := blk_frozen BK117.out 8
                            have hfz73_9 := blk_frozen BK117.out 9
                            have hfz73_10 := blk_frozen BK117.out 10
                            have hfz73_11 := blk_frozen BK117.out 11
                            go_wp2_with (first | (go_at_call 49; (with_reducible refine (rec_tables.calls kj29 a0_0 a0_1 a0_2 a0_3 a0_4 a0_5 a0_6 a0_7 a0_8 a0_9 _ _ l0_10 _ _ l0_11 false _ ?side1 ?side2 ?side3 ?side4 A69.out).mono ?_); (case side1 => repeat (first | exact (Kd.C_below HR0_10.out HB.out) | (with_reducible refine Kd.C_alloc ?_ _) | (with_reducible refine Kd.C_drewN ?_ _) | (with_reducible refine Kd.C_drew ?_))); (case side2 => exact HC0_10.out); (case side3 => repeat (first | exact (Kd.C_below HR0_11.out HB.out) | (with_reducible refine Kd.C_alloc ?_ _) | (with_reducible refine Kd.C_drewN ?_ _) | (with_reducible refine Kd.C_drew ?_))); (case side4 => exact HC0_11.out); rintro e w74 ⟨rfl, hb⟩; have n0_ := Aside0.mk (blk_below (g := gb117) (o := .cells #[.int .i64 a0_0, .int .u64 a0_1, .int .i64 a0_2, .int .u64 a0_3, .int .u64 a0_4, .int .i64 a0_5, .int .i64 a0_6, .string a0_7, .string a0_8, .string a0_9, .slice A0_10 l0_10.length c0_10, .slice A0_11 l0_11.length c0_11] 43 (0, 0)) (by (with_reducible repeat (first | refine blk_drewN ?_ _ | refine blk_drew ?_ | refine blk_alloc ?_ _)); exact BK117.out) hb); have n1_ := Aside0.mk (below_step (by repeat (first | (with_reducible first | exact HB.out | apply below_alloc | apply pw_below_drewN | apply below_drew1 | refine below_set ?_ GE117.out) | exact HB.out)) hb); clear BK117; clear HB; have BK117 := n0_; have HB := n1_; clear n0_ n1_; (try clear hb); (try clear hb2); (try clear hk); (try clear hi)))
                            go_ret
                            exact ⟨by first | rfl | (simp [errW_none, errW_some] <;> rfl) | (simp [*, errW_none, errW_some] <;> rfl), by repeat (first | (with_reducible first | exact HB.out | apply below_alloc | apply pw_below_drewN | apply below_drew1 | refine below_set ?_ GE117.out) | exact HB.out)⟩
                        · rw [if_neg c68] at H
                          have c68b0 : (a0_4 == 0) = false := beq_eq_false_iff_ne.mpr c68
                          have c68b1 : (a0_4 != 0) = true := bne_iff_ne.mpr c68
                          obtain rfl := Option.some.inj H
                          have hcz75_0 : wc.cell? ⟨gb117, 0, none⟩ = some (.int .i64 a0_0) := (blk_cell BK117.out 0).trans rfl
                          have hcz75_1 : wc.cell? ⟨gb117, 1, none⟩ = some (.int .u64 a0_1) := (blk_cell BK117.out 1).trans rfl
                          have hcz75_2 : wc.cell? ⟨gb117, 2, none⟩ = some (.int .i64 a0_2) := (blk_cell BK117.out 2).trans rfl
                          have hcz75_3 : wc.cell? ⟨gb117, 3, none⟩ = some (.int .u64 a0_3) := (blk_cell BK117.out 3).trans rfl
                          have hcz75_4 : wc.cell? ⟨gb117, 4, none⟩ = some (.int .u64 a0_4) := (blk_cell BK117.out 4).trans rfl
                          have hcz75_5 : wc.cell? ⟨gb117, 5, none⟩ = some (.int .i64 a0_5) := (blk_cell BK117.out 5).trans rfl
                          have hcz75_6 : wc.cell? ⟨gb117, 6, none⟩ = some (.int .i64 a0_6) := (blk_cell BK117.out 6).trans rfl
                          have hcz75_7 : wc.cell? ⟨gb117, 7, none⟩ = some (.string a0_7) := (blk_cell BK117.out 7).trans rfl
                          have hcz75_8 : wc.cell? ⟨gb117, 8, none⟩ = some (.string a0_8) := (blk_cell BK117.out 8).trans rfl
                          have hcz75_9 : wc.cell? ⟨gb117, 9, none⟩ = some (.string a0_9) := (blk_cell BK117.out 9).trans rfl
                          have hcz75_10 : wc.cell? ⟨gb117, 10, none⟩ = some (.slice A0_10 l0_10.length c0_10) := (blk_cell BK117.out 10).trans rfl
                          have hcz75_11 : wc.cell? ⟨gb117, 11, none⟩ = some (.slice A0_11 l0_11.length c0_11) := (blk_cell BK117.out 11).trans rfl
                          have hfz75_0 := blk_frozen BK117.out 0
                          have hfz75_1 := blk_frozen BK117.out 1
                          have hfz75_2 := blk_frozen BK117.out 2
                          have hfz75_3 := blk_frozen BK117.out 3
                          have hfz75_4 := blk_frozen BK117.out 4
                          have hfz75_5 := blk_frozen BK117.out 5
                          have hfz75_6 := blk_frozen BK117.out 6
                          have hfz75_7 := blk_frozen BK117.out 7
                          have hfz75_8 := blk_frozen BK117.out 8
                          have hfz75_9 := blk_frozen BK117.out 9
                          have hfz75_10 := blk_frozen BK117.out 10
                          have hfz75_11 := blk_frozen BK117.out 11
                          go_wp2
                          go_ret
                          exact ⟨by first | rfl | (simp [errW_none, errW_some] <;> rfl) | (simp [*, errW_none, errW_some] <;> rfl), by repeat (first | (with_reducible first | exact HB.out | apply below_alloc | apply pw_below_drewN | apply below_drew1 | refine below_set ?_ GE117.out) | exact HB.out)⟩
                    · rw [if_neg c60] at H
                      have c60b0 : ((l0_11.length : Int) == 0) = false := beq_eq_false_iff_ne.mpr c60
                      have c60b1 : ((l0_11.length : Int) != 0) = true := bne_iff_ne.mpr c60
                      have c60b2 : ¬ (l0_11 = []) := fun h_ => c60 (by rw [h_]; rfl)
                      obtain rfl := Option.some.inj H
                      have hcz76_0 : wc.cell? ⟨gb117, 0, none⟩ = some (.int .i64 a0_0) := (blk_cell BK117.out 0).trans rfl
                      have hcz76_1 : wc.cell? ⟨gb117, 1, none⟩ = some (.int .u64 a0_1) := (blk_cell BK117.out 1).trans rfl
                      have hcz76_2 : wc.cell? ⟨gb117, 2, none⟩ = some (.int .i64 a0_2) := (blk_cell BK117.out 2).trans rfl
                      have hcz76_3 : wc.cell? ⟨gb117, 3, none⟩ = some (.int .u64 a0_3) := (blk_cell BK117.out 3).trans rfl
                      have hcz76_4 : wc.cell? ⟨gb117, 4, none⟩ = some (.int .u64 a0_4) := (blk_cell BK117.out 4).trans rfl
                      have hcz76_5 : wc.cell? ⟨gb117, 5, none⟩ = some (.int .i64 a0_5) := (blk_cell BK117.out 5).trans rfl
                      have hcz76_6 : wc.cell? ⟨gb117, 6, none⟩ = some (.int .i64 a0_6) := (blk_cell BK117.out 6).trans rfl
                      have hcz76_7 : wc.cell? ⟨gb117, 7, none⟩ = some (.string a0_7) := (blk_cell BK117.out 7).trans rfl
                      have hcz76_8 : wc.cell? ⟨gb117, 8, none⟩ = some (.string a0_8) := (blk_cell BK117.out 8).trans rfl
                      have hcz76_9 : wc.cell? ⟨gb117, 9, none⟩ = some (.string a0_9) := (blk_cell BK117.out 9).trans rfl
                      have hcz76_10 : wc.cell? ⟨gb117, 10, none⟩ = some (.slice A0_10 l0_10.length c0_10) := (blk_cell BK117.out 10).trans rfl
                      have hcz76_11 : wc.cell? ⟨gb117, 11, none⟩ = some (.slice A0_11 l0_11.length c0_11) := (blk_cell BK117.out 11).trans rfl
                      have hfz76_0 := blk_frozen BK117.out 0
                      have hfz76_1 := blk_frozen BK117.out 1
                      have hfz76_2 := blk_frozen BK117.out 2
                      have hfz76_3 := blk_frozen BK117.out 3
                      have hfz76_4 := blk_frozen BK117.out 4
                      have hfz76_5 := blk_frozen BK117.out 5
                      have hfz76_6 := blk_frozen BK117.out 6
                      have hfz76_7 := blk_frozen BK117.out 7
                      have hfz76_8 := blk_frozen BK117.out 8
                      have hfz76_9 := blk_frozen BK117.out 9
                      have hfz76_10 := blk_frozen BK117.out 10
                      have hfz76_11 := blk_frozen BK117.out 11
                      go_wp2
                      go_ret
                      exact ⟨by first | rfl | (simp [errW_none, errW_some] <;> rfl) | (simp [*, errW_none, errW_some] <;> rfl), by repeat (first | (with_reducible first | exact HB.out | apply below_alloc | apply pw_below_drewN | apply below_drew1 | refine below_set ?_ GE117.out) | exact HB.out)⟩
                  · rw [if_neg c59] at H
                    have c59b0 : ((l0_10.length : Int) == 0) = false := beq_eq_false_iff_ne.mpr c59
                    have c59b1 : ((l0_10.length : Int) != 0) = true := bne_iff_ne.mpr c59
                    have c59b2 : ¬ (l0_10 = []) := fun h_ => c59 (by rw [h_]; rfl)
                    obtain rfl := Option.some.inj H
                    have hcz77_0 : wc.cell? ⟨gb117, 0, none⟩ = some (.int .i64 a0_0) := (blk_cell BK117.out 0).trans rfl
                    have hcz77_1 : wc.cell? ⟨gb117, 1, none⟩ = some (.int .u64 a0_1) := (blk_cell BK117.out 1).trans rfl
                    have hcz77_2 : wc.cell? ⟨gb117, 2, none⟩ = some (.int .i64 a0_2) := (blk_cell BK117.out 2).trans rfl
                    have hcz77_3 : wc.cell? ⟨gb117, 3, none⟩ = some (.int .u64 a0_3) := (blk_cell BK117.out 3).trans rfl
                    have hcz77_4 : wc.cell? ⟨gb117, 4, none⟩ = some (.int .u64 a0_4) := (blk_cell BK117.out 4).trans rfl
                    have hcz77_5 : wc.cell? ⟨gb117, 5, none⟩ = some (.int .i64 a0_5) := (blk_cell BK117.out 5).trans rfl
                    have hcz77_6 : wc.cell? ⟨gb117, 6, none⟩ = some (.int .i64 a0_6) := (blk_cell BK117.out 6).trans rfl
                    have hcz77_7 : wc.cell? ⟨gb117, 7, none⟩ = some (.string a0_7) := (blk_cell BK117.out 7).trans rfl
                    have hcz77_8 : wc.cell? ⟨gb117, 8, none⟩ = some (.string a0_8) := (blk_cell BK117.out 8).trans rfl
                    have hcz77_9 : wc.cell? ⟨gb117, 9, none⟩ = some (.string a0_9) := (blk_cell BK117.out 9).trans rfl
                    have hcz77_10 : wc.cell? ⟨gb117, 10, none⟩ = some (.slice A0_10 l0_10.length c0_10) := (blk_cell BK117.out 10).trans rfl
                    have hcz77_11 : wc.cell? ⟨gb117, 11, none⟩ = some (.slice A0_11 l0_11.length c0_11) := (blk_cell BK117.out 11).trans rfl
                    have hfz77_0 := blk_frozen BK117.out 0
                    have hfz77_1 := blk_frozen BK117.out 1
                    have hfz77_2 := blk_frozen BK117.out 2
                    have hfz77_3 := blk_frozen BK117.out 3
                    have hfz77_4 := blk_frozen BK117.out 4
                    have hfz77_5 := blk_frozen BK117.out 5
                    have hfz77_6 := blk_frozen BK117.out 6
                    have hfz77_7 := blk_frozen BK117.out 7
                    have hfz77_8 := blk_frozen BK117.out 8
                    have hfz77_9 := blk_frozen BK117.out 9
                    have hfz77_10 := blk_frozen BK117.out 10
                    have hfz77_11 := blk_frozen BK117.out 11
                    go_wp2
                    go_ret
                    exact ⟨by first | rfl | (simp [errW_none, errW_some] <;> rfl) | (simp [*, errW_none, errW_some] <;> rfl), by repeat (first | (with_reducible first | exact HB.out | apply below_alloc | apply pw_below_drewN | apply below_drew1 | refine below_set ?_ GE117.out) | exact HB.out)⟩
                · replace c58 := Bool.eq_false_iff.mpr c58
                  subst c58
                  have H1 : (some 1) = some r := by rw [if_neg (show ¬ (false = true) by decide)] at H; exact H
                  clear H
                  have H := H1
                  clear H1
                  obtain rfl := Option.some.inj H
                  have hcz78_0 : wc.cell? ⟨gb117, 0, none⟩ = some (.int .i64 a0_0) := (blk_cell BK117.out 0).trans rfl
                  have hcz78_1 : wc.cell? ⟨gb117, 1, none⟩ = some (.int .u64 a0_1) := (blk_cell BK117.out 1).trans rfl
                  have hcz78_2 : wc.cell? ⟨gb117, 2, none⟩ = some (.int .i64 a0_2) := (blk_cell BK117.out 2).trans rfl
                  have hcz78_3 : wc.cell? ⟨gb117, 3, none⟩ = some (.int .u64 a0_3) := (blk_cell BK117.out 3).trans rfl
                  have hcz78_4 : wc.cell? ⟨gb117, 4, none⟩ = some (.int .u64 a0_4) := (blk_cell BK117.out 4).trans rfl
                  have hcz78_5 : wc.cell? ⟨gb117, 5, none⟩ = some (.int .i64 a0_5) := (blk_cell BK117.out 5).trans rfl
                  have hcz78_6 : wc.cell? ⟨gb117, 6, none⟩ = some (.int .i64 a0_6) := (blk_cell BK117.out 6).trans rfl
                  have hcz78_7 : wc.cell? ⟨gb117, 7, none⟩ = some (.string a0_7) := (blk_cell BK117.out 7).trans rfl
                  have hcz78_8 : wc.cell? ⟨gb117, 8, none⟩ = some (.string a0_8) := (blk_cell BK117.out 8).trans rfl
                  have hcz78_9 : wc.cell? ⟨gb117, 9, none⟩ = some (.string a0_9) := (blk_cell BK117.out 9).trans rfl
                  have hcz78_10 : wc.cell? ⟨gb117, 10, none⟩ = some (.slice A0_10 l0_10.length c0_10) := (blk_cell BK117.out 10).trans rfl
                  have hcz78_11 : wc.cell? ⟨gb117, 11, none⟩ = some (.slice A0_11 l0_11.length c0_11) := (blk_cell BK117.out 11).trans rfl
                  have hfz78_0 := blk_frozen BK117.out 0
                  have hfz78_1 := blk_frozen BK117.out 1
                  have hfz78_2 := blk_frozen BK117.out 2
                  have hfz78_3 := blk_frozen BK117.out 3
                  have hfz78_4 := blk_frozen BK117.out 4
                  have hfz78_5 := blk_frozen BK117.out 5
                  have hfz78_6 := blk_frozen BK117.out 6
                  have hfz78_7 := blk_frozen BK117.out 7
                  have hfz78_8 := blk_frozen BK117.out 8
                  have hfz78_9 := blk_frozen BK117.out 9
                  have hfz78_10 := blk_frozen BK117.out 10
                  have hfz78_11 := blk_frozen BK117.out 11
                  go_wp2
                  go_ret
                  exact ⟨by first | rfl | (simp [errW_none, errW_some] <;> rfl) | (simp [*, errW_none, errW_some] <;> rfl), by repeat (first | (with_reducible first | exact HB.out | apply below_alloc | apply pw_below_drewN | apply below_drew1 | refine below_set ?_ GE117.out) | exact HB.out)⟩


end Go.Proofs.Ytaahfokdgfopcaa.Rf
