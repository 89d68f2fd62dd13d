/- Functions of the Go text as Lean functions, and that the calls answer so. -/
import Derived.Test.YtaahfokdgfopcaaZRfT
import Derived.Test.YtaahfokdgfopcaaZRf0
import Derived.Test.YtaahfokdgfopcaaZRf2
namespace Go.Proofs.Ytaahfokdgfopcaa.Rf
open Go.RowKit Go.Proofs.YtaahfokdgfopcaaW.PrintWords Go.Proofs.YtaahfokdgfopcaaW.PrintLast Go.Proofs.YtaahfokdgfopcaaW.PrintMore
attribute [local go_sem] max2_int min2_int max_two min_two max_three min_three max_four min_four
set_option linter.unusedVariables false
set_option linter.unusedSimpArgs false

attribute [local go_sem high] eqAGAct
attribute [local go_sem high] eqAGTxn
attribute [local go_sem high] eqAGDirty

/-! ### find_Check -/
def find_Check.l0 : Nat → List (SGRecord) → Int → Int → Option (Int)
  | 0, _, _, _ => none
  | k + 1, x8, x9, x10 => if x10 < x9 then (if 0 ≤ x10 then (if x10 < (x8.length : Int) then ((rec_Check.f k ((rd_TGRecord x8 x10).f0) ((rd_TGRecord x8 x10).f1) ((rd_TGRecord x8 x10).f2) ((rd_TGRecord x8 x10).f3) ((rd_TGRecord x8 x10).f4) ((rd_TGRecord x8 x10).f5) ((rd_TGRecord x8 x10).f6.f0) ((rd_TGRecord x8 x10).f6.f1) ((rd_TGRecord x8 x10).f6.f2) ((rd_TGRecord x8 x10).f6.f3) ((rd_TGRecord x8 x10).f7) ((rd_TGRecord x8 x10).f8)).bind fun t131 => (if t131 = 0 then (find_Check.l0 k x8 x9 (wrap64 (x10 + 1))) else (some 1))) else (none)) else (none)) else (some 0)
def find_Check.f (k : Nat) (l0 : List (SGRecord)) : Option (Int) := (merge_Rises.f k l0).bind fun t128 => (if t128 = true then (find_Check.l0 k l0 (l0.length : Int) 0) else (some 1))
theorem find_Check.mono_l : ∀ k, (∀ y0 y1 y2, LeO (find_Check.l0 k y0 y1 y2) (find_Check.l0 (k + 1) y0 y1 y2))
  | 0 => fun _ _ _ r h => by simp [find_Check.l0] at h
  | k + 1 => by
    have ih0 := find_Check.mono_l k
    · intro y0 y1 y2
      unfold find_Check.l0
      repeat' first
      | (with_reducible exact ih0 _ _ _)
      | (with_reducible exact merge_Rises.mono _ _)
      | (with_reducible exact rec_Check.mono _ _ _ _ _ _ _ _ _ _ _ _ _)
      | (with_reducible exact LeO.refl _)
      | (with_reducible exact LeO.none _)
      | (with_reducible refine LeO.ite ?_ ?_)
      | (with_reducible refine LeO.bind ?_ (fun _ => ?_))
      | exact ih0 _ _ _
      | exact merge_Rises.mono _ _
      | exact rec_Check.mono _ _ _ _ _ _ _ _ _ _ _ _ _
      | exact LeO.none _
      | refine LeO.ite ?_ ?_
      | refine LeO.bind ?_ (fun _ => ?_)
theorem find_Check.mono : ∀ a0 k, LeO (find_Check.f k a0) (find_Check.f (k + 1) a0) := by
  intro a0 k
  have ih0 := find_Check.mono_l k
  unfold find_Check.f
  repeat' first
      | (with_reducible exact ih0 _ _ _)
      | (with_reducible exact merge_Rises.mono _ _)
      | (with_reducible exact rec_Check.mono _ _ _ _ _ _ _ _ _ _ _ _ _)
      | (with_reducible exact LeO.refl _)
      | (with_reducible exact LeO.none _)
      | (with_reducible refine LeO.ite ?_ ?_)
      | (with_reducible refine LeO.bind ?_ (fun _ => ?_))
      | exact ih0 _ _ _
      | exact merge_Rises.mono _ _
      | exact rec_Check.mono _ _ _ _ _ _ _ _ _ _ _ _ _
      | exact LeO.none _
      | refine LeO.ite ?_ ?_
      | refine LeO.bind ?_ (fun _ => ?_)
set_option maxHeartbeats 8000000 in
set_option maxRecDepth 100000 in
theorem find_Check.calls (k : Nat) (A0 : Option Addr) (c0 : Nat) (l0 : List (SGRecord)) (r : Int) (w : World) (hr0 : Kd.C kGRecord w A0 l0.length l0) (hc0 : l0.length ≤ c0) (h : find_Check.f k l0 = some r) :
    Calls Try.prog 18 #[.slice A0 l0.length c0] w fun e w' => e = .returned (.int .i64 r) ∧ Below w.heap.size w w' := by
  have hu43 := Try.underlying43
  have HR0 := Aside0.mk hr0
  have HC0 := Aside0.mk hc0
  clear hr0 hc0
  have HB := Aside0.mk (Below.refl w.heap.size w)
  have H : ((merge_Rises.f k l0).bind fun t128 => (if t128 = true then (find_Check.l0 k l0 (l0.length : Int) 0) else (some 1))) = some r := h
  clear h
  replace H := Option.bind_eq_some_iff.mp H
  obtain ⟨t128, A20, H⟩ := H
  replace H : (if t128 = true then (find_Check.l0 k l0 (l0.length : Int) 0) else (some 1)) = some r := H
  have A2 := Aside0.mk A20
  clear A20
  by_cases c3 : t128 = true
  · subst c3
    have H1 : (find_Check.l0 k l0 (l0.length : Int) 0) = some r := by rw [if_pos rfl] at H; exact H
    clear H
    have H := H1
    clear H1
    have H' := Aside0.mk H
    clear H
    go_enter Try.func18, Try.ntmps18
    go_wp2_with (first | ((with_reducible refine gate_callee (f := 33) rfl ?_); refine goesL_ (some 6) rfl rfl Try.func33 (by kernel_rfl) rfl #[.slice A0 l0.length c0] rfl (by (try simp only [List.map_toArray, List.map_cons, List.map_nil]); first | done | rfl | (simp only [List.length_drop, List.length_take]; rfl)) ?_; (with_reducible refine (merge_Rises.calls k _ _ l0 true _ ?side1 ?side2 A2.out).mono ?_); (case side1 => repeat (first | exact HR0.out | (with_reducible refine Kd.C_alloc ?_ _) | (with_reducible refine Kd.C_drewN ?_ _) | (with_reducible refine Kd.C_drew ?_))); (case side2 => exact HC0.out); rintro e w' ⟨rfl, ⟨nd, rfl⟩⟩; refine ⟨_, rfl, ?_⟩))
    go_loopg [10] k (fun kq v10 w' => ∃ (x10_1 : Int), v10 = .int .i64 x10_1 ∧ Aside0 (find_Check.l0 kq l0 (l0.length : Int) x10_1 = some r) ∧ Aside0 (kq ≤ k) ∧ Aside0 (Below w.heap.size w w'))
    case atStart => exact ⟨(0), (by first | rfl | (simp; done) | (simp [*]; done)), H', ⟨Nat.le_refl _⟩, ⟨by repeat (first | (with_reducible first | exact HB.out | apply below_alloc | apply pw_below_drewN | apply below_drew1) | exact HB.out)⟩⟩
    case round =>
      clear H'
      try clear c1
      try clear p2
      try clear c3
      obtain ⟨x10_1, rfl, HA, HK1, HB⟩ := hrel
      cases gk with
      | zero => exact absurd HA.out (by simp [find_Check.l0])
      | succ k1 =>
        have H := HA.out
        clear HA
        simp only [find_Check.l0] at H
        by_cases c4 : x10_1 < (l0.length : Int)
        · rw [if_pos c4] at H
          have c4b0 : decide (x10_1 < (l0.length : Int)) = true := decide_eq_true c4
          clear c4
          by_cases c5 : 0 ≤ x10_1
          · rw [if_pos c5] at H
            have c5b0 : decide (0 ≤ x10_1) = true := decide_eq_true c5
            clear c5
            by_cases c6 : x10_1 < (l0.length : Int)
            · rw [if_pos c6] at H
              have c6b0 : decide (x10_1 < (l0.length : Int)) = true := decide_eq_true c6
              clear c6
              replace H := Option.bind_eq_some_iff.mp H
              obtain ⟨t131, A70, H⟩ := H
              replace H : (if t131 = 0 then (find_Check.l0 k1 l0 (l0.length : Int) (wrap64 (x10_1 + 1))) else (some 1)) = some r := H
              have A7 := Aside0.mk A70
              clear A70
              by_cases c8 : t131 = 0
              · rw [if_pos c8] at H
                have c8b0 : (t131 == 0) = true := beq_iff_eq.mpr c8
                have c8b1 : (t131 != 0) = false := bne_eq_false_iff_eq.mpr c8
                clear c8
                have H' := Aside0.mk H
                clear H
                have p129 : 0 ≤ (x10_1 : Int) := of_decide_eq_true (by first | (with_reducible assumption) | assumption)
                have q129 : x10_1 < (l0.length : Int) := of_decide_eq_true (by first | (with_reducible assumption) | assumption)
                obtain ⟨ad129, A129_10, c129_10, A129_11, c129_11, e129, hx129_0, hx129_1, hx129_2, hx129_3, hx129_4, hx129_5, hx129_6, hx129_7, hx129_8, hx129_9, hx129_10, hx129_11, hl129_10, hi129_10, hl129_11, hi129_11⟩ := at_TGRecord HR0.out x10_1 p129 q129
                cases e129
                replace hx129_0 := (HB.out.cell (World.block_lt_of_cell? w _ hx129_0)).trans hx129_0
                replace hx129_1 := (HB.out.cell (World.block_lt_of_cell? w _ hx129_1)).trans hx129_1
                replace hx129_2 := (HB.out.cell (World.block_lt_of_cell? w _ hx129_2)).trans hx129_2
                replace hx129_3 := (HB.out.cell (World.block_lt_of_cell? w _ hx129_3)).trans hx129_3
                replace hx129_4 := (HB.out.cell (World.block_lt_of_cell? w _ hx129_4)).trans hx129_4
                replace hx129_5 := (HB.out.cell (World.block_lt_of_cell? w _ hx129_5)).trans hx129_5
                replace hx129_6 := (HB.out.cell (World.block_lt_of_cell? w _ hx129_6)).trans hx129_6
                replace hx129_7 := (HB.out.cell (World.block_lt_of_cell? w _ hx129_7)).trans hx129_7
                replace hx129_8 := (HB.out.cell (World.block_lt_of_cell? w _ hx129_8)).trans hx129_8
                replace hx129_9 := (HB.out.cell (World.block_lt_of_cell? w _ hx129_9)).trans hx129_9
                replace hx129_10 := (HB.out.cell (World.block_lt_of_cell? w _ hx129_10)).trans hx129_10
                replace hx129_11 := (HB.out.cell (World.block_lt_of_cell? w _ hx129_11)).trans hx129_11
                have HR129_10 := Aside0.mk hi129_10
                have HC129_10 := Aside0.mk hl129_10
                clear hi129_10 hl129_10
                have HR129_11 := Aside0.mk hi129_11
                have HC129_11 := Aside0.mk hl129_11
                clear hi129_11 hl129_11
                replace p129 := eq_true p129
                replace q129 := eq_true q129
                go_wp2_with (first | ((with_reducible refine gate_dst (N := 4) rfl ?_); refine box_event ?hg (N := 4) ?hd (cs := #[.int .i64 0, .int .u64 0, .int .i64 0, .int .u64 0, .int .u64 0, .int .i64 0, .int .i64 0, .string (⟨#[]⟩ : ByteArray), .string (⟨#[]⟩ : ByteArray), .string (⟨#[]⟩ : ByteArray), .slice none 0 0, .slice none 0 0]) (t := 43) ?hr ?_; (case hd => rfl); (case hg => rfl); (case hr => first | (go_simp; done) | (go_simp; rfl)); intro gb130 hg w9 hbox hb; have n0_ := Aside0.mk (below_step (by repeat (first | (with_reducible first | exact HB.out | apply below_alloc | apply pw_below_drewN | apply below_drew1) | exact HB.out)) hb); have n1_ := Aside0.mk (hbox); have n2_ := Aside0.mk ((by rw [hg]; exact (below_size (by repeat (first | (with_reducible first | exact HB.out | apply below_alloc | apply pw_below_drewN | apply below_drew1) | exact HB.out))) : w.heap.size ≤ gb130)); have n3_ := Aside0.mk ((by rw [hg]; exact (below_size (by repeat (first | (with_reducible first | exact HB.out | apply below_alloc | apply pw_below_drewN | apply below_drew1) | exact HB.out))) : w.heap.size ≤ gb130)); clear HB; have HB := n0_; have BK130 := n1_; have GW130 := n2_; have GE130 := n3_; clear n0_ n1_ n2_ n3_; clear hb hbox hg; have hcz10_0 : w9.cell? ⟨gb130, 0, none⟩ = some (.int .i64 0) := (blk_cell BK130.out 0).trans rfl; have hcz10_1 : w9.cell? ⟨gb130, 1, none⟩ = some (.int .u64 0) := (blk_cell BK130.out 1).trans rfl; have hcz10_2 : w9.cell? ⟨gb130, 2, none⟩ = some (.int .i64 0) := (blk_cell BK130.out 2).trans rfl; have hcz10_3 : w9.cell? ⟨gb130, 3, none⟩ = some (.int .u64 0) := (blk_cell BK130.out 3).trans rfl; have hcz10_4 : w9.cell? ⟨gb130, 4, none⟩ = some (.int .u64 0) := (blk_cell BK130.out 4).trans rfl; have hcz10_5 : w9.cell? ⟨gb130, 5, none⟩ = some (.int .i64 0) := (blk_cell BK130.out 5).trans rfl; have hcz10_6 : w9.cell? ⟨gb130, 6, none⟩ = some (.int .i64 0) := (blk_cell BK130.out 6).trans rfl; have hcz10_7 : w9.cell? ⟨gb130, 7, none⟩ = some (.string (⟨#[]⟩ : ByteArray)) := (blk_cell BK130.out 7).trans rfl; have hcz10_8 : w9.cell? ⟨gb130, 8, none⟩ = some (.string (⟨#[]⟩ : ByteArray)) := (blk_cell BK130.out 8).trans rfl; have hcz10_9 : w9.cell? ⟨gb130, 9, none⟩ = some (.string (⟨#[]⟩ : ByteArray)) := (blk_cell BK130.out 9).trans rfl; have hcz10_10 : w9.cell? ⟨gb130, 10, none⟩ = some (.slice none 0 0) := (blk_cell BK130.out 10).trans rfl; have hcz10_11 : w9.cell? ⟨gb130, 11, none⟩ = some (.slice none 0 0) := (blk_cell BK130.out 11).trans rfl; have hfz10_0 := blk_frozen BK130.out 0; have hfz10_1 := blk_frozen BK130.out 1; have hfz10_2 := blk_frozen BK130.out 2; have hfz10_3 := blk_frozen BK130.out 3; have hfz10_4 := blk_frozen BK130.out 4; have hfz10_5 := blk_frozen BK130.out 5; have hfz10_6 := blk_frozen BK130.out 6; have hfz10_7 := blk_frozen BK130.out 7; have hfz10_8 := blk_frozen BK130.out 8; have hfz10_9 := blk_frozen BK130.out 9; have hfz10_10 := blk_frozen BK130.out 10; have hfz10_11 := blk_frozen BK130.out 11) | ((with_reducible refine gate_callee (f := 34) rfl ?_); refine goesL_ (some 15) rfl rfl Try.func34 (by kernel_rfl) rfl #[.agg #[.int .i64 ((rd_TGRecord l0 x10_1).f0), .int .u64 ((rd_TGRecord l0 x10_1).f1), .int .i64 ((rd_TGRecord l0 x10_1).f2), .int .u64 ((rd_TGRecord l0 x10_1).f3), .int .u64 ((rd_TGRecord l0 x10_1).f4), .int .i64 ((rd_TGRecord l0 x10_1).f5), .int .i64 ((rd_TGRecord l0 x10_1).f6.f0), .string ((rd_TGRecord l0 x10_1).f6.f1), .string ((rd_TGRecord l0 x10_1).f6.f2), .string ((rd_TGRecord l0 x10_1).f6.f3), .slice A129_10 ((rd_TGRecord l0 x10_1).f7).length c129_10, .slice A129_11 ((rd_TGRecord l0 x10_1).f8).length c129_11]] rfl (by (try simp only [List.map_toArray, List.map_cons, List.map_nil]); first | done | rfl | (simp only [List.length_drop, List.length_take]; rfl)) ?_; (with_reducible refine (rec_Check.calls k1 ((rd_TGRecord l0 x10_1).f0) ((rd_TGRecord l0 x10_1).f1) ((rd_TGRecord l0 x10_1).f2) ((rd_TGRecord l0 x10_1).f3) ((rd_TGRecord l0 x10_1).f4) ((rd_TGRecord l0 x10_1).f5) ((rd_TGRecord l0 x10_1).f6.f0) ((rd_TGRecord l0 x10_1).f6.f1) ((rd_TGRecord l0 x10_1).f6.f2) ((rd_TGRecord l0 x10_1).f6.f3) _ _ ((rd_TGRecord l0 x10_1).f7) _ _ ((rd_TGRecord l0 x10_1).f8) t131 _ ?side1 ?side2 ?side3 ?side4 A7.out).mono ?_); (case side1 => exact Kd.C_below HR129_10.out (by repeat (first | (with_reducible first | exact HB.out | apply below_alloc | apply pw_below_drewN | apply below_drew1 | refine below_set ?_ GE130.out) | exact HB.out))); (case side2 => exact HC129_10.out); (case side3 => exact Kd.C_below HR129_11.out (by repeat (first | (with_reducible first | exact HB.out | apply below_alloc | apply pw_below_drewN | apply below_drew1 | refine below_set ?_ GE130.out) | exact HB.out))); (case side4 => exact HC129_11.out); rintro e w11 ⟨rfl, hb⟩; refine ⟨_, rfl, ?_⟩; have n0_ := Aside0.mk (blk_below (g := gb130) (o := .cells #[.int .i64 ((rd_TGRecord l0 x10_1).f0), .int .u64 ((rd_TGRecord l0 x10_1).f1), .int .i64 ((rd_TGRecord l0 x10_1).f2), .int .u64 ((rd_TGRecord l0 x10_1).f3), .int .u64 ((rd_TGRecord l0 x10_1).f4), .int .i64 ((rd_TGRecord l0 x10_1).f5), .int .i64 ((rd_TGRecord l0 x10_1).f6.f0), .string ((rd_TGRecord l0 x10_1).f6.f1), .string ((rd_TGRecord l0 x10_1).f6.f2), .string ((rd_TGRecord l0 x10_1).f6.f3), .slice A129_10 ((rd_TGRecord l0 x10_1).f7).length c129_10, .slice A129_11 ((rd_TGRecord l0 x10_1).f8).length c129_11] 43 (0, 0)) (by (with_reducible repeat (first | refine blk_drewN ?_ _ | refine blk_drew ?_ | refine blk_alloc ?_ _)); refine blk_put (cs := #[.int .i64 ((rd_TGRecord l0 x10_1).f0), .int .u64 ((rd_TGRecord l0 x10_1).f1), .int .i64 ((rd_TGRecord l0 x10_1).f2), .int .u64 ((rd_TGRecord l0 x10_1).f3), .int .u64 ((rd_TGRecord l0 x10_1).f4), .int .i64 ((rd_TGRecord l0 x10_1).f5), .int .i64 ((rd_TGRecord l0 x10_1).f6.f0), .string ((rd_TGRecord l0 x10_1).f6.f1), .string ((rd_TGRecord l0 x10_1).f6.f2), .string ((rd_TGRecord l0 x10_1).f6.f3), .slice A129_10 ((rd_TGRecord l0 x10_1).f7).length c129_10, .slice none 0 0]) ?_ 11 _ rfl; (with_reducible repeat (first | refine blk_drewN ?_ _ | refine blk_drew ?_ | refine blk_alloc ?_ _)); refine blk_put (cs := #[.int .i64 ((rd_TGRecord l0 x10_1).f0), .int .u64 ((rd_TGRecord l0 x10_1).f1), .int .i64 ((rd_TGRecord l0 x10_1).f2), .int .u64 ((rd_TGRecord l0 x10_1).f3), .int .u64 ((rd_TGRecord l0 x10_1).f4), .int .i64 ((rd_TGRecord l0 x10_1).f5), .int .i64 ((rd_TGRecord l0 x10_1).f6.f0), .string ((rd_TGRecord l0 x10_1).f6.f1), .string ((rd_TGRecord l0 x10_1).f6.f2), .string ((rd_TGRecord l0 x10_1).f6.f3), .slice none 0 0, .slice none 0 0]) ?_ 10 _ rfl; (with_reducible repeat (first | refine blk_drewN ?_ _ | refine blk_drew ?_ | refine blk_alloc ?_ _)); refine blk_put (cs := #[.int .i64 ((rd_TGRecord l0 x10_1).f0), .int .u64 ((rd_TGRecord l0 x10_1).f1), .int .i64 ((rd_TGRecord l0 x10_1).f2), .int .u64 ((rd_TGRecord l0 x10_1).f3), .int .u64 ((rd_TGRecord l0 x10_1).f4), .int .i64 ((rd_TGRecord l0 x10_1).f5), .int .i64 ((rd_TGRecord l0 x10_1).f6.f0), .string ((rd_TGRecord l0 x10_1).f6.f1), .string ((rd_TGRecord l0 x10_1).f6.f2), .string (⟨#[]⟩ : ByteArray), .slice none 0 0, .slice none 0 0]) ?_ 9 _ rfl; (with_reducible repeat (first | refine blk_drewN ?_ _ | refine blk_drew ?_ | refine blk_alloc ?_ _)); refine blk_put (cs := #[.int .i64 ((rd_TGRecord l0 x10_1).f0), .int .u64 ((rd_TGRecord l0 x10_1).f1), .int .i64 ((rd_TGRecord l0 x10_1).f2), .int .u64 ((rd_TGRecord l0 x10_1).f3), .int .u64 ((rd_TGRecord l0 x10_1).f4), .int .i64 ((rd_TGRecord l0 x10_1).f5), .int .i64 ((rd_TGRecord l0 x10_1).f6.f0), .string ((rd_TGRecord l0 x10_1).f6.f1), .string (⟨#[]⟩ : ByteArray), .string (⟨#[]⟩ : ByteArray), .slice none 0 0, .slice none 0 0]) ?_ 8 _ rfl; (with_reducible repeat (first | refine blk_drewN ?_ _ | refine blk_drew ?_ | refine blk_alloc ?_ _)); refine blk_put (cs := #[.int .i64 ((rd_TGRecord l0 x10_1).f0), .int .u64 ((rd_TGRecord l0 x10_1).f1), .int .i64 ((rd_TGRecord l0 x10_1).f2), .int .u64 ((rd_TGRecord l0 x10_1).f3), .int .u64 ((rd_TGRecord l0 x10_1).f4), .int .i64 ((rd_TGRecord l0 x10_1).f5), .int .i64 ((rd_TGRecord l0 x10_1).f6.f0), .string (⟨#[]⟩ : ByteArray), .string (⟨#[]⟩ : ByteArray), .string (⟨#[]⟩ : ByteArray), .slice none 0 0, .slice none 0 0]) ?_ 7 _ rfl; (with_reducible repeat (first | refine blk_drewN ?_ _ | refine blk_drew ?_ | refine blk_alloc ?_ _)); refine blk_put (cs := #[.int .i64 ((rd_TGRecord l0 x10_1).f0), .int .u64 ((rd_TGRecord l0 x10_1).f1), .int .i64 ((rd_TGRecord l0 x10_1).f2), .int .u64 ((rd_TGRecord l0 x10_1).f3), .int .u64 ((rd_TGRecord l0 x10_1).f4), .int .i64 ((rd_TGRecord l0 x10_1).f5), .int .i64 0, .string (⟨#[]⟩ : ByteArray), .string (⟨#[]⟩ : ByteArray), .string (⟨#[]⟩ : ByteArray), .slice none 0 0, .slice none 0 0]) ?_ 6 _ rfl; (with_reducible repeat (first | refine blk_drewN ?_ _ | refine blk_drew ?_ | refine blk_alloc ?_ _)); refine blk_put (cs := #[.int .i64 ((rd_TGRecord l0 x10_1).f0), .int .u64 ((rd_TGRecord l0 x10_1).f1), .int .i64 ((rd_TGRecord l0 x10_1).f2), .int .u64 ((rd_TGRecord l0 x10_1).f3), .int .u64 ((rd_TGRecord l0 x10_1).f4), .int .i64 0, .int .i64 0, .string (⟨#[]⟩ : ByteArray), .string (⟨#[]⟩ : ByteArray), .string (⟨#[]⟩ : ByteArray), .slice none 0 0, .slice none 0 0]) ?_ 5 _ rfl; (with_reducible repeat (first | refine blk_drewN ?_ _ | refine blk_drew ?_ | refine blk_alloc ?_ _)); refine blk_put (cs := #[.int .i64 ((rd_TGRecord l0 x10_1).f0), .int .u64 ((rd_TGRecord l0 x10_1).f1), .int .i64 ((rd_TGRecord l0 x10_1).f2), .int .u64 ((rd_TGRecord l0 x10_1).f3), .int .u64 0, .int .i64 0, .int .i64 0, .string (⟨#[]⟩ : ByteArray), .string (⟨#[]⟩ : ByteArray), .string (⟨#[]⟩ : ByteArray), .slice none 0 0, .slice none 0 0]) ?_ 4 _ rfl; (with_reducible repeat (first | refine blk_drewN ?_ _ | refine blk_drew ?_ | refine blk_alloc ?_ _)); refine blk_put (cs := #[.int .i64 ((rd_TGRecord l0 x10_1).f0), .int .u64 ((rd_TGRecord l0 x10_1).f1), .int .i64 ((rd_TGRecord l0 x10_1).f2), .int .u64 0, .int .u64 0, .int .i64 0, .int .i64 0, .string (⟨#[]⟩ : ByteArray), .string (⟨#[]⟩ : ByteArray), .string (⟨#[]⟩ : ByteArray), .slice none 0 0, .slice none 0 0]) ?_ 3 _ rfl; (with_reducible repeat (first | refine blk_drewN ?_ _ | refine blk_drew ?_ | refine blk_alloc ?_ _)); refine blk_put (cs := #[.int .i64 ((rd_TGRecord l0 x10_1).f0), .int .u64 ((rd_TGRecord l0 x10_1).f1), .int .i64 0, .int .u64 0, .int .u64 0, .int .i64 0, .int .i64 0, .string (⟨#[]⟩ : ByteArray), .string (⟨#[]⟩ : ByteArray), .string (⟨#[]⟩ : ByteArray), .slice none 0 0, .slice none 0 0]) ?_ 2 _ rfl; (with_reducible repeat (first | refine blk_drewN ?_ _ | refine blk_drew ?_ | refine blk_alloc ?_ _)); refine blk_put (cs := #[.int .i64 ((rd_TGRecord l0 x10_1).f0), .int .u64 0, .int .i64 0, .int .u64 0, .int .u64 0, .int .i64 0, .int .i64 0, .string (⟨#[]⟩ : ByteArray), .string (⟨#[]⟩ : ByteArray), .string (⟨#[]⟩ : ByteArray), .slice none 0 0, .slice none 0 0]) ?_ 1 _ rfl; (with_reducible repeat (first | refine blk_drewN ?_ _ | refine blk_drew ?_ | refine blk_alloc ?_ _)); refine blk_put (cs := #[.int .i64 0, .int .u64 0, .int .i64 0, .int .u64 0, .int .u64 0, .int .i64 0, .int .i64 0, .string (⟨#[]⟩ : ByteArray), .string (⟨#[]⟩ : ByteArray), .string (⟨#[]⟩ : ByteArray), .slice none 0 0, .slice none 0 0]) ?_ 0 _ rfl; (with_reducible repeat (first | refine blk_drewN ?_ _ | refine blk_drew ?_ | refine blk_alloc ?_ _)); exact BK130.out) hb); have n1_ := Aside0.mk (below_step (by repeat (first | (with_reducible first | exact HB.out | apply below_alloc | apply pw_below_drewN | apply below_drew1 | refine below_set ?_ GE130.out) | exact HB.out)) hb); clear BK130; clear HB; have BK130 := n0_; have HB := n1_; clear n0_ n1_; (try clear hb); (try clear hb2); (try clear hk); (try clear hi)))
                go_roundg k1
                case measure => have := HK1.out; omega
                case rel => exact ⟨(wrap64 (x10_1 + 1)), (by first | rfl | (simp; done) | (simp [*]; done)), H', ⟨by have := HK1.out; omega⟩, ⟨by repeat (first | (with_reducible first | exact HB.out | apply below_alloc | apply pw_below_drewN | apply below_drew1 | refine below_set ?_ GE130.out) | exact HB.out)⟩⟩
              · rw [if_neg c8] at H
                have c8b0 : (t131 == 0) = false := beq_eq_false_iff_ne.mpr c8
                have c8b1 : (t131 != 0) = true := bne_iff_ne.mpr c8
                obtain rfl := Option.some.inj H
                have p129 : 0 ≤ (x10_1 : Int) := of_decide_eq_true (by first | (with_reducible assumption) | assumption)
                have q129 : x10_1 < (l0.length : Int) := of_decide_eq_true (by first | (with_reducible assumption) | assumption)
                obtain ⟨ad129, A129_10, c129_10, A129_11, c129_11, e129, hx129_0, hx129_1, hx129_2, hx129_3, hx129_4, hx129_5, hx129_6, hx129_7, hx129_8, hx129_9, hx129_10, hx129_11, hl129_10, hi129_10, hl129_11, hi129_11⟩ := at_TGRecord HR0.out x10_1 p129 q129
                cases e129
                replace hx129_0 := (HB.out.cell (World.block_lt_of_cell? w _ hx129_0)).trans hx129_0
                replace hx129_1 := (HB.out.cell (World.block_lt_of_cell? w _ hx129_1)).trans hx129_1
                replace hx129_2 := (HB.out.cell (World.block_lt_of_cell? w _ hx129_2)).trans hx129_2
                replace hx129_3 := (HB.out.cell (World.block_lt_of_cell? w _ hx129_3)).trans hx129_3
                replace hx129_4 := (HB.out.cell (World.block_lt_of_cell? w _ hx129_4)).trans hx129_4
                replace hx129_5 := (HB.out.cell (World.block_lt_of_cell? w _ hx129_5)).trans hx129_5
                replace hx129_6 := (HB.out.cell (World.block_lt_of_cell? w _ hx129_6)).trans hx129_6
                replace hx129_7 := (HB.out.cell (World.block_lt_of_cell? w _ hx129_7)).trans hx129_7
                replace hx129_8 := (HB.out.cell (World.block_lt_of_cell? w _ hx129_8)).trans hx129_8
                replace hx129_9 := (HB.out.cell (World.block_lt_of_cell? w _ hx129_9)).trans hx129_9
                replace hx129_10 := (HB.out.cell (World.block_lt_of_cell? w _ hx129_10)).trans hx129_10
                replace hx129_11 := (HB.out.cell (World.block_lt_of_cell? w _ hx129_11)).trans hx129_11
                have HR129_10 := Aside0.mk hi129_10
                have HC129_10 := Aside0.mk hl129_10
                clear hi129_10 hl129_10
                have HR129_11 := Aside0.mk hi129_11
                have HC129_11 := Aside0.mk hl129_11
                clear hi129_11 hl129_11
                replace p129 := eq_true p129
                replace q129 := eq_true q129
                go_wp2_with (first | ((with_reducible refine gate_dst (N := 4) rfl ?_); refine box_event ?hg (N := 4) ?hd (cs := #[.int .i64 0, .int .u64 0, .int .i64 0, .int .u64 0, .int .u64 0, .int .i64 0, .int .i64 0, .string (⟨#[]⟩ : ByteArray), .string (⟨#[]⟩ : ByteArray), .string (⟨#[]⟩ : ByteArray), .slice none 0 0, .slice none 0 0]) (t := 43) ?hr ?_; (case hd => rfl); (case hg => rfl); (case hr => first | (go_simp; done) | (go_simp; rfl)); intro gb130 hg w12 hbox hb; have n0_ := Aside0.mk (below_step (by repeat (first | (with_reducible first | exact HB.out | apply below_alloc | apply pw_below_drewN | apply below_drew1) | exact HB.out)) hb); have n1_ := Aside0.mk (hbox); have n2_ := Aside0.mk ((by rw [hg]; exact (below_size (by repeat (first | (with_reducible first | exact HB.out | apply below_alloc | apply pw_below_drewN | apply below_drew1) | exact HB.out))) : w.heap.size ≤ gb130)); have n3_ := Aside0.mk ((by rw [hg]; exact (below_size (by repeat (first | (with_reducible first | exact HB.out | apply below_alloc | apply pw_below_drewN | apply below_drew1) | exact HB.out))) : w.heap.size ≤ gb130)); clear HB; have HB := n0_; have BK130 := n1_; have GW130 := n2_; have GE130 := n3_; clear n0_ n1_ n2_ n3_; clear hb hbox hg; have hcz13_0 : w12.cell? ⟨gb130, 0, none⟩ = some (.int .i64 0) := (blk_cell BK130.out 0).trans rfl; have hcz13_1 : w12.cell? ⟨gb130, 1, none⟩ = some (.int .u64 0) := (blk_cell BK130.out 1).trans rfl; have hcz13_2 : w12.cell? ⟨gb130, 2, none⟩ = some (.int .i64 0) := (blk_cell BK130.out 2).trans rfl; have hcz13_3 : w12.cell? ⟨gb130, 3, none⟩ = some (.int .u64 0) := (blk_cell BK130.out 3).trans rfl; have hcz13_4 : w12.cell? ⟨gb130, 4, none⟩ = some (.int .u64 0) := (blk_cell BK130.out 4).trans rfl; have hcz13_5 : w12.cell? ⟨gb130, 5, none⟩ = some (.int .i64 0) := (blk_cell BK130.out 5).trans rfl; have hcz13_6 : w12.cell? ⟨gb130, 6, none⟩ = some (.int .i64 0) := (blk_cell BK130.out 6).trans rfl; have hcz13_7 : w12.cell? ⟨gb130, 7, none⟩ = some (.string (⟨#[]⟩ : ByteArray)) := (blk_cell BK130.out 7).trans rfl; have hcz13_8 : w12.cell? ⟨gb130, 8, none⟩ = some (.string (⟨#[]⟩ : ByteArray)) := (blk_cell BK130.out 8).trans rfl; have hcz13_9 : w12.cell? ⟨gb130, 9, none⟩ = some (.string (⟨#[]⟩ : ByteArray)) := (blk_cell BK130.out 9).trans rfl; have hcz13_10 : w12.cell? ⟨gb130, 10, none⟩ = some (.slice none 0 0) := (blk_cell BK130.out 10).trans rfl; have hcz13_11 : w12.cell? ⟨gb130, 11, none⟩ = some (.slice none 0 0) := (blk_cell BK130.out 11).trans rfl; have hfz13_0 := blk_frozen BK130.out 0; have hfz13_1 := blk_frozen BK130.out 1; have hfz13_2 := blk_frozen BK130.out 2; have hfz13_3 := blk_frozen BK130.out 3; have hfz13_4 := blk_frozen BK130.out 4; have hfz13_5 := blk_frozen BK130.out 5; have hfz13_6 := blk_frozen BK130.out 6; have hfz13_7 := blk_frozen BK130.out 7; have hfz13_8 := blk_frozen BK130.out 8; have hfz13_9 := blk_frozen BK130.out 9; have hfz13_10 := blk_frozen BK130.out 10; have hfz13_11 := blk_frozen BK130.out 11) | ((with_reducible refine gate_callee (f := 34) rfl ?_); refine goesL_ (some 15) rfl rfl Try.func34 (by kernel_rfl) rfl #[.agg #[.int .i64 ((rd_TGRecord l0 x10_1).f0), .int .u64 ((rd_TGRecord l0 x10_1).f1), .int .i64 ((rd_TGRecord l0 x10_1).f2), .int .u64 ((rd_TGRecord l0 x10_1).f3), .int .u64 ((rd_TGRecord l0 x10_1).f4), .int .i64 ((rd_TGRecord l0 x10_1).f5), .int .i64 ((rd_TGRecord l0 x10_1).f6.f0), .string ((rd_TGRecord l0 x10_1).f6.f1), .string ((rd_TGRecord l0 x10_1).f6.f2), .string ((rd_TGRecord l0 x10_1).f6.f3), .slice A129_10 ((rd_TGRecord l0 x10_1).f7).length c129_10, .slice A129_11 ((rd_TGRecord l0 x10_1).f8).length c129_11]] rfl (by (try simp only [List.map_toArray, List.map_cons, List.map_nil]); first | done | rfl | (simp only [List.length_drop, List.length_take]; rfl)) ?_; (with_reducible refine (rec_Check.calls k1 ((rd_TGRecord l0 x10_1).f0) ((rd_TGRecord l0 x10_1).f1) ((rd_TGRecord l0 x10_1).f2) ((rd_TGRecord l0 x10_1).f3) ((rd_TGRecord l0 x10_1).f4) ((rd_TGRecord l0 x10_1).f5) ((rd_TGRecord l0 x10_1).f6.f0) ((rd_TGRecord l0 x10_1).f6.f1) ((rd_TGRecord l0 x10_1).f6.f2) ((rd_TGRecord l0 x10_1).f6.f3) _ _ ((rd_TGRecord l0 x10_1).f7) _ _ ((rd_TGRecord l0 x10_1).f8) t131 _ ?side1 ?side2 ?side3 ?side4 A7.out).mono ?_); (case side1 => exact Kd.C_below HR129_10.out (by repeat (first | (with_reducible first | exact HB.out | apply below_alloc | apply pw_below_drewN | apply below_drew1 | refine below_set ?_ GE130.out) | exact HB.out))); (case side2 => exact HC129_10.out); (case side3 => exact Kd.C_below HR129_11.out (by repeat (first | (with_reducible first | exact HB.out | apply below_alloc | apply pw_below_drewN | apply below_drew1 | refine below_set ?_ GE130.out) | exact HB.out))); (case side4 => exact HC129_11.out); rintro e w14 ⟨rfl, hb⟩; refine ⟨_, rfl, ?_⟩; have n0_ := Aside0.mk (blk_below (g := gb130) (o := .cells #[.int .i64 ((rd_TGRecord l0 x10_1).f0), .int .u64 ((rd_TGRecord l0 x10_1).f1), .int .i64 ((rd_TGRecord l0 x10_1).f2), .int .u64 ((rd_TGRecord l0 x10_1).f3), .int .u64 ((rd_TGRecord l0 x10_1).f4), .int .i64 ((rd_TGRecord l0 x10_1).f5), .int .i64 ((rd_TGRecord l0 x10_1).f6.f0), .string ((rd_TGRecord l0 x10_1).f6.f1), .string ((rd_TGRecord l0 x10_1).f6.f2), .string ((rd_TGRecord l0 x10_1).f6.f3), .slice A129_10 ((rd_TGRecord l0 x10_1).f7).length c129_10, .slice A129_11 ((rd_TGRecord l0 x10_1).f8).length c129_11] 43 (0, 0)) (by (with_reducible repeat (first | refine blk_drewN ?_ _ | refine blk_drew ?_ | refine blk_alloc ?_ _)); refine blk_put (cs := #[.int .i64 ((rd_TGRecord l0 x10_1).f0), .int .u64 ((rd_TGRecord l0 x10_1).f1), .int .i64 ((rd_TGRecord l0 x10_1).f2), .int .u64 ((rd_TGRecord l0 x10_1).f3), .int .u64 ((rd_TGRecord l0 x10_1).f4), .int .i64 ((rd_TGRecord l0 x10_1).f5), .int .i64 ((rd_TGRecord l0 x10_1).f6.f0), .string ((rd_TGRecord l0 x10_1).f6.f1), .string ((rd_TGRecord l0 x10_1).f6.f2), .string ((rd_TGRecord l0 x10_1).f6.f3), .slice A129_10 ((rd_TGRecord l0 x10_1).f7).length c129_10, .slice none 0 0]) ?_ 11 _ rfl; (with_reducible repeat (first | refine blk_drewN ?_ _ | refine blk_drew ?_ | refine blk_alloc ?_ _)); refine blk_put (cs := #[.int .i64 ((rd_TGRecord l0 x10_1).f0), .int .u64 ((rd_TGRecord l0 x10_1).f1), .int .i64 ((rd_TGRecord l0 x10_1).f2), .int .u64 ((rd_TGRecord l0 x10_1).f3), .int .u64 ((rd_TGRecord l0 x10_1).f4), .int .i64 ((rd_TGRecord l0 x10_1).f5), .int .i64 ((rd_TGRecord l0 x10_1).f6.f0), .string ((rd_TGRecord l0 x10_1).f6.f1), .string ((rd_TGRecord l0 x10_1).f6.f2), .string ((rd_TGRecord l0 x10_1).f6.f3), .slice none 0 0, .slice none 0 0]) ?_ 10 _ rfl; (with_reducible repeat (first | refine blk_drewN ?_ _ | refine blk_drew ?_ | refine blk_alloc ?_ _)); refine blk_put (cs := #[.int .i64 ((rd_TGRecord l0 x10_1).f0), .int .u64 ((rd_TGRecord l0 x10_1).f1), .int .i64 ((rd_TGRecord l0 x10_1).f2), .int .u64 ((rd_TGRecord l0 x10_1).f3), .int .u64 ((rd_TGRecord l0 x10_1).f4), .int .i64 ((rd_TGRecord l0 x10_1).f5), .int .i64 ((rd_TGRecord l0 x10_1).f6.f0), .string ((rd_TGRecord l0 x10_1).f6.f1), .string ((rd_TGRecord l0 x10_1).f6.f2), .string (⟨#[]⟩ : ByteArray), .slice none 0 0, .slice none 0 0]) ?_ 9 _ rfl; (with_reducible repeat (first | refine blk_drewN ?_ _ | refine blk_drew ?_ | refine blk_alloc ?_ _)); refine blk_put (cs := #[.int .i64 ((rd_TGRecord l0 x10_1).f0), .int .u64 ((rd_TGRecord l0 x10_1).f1), .int .i64 ((rd_TGRecord l0 x10_1).f2), .int .u64 ((rd_TGRecord l0 x10_1).f3), .int .u64 ((rd_TGRecord l0 x10_1).f4), .int .i64 ((rd_TGRecord l0 x10_1).f5), .int .i64 ((rd_TGRecord l0 x10_1).f6.f0), .string ((rd_TGRecord l0 x10_1).f6.f1), .string (⟨#[]⟩ : ByteArray), .string (⟨#[]⟩ : ByteArray), .slice none 0 0, .slice none 0 0]) ?_ 8 _ rfl; (with_reducible repeat (first | refine blk_drewN ?_ _ | refine blk_drew ?_ | refine blk_alloc ?_ _)); refine blk_put (cs := #[.int .i64 ((rd_TGRecord l0 x10_1).f0), .int .u64 ((rd_TGRecord l0 x10_1).f1), .int .i64 ((rd_TGRecord l0 x10_1).f2), .int .u64 ((rd_TGRecord l0 x10_1).f3), .int .u64 ((rd_TGRecord l0 x10_1).f4), .int .i64 ((rd_TGRecord l0 x10_1).f5), .int .i64 ((rd_TGRecord l0 x10_1).f6.f0), .string (⟨#[]⟩ : ByteArray), .string (⟨#[]⟩ : ByteArray), .string (⟨#[]⟩ : ByteArray), .slice none 0 0, .slice none 0 0]) ?_ 7 _ rfl; (with_reducible repeat (first | refine blk_drewN ?_ _ | refine blk_drew ?_ | refine blk_alloc ?_ _)); refine blk_put (cs := #[.int .i64 ((rd_TGRecord l0 x10_1).f0), .int .u64 ((rd_TGRecord l0 x10_1).f1), .int .i64 ((rd_TGRecord l0 x10_1).f2), .int .u64 ((rd_TGRecord l0 x10_1).f3), .int .u64 ((rd_TGRecord l0 x10_1).f4), .int .i64 ((rd_TGRecord l0 x10_1).f5), .int .i64 0, .string (⟨#[]⟩ : ByteArray), .string (⟨#[]⟩ : ByteArray), .string (⟨#[]⟩ : ByteArray), .slice none 0 0, .slice none 0 0]) ?_ 6 _ rfl; (with_reducible repeat (first | refine blk_drewN ?_ _ | refine blk_drew ?_ | refine blk_alloc ?_ _)); refine blk_put (cs := #[.int .i64 ((rd_TGRecord l0 x10_1).f0), .int .u64 ((rd_TGRecord l0 x10_1).f1), .int .i64 ((rd_TGRecord l0 x10_1).f2), .int .u64 ((rd_TGRecord l0 x10_1).f3), .int .u64 ((rd_TGRecord l0 x10_1).f4), .int .i64 0, .int .i64 0, .string (⟨#[]⟩ : ByteArray), .string (⟨#[]⟩ : ByteArray), .string (⟨#[]⟩ : ByteArray), .slice none 0 0, .slice none 0 0]) ?_ 5 _ rfl; (with_reducible repeat (first | refine blk_drewN ?_ _ | refine blk_drew ?_ | refine blk_alloc ?_ _)); refine blk_put (cs := #[.int .i64 ((rd_TGRecord l0 x10_1).f0), .int .u64 ((rd_TGRecord l0 x10_1).f1), .int .i64 ((rd_TGRecord l0 x10_1).f2), .int .u64 ((rd_TGRecord l0 x10_1).f3), .int .u64 0, .int .i64 0, .int .i64 0, .string (⟨#[]⟩ : ByteArray), .string (⟨#[]⟩ : ByteArray), .string (⟨#[]⟩ : ByteArray), .slice none 0 0, .slice none 0 0]) ?_ 4 _ rfl; (with_reducible repeat (first | refine blk_drewN ?_ _ | refine blk_drew ?_ | refine blk_alloc ?_ _)); refine blk_put (cs := #[.int .i64 ((rd_TGRecord l0 x10_1).f0), .int .u64 ((rd_TGRecord l0 x10_1).f1), .int .i64 ((rd_TGRecord l0 x10_1).f2), .int .u64 0, .int .u64 0, .int .i64 0, .int .i64 0, .string (⟨#[]⟩ : ByteArray), .string (⟨#[]⟩ : ByteArray), .string (⟨#[]⟩ : ByteArray), .slice none 0 0, .slice none 0 0]) ?_ 3 _ rfl; (with_reducible repeat (first | refine blk_drewN ?_ _ | refine blk_drew ?_ | refine blk_alloc ?_ _)); refine blk_put (cs := #[.int .i64 ((rd_TGRecord l0 x10_1).f0), .int .u64 ((rd_TGRecord l0 x10_1).f1), .int .i64 0, .int .u64 0, .int .u64 0, .int .i64 0, .int .i64 0, .string (⟨#[]⟩ : ByteArray), .string (⟨#[]⟩ : ByteArray), .string (⟨#[]⟩ : ByteArray), .slice none 0 0, .slice none 0 0]) ?_ 2 _ rfl; (with_reducible repeat (first | refine blk_drewN ?_ _ | refine blk_drew ?_ | refine blk_alloc ?_ _)); refine blk_put (cs := #[.int .i64 ((rd_TGRecord l0 x10_1).f0), .int .u64 0, .int .i64 0, .int .u64 0, .int .u64 0, .int .i64 0, .int .i64 0, .string (⟨#[]⟩ : ByteArray), .string (⟨#[]⟩ : ByteArray), .string (⟨#[]⟩ : ByteArray), .slice none 0 0, .slice none 0 0]) ?_ 1 _ rfl; (with_reducible repeat (first | refine blk_drewN ?_ _ | refine blk_drew ?_ | refine blk_alloc ?_ _)); refine blk_put (cs := #[.int .i64 0, .int .u64 0, .int .i64 0, .int .u64 0, .int .u64 0, .int .i64 0, .int .i64 0, .string (⟨#[]⟩ : ByteArray), .string (⟨#[]⟩ : ByteArray), .string (⟨#[]⟩ : ByteArray), .slice none 0 0, .slice none 0 0]) ?_ 0 _ rfl; (with_reducible repeat (first | refine blk_drewN ?_ _ | refine blk_drew ?_ | refine blk_alloc ?_ _)); exact BK130.out) hb); have n1_ := Aside0.mk (below_step (by repeat (first | (with_reducible first | exact HB.out | apply below_alloc | apply pw_below_drewN | apply below_drew1 | refine below_set ?_ GE130.out) | exact HB.out)) hb); clear BK130; clear HB; have BK130 := n0_; have HB := n1_; clear n0_ n1_; (try clear hb); (try clear hb2); (try clear hk); (try clear hi)))
                go_ret
                exact ⟨by first | rfl | (simp [errW_none, errW_some] <;> rfl) | (simp [*, errW_none, errW_some] <;> rfl), by repeat (first | (with_reducible first | exact HB.out | apply below_alloc | apply pw_below_drewN | apply below_drew1 | refine below_set ?_ GE130.out) | exact HB.out)⟩
            · rw [if_neg c6] at H
              exact absurd H (by simp)
          · rw [if_neg c5] at H
            exact absurd H (by simp)
        · rw [if_neg c4] at H
          have c4b0 : decide (x10_1 < (l0.length : Int)) = false := decide_eq_false c4
          clear c4
          obtain rfl := Option.some.inj H
          go_wp2
          go_ret
          exact ⟨by first | rfl | (simp [errW_none, errW_some] <;> rfl) | (simp [*, errW_none, errW_some] <;> rfl), by repeat (first | (with_reducible first | exact HB.out | apply below_alloc | apply pw_below_drewN | apply below_drew1) | exact HB.out)⟩
  · replace c3 := Bool.eq_false_iff.mpr c3
    subst c3
    have H1 : (some 1) = some r := by rw [if_neg (show ¬ (false = true) by decide)] at H; exact H
    clear H
    have H := H1
    clear H1
    obtain rfl := Option.some.inj H
    go_enter Try.func18, Try.ntmps18
    go_wp2_with (first | ((with_reducible refine gate_callee (f := 33) rfl ?_); refine goesL_ (some 6) rfl rfl Try.func33 (by kernel_rfl) rfl #[.slice A0 l0.length c0] rfl (by (try simp only [List.map_toArray, List.map_cons, List.map_nil]); first | done | rfl | (simp only [List.length_drop, List.length_take]; rfl)) ?_; (with_reducible refine (merge_Rises.calls k _ _ l0 false _ ?side1 ?side2 A2.out).mono ?_); (case side1 => repeat (first | exact HR0.out | (with_reducible refine Kd.C_alloc ?_ _) | (with_reducible refine Kd.C_drewN ?_ _) | (with_reducible refine Kd.C_drew ?_))); (case side2 => exact HC0.out); rintro e w' ⟨rfl, ⟨nd, rfl⟩⟩; refine ⟨_, rfl, ?_⟩))
    go_ret
    exact ⟨by first | rfl | (simp [errW_none, errW_some] <;> rfl) | (simp [*, errW_none, errW_some] <;> rfl), by repeat (first | (with_reducible first | exact HB.out | apply below_alloc | apply pw_below_drewN | apply below_drew1) | exact HB.out)⟩


end Go.Proofs.Ytaahfokdgfopcaa.Rf
