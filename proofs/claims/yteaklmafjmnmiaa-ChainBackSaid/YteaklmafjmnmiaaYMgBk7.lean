/- The call of act's Back. -/
import Derived.Test.YteaklmafjmnmiaaYMgBk6
section
namespace Go.Proofs.Yteaklmafjmnmiaa
open Go.RowKit Go.Proofs.YteaklmafjmnmiaaW.PrintWords Go.Proofs.YteaklmafjmnmiaaW.PrintLast Go.Proofs.YteaklmafjmnmiaaW.PrintMore
open Rf Go.ChangeMaps
set_option linter.unusedVariables false
set_option linter.unusedSimpArgs false
theorem turn_ok (w : World) (k : Int) (a b c : ByteArray) (ha : a.size ≤ 140737488351232) (hb : b.size ≤ 140737488351232) (hc : c.size ≤ 140737488351232) (hm : actMay k a b c = true) : Calls Try.prog 29 #[.agg #[.int .i64 k, .string a, .string b, .string c]] w fun e w' => e = .returned (.agg #[.int .i64 (turnK k), .string a, .string c, .string b]) ∧ Below w.heap.size w w' := by
  have h := turn_calls w k a b c ha hb hc
  rw [show actTurn k a b c = (turnK k, a, c, b) from by unfold actTurn; rw [hm]; rfl] at h
  exact h
/-- What Back answers. -/
def backV (k tx pg ak : Int) (a b c : ByteArray) (n0 n1 n2 : Int) : Value := if k = 1 ∧ actMay ak a b c = true then .tuple #[.agg #[.int .i64 2, .int .u64 n0, .int .i64 tx, .int .u64 n1, .int .u64 n2, .int .i64 pg, .int .i64 (turnK ak), .string a, .string c, .string b, .slice none 0 0, .slice none 0 0], .int .i64 0] else .tuple #[.agg #[.int .i64 0, .int .u64 0, .int .i64 0, .int .u64 0, .int .u64 0, .int .i64 0, .int .i64 0, .string ⟨#[]⟩, .string ⟨#[]⟩, .string ⟨#[]⟩, .slice none 0 0, .slice none 0 0], .int .i64 1]
set_option maxRecDepth 100000 in
set_option maxHeartbeats 4000000 in
theorem back_calls (w : World) (k ls tx pv un pg ak : Int) (a b c : ByteArray) (At Ad : Option Addr) (lt ct ld cd : Nat) (n0 n1 n2 : Int) (ha : a.size ≤ 140737488351232) (hb : b.size ≤ 140737488351232) (hc : c.size ≤ 140737488351232) :
    Calls Try.prog 14 #[.agg #[.int .i64 k, .int .u64 ls, .int .i64 tx, .int .u64 pv, .int .u64 un, .int .i64 pg, .int .i64 ak, .string a, .string b, .string c, .slice At lt ct, .slice Ad ld cd], .int .u64 n0, .int .u64 n1, .int .u64 n2] w fun e w' => e = .returned (backV k tx pg ak a b c n0 n1 n2) ∧ Below w.heap.size w w' := by
  go_enter Try.func14, Try.ntmps14
  by_cases k1 : k = 1
  · subst k1
    go_wp2_with fail
    have hb0 : Below w.heap.size w ((w.alloc (.cells #[.int .i64 1, .int .u64 ls, .int .i64 tx, .int .u64 pv, .int .u64 un, .int .i64 pg, .int .i64 ak, .string a, .string b, .string c, .slice At lt ct, .slice Ad ld cd] 39)).alloc (.cells #[.int .i64 0, .int .u64 0, .int .i64 0, .int .u64 0, .int .u64 0, .int .i64 0, .int .i64 0, .string ⟨#[]⟩, .string ⟨#[]⟩, .string ⟨#[]⟩, .slice none 0 0, .slice none 0 0] 39)) := below_alloc (below_alloc (Below.refl _ _) _) _
    have hbx := blk_alloc (heap_alloc_new w (.cells #[.int .i64 1, .int .u64 ls, .int .i64 tx, .int .u64 pv, .int .u64 un, .int .i64 pg, .int .i64 ak, .string a, .string b, .string c, .slice At lt ct, .slice Ad ld cd] 39)) (.cells #[.int .i64 0, .int .u64 0, .int .i64 0, .int .u64 0, .int .u64 0, .int .i64 0, .int .i64 0, .string ⟨#[]⟩, .string ⟨#[]⟩, .string ⟨#[]⟩, .slice none 0 0, .slice none 0 0] 39)
    have hbr : ((w.alloc (.cells #[.int .i64 1, .int .u64 ls, .int .i64 tx, .int .u64 pv, .int .u64 un, .int .i64 pg, .int .i64 ak, .string a, .string b, .string c, .slice At lt ct, .slice Ad ld cd] 39)).alloc (.cells #[.int .i64 0, .int .u64 0, .int .i64 0, .int .u64 0, .int .u64 0, .int .i64 0, .int .i64 0, .string ⟨#[]⟩, .string ⟨#[]⟩, .string ⟨#[]⟩, .slice none 0 0, .slice none 0 0] 39)).heap[w.heap.size + 1]? = some (.cells #[.int .i64 0, .int .u64 0, .int .i64 0, .int .u64 0, .int .u64 0, .int .i64 0, .int .i64 0, .string ⟨#[]⟩, .string ⟨#[]⟩, .string ⟨#[]⟩, .slice none 0 0, .slice none 0 0] 39) := by
      have := heap_alloc_new (w.alloc (.cells #[.int .i64 1, .int .u64 ls, .int .i64 tx, .int .u64 pv, .int .u64 un, .int .i64 pg, .int .i64 ak, .string a, .string b, .string c, .slice At lt ct, .slice Ad ld cd] 39)) (.cells #[.int .i64 0, .int .u64 0, .int .i64 0, .int .u64 0, .int .u64 0, .int .i64 0, .int .i64 0, .string ⟨#[]⟩, .string ⟨#[]⟩, .string ⟨#[]⟩, .slice none 0 0, .slice none 0 0] 39)
      simpa using this
    generalize (w.alloc (.cells #[.int .i64 1, .int .u64 ls, .int .i64 tx, .int .u64 pv, .int .u64 un, .int .i64 pg, .int .i64 ak, .string a, .string b, .string c, .slice At lt ct, .slice Ad ld cd] 39)).alloc (.cells #[.int .i64 0, .int .u64 0, .int .i64 0, .int .u64 0, .int .u64 0, .int .i64 0, .int .i64 0, .string ⟨#[]⟩, .string ⟨#[]⟩, .string ⟨#[]⟩, .slice none 0 0, .slice none 0 0] 39) = w1 at hb0 hbx hbr ⊢
    refine (actmay_calls w1 ak a b c ha hb hc).mono ?_
    rintro e w2 ⟨rfl, hb2⟩
    have HB := Aside0.mk (below_then hb0 hb0.size hb2)
    have HX := Aside0.mk (blk_below hbx hb2)
    have HR := Aside0.mk (blk_below hbr hb2)
    clear hb0 hbx hbr hb2
    have x0 := blk_cell HX.out 0
    have x1 := blk_cell HX.out 1
    have x2 := blk_cell HX.out 2
    have x3 := blk_cell HX.out 3
    have x4 := blk_cell HX.out 4
    have x5 := blk_cell HX.out 5
    have x6 := blk_cell HX.out 6
    have x7 := blk_cell HX.out 7
    have x8 := blk_cell HX.out 8
    have x9 := blk_cell HX.out 9
    have x10 := blk_cell HX.out 10
    have x11 := blk_cell HX.out 11
    have r0 := blk_cell HR.out 0
    have r1 := blk_cell HR.out 1
    have r2 := blk_cell HR.out 2
    have r3 := blk_cell HR.out 3
    have r4 := blk_cell HR.out 4
    have r5 := blk_cell HR.out 5
    have r6 := blk_cell HR.out 6
    have r7 := blk_cell HR.out 7
    have r8 := blk_cell HR.out 8
    have r9 := blk_cell HR.out 9
    have r10 := blk_cell HR.out 10
    have r11 := blk_cell HR.out 11
    have g0 := blk_frozen HR.out 0
    have g1 := blk_frozen HR.out 1
    have g2 := blk_frozen HR.out 2
    have g3 := blk_frozen HR.out 3
    have g4 := blk_frozen HR.out 4
    have g5 := blk_frozen HR.out 5
    have g6 := blk_frozen HR.out 6
    have g7 := blk_frozen HR.out 7
    have g8 := blk_frozen HR.out 8
    have g9 := blk_frozen HR.out 9
    have g10 := blk_frozen HR.out 10
    have g11 := blk_frozen HR.out 11
    cases hm : actMay ak a b c with
    | false =>
      have HV := Aside0.mk (show backV 1 tx pg ak a b c n0 n1 n2 = .tuple #[.agg #[.int .i64 0, .int .u64 0, .int .i64 0, .int .u64 0, .int .u64 0, .int .i64 0, .int .i64 0, .string ⟨#[]⟩, .string ⟨#[]⟩, .string ⟨#[]⟩, .slice none 0 0, .slice none 0 0], .int .i64 1] from by unfold backV; rw [hm]; rfl)
      clear hm
      go_wp2_with fail
      refine bodyPost_ret (results_ct rfl _ _ (w.heap.size + 1) 39 #[.int .i64 0, .int .u64 0, .int .i64 0, .int .u64 0, .int .u64 0, .int .i64 0, .int .i64 0, .string ⟨#[]⟩, .string ⟨#[]⟩, .string ⟨#[]⟩, .slice none 0 0, .slice none 0 0] (0, 0) _ rfl (blk_put (cs' := #[.int .i64 0, .int .u64 0, .int .i64 0, .int .u64 0, .int .u64 0, .int .i64 0, .int .i64 0, .string ⟨#[]⟩, .string ⟨#[]⟩, .string ⟨#[]⟩, .slice none 0 0, .slice none 0 0]) (blk_put (cs' := #[.int .i64 0, .int .u64 0, .int .i64 0, .int .u64 0, .int .u64 0, .int .i64 0, .int .i64 0, .string ⟨#[]⟩, .string ⟨#[]⟩, .string ⟨#[]⟩, .slice none 0 0, .slice none 0 0]) (blk_put (cs' := #[.int .i64 0, .int .u64 0, .int .i64 0, .int .u64 0, .int .u64 0, .int .i64 0, .int .i64 0, .string ⟨#[]⟩, .string ⟨#[]⟩, .string ⟨#[]⟩, .slice none 0 0, .slice none 0 0]) (blk_put (cs' := #[.int .i64 0, .int .u64 0, .int .i64 0, .int .u64 0, .int .u64 0, .int .i64 0, .int .i64 0, .string ⟨#[]⟩, .string ⟨#[]⟩, .string ⟨#[]⟩, .slice none 0 0, .slice none 0 0]) (blk_put (cs' := #[.int .i64 0, .int .u64 0, .int .i64 0, .int .u64 0, .int .u64 0, .int .i64 0, .int .i64 0, .string ⟨#[]⟩, .string ⟨#[]⟩, .string ⟨#[]⟩, .slice none 0 0, .slice none 0 0]) (blk_put (cs' := #[.int .i64 0, .int .u64 0, .int .i64 0, .int .u64 0, .int .u64 0, .int .i64 0, .int .i64 0, .string ⟨#[]⟩, .string ⟨#[]⟩, .string ⟨#[]⟩, .slice none 0 0, .slice none 0 0]) (blk_put (cs' := #[.int .i64 0, .int .u64 0, .int .i64 0, .int .u64 0, .int .u64 0, .int .i64 0, .int .i64 0, .string ⟨#[]⟩, .string ⟨#[]⟩, .string ⟨#[]⟩, .slice none 0 0, .slice none 0 0]) (blk_put (cs' := #[.int .i64 0, .int .u64 0, .int .i64 0, .int .u64 0, .int .u64 0, .int .i64 0, .int .i64 0, .string ⟨#[]⟩, .string ⟨#[]⟩, .string ⟨#[]⟩, .slice none 0 0, .slice none 0 0]) (blk_put (cs' := #[.int .i64 0, .int .u64 0, .int .i64 0, .int .u64 0, .int .u64 0, .int .i64 0, .int .i64 0, .string ⟨#[]⟩, .string ⟨#[]⟩, .string ⟨#[]⟩, .slice none 0 0, .slice none 0 0]) (blk_put (cs' := #[.int .i64 0, .int .u64 0, .int .i64 0, .int .u64 0, .int .u64 0, .int .i64 0, .int .i64 0, .string ⟨#[]⟩, .string ⟨#[]⟩, .string ⟨#[]⟩, .slice none 0 0, .slice none 0 0]) (blk_put (cs' := #[.int .i64 0, .int .u64 0, .int .i64 0, .int .u64 0, .int .u64 0, .int .i64 0, .int .i64 0, .string ⟨#[]⟩, .string ⟨#[]⟩, .string ⟨#[]⟩, .slice none 0 0, .slice none 0 0]) (blk_put (cs' := #[.int .i64 0, .int .u64 0, .int .i64 0, .int .u64 0, .int .u64 0, .int .i64 0, .int .i64 0, .string ⟨#[]⟩, .string ⟨#[]⟩, .string ⟨#[]⟩, .slice none 0 0, .slice none 0 0]) HR.out 0 (.int .i64 0) rfl) 1 (.int .u64 0) rfl) 2 (.int .i64 0) rfl) 3 (.int .u64 0) rfl) 4 (.int .u64 0) rfl) 5 (.int .i64 0) rfl) 6 (.int .i64 0) rfl) 7 (.string ⟨#[]⟩) rfl) 8 (.string ⟨#[]⟩) rfl) 9 (.string ⟨#[]⟩) rfl) 10 (.slice none 0 0) rfl) 11 (.slice none 0 0) rfl) Try.underlying39 rfl (by kernel_rfl)) rfl ?_
      exact ⟨by rw [HV.out]; rfl, (below_set (g := w.heap.size + 1) (below_set (g := w.heap.size + 1) (below_set (g := w.heap.size + 1) (below_set (g := w.heap.size + 1) (below_set (g := w.heap.size + 1) (below_set (g := w.heap.size + 1) (below_set (g := w.heap.size + 1) (below_set (g := w.heap.size + 1) (below_set (g := w.heap.size + 1) (below_set (g := w.heap.size + 1) (below_set (g := w.heap.size + 1) (below_set (g := w.heap.size + 1) HB.out (by omega)) (by omega)) (by omega)) (by omega)) (by omega)) (by omega)) (by omega)) (by omega)) (by omega)) (by omega)) (by omega)) (by omega))⟩
    | true =>
      have HV := Aside0.mk (show backV 1 tx pg ak a b c n0 n1 n2 = .tuple #[.agg #[.int .i64 2, .int .u64 n0, .int .i64 tx, .int .u64 n1, .int .u64 n2, .int .i64 pg, .int .i64 (turnK ak), .string a, .string c, .string b, .slice none 0 0, .slice none 0 0], .int .i64 0] from by unfold backV; rw [hm]; rfl)
      have HTa := Aside0.mk (show actTurn ak a b c = (turnK ak, a, c, b) from by unfold actTurn; rw [hm]; rfl)
      have HM := Aside0.mk hm
      clear hm r0 g0 r1 g1 r2 g2 r3 g3 r4 g4 r5 g5 r6 g6 r7 g7 r8 g8 r9 g9 r10 g10 r11 g11 x0 x1 x3 x4 x10 x11
      go_wp2_with fail
      go_region_held3 (fun wx => wx.cell? ⟨w.heap.size, 2, none⟩ = some (.int .i64 tx) ∧ wx.cell? ⟨w.heap.size, 5, none⟩ = some (.int .i64 pg) ∧ wx.cell? ⟨w.heap.size, 6, none⟩ = some (.int .i64 ak) ∧ wx.cell? ⟨w.heap.size, 7, none⟩ = some (.string a) ∧ wx.cell? ⟨w.heap.size, 8, none⟩ = some (.string b) ∧ wx.cell? ⟨w.heap.size, 9, none⟩ = some (.string c)) (go_keep) (((go_at_call 29; refine (turn_ok _ ak a b c ha hb hc HM.out).mono ?_; rintro e w4 ⟨rfl, hb⟩; have hx4 := blk_below (blk_drew HX.out) hb; have hr4 := blk_below (blk_drew HR.out) hb; have y2 := blk_cell hx4 2; have y5 := blk_cell hx4 5; have y6 := blk_cell hx4 6; have y7 := blk_cell hx4 7; have y8 := blk_cell hx4 8; have y9 := blk_cell hx4 9; have s0 := blk_cell hr4 0; have u0 := blk_frozen hr4 0; have s1 := blk_cell hr4 1; have u1 := blk_frozen hr4 1; have s2 := blk_cell hr4 2; have u2 := blk_frozen hr4 2; have s3 := blk_cell hr4 3; have u3 := blk_frozen hr4 3; have s4 := blk_cell hr4 4; have u4 := blk_frozen hr4 4; have s5 := blk_cell hr4 5; have u5 := blk_frozen hr4 5; have s6 := blk_cell hr4 6; have u6 := blk_frozen hr4 6; have s7 := blk_cell hr4 7; have u7 := blk_frozen hr4 7; have s8 := blk_cell hr4 8; have u8 := blk_frozen hr4 8; have s9 := blk_cell hr4 9; have u9 := blk_frozen hr4 9; have s10 := blk_cell hr4 10; have u10 := blk_frozen hr4 10; have s11 := blk_cell hr4 11; have u11 := blk_frozen hr4 11; have HR4 := Aside0.mk hr4; have HB4 := Aside0.mk (below_then (below_drew HB.out) (below_drew HB.out).size hb); clear hb hx4 hr4)))
      all_goals
        go_wp2_with fail
        refine bodyPost_ret (results_ct rfl _ _ (w.heap.size + 1) 39 #[.int .i64 2, .int .u64 n0, .int .i64 tx, .int .u64 n1, .int .u64 n2, .int .i64 pg, .int .i64 (turnK ak), .string a, .string c, .string b, .slice none 0 0, .slice none 0 0] (0, 0) _ rfl (blk_put (cs' := #[.int .i64 2, .int .u64 n0, .int .i64 tx, .int .u64 n1, .int .u64 n2, .int .i64 pg, .int .i64 (turnK ak), .string a, .string c, .string b, .slice none 0 0, .slice none 0 0]) (blk_put (cs' := #[.int .i64 2, .int .u64 n0, .int .i64 tx, .int .u64 n1, .int .u64 n2, .int .i64 pg, .int .i64 (turnK ak), .string a, .string c, .string b, .slice none 0 0, .slice none 0 0]) (blk_put (cs' := #[.int .i64 2, .int .u64 n0, .int .i64 tx, .int .u64 n1, .int .u64 n2, .int .i64 pg, .int .i64 (turnK ak), .string a, .string c, .string b, .slice none 0 0, .slice none 0 0]) (blk_put (cs' := #[.int .i64 2, .int .u64 n0, .int .i64 tx, .int .u64 n1, .int .u64 n2, .int .i64 pg, .int .i64 (turnK ak), .string a, .string c, .string ⟨#[]⟩, .slice none 0 0, .slice none 0 0]) (blk_put (cs' := #[.int .i64 2, .int .u64 n0, .int .i64 tx, .int .u64 n1, .int .u64 n2, .int .i64 pg, .int .i64 (turnK ak), .string a, .string ⟨#[]⟩, .string ⟨#[]⟩, .slice none 0 0, .slice none 0 0]) (blk_put (cs' := #[.int .i64 2, .int .u64 n0, .int .i64 tx, .int .u64 n1, .int .u64 n2, .int .i64 pg, .int .i64 (turnK ak), .string ⟨#[]⟩, .string ⟨#[]⟩, .string ⟨#[]⟩, .slice none 0 0, .slice none 0 0]) (blk_put (cs' := #[.int .i64 2, .int .u64 n0, .int .i64 tx, .int .u64 n1, .int .u64 n2, .int .i64 pg, .int .i64 0, .string ⟨#[]⟩, .string ⟨#[]⟩, .string ⟨#[]⟩, .slice none 0 0, .slice none 0 0]) (blk_put (cs' := #[.int .i64 2, .int .u64 n0, .int .i64 tx, .int .u64 n1, .int .u64 n2, .int .i64 0, .int .i64 0, .string ⟨#[]⟩, .string ⟨#[]⟩, .string ⟨#[]⟩, .slice none 0 0, .slice none 0 0]) (blk_put (cs' := #[.int .i64 2, .int .u64 n0, .int .i64 tx, .int .u64 n1, .int .u64 0, .int .i64 0, .int .i64 0, .string ⟨#[]⟩, .string ⟨#[]⟩, .string ⟨#[]⟩, .slice none 0 0, .slice none 0 0]) (blk_put (cs' := #[.int .i64 2, .int .u64 n0, .int .i64 tx, .int .u64 0, .int .u64 0, .int .i64 0, .int .i64 0, .string ⟨#[]⟩, .string ⟨#[]⟩, .string ⟨#[]⟩, .slice none 0 0, .slice none 0 0]) (blk_put (cs' := #[.int .i64 2, .int .u64 n0, .int .i64 0, .int .u64 0, .int .u64 0, .int .i64 0, .int .i64 0, .string ⟨#[]⟩, .string ⟨#[]⟩, .string ⟨#[]⟩, .slice none 0 0, .slice none 0 0]) (blk_put (cs' := #[.int .i64 2, .int .u64 0, .int .i64 0, .int .u64 0, .int .u64 0, .int .i64 0, .int .i64 0, .string ⟨#[]⟩, .string ⟨#[]⟩, .string ⟨#[]⟩, .slice none 0 0, .slice none 0 0]) HR4.out 0 (.int .i64 2) rfl) 1 (.int .u64 n0) rfl) 2 (.int .i64 tx) rfl) 3 (.int .u64 n1) rfl) 4 (.int .u64 n2) rfl) 5 (.int .i64 pg) rfl) 6 (.int .i64 (turnK ak)) rfl) 7 (.string a) rfl) 8 (.string c) rfl) 9 (.string b) rfl) 10 (.slice none 0 0) rfl) 11 (.slice none 0 0) rfl) Try.underlying39 rfl (by kernel_rfl)) rfl ?_
        exact ⟨by rw [HV.out]; rfl, (below_set (g := w.heap.size + 1) (below_set (g := w.heap.size + 1) (below_set (g := w.heap.size + 1) (below_set (g := w.heap.size + 1) (below_set (g := w.heap.size + 1) (below_set (g := w.heap.size + 1) (below_set (g := w.heap.size + 1) (below_set (g := w.heap.size + 1) (below_set (g := w.heap.size + 1) (below_set (g := w.heap.size + 1) (below_set (g := w.heap.size + 1) (below_set (g := w.heap.size + 1) HB4.out (by omega)) (by omega)) (by omega)) (by omega)) (by omega)) (by omega)) (by omega)) (by omega)) (by omega)) (by omega)) (by omega)) (by omega))⟩
  · have HV := Aside0.mk (show backV k tx pg ak a b c n0 n1 n2 = .tuple #[.agg #[.int .i64 0, .int .u64 0, .int .i64 0, .int .u64 0, .int .u64 0, .int .i64 0, .int .i64 0, .string ⟨#[]⟩, .string ⟨#[]⟩, .string ⟨#[]⟩, .slice none 0 0, .slice none 0 0], .int .i64 1] from by unfold backV; rw [if_neg (fun h => k1 h.1)])
    go_wp2_with fail
    refine bodyPost_ret (results_ct rfl _ _ (w.heap.size + 1) 39 #[.int .i64 0, .int .u64 0, .int .i64 0, .int .u64 0, .int .u64 0, .int .i64 0, .int .i64 0, .string ⟨#[]⟩, .string ⟨#[]⟩, .string ⟨#[]⟩, .slice none 0 0, .slice none 0 0] (0, 0) _ rfl (by have := heap_alloc_new (w.alloc (.cells #[.int .i64 k, .int .u64 ls, .int .i64 tx, .int .u64 pv, .int .u64 un, .int .i64 pg, .int .i64 ak, .string a, .string b, .string c, .slice At lt ct, .slice Ad ld cd] 39)) (.cells #[.int .i64 0, .int .u64 0, .int .i64 0, .int .u64 0, .int .u64 0, .int .i64 0, .int .i64 0, .string ⟨#[]⟩, .string ⟨#[]⟩, .string ⟨#[]⟩, .slice none 0 0, .slice none 0 0] 39); simpa using this) Try.underlying39 rfl (by kernel_rfl)) rfl ?_
    exact ⟨by rw [HV.out]; rfl, (below_alloc (below_alloc (Below.refl _ _) _) _)⟩
end Go.Proofs.Yteaklmafjmnmiaa
end
