/- The calls of act's Turn. -/
import Derived.Test.YteaklmafjmnmiaaYMgBk5
section
namespace Go.Proofs.Yteaklmafjmnmiaa
open Go.RowKit Go.Proofs.YteaklmafjmnmiaaW.PrintWords Go.Proofs.YteaklmafjmnmiaaW.PrintLast Go.Proofs.YteaklmafjmnmiaaW.PrintMore
open Rf Go.ChangeMaps
set_option linter.unusedVariables false
set_option linter.unusedSimpArgs false
def turnK (k : Int) : Int := if k = 1 then 3 else if k = 3 then 1 else 2
theorem may_kind {k : Int} {a b c : ByteArray} (h : actMay k a b c = true) : k = 1 ∨ k = 2 ∨ k = 3 := by
  unfold actMay at h
  by_cases k1 : k = 1
  · exact .inl k1
  · by_cases k2 : k = 2
    · exact .inr (.inl k2)
    · by_cases k3 : k = 3
      · exact .inr (.inr k3)
      · rw [if_neg k1, if_neg k2, if_neg k3] at h; simp at h
theorem may_fits {k : Int} {a b c : ByteArray} (h : actMay k a b c = true) : 1 ≤ a.size ∧ a.size ≤ 16 ∧ b.size ≤ 32 ∧ c.size ≤ 32 := by
  unfold actMay at h
  rw [Bool.and_eq_true] at h
  exact (fits_iff a b c).1 h.1
def actTurn (k : Int) (a b c : ByteArray) : Int × ByteArray × ByteArray × ByteArray := if actMay k a b c = true then (turnK k, a, c, b) else (0, ⟨#[]⟩, ⟨#[]⟩, ⟨#[]⟩)
abbrev actV (x : Int × ByteArray × ByteArray × ByteArray) : Value := .agg #[.int .i64 x.1, .string x.2.1, .string x.2.2.1, .string x.2.2.2]
theorem field2 (x y z : Value) (w : World) : (Instr.field 95 (.agg #[x, y, z]) 2).run Try.prog w = .ok z w := by
  kernel_rfl
set_option maxRecDepth 100000 in
set_option maxHeartbeats 1000000 in
theorem turn_calls (w : World) (k : Int) (a b c : ByteArray) (ha : a.size ≤ 140737488351232) (hb : b.size ≤ 140737488351232) (hc : c.size ≤ 140737488351232) : Calls Try.prog 29 #[.agg #[.int .i64 k, .string a, .string b, .string c]] w fun e w' => e = .returned (actV (actTurn k a b c)) ∧ Below w.heap.size w w' := by
  go_enter Try.func29, Try.ntmps29
  go_wp2_with fail
  have hb0 : Below w.heap.size w ((w.alloc (.cells #[.int .i64 k, .string a, .string b, .string c] 35)).alloc (.cells #[.int .i64 0, .string ⟨#[]⟩, .string ⟨#[]⟩, .string ⟨#[]⟩] 35)) := below_alloc (below_alloc (Below.refl _ _) _) _
  have hbx := blk_alloc (heap_alloc_new w (.cells #[.int .i64 k, .string a, .string b, .string c] 35)) (.cells #[.int .i64 0, .string ⟨#[]⟩, .string ⟨#[]⟩, .string ⟨#[]⟩] 35)
  have hbr : ((w.alloc (.cells #[.int .i64 k, .string a, .string b, .string c] 35)).alloc (.cells #[.int .i64 0, .string ⟨#[]⟩, .string ⟨#[]⟩, .string ⟨#[]⟩] 35)).heap[w.heap.size + 1]? = some (.cells #[.int .i64 0, .string ⟨#[]⟩, .string ⟨#[]⟩, .string ⟨#[]⟩] 35) := by
    have := heap_alloc_new (w.alloc (.cells #[.int .i64 k, .string a, .string b, .string c] 35)) (.cells #[.int .i64 0, .string ⟨#[]⟩, .string ⟨#[]⟩, .string ⟨#[]⟩] 35)
    simpa using this
  generalize (w.alloc (.cells #[.int .i64 k, .string a, .string b, .string c] 35)).alloc (.cells #[.int .i64 0, .string ⟨#[]⟩, .string ⟨#[]⟩, .string ⟨#[]⟩] 35) = w1 at hb0 hbx hbr ⊢
  refine (actmay_calls w1 k a b c ha hb hc).mono ?_
  rintro e w2 ⟨rfl, hb2⟩
  have HB := Aside0.mk (below_then hb0 hb0.size hb2)
  have HX := Aside0.mk (blk_below hbx hb2)
  have HR := Aside0.mk (blk_below hbr hb2)
  clear hb0 hbx hbr hb2
  have x0 := blk_cell HX.out 0
  have x1 := blk_cell HX.out 1
  have x2 := blk_cell HX.out 2
  have x3 := blk_cell HX.out 3
  have r0 := blk_cell HR.out 0
  have r1 := blk_cell HR.out 1
  have r2 := blk_cell HR.out 2
  have r3 := blk_cell HR.out 3
  have g0 := blk_frozen HR.out 0
  have g1 := blk_frozen HR.out 1
  have g2 := blk_frozen HR.out 2
  have g3 := blk_frozen HR.out 3
  cases hm : actMay k a b c with
  | false =>
    have HT := Aside0.mk (show actTurn k a b c = (0, ⟨#[]⟩, ⟨#[]⟩, ⟨#[]⟩) from by unfold actTurn; rw [hm]; rfl)
    clear hm
    go_wp2_with fail
    refine bodyPost_ret (results_cell_row rfl _ _ (w.heap.size + 1) 35 #[.int .i64 0, .string ⟨#[]⟩, .string ⟨#[]⟩, .string ⟨#[]⟩] (0, 0) _ rfl (blk_put (cs' := #[.int .i64 0, .string ⟨#[]⟩, .string ⟨#[]⟩, .string ⟨#[]⟩]) (blk_put (cs' := #[.int .i64 0, .string ⟨#[]⟩, .string ⟨#[]⟩, .string ⟨#[]⟩]) (blk_put (cs' := #[.int .i64 0, .string ⟨#[]⟩, .string ⟨#[]⟩, .string ⟨#[]⟩]) (blk_put (cs' := #[.int .i64 0, .string ⟨#[]⟩, .string ⟨#[]⟩, .string ⟨#[]⟩]) HR.out 0 (.int .i64 0) rfl) 1 (.string ⟨#[]⟩) rfl) 2 (.string ⟨#[]⟩) rfl) 3 (.string ⟨#[]⟩) rfl) Try.underlying35 rfl (by kernel_rfl)) rfl ?_
    exact ⟨by rw [HT.out], (below_set (g := w.heap.size + 1) (below_set (g := w.heap.size + 1) (below_set (g := w.heap.size + 1) (below_set (g := w.heap.size + 1) HB.out (by omega)) (by omega)) (by omega)) (by omega))⟩
  | true =>
    go_wp2_with fail
    have hfl : ∀ (x y z : Value) (wz : World), (Instr.field 95 (.agg #[x, y, z]) 2).run Try.prog wz = .ok z wz := field2
    rcases may_kind hm with rfl | rfl | rfl
    · have HT := Aside0.mk (show actTurn 1 a b c = (3, a, c, b) from by unfold actTurn; rw [hm]; rfl)
      clear hm
      go_region_held3 (fun wx => wx.cell? ⟨w.heap.size, 0, none⟩ = some (.int .i64 1) ∧ wx.cell? ⟨w.heap.size, 1, none⟩ = some (.string a) ∧ wx.cell? ⟨w.heap.size, 2, none⟩ = some (.string b) ∧ wx.cell? ⟨w.heap.size, 3, none⟩ = some (.string c)) (go_keep) ((first | (go_at_call 52; refine (ways_calls _).mono ?_; rintro e w4 ⟨rfl, hmap, hb⟩; have y0 := blk_cell (blk_below (blk_drew HX.out) hb) 0; have s0 := blk_cell (blk_below (blk_drew HR.out) hb) 0; have u0 := blk_frozen (blk_below (blk_drew HR.out) hb) 0; have y1 := blk_cell (blk_below (blk_drew HX.out) hb) 1; have s1 := blk_cell (blk_below (blk_drew HR.out) hb) 1; have u1 := blk_frozen (blk_below (blk_drew HR.out) hb) 1; have y2 := blk_cell (blk_below (blk_drew HX.out) hb) 2; have s2 := blk_cell (blk_below (blk_drew HR.out) hb) 2; have u2 := blk_frozen (blk_below (blk_drew HR.out) hb) 2; have y3 := blk_cell (blk_below (blk_drew HX.out) hb) 3; have s3 := blk_cell (blk_below (blk_drew HR.out) hb) 3; have u3 := blk_frozen (blk_below (blk_drew HR.out) hb) 3; have HM := Aside0.mk hmap; have HR4 := Aside0.mk (blk_below (blk_drew HR.out) hb); have HB4 := Aside0.mk (below_then (below_drew HB.out) (below_drew HB.out).size hb); clear hmap hb) | (rw [run_look (v := (.agg #[.func (.func 61) #[] #[], .func (.func 62) #[] #[], .int .i64 3])) Try.underlying97 Try.underlying33 (by exact HM.out) 1 rfl])))
      all_goals
        go_wp2_with fail
        refine bodyPost_ret (results_cell_row rfl _ _ (w.heap.size + 1) 35 #[.int .i64 3, .string a, .string c, .string b] (0, 0) _ rfl (blk_put (cs' := #[.int .i64 3, .string a, .string c, .string b]) (blk_put (cs' := #[.int .i64 3, .string a, .string c, .string ⟨#[]⟩]) (blk_put (cs' := #[.int .i64 3, .string a, .string ⟨#[]⟩, .string ⟨#[]⟩]) (blk_put (cs' := #[.int .i64 3, .string ⟨#[]⟩, .string ⟨#[]⟩, .string ⟨#[]⟩]) HR4.out 0 (.int .i64 3) rfl) 1 (.string a) rfl) 2 (.string c) rfl) 3 (.string b) rfl) Try.underlying35 rfl (by kernel_rfl)) rfl ?_
        exact ⟨by rw [HT.out], (below_set (g := w.heap.size + 1) (below_set (g := w.heap.size + 1) (below_set (g := w.heap.size + 1) (below_set (g := w.heap.size + 1) HB4.out (by omega)) (by omega)) (by omega)) (by omega))⟩
    · have HT := Aside0.mk (show actTurn 2 a b c = (2, a, c, b) from by unfold actTurn; rw [hm]; rfl)
      clear hm
      go_region_held3 (fun wx => wx.cell? ⟨w.heap.size, 0, none⟩ = some (.int .i64 2) ∧ wx.cell? ⟨w.heap.size, 1, none⟩ = some (.string a) ∧ wx.cell? ⟨w.heap.size, 2, none⟩ = some (.string b) ∧ wx.cell? ⟨w.heap.size, 3, none⟩ = some (.string c)) (go_keep) ((first | (go_at_call 52; refine (ways_calls _).mono ?_; rintro e w4 ⟨rfl, hmap, hb⟩; have y0 := blk_cell (blk_below (blk_drew HX.out) hb) 0; have s0 := blk_cell (blk_below (blk_drew HR.out) hb) 0; have u0 := blk_frozen (blk_below (blk_drew HR.out) hb) 0; have y1 := blk_cell (blk_below (blk_drew HX.out) hb) 1; have s1 := blk_cell (blk_below (blk_drew HR.out) hb) 1; have u1 := blk_frozen (blk_below (blk_drew HR.out) hb) 1; have y2 := blk_cell (blk_below (blk_drew HX.out) hb) 2; have s2 := blk_cell (blk_below (blk_drew HR.out) hb) 2; have u2 := blk_frozen (blk_below (blk_drew HR.out) hb) 2; have y3 := blk_cell (blk_below (blk_drew HX.out) hb) 3; have s3 := blk_cell (blk_below (blk_drew HR.out) hb) 3; have u3 := blk_frozen (blk_below (blk_drew HR.out) hb) 3; have HM := Aside0.mk hmap; have HR4 := Aside0.mk (blk_below (blk_drew HR.out) hb); have HB4 := Aside0.mk (below_then (below_drew HB.out) (below_drew HB.out).size hb); clear hmap hb) | (rw [run_look (v := (.agg #[.func (.func 64) #[] #[], .func (.func 65) #[] #[], .int .i64 2])) Try.underlying97 Try.underlying33 (by exact HM.out) 2 rfl])))
      all_goals
        go_wp2_with fail
        refine bodyPost_ret (results_cell_row rfl _ _ (w.heap.size + 1) 35 #[.int .i64 2, .string a, .string c, .string b] (0, 0) _ rfl (blk_put (cs' := #[.int .i64 2, .string a, .string c, .string b]) (blk_put (cs' := #[.int .i64 2, .string a, .string c, .string ⟨#[]⟩]) (blk_put (cs' := #[.int .i64 2, .string a, .string ⟨#[]⟩, .string ⟨#[]⟩]) (blk_put (cs' := #[.int .i64 2, .string ⟨#[]⟩, .string ⟨#[]⟩, .string ⟨#[]⟩]) HR4.out 0 (.int .i64 2) rfl) 1 (.string a) rfl) 2 (.string c) rfl) 3 (.string b) rfl) Try.underlying35 rfl (by kernel_rfl)) rfl ?_
        exact ⟨by rw [HT.out], (below_set (g := w.heap.size + 1) (below_set (g := w.heap.size + 1) (below_set (g := w.heap.size + 1) (below_set (g := w.heap.size + 1) HB4.out (by omega)) (by omega)) (by omega)) (by omega))⟩
    · have HT := Aside0.mk (show actTurn 3 a b c = (1, a, c, b) from by unfold actTurn; rw [hm]; rfl)
      clear hm
      go_region_held3 (fun wx => wx.cell? ⟨w.heap.size, 0, none⟩ = some (.int .i64 3) ∧ wx.cell? ⟨w.heap.size, 1, none⟩ = some (.string a) ∧ wx.cell? ⟨w.heap.size, 2, none⟩ = some (.string b) ∧ wx.cell? ⟨w.heap.size, 3, none⟩ = some (.string c)) (go_keep) ((first | (go_at_call 52; refine (ways_calls _).mono ?_; rintro e w4 ⟨rfl, hmap, hb⟩; have y0 := blk_cell (blk_below (blk_drew HX.out) hb) 0; have s0 := blk_cell (blk_below (blk_drew HR.out) hb) 0; have u0 := blk_frozen (blk_below (blk_drew HR.out) hb) 0; have y1 := blk_cell (blk_below (blk_drew HX.out) hb) 1; have s1 := blk_cell (blk_below (blk_drew HR.out) hb) 1; have u1 := blk_frozen (blk_below (blk_drew HR.out) hb) 1; have y2 := blk_cell (blk_below (blk_drew HX.out) hb) 2; have s2 := blk_cell (blk_below (blk_drew HR.out) hb) 2; have u2 := blk_frozen (blk_below (blk_drew HR.out) hb) 2; have y3 := blk_cell (blk_below (blk_drew HX.out) hb) 3; have s3 := blk_cell (blk_below (blk_drew HR.out) hb) 3; have u3 := blk_frozen (blk_below (blk_drew HR.out) hb) 3; have HM := Aside0.mk hmap; have HR4 := Aside0.mk (blk_below (blk_drew HR.out) hb); have HB4 := Aside0.mk (below_then (below_drew HB.out) (below_drew HB.out).size hb); clear hmap hb) | (rw [run_look (v := (.agg #[.func (.func 68) #[] #[], .func (.func 69) #[] #[], .int .i64 1])) Try.underlying97 Try.underlying33 (by exact HM.out) 3 rfl])))
      all_goals
        go_wp2_with fail
        refine bodyPost_ret (results_cell_row rfl _ _ (w.heap.size + 1) 35 #[.int .i64 1, .string a, .string c, .string b] (0, 0) _ rfl (blk_put (cs' := #[.int .i64 1, .string a, .string c, .string b]) (blk_put (cs' := #[.int .i64 1, .string a, .string c, .string ⟨#[]⟩]) (blk_put (cs' := #[.int .i64 1, .string a, .string ⟨#[]⟩, .string ⟨#[]⟩]) (blk_put (cs' := #[.int .i64 1, .string ⟨#[]⟩, .string ⟨#[]⟩, .string ⟨#[]⟩]) HR4.out 0 (.int .i64 1) rfl) 1 (.string a) rfl) 2 (.string c) rfl) 3 (.string b) rfl) Try.underlying35 rfl (by kernel_rfl)) rfl ?_
        exact ⟨by rw [HT.out], (below_set (g := w.heap.size + 1) (below_set (g := w.heap.size + 1) (below_set (g := w.heap.size + 1) (below_set (g := w.heap.size + 1) HB4.out (by omega)) (by omega)) (by omega)) (by omega))⟩
end Go.Proofs.Yteaklmafjmnmiaa
end
