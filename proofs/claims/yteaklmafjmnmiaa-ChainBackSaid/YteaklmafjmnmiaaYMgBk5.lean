/- The calls of act's May, Turn. -/
import Derived.Test.YteaklmafjmnmiaaYMgBk4
import Derived.Test.YteaklmafjmnmiaaYRa
import Derived.BigRegion
import Derived.Laws.EntriesVeiled
section
namespace Go.Proofs.Yteaklmafjmnmiaa
open Go.RowKit Go.Proofs.YteaklmafjmnmiaaW.PrintWords Go.Proofs.YteaklmafjmnmiaaW.PrintLast Go.Proofs.YteaklmafjmnmiaaW.PrintMore
open Rf Go.ChangeMaps
set_option linter.unusedVariables false
set_option linter.unusedSimpArgs false
theorem may1_calls (w : World) (k : Int) (a b c : ByteArray) : Calls Try.prog 61 #[.agg #[.int .i64 k, .string a, .string b, .string c]] w fun e w' => e = .returned (.bool b.toList.isEmpty) ∧ Below w.heap.size w w' := by
  go_enter Try.func61, Try.ntmps61
  go_wp2
  go_ret
  exact ⟨rfl, by repeat (first | exact Below.refl _ _ | apply below_alloc | apply below_drew)⟩
theorem may2_calls (w : World) (k : Int) (a b c : ByteArray) : Calls Try.prog 64 #[.agg #[.int .i64 k, .string a, .string b, .string c]] w fun e w' => e = .returned (.bool true) ∧ Below w.heap.size w w' := by
  go_enter Try.func64, Try.ntmps64
  go_wp2
  go_ret
  exact ⟨rfl, by repeat (first | exact Below.refl _ _ | apply below_alloc | apply below_drew)⟩
theorem may3_calls (w : World) (k : Int) (a b c : ByteArray) : Calls Try.prog 68 #[.agg #[.int .i64 k, .string a, .string b, .string c]] w fun e w' => e = .returned (.bool c.toList.isEmpty) ∧ Below w.heap.size w w' := by
  go_enter Try.func68, Try.ntmps68
  go_wp2
  go_ret
  exact ⟨rfl, by repeat (first | exact Below.refl _ _ | apply below_alloc | apply below_drew)⟩
/-- May. -/
def fits (a b c : ByteArray) : Bool := decide (1 ≤ a.size) && (decide (a.size ≤ 16) && (decide (b.size ≤ 32) && decide (c.size ≤ 32)))
def actMay (k : Int) (a b c : ByteArray) : Bool := fits a b c && (if k = 1 then b.toList.isEmpty else if k = 2 then true else if k = 3 then c.toList.isEmpty else false)
theorem fits_iff (a b c : ByteArray) : fits a b c = true ↔ 1 ≤ a.size ∧ a.size ≤ 16 ∧ b.size ≤ 32 ∧ c.size ≤ 32 := by simp [fits]
theorem zero_way (w : World) : (zeroValue 95).run Try.prog w = .ok (.agg #[.nilFunc, .nilFunc, .int .i64 0]) w := by kernel_rfl
set_option maxRecDepth 100000 in
set_option maxHeartbeats 1000000 in
theorem actmay_calls (w : World) (k : Int) (a b c : ByteArray) (ha : a.size ≤ 140737488351232) (hb : b.size ≤ 140737488351232) (hc : c.size ≤ 140737488351232) : Calls Try.prog 28 #[.agg #[.int .i64 k, .string a, .string b, .string c]] w fun e w' => e = .returned (.bool (actMay k a b c)) ∧ Below w.heap.size w w' := by
  go_enter Try.func28, Try.ntmps28
  go_wp2_with fail
  have hb0 : Below w.heap.size w ((w.alloc (.cells #[.int .i64 k, .string a, .string b, .string c] 35))) := below_alloc (Below.refl _ _) _
  have hbx := heap_alloc_new w (.cells #[.int .i64 k, .string a, .string b, .string c] 35)
  generalize w.alloc (.cells #[.int .i64 k, .string a, .string b, .string c] 35) = w1 at hb0 hbx ⊢
  have hx0 : w1.cell? ⟨w.heap.size, 0, none⟩ = some (.int .i64 k) := blk_cell hbx 0
  have HX := Aside0.mk hbx
  have HLT := Aside0.mk (blk_lt hbx)
  have HB := Aside0.mk hb0
  clear hbx hb0
  by_cases k1 : k = 1
  · subst k1
    go_region_held3 (fun wx => wx.cell? ⟨w.heap.size, 0, none⟩ = some (.int .i64 1)) ((first | go_keep | exact blk_cell (blk_far (blk_far (blk_far HX2.out (Nat.ne_of_lt HLT.out) _) (Nat.ne_of_lt HLT.out) _) (Nat.ne_of_lt HLT.out) _) 0)) ((first | (go_at_call 52; refine (ways_calls _).mono ?_; rintro e w2 ⟨rfl, hmap, hb⟩; have q0 := blk_cell (blk_below (blk_drew HX.out) hb) 0; have HM := Aside0.mk hmap; have HX2 := Aside0.mk (blk_below (blk_drew HX.out) hb); have HB2 := Aside0.mk (below_then (below_drew HB.out) (below_drew HB.out).size hb); clear hmap hb) | (go_at_call 52; refine (ways_calls _).mono ?_; rintro e w2 ⟨rfl, hmap, hb⟩; have hz := blk_below (blk_drew (heap_alloc_new w1 _)) hb; have q0 := blk_cell (blk_below (blk_drew (blk_alloc HX.out _)) hb) 0; have z0 := blk_cell hz 0; have z1 := blk_cell hz 1; have z2 := blk_cell hz 2; have f0 := blk_frozen hz 0; have f1 := blk_frozen hz 1; have f2 := blk_frozen hz 2; have HM := Aside0.mk (show w2.heap[w1.heap.size + 1]? = some (.map waysE 3) from by have := hmap; simpa using this); have HZ := Aside0.mk hz; have HX2 := Aside0.mk (blk_below (blk_drew (blk_alloc HX.out _)) hb); have HB2 := Aside0.mk (below_then (below_drew (below_alloc HB.out _)) (below_drew (below_alloc HB.out _)).size hb); clear hmap hb hz) | (rw [run_lookOk (v := (.agg #[.func (.func 61) #[] #[], .func (.func 62) #[] #[], .int .i64 3])) Try.underlying97 Try.underlying33 (by first | exact HM.out | exact blk_alloc HM.out _) 1 rfl])))
    all_goals
      (first
        | (have hgw := blk_set (blk_set (blk_set HZ.out 0 (.func (.func 61) #[] #[])) 1 (.func (.func 62) #[] #[])) 2 (.int .i64 3); have hxw := blk_far (blk_far (blk_far HX2.out (p := ⟨w1.heap.size, 0, none⟩) (Nat.ne_of_lt HLT.out) (.func (.func 61) #[] #[])) (p := ⟨w1.heap.size, 1, none⟩) (Nat.ne_of_lt HLT.out) (.func (.func 62) #[] #[])) (p := ⟨w1.heap.size, 2, none⟩) (Nat.ne_of_lt HLT.out) (.int .i64 3); have hbw := below_set (g := w1.heap.size) (j := 2) (v := (.int .i64 3)) (below_set (g := w1.heap.size) (j := 1) (v := (.func (.func 62) #[] #[])) (below_set (g := w1.heap.size) (j := 0) (v := (.func (.func 61) #[] #[])) HB2.out (Nat.le_of_lt HLT.out)) (Nat.le_of_lt HLT.out)) (Nat.le_of_lt HLT.out); generalize ((w2.setCell ⟨w1.heap.size, 0, none⟩ (.func (.func 61) #[] #[])).setCell ⟨w1.heap.size, 1, none⟩ (.func (.func 62) #[] #[])).setCell ⟨w1.heap.size, 2, none⟩ (.int .i64 3) = w3 at hgw hxw hbw ⊢; generalize w1.heap.size = gw at hgw ⊢)
        | (have hgw := heap_alloc_new w2 (.cells #[.func (.func 61) #[] #[], .func (.func 62) #[] #[], .int .i64 3] 95); have hxw := blk_alloc HX2.out (.cells #[.func (.func 61) #[] #[], .func (.func 62) #[] #[], .int .i64 3] 95); have hbw := below_alloc HB2.out (.cells #[.func (.func 61) #[] #[], .func (.func 62) #[] #[], .int .i64 3] 95); generalize w2.alloc (.cells #[.func (.func 61) #[] #[], .func (.func 62) #[] #[], .int .i64 3] 95) = w3 at hgw hxw hbw ⊢; generalize w2.heap.size = gw at hgw ⊢))
      have p0 := blk_cell hgw 0
      have x0 := blk_cell hxw 0
      have x1 := blk_cell hxw 1
      have x2 := blk_cell hxw 2
      have x3 := blk_cell hxw 3
      have HX3 := Aside0.mk hxw
      have HB3 := Aside0.mk hbw
      clear hgw hxw hbw
      by_cases hf : fits a b c = true
      · have HF := Aside0.mk (show actMay 1 a b c = b.toList.isEmpty from by unfold actMay; rw [hf]; rfl)
        obtain ⟨s1, s2, s3, s4⟩ := (fits_iff a b c).1 hf
        clear hf
        go_wp2_with (first | (go_at_call 61; refine (may1_calls _ 1 a b c).mono ?_; rintro e w4 ⟨rfl, hb4⟩; have HB4 := Aside0.mk (below_then HB3.out HB3.out.size hb4); clear hb4))
        go_ret
        exact ⟨by rw [HF.out]; rfl, HB4.out⟩
      · have HF := Aside0.mk (show actMay 1 a b c = false from by unfold actMay; rw [show fits a b c = false from by simpa using hf]; rfl)
        have hs : a.size < 1 ∨ 16 < a.size ∨ 32 < b.size ∨ 32 < c.size := by rw [fits_iff] at hf; omega
        clear hf
        go_wp2_with (first | (go_at_call 61; exfalso; omega))
        all_goals
          go_ret
          exact ⟨by rw [HF.out]; rfl, HB3.out⟩
  by_cases k2 : k = 2
  · subst k2
    clear k1
    go_region_held3 (fun wx => wx.cell? ⟨w.heap.size, 0, none⟩ = some (.int .i64 2)) ((first | go_keep | exact blk_cell (blk_far (blk_far (blk_far HX2.out (Nat.ne_of_lt HLT.out) _) (Nat.ne_of_lt HLT.out) _) (Nat.ne_of_lt HLT.out) _) 0)) ((first | (go_at_call 52; refine (ways_calls _).mono ?_; rintro e w2 ⟨rfl, hmap, hb⟩; have q0 := blk_cell (blk_below (blk_drew HX.out) hb) 0; have HM := Aside0.mk hmap; have HX2 := Aside0.mk (blk_below (blk_drew HX.out) hb); have HB2 := Aside0.mk (below_then (below_drew HB.out) (below_drew HB.out).size hb); clear hmap hb) | (go_at_call 52; refine (ways_calls _).mono ?_; rintro e w2 ⟨rfl, hmap, hb⟩; have hz := blk_below (blk_drew (heap_alloc_new w1 _)) hb; have q0 := blk_cell (blk_below (blk_drew (blk_alloc HX.out _)) hb) 0; have z0 := blk_cell hz 0; have z1 := blk_cell hz 1; have z2 := blk_cell hz 2; have f0 := blk_frozen hz 0; have f1 := blk_frozen hz 1; have f2 := blk_frozen hz 2; have HM := Aside0.mk (show w2.heap[w1.heap.size + 1]? = some (.map waysE 3) from by have := hmap; simpa using this); have HZ := Aside0.mk hz; have HX2 := Aside0.mk (blk_below (blk_drew (blk_alloc HX.out _)) hb); have HB2 := Aside0.mk (below_then (below_drew (below_alloc HB.out _)) (below_drew (below_alloc HB.out _)).size hb); clear hmap hb hz) | (rw [run_lookOk (v := (.agg #[.func (.func 64) #[] #[], .func (.func 65) #[] #[], .int .i64 2])) Try.underlying97 Try.underlying33 (by first | exact HM.out | exact blk_alloc HM.out _) 2 rfl])))
    all_goals
      (first
        | (have hgw := blk_set (blk_set (blk_set HZ.out 0 (.func (.func 64) #[] #[])) 1 (.func (.func 65) #[] #[])) 2 (.int .i64 2); have hxw := blk_far (blk_far (blk_far HX2.out (p := ⟨w1.heap.size, 0, none⟩) (Nat.ne_of_lt HLT.out) (.func (.func 64) #[] #[])) (p := ⟨w1.heap.size, 1, none⟩) (Nat.ne_of_lt HLT.out) (.func (.func 65) #[] #[])) (p := ⟨w1.heap.size, 2, none⟩) (Nat.ne_of_lt HLT.out) (.int .i64 2); have hbw := below_set (g := w1.heap.size) (j := 2) (v := (.int .i64 2)) (below_set (g := w1.heap.size) (j := 1) (v := (.func (.func 65) #[] #[])) (below_set (g := w1.heap.size) (j := 0) (v := (.func (.func 64) #[] #[])) HB2.out (Nat.le_of_lt HLT.out)) (Nat.le_of_lt HLT.out)) (Nat.le_of_lt HLT.out); generalize ((w2.setCell ⟨w1.heap.size, 0, none⟩ (.func (.func 64) #[] #[])).setCell ⟨w1.heap.size, 1, none⟩ (.func (.func 65) #[] #[])).setCell ⟨w1.heap.size, 2, none⟩ (.int .i64 2) = w3 at hgw hxw hbw ⊢; generalize w1.heap.size = gw at hgw ⊢)
        | (have hgw := heap_alloc_new w2 (.cells #[.func (.func 64) #[] #[], .func (.func 65) #[] #[], .int .i64 2] 95); have hxw := blk_alloc HX2.out (.cells #[.func (.func 64) #[] #[], .func (.func 65) #[] #[], .int .i64 2] 95); have hbw := below_alloc HB2.out (.cells #[.func (.func 64) #[] #[], .func (.func 65) #[] #[], .int .i64 2] 95); generalize w2.alloc (.cells #[.func (.func 64) #[] #[], .func (.func 65) #[] #[], .int .i64 2] 95) = w3 at hgw hxw hbw ⊢; generalize w2.heap.size = gw at hgw ⊢))
      have p0 := blk_cell hgw 0
      have x0 := blk_cell hxw 0
      have x1 := blk_cell hxw 1
      have x2 := blk_cell hxw 2
      have x3 := blk_cell hxw 3
      have HX3 := Aside0.mk hxw
      have HB3 := Aside0.mk hbw
      clear hgw hxw hbw
      by_cases hf : fits a b c = true
      · have HF := Aside0.mk (show actMay 2 a b c = true from by unfold actMay; rw [hf]; rfl)
        obtain ⟨s1, s2, s3, s4⟩ := (fits_iff a b c).1 hf
        clear hf
        go_wp2_with (first | (go_at_call 64; refine (may2_calls _ 2 a b c).mono ?_; rintro e w4 ⟨rfl, hb4⟩; have HB4 := Aside0.mk (below_then HB3.out HB3.out.size hb4); clear hb4))
        go_ret
        exact ⟨by rw [HF.out]; rfl, HB4.out⟩
      · have HF := Aside0.mk (show actMay 2 a b c = false from by unfold actMay; rw [show fits a b c = false from by simpa using hf]; rfl)
        have hs : a.size < 1 ∨ 16 < a.size ∨ 32 < b.size ∨ 32 < c.size := by rw [fits_iff] at hf; omega
        clear hf
        go_wp2_with (first | (go_at_call 64; exfalso; omega))
        all_goals
          go_ret
          exact ⟨by rw [HF.out]; rfl, HB3.out⟩
  by_cases k3 : k = 3
  · subst k3
    clear k1 k2
    go_region_held3 (fun wx => wx.cell? ⟨w.heap.size, 0, none⟩ = some (.int .i64 3)) ((first | go_keep | exact blk_cell (blk_far (blk_far (blk_far HX2.out (Nat.ne_of_lt HLT.out) _) (Nat.ne_of_lt HLT.out) _) (Nat.ne_of_lt HLT.out) _) 0)) ((first | (go_at_call 52; refine (ways_calls _).mono ?_; rintro e w2 ⟨rfl, hmap, hb⟩; have q0 := blk_cell (blk_below (blk_drew HX.out) hb) 0; have HM := Aside0.mk hmap; have HX2 := Aside0.mk (blk_below (blk_drew HX.out) hb); have HB2 := Aside0.mk (below_then (below_drew HB.out) (below_drew HB.out).size hb); clear hmap hb) | (go_at_call 52; refine (ways_calls _).mono ?_; rintro e w2 ⟨rfl, hmap, hb⟩; have hz := blk_below (blk_drew (heap_alloc_new w1 _)) hb; have q0 := blk_cell (blk_below (blk_drew (blk_alloc HX.out _)) hb) 0; have z0 := blk_cell hz 0; have z1 := blk_cell hz 1; have z2 := blk_cell hz 2; have f0 := blk_frozen hz 0; have f1 := blk_frozen hz 1; have f2 := blk_frozen hz 2; have HM := Aside0.mk (show w2.heap[w1.heap.size + 1]? = some (.map waysE 3) from by have := hmap; simpa using this); have HZ := Aside0.mk hz; have HX2 := Aside0.mk (blk_below (blk_drew (blk_alloc HX.out _)) hb); have HB2 := Aside0.mk (below_then (below_drew (below_alloc HB.out _)) (below_drew (below_alloc HB.out _)).size hb); clear hmap hb hz) | (rw [run_lookOk (v := (.agg #[.func (.func 68) #[] #[], .func (.func 69) #[] #[], .int .i64 1])) Try.underlying97 Try.underlying33 (by first | exact HM.out | exact blk_alloc HM.out _) 3 rfl])))
    all_goals
      (first
        | (have hgw := blk_set (blk_set (blk_set HZ.out 0 (.func (.func 68) #[] #[])) 1 (.func (.func 69) #[] #[])) 2 (.int .i64 1); have hxw := blk_far (blk_far (blk_far HX2.out (p := ⟨w1.heap.size, 0, none⟩) (Nat.ne_of_lt HLT.out) (.func (.func 68) #[] #[])) (p := ⟨w1.heap.size, 1, none⟩) (Nat.ne_of_lt HLT.out) (.func (.func 69) #[] #[])) (p := ⟨w1.heap.size, 2, none⟩) (Nat.ne_of_lt HLT.out) (.int .i64 1); have hbw := below_set (g := w1.heap.size) (j := 2) (v := (.int .i64 1)) (below_set (g := w1.heap.size) (j := 1) (v := (.func (.func 69) #[] #[])) (below_set (g := w1.heap.size) (j := 0) (v := (.func (.func 68) #[] #[])) HB2.out (Nat.le_of_lt HLT.out)) (Nat.le_of_lt HLT.out)) (Nat.le_of_lt HLT.out); generalize ((w2.setCell ⟨w1.heap.size, 0, none⟩ (.func (.func 68) #[] #[])).setCell ⟨w1.heap.size, 1, none⟩ (.func (.func 69) #[] #[])).setCell ⟨w1.heap.size, 2, none⟩ (.int .i64 1) = w3 at hgw hxw hbw ⊢; generalize w1.heap.size = gw at hgw ⊢)
        | (have hgw := heap_alloc_new w2 (.cells #[.func (.func 68) #[] #[], .func (.func 69) #[] #[], .int .i64 1] 95); have hxw := blk_alloc HX2.out (.cells #[.func (.func 68) #[] #[], .func (.func 69) #[] #[], .int .i64 1] 95); have hbw := below_alloc HB2.out (.cells #[.func (.func 68) #[] #[], .func (.func 69) #[] #[], .int .i64 1] 95); generalize w2.alloc (.cells #[.func (.func 68) #[] #[], .func (.func 69) #[] #[], .int .i64 1] 95) = w3 at hgw hxw hbw ⊢; generalize w2.heap.size = gw at hgw ⊢))
      have p0 := blk_cell hgw 0
      have x0 := blk_cell hxw 0
      have x1 := blk_cell hxw 1
      have x2 := blk_cell hxw 2
      have x3 := blk_cell hxw 3
      have HX3 := Aside0.mk hxw
      have HB3 := Aside0.mk hbw
      clear hgw hxw hbw
      by_cases hf : fits a b c = true
      · have HF := Aside0.mk (show actMay 3 a b c = c.toList.isEmpty from by unfold actMay; rw [hf]; rfl)
        obtain ⟨s1, s2, s3, s4⟩ := (fits_iff a b c).1 hf
        clear hf
        go_wp2_with (first | (go_at_call 68; refine (may3_calls _ 3 a b c).mono ?_; rintro e w4 ⟨rfl, hb4⟩; have HB4 := Aside0.mk (below_then HB3.out HB3.out.size hb4); clear hb4))
        go_ret
        exact ⟨by rw [HF.out]; rfl, HB4.out⟩
      · have HF := Aside0.mk (show actMay 3 a b c = false from by unfold actMay; rw [show fits a b c = false from by simpa using hf]; rfl)
        have hs : a.size < 1 ∨ 16 < a.size ∨ 32 < b.size ∨ 32 < c.size := by rw [fits_iff] at hf; omega
        clear hf
        go_wp2_with (first | (go_at_call 68; exfalso; omega))
        all_goals
          go_ret
          exact ⟨by rw [HF.out]; rfl, HB3.out⟩
  · have HN := Aside0.mk (show Instr.findNow (.int .i64) (.int .i64 k) waysE.toList 0 = some none from by simp [waysE, Instr.findNow, Instr.sameNow, show (k == 1) = false from by simpa using k1, show (k == 2) = false from by simpa using k2, show (k == 3) = false from by simpa using k3])
    have HM0 := Aside0.mk (show actMay k a b c = false from by unfold actMay; rw [if_neg k1, if_neg k2, if_neg k3]; simp)
    clear k1 k2 k3
    go_region_held3 (fun wx => wx.cell? ⟨w.heap.size, 0, none⟩ = some (.int .i64 k)) ((first | go_keep | exact blk_cell (blk_far (blk_far (blk_far HX2.out (Nat.ne_of_lt HLT.out) _) (Nat.ne_of_lt HLT.out) _) (Nat.ne_of_lt HLT.out) _) 0)) ((first | (go_at_call 52; refine (ways_calls _).mono ?_; rintro e w2 ⟨rfl, hmap, hb⟩; have q0 := blk_cell (blk_below (blk_drew HX.out) hb) 0; have HM := Aside0.mk hmap; have HX2 := Aside0.mk (blk_below (blk_drew HX.out) hb); have HB2 := Aside0.mk (below_then (below_drew HB.out) (below_drew HB.out).size hb); clear hmap hb) | (go_at_call 52; refine (ways_calls _).mono ?_; rintro e w2 ⟨rfl, hmap, hb⟩; have hz := blk_below (blk_drew (heap_alloc_new w1 _)) hb; have q0 := blk_cell (blk_below (blk_drew (blk_alloc HX.out _)) hb) 0; have z0 := blk_cell hz 0; have z1 := blk_cell hz 1; have z2 := blk_cell hz 2; have f0 := blk_frozen hz 0; have f1 := blk_frozen hz 1; have f2 := blk_frozen hz 2; have HM := Aside0.mk (show w2.heap[w1.heap.size + 1]? = some (.map waysE 3) from by have := hmap; simpa using this); have HZ := Aside0.mk hz; have HX2 := Aside0.mk (blk_below (blk_drew (blk_alloc HX.out _)) hb); have HB2 := Aside0.mk (below_then (below_drew (below_alloc HB.out _)) (below_drew (below_alloc HB.out _)).size hb); clear hmap hb hz) | (rw [run_lookNo (z := .agg #[.nilFunc, .nilFunc, .int .i64 0]) Try.underlying97 Try.underlying33 (by first | exact HM.out | exact blk_alloc HM.out _) k (zero_way _) HN.out])))
    all_goals
      (first
        | (have hgw := blk_set (blk_set (blk_set HZ.out 0 .nilFunc) 1 .nilFunc) 2 (.int .i64 0); have hxw := blk_far (blk_far (blk_far HX2.out (p := ⟨w1.heap.size, 0, none⟩) (Nat.ne_of_lt HLT.out) .nilFunc) (p := ⟨w1.heap.size, 1, none⟩) (Nat.ne_of_lt HLT.out) .nilFunc) (p := ⟨w1.heap.size, 2, none⟩) (Nat.ne_of_lt HLT.out) (.int .i64 0); have hbw := below_set (g := w1.heap.size) (j := 2) (v := (.int .i64 0)) (below_set (g := w1.heap.size) (j := 1) (v := .nilFunc) (below_set (g := w1.heap.size) (j := 0) (v := .nilFunc) HB2.out (Nat.le_of_lt HLT.out)) (Nat.le_of_lt HLT.out)) (Nat.le_of_lt HLT.out); generalize ((w2.setCell ⟨w1.heap.size, 0, none⟩ .nilFunc).setCell ⟨w1.heap.size, 1, none⟩ .nilFunc).setCell ⟨w1.heap.size, 2, none⟩ (.int .i64 0) = w3 at hgw hxw hbw ⊢; generalize w1.heap.size = gw at hgw ⊢)
        | (have hgw := heap_alloc_new w2 (.cells #[.nilFunc, .nilFunc, .int .i64 0] 95); have hxw := blk_alloc HX2.out (.cells #[.nilFunc, .nilFunc, .int .i64 0] 95); have hbw := below_alloc HB2.out (.cells #[.nilFunc, .nilFunc, .int .i64 0] 95); generalize w2.alloc (.cells #[.nilFunc, .nilFunc, .int .i64 0] 95) = w3 at hgw hxw hbw ⊢; generalize w2.heap.size = gw at hgw ⊢))
      have HB3 := Aside0.mk hbw
      clear hgw hxw hbw
      go_wp2_with fail
      go_ret
      exact ⟨by rw [HM0.out]; rfl, HB3.out⟩
end Go.Proofs.Yteaklmafjmnmiaa
end
