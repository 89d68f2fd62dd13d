/- chain's Note: note3 note5. -/
import Derived.Test.YteaklmafjmnmiaaYMgBk10
section
namespace Go.Proofs.Yteaklmafjmnmiaa
open Go.RowKit Go.Proofs.YteaklmafjmnmiaaW.PrintWords Go.Proofs.YteaklmafjmnmiaaW.PrintLast Go.Proofs.YteaklmafjmnmiaaW.PrintMore
open Rf MapL MapV
set_option linter.unusedVariables false
set_option linter.unusedSimpArgs false
theorem updX_updX (X : Int → TX) (id : Int) (x y : TX) : updX (updX X id x) id y = updX X id y := by
  funext z
  unfold updX
  by_cases h : z = id
  · simp only [if_pos h]
  · simp only [if_neg h]
theorem updX_at (X : Int → TX) (id : Int) (x : TX) : updX X id x id = x := by unfold updX; rw [if_pos rfl]
set_option maxRecDepth 100000 in
set_option maxHeartbeats 8000000 in
theorem note3_calls (w0 : Wb) (w : World) (t mb : Nat) (bx : Int → Nat) (ks : List Int) (X : Int → TX)  (ls tx pv un pg ak : Int) (a b c : ByteArray) (At Ad : Option Addr) (ct cd : Nat) (h : Tab w0 w t mb bx ks X) (hi : tx ∈ ks)
    (hok : recOk 3 ls tx pv un pg ak a b c [] [] = true) (hpl : pv = (X tx).last) (hlt : ((X tx).st == 0) = true) (nn : Int) (hnv : needOf ks X 3 ls tx pv un pg ak a b c [] [] = nn) (hnb : 0 ≤ (X tx).need ∧ (X tx).need ≤ 1125899906842624 ∧ 0 ≤ nn ∧ nn ≤ 2000) :
    Calls Try.prog 12 #[.pointer (some ⟨t, 0, none⟩), .agg #[.int .i64 3, .int .u64 ls, .int .i64 tx, .int .u64 pv, .int .u64 un, .int .i64 pg, .int .i64 ak, .string a, .string b, .string c, .slice At 0 ct, .slice Ad 0 cd]] w fun e w' => e = .returned (.int .i64 0) ∧ Tab w0 w' t mb bx ks (updX X tx ⟨1, ls, 0, 27, (X tx).sv⟩) := by
  skip
  have hck := fun (W : World) => check_calls W 3 ls tx pv un pg ak a b c At ct [] Ad cd [] (nilCA _ _ _) (Nat.zero_le _) (nilCA _ _ _) (Nat.zero_le _)
  have hnd := fun (W : World) (hW : Tab w0 W t mb bx ks X) => tabneed w0 W t mb bx ks X 3 ls tx pv un pg ak a b c At ct [] Ad cd [] hW (nilCA _ _ _) (Nat.zero_le _) (nilCA _ _ _) (Nat.zero_le _)
  rw [hok] at hck
  simp only [List.length_nil, hnv] at hck hnd
  have hba : Below w.heap.size w (w.alloc (.cells #[.int .i64 3, .int .u64 ls, .int .i64 tx, .int .u64 pv, .int .u64 un, .int .i64 pg, .int .i64 ak, .string a, .string b, .string c, .slice At 0 ct, .slice Ad 0 cd] 39)) := below_alloc (Below.refl _ _) _
  have hxa : (w.alloc (.cells #[.int .i64 3, .int .u64 ls, .int .i64 tx, .int .u64 pv, .int .u64 un, .int .i64 pg, .int .i64 ak, .string a, .string b, .string c, .slice At 0 ct, .slice Ad 0 cd] 39)).heap[w.heap.size]? = some (.cells #[.int .i64 3, .int .u64 ls, .int .i64 tx, .int .u64 pv, .int .u64 un, .int .i64 pg, .int .i64 ak, .string a, .string b, .string c, .slice At 0 ct, .slice Ad 0 cd] 39 (0, 0)) := heap_alloc_new w _
  have hta := h.next hba
  have HLT := Aside0.mk (h.lt tx hi)
  have HI := Aside0.mk hi
  have HPL := Aside0.mk hpl
  have HOK := Aside0.mk hok
  have HNB := Aside0.mk hnb
  have hnn1 := hnb.2.2.1
  have hnn2 := hnb.2.2.2
  clear h hi hok hnv hnb hpl
  go_enter Try.func12, Try.ntmps12
  go_wp2_with fail
  generalize w.alloc (.cells #[.int .i64 3, .int .u64 ls, .int .i64 tx, .int .u64 pv, .int .u64 un, .int .i64 pg, .int .i64 ak, .string a, .string b, .string c, .slice At 0 ct, .slice Ad 0 cd] 39) = wa at hba hxa hta ⊢
  refine (hck wa).mono ?_
  rintro e w1 ⟨rfl, hb⟩
  have ec : cde true = 0 := rfl
  rw [ec]
  have HB1 := Aside0.mk (below_then hba hba.size hb)
  have HX1 := Aside0.mk (blk_below hxa hb)
  have HT1 := Aside0.mk (hta.next hb)
  clear hb hck hba hxa hta ec
  have x0 := blk_cell HX1.out 0
  have x1 := blk_cell HX1.out 1
  have x2 := blk_cell HX1.out 2
  have x3 := blk_cell HX1.out 3
  have x4 := blk_cell HX1.out 4
  have x5 := blk_cell HX1.out 5
  have x6 := blk_cell HX1.out 6
  have x7 := blk_cell HX1.out 7
  have x8 := blk_cell HX1.out 8
  have x9 := blk_cell HX1.out 9
  have x10 := blk_cell HX1.out 10
  have x11 := blk_cell HX1.out 11
  go_wp2_with fail
  have hl := fun n => (HT1.out.next (show Below w1.heap.size w1 (w1.drewN n) from ⟨rfl, rfl, rfl, Nat.le_refl _, fun _ _ => rfl⟩)).look tx
  have hl' := HT1.out.look tx
  simp only [if_pos HI.out] at hl hl'
  unfold ptrs at hl hl'
  have hc := blk_cell HT1.out.box 0
  go_quiet (fail)
  clear hl hl' hc x0 x1 x2 x3 x4 x5 x6 x7 x8 x9 x10 x11
  have HB2 := Aside0.mk (show Below w.heap.size w (w1.drewN nq) from ⟨HB1.out.os, HB1.out.tape, HB1.out.output, HB1.out.size, HB1.out.block⟩)
  have HX2 := Aside0.mk (show (w1.drewN nq).heap[w.heap.size]? = some (.cells #[.int .i64 3, .int .u64 ls, .int .i64 tx, .int .u64 pv, .int .u64 un, .int .i64 pg, .int .i64 ak, .string a, .string b, .string c, .slice At 0 ct, .slice Ad 0 cd] 39 (0, 0)) from HX1.out)
  have HT2 := Aside0.mk (HT1.out.next (show Below w1.heap.size w1 (w1.drewN nq) from ⟨rfl, rfl, rfl, Nat.le_refl _, fun _ _ => rfl⟩))
  generalize w1.drewN nq = w2 at HB2 HX2 HT2 ⊢
  have x0 := blk_cell HX2.out 0
  have x1 := blk_cell HX2.out 1
  have x2 := blk_cell HX2.out 2
  have x3 := blk_cell HX2.out 3
  have x4 := blk_cell HX2.out 4
  have x5 := blk_cell HX2.out 5
  have x6 := blk_cell HX2.out 6
  have x7 := blk_cell HX2.out 7
  have x8 := blk_cell HX2.out 8
  have x9 := blk_cell HX2.out 9
  have x10 := blk_cell HX2.out 10
  have x11 := blk_cell HX2.out 11
  go_wp2_with fail
  refine (ways_tab w2 3 43 47 (by decide)).mono ?_
  rintro e w3 ⟨rfl, hb⟩
  have HB3 := Aside0.mk (below_then HB2.out HB2.out.size hb)
  have HX3 := Aside0.mk (blk_below HX2.out hb)
  have HT3 := Aside0.mk (HT2.out.next hb)
  clear hb x0 x1 x2 x3 x4 x5 x6 x7 x8 x9 x10 x11
  unfold fn0
  go_wp2_with fail
  obtain ⟨WB, hWB⟩ : ∃ x, x = w3.heap.size := ⟨_, rfl⟩
  have hw4 : (w3.alloc (.cells #[.func (.func 43) #[] #[], .func (.func 47) #[] #[]] 78)).heap[w3.heap.size]? = some (.cells #[.func (.func 43) #[] #[], .func (.func 47) #[] #[]] 78 (0, 0)) := heap_alloc_new w3 _
  have hb4 : Below w3.heap.size w3 (w3.alloc (.cells #[.func (.func 43) #[] #[], .func (.func 47) #[] #[]] 78)) := below_alloc (Below.refl _ _) _
  generalize w3.alloc (.cells #[.func (.func 43) #[] #[], .func (.func 47) #[] #[]] 78) = w4 at hw4 hb4 ⊢
  rw [← hWB] at hw4 ⊢
  have HW4 := Aside0.mk hw4
  have HWB := Aside0.mk (show w.heap.size ≤ WB by rw [hWB]; exact HB3.out.size)
  have HB4 := Aside0.mk (below_then HB3.out HB3.out.size hb4)
  have HX4 := Aside0.mk (blk_below HX3.out hb4)
  have HT4 := Aside0.mk (HT3.out.next hb4)
  clear hw4 hb4 hWB
  have x0 := blk_cell (blk_drew HX4.out) 0
  have x1 := blk_cell (blk_drew HX4.out) 1
  have x2 := blk_cell (blk_drew HX4.out) 2
  have x3 := blk_cell (blk_drew HX4.out) 3
  have x4 := blk_cell (blk_drew HX4.out) 4
  have x5 := blk_cell (blk_drew HX4.out) 5
  have x6 := blk_cell (blk_drew HX4.out) 6
  have x7 := blk_cell (blk_drew HX4.out) 7
  have x8 := blk_cell (blk_drew HX4.out) 8
  have x9 := blk_cell (blk_drew HX4.out) 9
  have x10 := blk_cell (blk_drew HX4.out) 10
  have x11 := blk_cell (blk_drew HX4.out) 11
  have y2 : w4.drew.cell? ⟨bx tx, 2, none⟩ = some (.int .u64 (X tx).last) := blk_cell (blk_drew (HT4.out.at_ tx HI.out)) 2
  have v0 := blk_cell (blk_drew HW4.out) 0
  have v1 := blk_cell (blk_drew HW4.out) 1
  have hpn : (pv != (X tx).last) = false := by simp [HPL.out]
  refine start_ (n := 16) (S := fun wx => wx.cell? ⟨w.heap.size, 0, none⟩ = some (.int .i64 3) ∧ wx.cell? ⟨w.heap.size, 1, none⟩ = some (.int .u64 ls) ∧ wx.cell? ⟨w.heap.size, 2, none⟩ = some (.int .i64 tx) ∧ wx.cell? ⟨w.heap.size, 3, none⟩ = some (.int .u64 pv) ∧ wx.cell? ⟨w.heap.size, 4, none⟩ = some (.int .u64 un) ∧ wx.cell? ⟨w.heap.size, 5, none⟩ = some (.int .i64 pg) ∧ wx.cell? ⟨w.heap.size, 6, none⟩ = some (.int .i64 ak) ∧ wx.cell? ⟨w.heap.size, 7, none⟩ = some (.string a) ∧ wx.cell? ⟨w.heap.size, 8, none⟩ = some (.string b) ∧ wx.cell? ⟨w.heap.size, 9, none⟩ = some (.string c) ∧ wx.cell? ⟨w.heap.size, 10, none⟩ = some (.slice At 0 ct) ∧ wx.cell? ⟨w.heap.size, 11, none⟩ = some (.slice Ad 0 cd) ∧ wx.cell? ⟨bx tx, 2, none⟩ = some (.int .u64 (X tx).last) ∧ wx.cell? ⟨WB, 0, none⟩ = some (.func (.func 43) #[] #[]) ∧ wx.cell? ⟨WB, 1, none⟩ = some (.func (.func 47) #[] #[])) (ds := []) #[false, false, false, false, false, false, false, false, false, false, false, false, false, false, false, false] (by kernel_rfl) rfl rfl (⟨x0, x1, x2, x3, x4, x5, x6, x7, x8, x9, x10, x11, y2, v0, v1⟩) (fun hHeld => ?_)
  refine pure_ (i := 0) (N := some 36) (v := ?_) (a' := ?_) #[true, false, false, false, false, false, false, false, false, false, false, false, false, false, false, false] rfl rfl (by kernel_rfl) (fun _ _ _ h => h) (Or.inl ⟨by rfl, ?_⟩) ?_ ?_
  rotate_left
  · intro w'
    go_simp
    all_goals (with_reducible rfl)
  rotate_left
  · simp only [Act.put, List.setIfInBounds_toArray, List.set_cons_zero, List.set_cons_succ, i64_w, i32_w]
    rfl
  refine pure_ (i := 2) (N := some 38) (v := ?_) (a' := ?_) #[true, false, true, false, false, false, false, false, false, false, false, false, false, false, false, false] rfl rfl (by kernel_rfl) (fun _ _ _ h => h) (Or.inl ⟨by rfl, ?_⟩) ?_ ?_
  rotate_left
  · intro w'
    go_simp
    all_goals (with_reducible rfl)
  rotate_left
  · simp only [Act.put, List.setIfInBounds_toArray, List.set_cons_zero, List.set_cons_succ, i64_w, i32_w]
    rfl
  refine pure_ (i := 3) (N := some 39) (v := ?_) (a' := ?_) #[true, false, true, true, false, false, false, false, false, false, false, false, false, false, false, false] rfl rfl (by kernel_rfl) (fun _ _ _ h => h) (Or.inl ⟨by rfl, ?_⟩) ?_ ?_
  rotate_left
  · intro w'
    go_simp
    all_goals (with_reducible rfl)
  rotate_left
  · simp only [Act.put, List.setIfInBounds_toArray, List.set_cons_zero, List.set_cons_succ, i64_w, i32_w]
    rfl
  refine pure_ (i := 4) (N := some 40) (v := ?_) (a' := ?_) #[true, false, true, true, true, false, false, false, false, false, false, false, false, false, false, false] rfl rfl (by kernel_rfl) (fun _ _ _ h => h) (Or.inl ⟨by rfl, ?_⟩) ?_ ?_
  rotate_left
  · intro w'
    go_simp
    all_goals (with_reducible rfl)
  rotate_left
  · simp only [Act.put, List.setIfInBounds_toArray, List.set_cons_zero, List.set_cons_succ, i64_w, i32_w]
    rfl
  refine pure_ (i := 5) (N := some 41) (v := ?_) (a' := ?_) #[true, false, true, true, true, true, false, false, false, false, false, false, false, false, false, false] rfl rfl (by kernel_rfl) (fun _ _ _ h => h) (Or.inl ⟨by rfl, ?_⟩) ?_ ?_
  rotate_left
  · intro w'
    go_simp
    all_goals (with_reducible rfl)
  rotate_left
  · simp only [Act.put, List.setIfInBounds_toArray, List.set_cons_zero, List.set_cons_succ, i64_w, i32_w]
    rfl
  refine take_ (i := 1) (N := some 37) (v := ?_) (a' := ?_) #[true, true, true, true, true, true, false, false, false, false, false, false, false, false, false, false] rfl rfl (by kernel_rfl) (fun _ _ _ h => h) (Or.inl ⟨by rfl, ?_⟩) hHeld ?_ ?_
  rotate_left
  · intro w' hSw
    (try dsimp only at hSw)
    go_simp
    all_goals (with_reducible rfl)
  rotate_left
  · simp only [Act.put, List.setIfInBounds_toArray, List.set_cons_zero, List.set_cons_succ, i64_w, i32_w]
    rfl
  refine take_ (i := 6) (N := some 42) (v := ?_) (a' := ?_) #[true, true, true, true, true, true, true, false, false, false, false, false, false, false, false, false] rfl rfl (by kernel_rfl) (fun _ _ _ h => h) (Or.inl ⟨by rfl, ?_⟩) hHeld ?_ ?_
  rotate_left
  · intro w' hSw
    (try dsimp only at hSw)
    go_simp
    all_goals (with_reducible rfl)
  rotate_left
  · simp only [Act.put, List.setIfInBounds_toArray, List.set_cons_zero, List.set_cons_succ, i64_w, i32_w]
    rfl
  refine pure_ (i := 7) (N := some 43) (v := ?_) (a' := ?_) #[true, true, true, true, true, true, true, true, false, false, false, false, false, false, false, false] rfl rfl (by kernel_rfl) (fun _ _ _ h => h) (Or.inl ⟨by rfl, ?_⟩) ?_ ?_
  rotate_left
  · intro w'
    go_simp
    all_goals (with_reducible rfl)
  rotate_left
  · simp only [Act.put, List.setIfInBounds_toArray, List.set_cons_zero, List.set_cons_succ, i64_w, i32_w]
    rfl
  refine pure_ (i := 8) (N := some 44) (v := ?_) (a' := ?_) #[true, true, true, true, true, true, true, true, true, false, false, false, false, false, false, false] rfl rfl (by kernel_rfl) (fun _ _ _ h => h) (Or.inl ⟨by rfl, ?_⟩) ?_ ?_
  rotate_left
  · intro w'
    go_simp
    all_goals (with_reducible rfl)
  rotate_left
  · simp only [Act.put, List.setIfInBounds_toArray, List.set_cons_zero, List.set_cons_succ, i64_w, i32_w]
    rfl
  refine pure_ (i := 9) (N := some 45) (v := ?_) (a' := ?_) #[true, true, true, true, true, true, true, true, true, true, false, false, false, false, false, false] rfl rfl (by kernel_rfl) (fun _ _ _ h => h) (Or.inl ⟨by rfl, ?_⟩) ?_ ?_
  rotate_left
  · intro w'
    go_simp
    all_goals (with_reducible rfl)
  rotate_left
  · simp only [Act.put, List.setIfInBounds_toArray, List.set_cons_zero, List.set_cons_succ, i64_w, i32_w]
    rfl
  refine pure_ (i := 11) (N := some 47) (v := ?_) (a' := ?_) #[true, true, true, true, true, true, true, true, true, true, false, true, false, false, false, false] rfl rfl (by kernel_rfl) (fun _ _ _ h => h) (Or.inl ⟨by rfl, ?_⟩) ?_ ?_
  rotate_left
  · intro w'
    go_simp
    all_goals (with_reducible rfl)
  rotate_left
  · simp only [Act.put, List.setIfInBounds_toArray, List.set_cons_zero, List.set_cons_succ, i64_w, i32_w]
    rfl
  refine take_ (i := 10) (N := some 46) (v := ?_) (a' := ?_) #[true, true, true, true, true, true, true, true, true, true, true, true, false, false, false, false] rfl rfl (by kernel_rfl) (fun _ _ _ h => h) (Or.inl ⟨by rfl, ?_⟩) hHeld ?_ ?_
  rotate_left
  · intro w' hSw
    (try dsimp only at hSw)
    go_simp
    all_goals (with_reducible rfl)
  rotate_left
  · simp only [Act.put, List.setIfInBounds_toArray, List.set_cons_zero, List.set_cons_succ, i64_w, i32_w]
    rfl
  refine take_ (i := 12) (N := some 48) (v := ?_) (a' := ?_) #[true, true, true, true, true, true, true, true, true, true, true, true, true, false, false, false] rfl rfl (by kernel_rfl) (fun _ _ _ h => h) (Or.inl ⟨by rfl, ?_⟩) hHeld ?_ ?_
  rotate_left
  · intro w' hSw
    (try dsimp only at hSw)
    go_simp
    all_goals (with_reducible rfl)
  rotate_left
  · simp only [Act.put, List.setIfInBounds_toArray, List.set_cons_zero, List.set_cons_succ, i64_w, i32_w]
    rfl
  refine one_ (i := 13) (N := some 49) #[true, true, true, true, true, true, true, true, true, true, true, true, true, true, false, false] rfl rfl (by kernel_rfl) (by decide) (fun K hK => ?_)
  go_simp
  go_at_call 43
  refine (open_calls w4.drew (bx tx) tx (X tx) 3 ls tx pv un pg ak a b c At Ad 0 ct 0 cd (HT4.out.at_ tx HI.out)).mono ?_
  rintro e w5 ⟨rfl, hb⟩
  rw [hlt]
  have HB5 := Aside0.mk (below_then (below_drew HB4.out) (below_drew HB4.out).size hb)
  have HX5 := Aside0.mk (blk_below (blk_drew HX4.out) hb)
  have HT5 := Aside0.mk ((HT4.out.next (below_drew (Below.refl _ _))).next hb)
  have HW5 := Aside0.mk (blk_below (blk_drew HW4.out) hb)
  clear hb x0 x1 x2 x3 x4 x5 x6 x7 x8 x9 x10 x11 y2 v0 v1
  have x0 := blk_cell HX5.out 0
  have x1 := blk_cell HX5.out 1
  have x2 := blk_cell HX5.out 2
  have x3 := blk_cell HX5.out 3
  have x4 := blk_cell HX5.out 4
  have x5 := blk_cell HX5.out 5
  have x6 := blk_cell HX5.out 6
  have x7 := blk_cell HX5.out 7
  have x8 := blk_cell HX5.out 8
  have x9 := blk_cell HX5.out 9
  have x10 := blk_cell HX5.out 10
  have x11 := blk_cell HX5.out 11
  have y2 : w5.cell? ⟨bx tx, 2, none⟩ = some (.int .u64 (X tx).last) := blk_cell (HT5.out.at_ tx HI.out) 2
  have v0 := blk_cell HW5.out 0
  have v1 := blk_cell HW5.out 1
  (try go_wp2_with fail)
  refine hK.out _ _ (⟨x0, x1, x2, x3, x4, x5, x6, x7, x8, x9, x10, x11, y2, v0, v1⟩) (fun hHeld => ?_)
  clear hK K
  (try simp only [Act.put, List.setIfInBounds_toArray, List.set_cons_zero, List.set_cons_succ])
  refine pure_ (i := 14) (N := some 50) (v := ?_) (a' := ?_) #[true, true, true, true, true, true, true, true, true, true, true, true, true, true, true, false] rfl rfl (by kernel_rfl) (fun _ _ _ h => h) (Or.inl ⟨by rfl, ?_⟩) ?_ ?_
  rotate_left
  · intro w'
    go_simp
    all_goals (with_reducible rfl)
  rotate_left
  · simp only [Act.put, List.setIfInBounds_toArray, List.set_cons_zero, List.set_cons_succ, i64_w, i32_w]
    rfl
  refine pure_ (i := 15) (N := some 51) (v := ?_) (a' := ?_) #[true, true, true, true, true, true, true, true, true, true, true, true, true, true, true, true] rfl rfl (by kernel_rfl) (fun _ _ _ h => h) (Or.inl ⟨by rfl, ?_⟩) ?_ ?_
  rotate_left
  · intro w'
    go_simp
    all_goals (with_reducible rfl)
  rotate_left
  · simp only [Act.put, List.setIfInBounds_toArray, List.set_cons_zero, List.set_cons_succ, i64_w, i32_w]
    rfl
  refine done_ (by kernel_rfl) ?_
  clear y2 v0 v1
  obtain ⟨nd, hnde⟩ : ∃ nd, nd = (X tx).need := ⟨_, rfl⟩
  have HND := Aside0.mk hnde.symm
  have hnb : 0 ≤ nd ∧ nd ≤ 1125899906842624 := by rw [hnde]; exact ⟨HNB.out.1, HNB.out.2.1⟩
  have hnb1 := hnb.1
  have hnb2 := hnb.2
  have HTn := Aside0.mk (HT5.out.next (below_drew (Below.refl _ _)))
  have y4 : w5.drew.cell? ⟨bx tx, 4, none⟩ = some (.int .i64 nd) := by rw [hnde]; exact blk_cell (HTn.out.at_ tx HI.out) 4
  have hw9 : IntKind.i64.wrap (nd + nn) = nd + nn := i64w (by omega) (by omega)
  have hw8 : wrap64 (nd + nn) = nd + nn := w64 (by omega) (by omega)
  clear hnde hnb x0 x1 x2 x3 x4 x5 x6 x7 x8 x9 x10 x11
  have x0 := blk_cell (blk_drew HX5.out) 0
  have x1 := blk_cell (blk_drew HX5.out) 1
  have x2 := blk_cell (blk_drew HX5.out) 2
  have x3 := blk_cell (blk_drew HX5.out) 3
  have x4 := blk_cell (blk_drew HX5.out) 4
  have x5 := blk_cell (blk_drew HX5.out) 5
  have x6 := blk_cell (blk_drew HX5.out) 6
  have x7 := blk_cell (blk_drew HX5.out) 7
  have x8 := blk_cell (blk_drew HX5.out) 8
  have x9 := blk_cell (blk_drew HX5.out) 9
  have x10 := blk_cell (blk_drew HX5.out) 10
  have x11 := blk_cell (blk_drew HX5.out) 11
  go_wp2_with fail

  refine start_ (n := 11) (S := fun wx => wx.cell? ⟨w.heap.size, 0, none⟩ = some (.int .i64 3) ∧ wx.cell? ⟨w.heap.size, 1, none⟩ = some (.int .u64 ls) ∧ wx.cell? ⟨w.heap.size, 2, none⟩ = some (.int .i64 tx) ∧ wx.cell? ⟨w.heap.size, 3, none⟩ = some (.int .u64 pv) ∧ wx.cell? ⟨w.heap.size, 4, none⟩ = some (.int .u64 un) ∧ wx.cell? ⟨w.heap.size, 5, none⟩ = some (.int .i64 pg) ∧ wx.cell? ⟨w.heap.size, 6, none⟩ = some (.int .i64 ak) ∧ wx.cell? ⟨w.heap.size, 7, none⟩ = some (.string a) ∧ wx.cell? ⟨w.heap.size, 8, none⟩ = some (.string b) ∧ wx.cell? ⟨w.heap.size, 9, none⟩ = some (.string c) ∧ wx.cell? ⟨w.heap.size, 10, none⟩ = some (.slice At 0 ct) ∧ wx.cell? ⟨w.heap.size, 11, none⟩ = some (.slice Ad 0 cd) ∧ wx.cell? ⟨bx tx, 4, none⟩ = some (.int .i64 nd)) (ds := [10]) #[false, false, false, false, false, false, false, false, false, false, false] (by kernel_rfl) rfl rfl (⟨x0, x1, x2, x3, x4, x5, x6, x7, x8, x9, x10, x11, y4⟩) (fun hHeld => ?_)
  refine pure_ (i := 0) (N := some 52) (v := ?_) (a' := ?_) #[true, false, false, false, false, false, false, false, false, false, false] rfl rfl (by kernel_rfl) (fun _ _ _ h => h) (Or.inl ⟨by rfl, ?_⟩) ?_ ?_
  rotate_left
  · intro w'
    go_simp
    all_goals (with_reducible rfl)
  rotate_left
  · simp only [Act.put, List.setIfInBounds_toArray, List.set_cons_zero, List.set_cons_succ, i64_w, i32_w]
    rfl
  refine pure_ (i := 1) (N := some 53) (v := ?_) (a' := ?_) #[true, true, false, false, false, false, false, false, false, false, false] rfl rfl (by kernel_rfl) (fun _ _ _ h => h) (Or.inl ⟨by rfl, ?_⟩) ?_ ?_
  rotate_left
  · intro w'
    go_simp
    all_goals (with_reducible rfl)
  rotate_left
  · simp only [Act.put, List.setIfInBounds_toArray, List.set_cons_zero, List.set_cons_succ, i64_w, i32_w]
    rfl
  refine pure_ (i := 2) (N := some 54) (v := ?_) (a' := ?_) #[true, true, true, false, false, false, false, false, false, false, false] rfl rfl (by kernel_rfl) (fun _ _ _ h => h) (Or.inl ⟨by rfl, ?_⟩) ?_ ?_
  rotate_left
  · intro w'
    go_simp
    all_goals (with_reducible rfl)
  rotate_left
  · simp only [Act.put, List.setIfInBounds_toArray, List.set_cons_zero, List.set_cons_succ, i64_w, i32_w]
    rfl
  refine pure_ (i := 4) (N := some 56) (v := ?_) (a' := ?_) #[true, true, true, false, true, false, false, false, false, false, false] rfl rfl (by kernel_rfl) (fun _ _ _ h => h) (Or.inl ⟨by rfl, ?_⟩) ?_ ?_
  rotate_left
  · intro w'
    go_simp
    all_goals (with_reducible rfl)
  rotate_left
  · simp only [Act.put, List.setIfInBounds_toArray, List.set_cons_zero, List.set_cons_succ, i64_w, i32_w]
    rfl
  refine take_ (i := 3) (N := some 55) (v := ?_) (a' := ?_) #[true, true, true, true, true, false, false, false, false, false, false] rfl rfl (by kernel_rfl) (fun _ _ _ h => h) (Or.inl ⟨by rfl, ?_⟩) hHeld ?_ ?_
  rotate_left
  · intro w' hSw
    (try dsimp only at hSw)
    go_simp
    all_goals (with_reducible rfl)
  rotate_left
  · simp only [Act.put, List.setIfInBounds_toArray, List.set_cons_zero, List.set_cons_succ, i64_w, i32_w]
    rfl
  refine take_ (i := 5) (N := some 57) (v := ?_) (a' := ?_) #[true, true, true, true, true, true, false, false, false, false, false] rfl rfl (by kernel_rfl) (fun _ _ _ h => h) (Or.inl ⟨by rfl, ?_⟩) hHeld ?_ ?_
  rotate_left
  · intro w' hSw
    (try dsimp only at hSw)
    go_simp
    all_goals (with_reducible rfl)
  rotate_left
  · simp only [Act.put, List.setIfInBounds_toArray, List.set_cons_zero, List.set_cons_succ, i64_w, i32_w]
    rfl
  refine one_ (i := 6) (N := some 58) #[true, true, true, true, true, true, true, false, false, false, false] rfl rfl (by kernel_rfl) (by decide) (fun K hK => ?_)
  go_simp
  go_at_call 23
  refine (hnd _ HTn.out).mono ?_
  rintro e w6 ⟨rfl, hT, hb⟩
  have HB6 := Aside0.mk (below_then (below_drew HB5.out) (below_drew HB5.out).size hb)
  have HX6 := Aside0.mk (blk_below (blk_drew HX5.out) hb)
  have HT6 := Aside0.mk hT
  have HW6 := Aside0.mk (blk_below (blk_drew HW5.out) hb)
  clear hb hT x0 x1 x2 x3 x4 x5 x6 x7 x8 x9 x10 x11 y4
  have x0 := blk_cell HX6.out 0
  have x1 := blk_cell HX6.out 1
  have x2 := blk_cell HX6.out 2
  have x3 := blk_cell HX6.out 3
  have x4 := blk_cell HX6.out 4
  have x5 := blk_cell HX6.out 5
  have x6 := blk_cell HX6.out 6
  have x7 := blk_cell HX6.out 7
  have x8 := blk_cell HX6.out 8
  have x9 := blk_cell HX6.out 9
  have x10 := blk_cell HX6.out 10
  have x11 := blk_cell HX6.out 11
  have y4 : w6.cell? ⟨bx tx, 4, none⟩ = some (.int .i64 nd) := by rw [← HND.out]; exact blk_cell (HT6.out.at_ tx HI.out) 4
  have f4 := blk_frozen (HT6.out.at_ tx HI.out) 4
  (try go_wp2_with fail)
  refine hK.out _ _ (⟨x0, x1, x2, x3, x4, x5, x6, x7, x8, x9, x10, x11, y4⟩) (fun hHeld => ?_)
  clear hK K
  (try simp only [Act.put, List.setIfInBounds_toArray, List.set_cons_zero, List.set_cons_succ])
  refine pure_ (i := 7) (N := some 59) (v := ?_) (a' := ?_) #[true, true, true, true, true, true, true, true, false, false, false] rfl rfl (by kernel_rfl) (fun _ _ _ h => h) (Or.inl ⟨by rfl, ?_⟩) ?_ ?_
  rotate_left
  · intro w'
    go_simp
    all_goals (with_reducible rfl)
  rotate_left
  · simp only [Act.put, List.setIfInBounds_toArray, List.set_cons_zero, List.set_cons_succ, i64_w, i32_w]
    rfl
  refine pure_ (i := 8) (N := some 60) (v := ?_) (a' := ?_) #[true, true, true, true, true, true, true, true, true, false, false] rfl rfl (by kernel_rfl) (fun _ _ _ h => h) (Or.inl ⟨by rfl, ?_⟩) ?_ ?_
  rotate_left
  · intro w'
    go_simp
    all_goals (with_reducible rfl)
  rotate_left
  · simp only [Act.put, List.setIfInBounds_toArray, List.set_cons_zero, List.set_cons_succ, i64_w, i32_w]
    rfl
  refine pure_ (i := 9) (N := some 61) (v := ?_) (a' := ?_) #[true, true, true, true, true, true, true, true, true, true, false] rfl rfl (by kernel_rfl) (fun _ _ _ h => h) (Or.inl ⟨by rfl, ?_⟩) ?_ ?_
  rotate_left
  · intro w'
    go_simp
    all_goals (with_reducible rfl)
  rotate_left
  · simp only [Act.put, List.setIfInBounds_toArray, List.set_cons_zero, List.set_cons_succ, i64_w, i32_w]
    rfl
  refine last_ (i := 10) (N := none) #[true, true, true, true, true, true, true, true, true, true, true] rfl rfl (by kernel_rfl) (by decide) (fun K hK => ?_)
  go_simp
  skip
  (try go_wp2_with fail)
  refine hK.out _ _ ?_
  clear hK K
  (try simp only [Act.put, List.setIfInBounds_toArray, List.set_cons_zero, List.set_cons_succ])
  refine done_ (by kernel_rfl) ?_
  clear y4 f4 x0 x1 x2 x3 x4 x5 x6 x7 x8 x9 x10 x11 hw8 hw9
  (try rw [w64 (x := nd + nn) (by omega) (by omega)])
  obtain ⟨ns, hns⟩ : ∃ ns, ns = nd + nn := ⟨_, rfl⟩
  rw [← hns]
  have HNS := Aside0.mk hns
  clear hns
  have hy7 : (w6.setCell ⟨bx tx, 4, none⟩ (.int .i64 ns)).heap[bx tx]? = some (.cells #[.int .i64 tx, .int .i64 (X tx).st, .int .u64 (X tx).last, .int .u64 (X tx).next, .int .i64 ns, (X tx).sv] 74 (0, 0)) := blk_put (HT6.out.at_ tx HI.out) 4 _ rfl
  have hx7 : (w6.setCell ⟨bx tx, 4, none⟩ (.int .i64 ns)).heap[w.heap.size]? = some (.cells #[.int .i64 3, .int .u64 ls, .int .i64 tx, .int .u64 pv, .int .u64 un, .int .i64 pg, .int .i64 ak, .string a, .string b, .string c, .slice At 0 ct, .slice Ad 0 cd] 39 (0, 0)) := blk_far HX6.out (p := ⟨bx tx, 4, none⟩) (Nat.ne_of_gt HLT.out) _
  have hw7 : (w6.setCell ⟨bx tx, 4, none⟩ (.int .i64 ns)).heap[WB]? = some (.cells #[.func (.func 43) #[] #[], .func (.func 47) #[] #[]] 78 (0, 0)) := blk_far HW6.out (p := ⟨bx tx, 4, none⟩) (Nat.ne_of_gt (Nat.lt_of_lt_of_le HLT.out HWB.out)) _
  have hb7 : Bel w0 (w6.setCell ⟨bx tx, 4, none⟩ (.int .i64 ns)) := Bel.set (g := bx tx) (j := 4) HT6.out.bel (HT6.out.geb tx HI.out)
  have ho7 : ∀ q, q ≠ bx tx → (w6.setCell ⟨bx tx, 4, none⟩ (.int .i64 ns)).heap[q]? = w6.heap[q]? := fun q hne => Below.heap_setCell _ ⟨bx tx, 4, none⟩ _ q hne
  generalize w6.setCell ⟨bx tx, 4, none⟩ (.int .i64 ns) = w7 at hy7 hx7 hw7 hb7 ho7 ⊢
  have HY7 := Aside0.mk hy7
  have HB7 := Aside0.mk hb7
  have HO7 := Aside0.mk ho7
  have HX7 := Aside0.mk hx7
  have HW7 := Aside0.mk hw7
  have x0 := blk_cell HX7.out 0
  have x1 := blk_cell HX7.out 1
  have x2 := blk_cell HX7.out 2
  have x3 := blk_cell HX7.out 3
  have x4 := blk_cell HX7.out 4
  have x5 := blk_cell HX7.out 5
  have x6 := blk_cell HX7.out 6
  have x7 := blk_cell HX7.out 7
  have x8 := blk_cell HX7.out 8
  have x9 := blk_cell HX7.out 9
  have x10 := blk_cell HX7.out 10
  have x11 := blk_cell HX7.out 11
  have y2 := blk_cell hy7 2
  have f2 := blk_frozen hy7 2
  have v1 := blk_cell hw7 1
  have hx8 : (w7.setCell ⟨bx tx, 2, none⟩ (.int .u64 ls)).heap[w.heap.size]? = some (.cells #[.int .i64 3, .int .u64 ls, .int .i64 tx, .int .u64 pv, .int .u64 un, .int .i64 pg, .int .i64 ak, .string a, .string b, .string c, .slice At 0 ct, .slice Ad 0 cd] 39 (0, 0)) := blk_far HX7.out (p := ⟨bx tx, 2, none⟩) (Nat.ne_of_gt HLT.out) _
  have hw8 : (w7.setCell ⟨bx tx, 2, none⟩ (.int .u64 ls)).heap[WB]? = some (.cells #[.func (.func 43) #[] #[], .func (.func 47) #[] #[]] 78 (0, 0)) := blk_far HW7.out (p := ⟨bx tx, 2, none⟩) (Nat.ne_of_gt (Nat.lt_of_lt_of_le HLT.out HWB.out)) _
  have z0 := blk_cell hx8 0
  have z1 := blk_cell hx8 1
  have z2 := blk_cell hx8 2
  have z3 := blk_cell hx8 3
  have z4 := blk_cell hx8 4
  have z5 := blk_cell hx8 5
  have z6 := blk_cell hx8 6
  have z7 := blk_cell hx8 7
  have z8 := blk_cell hx8 8
  have z9 := blk_cell hx8 9
  have z10 := blk_cell hx8 10
  have z11 := blk_cell hx8 11
  have u1 := blk_cell hw8 1
  clear hy7 hb7 ho7 hx7 hw7 hx8 hw8
  go_wp2_with fail
  have ht8 : Tab w0 (w7.setCell ⟨bx tx, 2, none⟩ (.int .u64 ls)) t mb bx ks (updX X tx ⟨(X tx).st, ls, (X tx).next, ns, (X tx).sv⟩) := HT6.out.setTx tx HI.out _ (blk_put HY7.out 2 _ rfl) (fun q hq hne => (Below.heap_setCell _ ⟨bx tx, 2, none⟩ _ q hne).trans (HO7.out q hne)) (Bel.set (g := bx tx) (j := 2) HB7.out (HT6.out.geb tx HI.out))
  have hnse : ns = (X tx).need + nn := by rw [HNS.out, HND.out]
  have HNE := Aside0.mk hnse
  clear hnse
  refine (commit_calls w0 _ t mb bx ks _ tx 3 ls tx pv un pg ak a b c At Ad 0 ct 0 cd ht8 HI.out).mono ?_
  rintro e w9 ⟨rfl, hT⟩
  rw [updX_updX] at hT
  simp only [updX_at] at hT
  have HT9 := Aside0.mk hT
  clear hT ht8
  go_wp2_with fail
  go_ret
  exact ⟨rfl, HT9.out⟩
set_option maxRecDepth 100000 in
set_option maxHeartbeats 8000000 in
theorem note5_calls (w0 : Wb) (w : World) (t mb : Nat) (bx : Int → Nat) (ks : List Int) (X : Int → TX)  (ls tx pv un pg ak : Int) (a b c : ByteArray) (At Ad : Option Addr) (ct cd : Nat) (h : Tab w0 w t mb bx ks X) (hi : tx ∈ ks)
    (hok : recOk 5 ls tx pv un pg ak a b c [] [] = true) (hpl : pv = (X tx).last) (hlt : ((X tx).st != 0) = true) (nn : Int) (hnv : needOf ks X 5 ls tx pv un pg ak a b c [] [] = nn) (hnb : 0 ≤ (X tx).need ∧ (X tx).need ≤ 1125899906842624 ∧ 0 ≤ nn ∧ nn ≤ 2000) :
    Calls Try.prog 12 #[.pointer (some ⟨t, 0, none⟩), .agg #[.int .i64 5, .int .u64 ls, .int .i64 tx, .int .u64 pv, .int .u64 un, .int .i64 pg, .int .i64 ak, .string a, .string b, .string c, .slice At 0 ct, .slice Ad 0 cd]] w fun e w' => e = .returned (.int .i64 0) ∧ Tab w0 w' t mb bx (ks.filter fun y => decide (y ≠ tx)) (updX X tx ⟨(X tx).st, ls, (X tx).next, (X tx).need + nn, (X tx).sv⟩) := by
  skip
  have hck := fun (W : World) => check_calls W 5 ls tx pv un pg ak a b c At ct [] Ad cd [] (nilCA _ _ _) (Nat.zero_le _) (nilCA _ _ _) (Nat.zero_le _)
  have hnd := fun (W : World) (hW : Tab w0 W t mb bx ks X) => tabneed w0 W t mb bx ks X 5 ls tx pv un pg ak a b c At ct [] Ad cd [] hW (nilCA _ _ _) (Nat.zero_le _) (nilCA _ _ _) (Nat.zero_le _)
  rw [hok] at hck
  simp only [List.length_nil, hnv] at hck hnd
  have hba : Below w.heap.size w (w.alloc (.cells #[.int .i64 5, .int .u64 ls, .int .i64 tx, .int .u64 pv, .int .u64 un, .int .i64 pg, .int .i64 ak, .string a, .string b, .string c, .slice At 0 ct, .slice Ad 0 cd] 39)) := below_alloc (Below.refl _ _) _
  have hxa : (w.alloc (.cells #[.int .i64 5, .int .u64 ls, .int .i64 tx, .int .u64 pv, .int .u64 un, .int .i64 pg, .int .i64 ak, .string a, .string b, .string c, .slice At 0 ct, .slice Ad 0 cd] 39)).heap[w.heap.size]? = some (.cells #[.int .i64 5, .int .u64 ls, .int .i64 tx, .int .u64 pv, .int .u64 un, .int .i64 pg, .int .i64 ak, .string a, .string b, .string c, .slice At 0 ct, .slice Ad 0 cd] 39 (0, 0)) := heap_alloc_new w _
  have hta := h.next hba
  have HLT := Aside0.mk (h.lt tx hi)
  have HI := Aside0.mk hi
  have HPL := Aside0.mk hpl
  have HOK := Aside0.mk hok
  have HNB := Aside0.mk hnb
  have hnn1 := hnb.2.2.1
  have hnn2 := hnb.2.2.2
  clear h hi hok hnv hnb hpl
  go_enter Try.func12, Try.ntmps12
  go_wp2_with fail
  generalize w.alloc (.cells #[.int .i64 5, .int .u64 ls, .int .i64 tx, .int .u64 pv, .int .u64 un, .int .i64 pg, .int .i64 ak, .string a, .string b, .string c, .slice At 0 ct, .slice Ad 0 cd] 39) = wa at hba hxa hta ⊢
  refine (hck wa).mono ?_
  rintro e w1 ⟨rfl, hb⟩
  have ec : cde true = 0 := rfl
  rw [ec]
  have HB1 := Aside0.mk (below_then hba hba.size hb)
  have HX1 := Aside0.mk (blk_below hxa hb)
  have HT1 := Aside0.mk (hta.next hb)
  clear hb hck hba hxa hta ec
  have x0 := blk_cell HX1.out 0
  have x1 := blk_cell HX1.out 1
  have x2 := blk_cell HX1.out 2
  have x3 := blk_cell HX1.out 3
  have x4 := blk_cell HX1.out 4
  have x5 := blk_cell HX1.out 5
  have x6 := blk_cell HX1.out 6
  have x7 := blk_cell HX1.out 7
  have x8 := blk_cell HX1.out 8
  have x9 := blk_cell HX1.out 9
  have x10 := blk_cell HX1.out 10
  have x11 := blk_cell HX1.out 11
  go_wp2_with fail
  have hl := fun n => (HT1.out.next (show Below w1.heap.size w1 (w1.drewN n) from ⟨rfl, rfl, rfl, Nat.le_refl _, fun _ _ => rfl⟩)).look tx
  have hl' := HT1.out.look tx
  simp only [if_pos HI.out] at hl hl'
  unfold ptrs at hl hl'
  have hc := blk_cell HT1.out.box 0
  go_quiet (fail)
  clear hl hl' hc x0 x1 x2 x3 x4 x5 x6 x7 x8 x9 x10 x11
  have HB2 := Aside0.mk (show Below w.heap.size w (w1.drewN nq) from ⟨HB1.out.os, HB1.out.tape, HB1.out.output, HB1.out.size, HB1.out.block⟩)
  have HX2 := Aside0.mk (show (w1.drewN nq).heap[w.heap.size]? = some (.cells #[.int .i64 5, .int .u64 ls, .int .i64 tx, .int .u64 pv, .int .u64 un, .int .i64 pg, .int .i64 ak, .string a, .string b, .string c, .slice At 0 ct, .slice Ad 0 cd] 39 (0, 0)) from HX1.out)
  have HT2 := Aside0.mk (HT1.out.next (show Below w1.heap.size w1 (w1.drewN nq) from ⟨rfl, rfl, rfl, Nat.le_refl _, fun _ _ => rfl⟩))
  generalize w1.drewN nq = w2 at HB2 HX2 HT2 ⊢
  have x0 := blk_cell HX2.out 0
  have x1 := blk_cell HX2.out 1
  have x2 := blk_cell HX2.out 2
  have x3 := blk_cell HX2.out 3
  have x4 := blk_cell HX2.out 4
  have x5 := blk_cell HX2.out 5
  have x6 := blk_cell HX2.out 6
  have x7 := blk_cell HX2.out 7
  have x8 := blk_cell HX2.out 8
  have x9 := blk_cell HX2.out 9
  have x10 := blk_cell HX2.out 10
  have x11 := blk_cell HX2.out 11
  go_wp2_with fail
  refine (ways_tab w2 5 49 50 (by decide)).mono ?_
  rintro e w3 ⟨rfl, hb⟩
  have HB3 := Aside0.mk (below_then HB2.out HB2.out.size hb)
  have HX3 := Aside0.mk (blk_below HX2.out hb)
  have HT3 := Aside0.mk (HT2.out.next hb)
  clear hb x0 x1 x2 x3 x4 x5 x6 x7 x8 x9 x10 x11
  unfold fn0
  go_wp2_with fail
  obtain ⟨WB, hWB⟩ : ∃ x, x = w3.heap.size := ⟨_, rfl⟩
  have hw4 : (w3.alloc (.cells #[.func (.func 49) #[] #[], .func (.func 50) #[] #[]] 78)).heap[w3.heap.size]? = some (.cells #[.func (.func 49) #[] #[], .func (.func 50) #[] #[]] 78 (0, 0)) := heap_alloc_new w3 _
  have hb4 : Below w3.heap.size w3 (w3.alloc (.cells #[.func (.func 49) #[] #[], .func (.func 50) #[] #[]] 78)) := below_alloc (Below.refl _ _) _
  generalize w3.alloc (.cells #[.func (.func 49) #[] #[], .func (.func 50) #[] #[]] 78) = w4 at hw4 hb4 ⊢
  rw [← hWB] at hw4 ⊢
  have HW4 := Aside0.mk hw4
  have HWB := Aside0.mk (show w.heap.size ≤ WB by rw [hWB]; exact HB3.out.size)
  have HB4 := Aside0.mk (below_then HB3.out HB3.out.size hb4)
  have HX4 := Aside0.mk (blk_below HX3.out hb4)
  have HT4 := Aside0.mk (HT3.out.next hb4)
  clear hw4 hb4 hWB
  have x0 := blk_cell (blk_drew HX4.out) 0
  have x1 := blk_cell (blk_drew HX4.out) 1
  have x2 := blk_cell (blk_drew HX4.out) 2
  have x3 := blk_cell (blk_drew HX4.out) 3
  have x4 := blk_cell (blk_drew HX4.out) 4
  have x5 := blk_cell (blk_drew HX4.out) 5
  have x6 := blk_cell (blk_drew HX4.out) 6
  have x7 := blk_cell (blk_drew HX4.out) 7
  have x8 := blk_cell (blk_drew HX4.out) 8
  have x9 := blk_cell (blk_drew HX4.out) 9
  have x10 := blk_cell (blk_drew HX4.out) 10
  have x11 := blk_cell (blk_drew HX4.out) 11
  have y2 : w4.drew.cell? ⟨bx tx, 2, none⟩ = some (.int .u64 (X tx).last) := blk_cell (blk_drew (HT4.out.at_ tx HI.out)) 2
  have v0 := blk_cell (blk_drew HW4.out) 0
  have v1 := blk_cell (blk_drew HW4.out) 1
  have hpn : (pv != (X tx).last) = false := by simp [HPL.out]
  refine start_ (n := 16) (S := fun wx => wx.cell? ⟨w.heap.size, 0, none⟩ = some (.int .i64 5) ∧ wx.cell? ⟨w.heap.size, 1, none⟩ = some (.int .u64 ls) ∧ wx.cell? ⟨w.heap.size, 2, none⟩ = some (.int .i64 tx) ∧ wx.cell? ⟨w.heap.size, 3, none⟩ = some (.int .u64 pv) ∧ wx.cell? ⟨w.heap.size, 4, none⟩ = some (.int .u64 un) ∧ wx.cell? ⟨w.heap.size, 5, none⟩ = some (.int .i64 pg) ∧ wx.cell? ⟨w.heap.size, 6, none⟩ = some (.int .i64 ak) ∧ wx.cell? ⟨w.heap.size, 7, none⟩ = some (.string a) ∧ wx.cell? ⟨w.heap.size, 8, none⟩ = some (.string b) ∧ wx.cell? ⟨w.heap.size, 9, none⟩ = some (.string c) ∧ wx.cell? ⟨w.heap.size, 10, none⟩ = some (.slice At 0 ct) ∧ wx.cell? ⟨w.heap.size, 11, none⟩ = some (.slice Ad 0 cd) ∧ wx.cell? ⟨bx tx, 2, none⟩ = some (.int .u64 (X tx).last) ∧ wx.cell? ⟨WB, 0, none⟩ = some (.func (.func 49) #[] #[]) ∧ wx.cell? ⟨WB, 1, none⟩ = some (.func (.func 50) #[] #[])) (ds := []) #[false, false, false, false, false, false, false, false, false, false, false, false, false, false, false, false] (by kernel_rfl) rfl rfl (⟨x0, x1, x2, x3, x4, x5, x6, x7, x8, x9, x10, x11, y2, v0, v1⟩) (fun hHeld => ?_)
  refine pure_ (i := 0) (N := some 36) (v := ?_) (a' := ?_) #[true, false, false, false, false, false, false, false, false, false, false, false, false, false, false, false] rfl rfl (by kernel_rfl) (fun _ _ _ h => h) (Or.inl ⟨by rfl, ?_⟩) ?_ ?_
  rotate_left
  · intro w'
    go_simp
    all_goals (with_reducible rfl)
  rotate_left
  · simp only [Act.put, List.setIfInBounds_toArray, List.set_cons_zero, List.set_cons_succ, i64_w, i32_w]
    rfl
  refine pure_ (i := 2) (N := some 38) (v := ?_) (a' := ?_) #[true, false, true, false, false, false, false, false, false, false, false, false, false, false, false, false] rfl rfl (by kernel_rfl) (fun _ _ _ h => h) (Or.inl ⟨by rfl, ?_⟩) ?_ ?_
  rotate_left
  · intro w'
    go_simp
    all_goals (with_reducible rfl)
  rotate_left
  · simp only [Act.put, List.setIfInBounds_toArray, List.set_cons_zero, List.set_cons_succ, i64_w, i32_w]
    rfl
  refine pure_ (i := 3) (N := some 39) (v := ?_) (a' := ?_) #[true, false, true, true, false, false, false, false, false, false, false, false, false, false, false, false] rfl rfl (by kernel_rfl) (fun _ _ _ h => h) (Or.inl ⟨by rfl, ?_⟩) ?_ ?_
  rotate_left
  · intro w'
    go_simp
    all_goals (with_reducible rfl)
  rotate_left
  · simp only [Act.put, List.setIfInBounds_toArray, List.set_cons_zero, List.set_cons_succ, i64_w, i32_w]
    rfl
  refine pure_ (i := 4) (N := some 40) (v := ?_) (a' := ?_) #[true, false, true, true, true, false, false, false, false, false, false, false, false, false, false, false] rfl rfl (by kernel_rfl) (fun _ _ _ h => h) (Or.inl ⟨by rfl, ?_⟩) ?_ ?_
  rotate_left
  · intro w'
    go_simp
    all_goals (with_reducible rfl)
  rotate_left
  · simp only [Act.put, List.setIfInBounds_toArray, List.set_cons_zero, List.set_cons_succ, i64_w, i32_w]
    rfl
  refine pure_ (i := 5) (N := some 41) (v := ?_) (a' := ?_) #[true, false, true, true, true, true, false, false, false, false, false, false, false, false, false, false] rfl rfl (by kernel_rfl) (fun _ _ _ h => h) (Or.inl ⟨by rfl, ?_⟩) ?_ ?_
  rotate_left
  · intro w'
    go_simp
    all_goals (with_reducible rfl)
  rotate_left
  · simp only [Act.put, List.setIfInBounds_toArray, List.set_cons_zero, List.set_cons_succ, i64_w, i32_w]
    rfl
  refine take_ (i := 1) (N := some 37) (v := ?_) (a' := ?_) #[true, true, true, true, true, true, false, false, false, false, false, false, false, false, false, false] rfl rfl (by kernel_rfl) (fun _ _ _ h => h) (Or.inl ⟨by rfl, ?_⟩) hHeld ?_ ?_
  rotate_left
  · intro w' hSw
    (try dsimp only at hSw)
    go_simp
    all_goals (with_reducible rfl)
  rotate_left
  · simp only [Act.put, List.setIfInBounds_toArray, List.set_cons_zero, List.set_cons_succ, i64_w, i32_w]
    rfl
  refine take_ (i := 6) (N := some 42) (v := ?_) (a' := ?_) #[true, true, true, true, true, true, true, false, false, false, false, false, false, false, false, false] rfl rfl (by kernel_rfl) (fun _ _ _ h => h) (Or.inl ⟨by rfl, ?_⟩) hHeld ?_ ?_
  rotate_left
  · intro w' hSw
    (try dsimp only at hSw)
    go_simp
    all_goals (with_reducible rfl)
  rotate_left
  · simp only [Act.put, List.setIfInBounds_toArray, List.set_cons_zero, List.set_cons_succ, i64_w, i32_w]
    rfl
  refine pure_ (i := 7) (N := some 43) (v := ?_) (a' := ?_) #[true, true, true, true, true, true, true, true, false, false, false, false, false, false, false, false] rfl rfl (by kernel_rfl) (fun _ _ _ h => h) (Or.inl ⟨by rfl, ?_⟩) ?_ ?_
  rotate_left
  · intro w'
    go_simp
    all_goals (with_reducible rfl)
  rotate_left
  · simp only [Act.put, List.setIfInBounds_toArray, List.set_cons_zero, List.set_cons_succ, i64_w, i32_w]
    rfl
  refine pure_ (i := 8) (N := some 44) (v := ?_) (a' := ?_) #[true, true, true, true, true, true, true, true, true, false, false, false, false, false, false, false] rfl rfl (by kernel_rfl) (fun _ _ _ h => h) (Or.inl ⟨by rfl, ?_⟩) ?_ ?_
  rotate_left
  · intro w'
    go_simp
    all_goals (with_reducible rfl)
  rotate_left
  · simp only [Act.put, List.setIfInBounds_toArray, List.set_cons_zero, List.set_cons_succ, i64_w, i32_w]
    rfl
  refine pure_ (i := 9) (N := some 45) (v := ?_) (a' := ?_) #[true, true, true, true, true, true, true, true, true, true, false, false, false, false, false, false] rfl rfl (by kernel_rfl) (fun _ _ _ h => h) (Or.inl ⟨by rfl, ?_⟩) ?_ ?_
  rotate_left
  · intro w'
    go_simp
    all_goals (with_reducible rfl)
  rotate_left
  · simp only [Act.put, List.setIfInBounds_toArray, List.set_cons_zero, List.set_cons_succ, i64_w, i32_w]
    rfl
  refine pure_ (i := 11) (N := some 47) (v := ?_) (a' := ?_) #[true, true, true, true, true, true, true, true, true, true, false, true, false, false, false, false] rfl rfl (by kernel_rfl) (fun _ _ _ h => h) (Or.inl ⟨by rfl, ?_⟩) ?_ ?_
  rotate_left
  · intro w'
    go_simp
    all_goals (with_reducible rfl)
  rotate_left
  · simp only [Act.put, List.setIfInBounds_toArray, List.set_cons_zero, List.set_cons_succ, i64_w, i32_w]
    rfl
  refine take_ (i := 10) (N := some 46) (v := ?_) (a' := ?_) #[true, true, true, true, true, true, true, true, true, true, true, true, false, false, false, false] rfl rfl (by kernel_rfl) (fun _ _ _ h => h) (Or.inl ⟨by rfl, ?_⟩) hHeld ?_ ?_
  rotate_left
  · intro w' hSw
    (try dsimp only at hSw)
    go_simp
    all_goals (with_reducible rfl)
  rotate_left
  · simp only [Act.put, List.setIfInBounds_toArray, List.set_cons_zero, List.set_cons_succ, i64_w, i32_w]
    rfl
  refine take_ (i := 12) (N := some 48) (v := ?_) (a' := ?_) #[true, true, true, true, true, true, true, true, true, true, true, true, true, false, false, false] rfl rfl (by kernel_rfl) (fun _ _ _ h => h) (Or.inl ⟨by rfl, ?_⟩) hHeld ?_ ?_
  rotate_left
  · intro w' hSw
    (try dsimp only at hSw)
    go_simp
    all_goals (with_reducible rfl)
  rotate_left
  · simp only [Act.put, List.setIfInBounds_toArray, List.set_cons_zero, List.set_cons_succ, i64_w, i32_w]
    rfl
  refine one_ (i := 13) (N := some 49) #[true, true, true, true, true, true, true, true, true, true, true, true, true, true, false, false] rfl rfl (by kernel_rfl) (by decide) (fun K hK => ?_)
  go_simp
  go_at_call 49
  refine (shut_calls w4.drew (bx tx) tx (X tx) 5 ls tx pv un pg ak a b c At Ad 0 ct 0 cd (HT4.out.at_ tx HI.out)).mono ?_
  rintro e w5 ⟨rfl, hb⟩
  rw [hlt]
  have HB5 := Aside0.mk (below_then (below_drew HB4.out) (below_drew HB4.out).size hb)
  have HX5 := Aside0.mk (blk_below (blk_drew HX4.out) hb)
  have HT5 := Aside0.mk ((HT4.out.next (below_drew (Below.refl _ _))).next hb)
  have HW5 := Aside0.mk (blk_below (blk_drew HW4.out) hb)
  clear hb x0 x1 x2 x3 x4 x5 x6 x7 x8 x9 x10 x11 y2 v0 v1
  have x0 := blk_cell HX5.out 0
  have x1 := blk_cell HX5.out 1
  have x2 := blk_cell HX5.out 2
  have x3 := blk_cell HX5.out 3
  have x4 := blk_cell HX5.out 4
  have x5 := blk_cell HX5.out 5
  have x6 := blk_cell HX5.out 6
  have x7 := blk_cell HX5.out 7
  have x8 := blk_cell HX5.out 8
  have x9 := blk_cell HX5.out 9
  have x10 := blk_cell HX5.out 10
  have x11 := blk_cell HX5.out 11
  have y2 : w5.cell? ⟨bx tx, 2, none⟩ = some (.int .u64 (X tx).last) := blk_cell (HT5.out.at_ tx HI.out) 2
  have v0 := blk_cell HW5.out 0
  have v1 := blk_cell HW5.out 1
  (try go_wp2_with fail)
  refine hK.out _ _ (⟨x0, x1, x2, x3, x4, x5, x6, x7, x8, x9, x10, x11, y2, v0, v1⟩) (fun hHeld => ?_)
  clear hK K
  (try simp only [Act.put, List.setIfInBounds_toArray, List.set_cons_zero, List.set_cons_succ])
  refine pure_ (i := 14) (N := some 50) (v := ?_) (a' := ?_) #[true, true, true, true, true, true, true, true, true, true, true, true, true, true, true, false] rfl rfl (by kernel_rfl) (fun _ _ _ h => h) (Or.inl ⟨by rfl, ?_⟩) ?_ ?_
  rotate_left
  · intro w'
    go_simp
    all_goals (with_reducible rfl)
  rotate_left
  · simp only [Act.put, List.setIfInBounds_toArray, List.set_cons_zero, List.set_cons_succ, i64_w, i32_w]
    rfl
  refine pure_ (i := 15) (N := some 51) (v := ?_) (a' := ?_) #[true, true, true, true, true, true, true, true, true, true, true, true, true, true, true, true] rfl rfl (by kernel_rfl) (fun _ _ _ h => h) (Or.inl ⟨by rfl, ?_⟩) ?_ ?_
  rotate_left
  · intro w'
    go_simp
    all_goals (with_reducible rfl)
  rotate_left
  · simp only [Act.put, List.setIfInBounds_toArray, List.set_cons_zero, List.set_cons_succ, i64_w, i32_w]
    rfl
  refine done_ (by kernel_rfl) ?_
  clear y2 v0 v1
  obtain ⟨nd, hnde⟩ : ∃ nd, nd = (X tx).need := ⟨_, rfl⟩
  have HND := Aside0.mk hnde.symm
  have hnb : 0 ≤ nd ∧ nd ≤ 1125899906842624 := by rw [hnde]; exact ⟨HNB.out.1, HNB.out.2.1⟩
  have hnb1 := hnb.1
  have hnb2 := hnb.2
  have HTn := Aside0.mk (HT5.out.next (below_drew (Below.refl _ _)))
  have y4 : w5.drew.cell? ⟨bx tx, 4, none⟩ = some (.int .i64 nd) := by rw [hnde]; exact blk_cell (HTn.out.at_ tx HI.out) 4
  have hw9 : IntKind.i64.wrap (nd + nn) = nd + nn := i64w (by omega) (by omega)
  have hw8 : wrap64 (nd + nn) = nd + nn := w64 (by omega) (by omega)
  clear hnde hnb x0 x1 x2 x3 x4 x5 x6 x7 x8 x9 x10 x11
  have x0 := blk_cell (blk_drew HX5.out) 0
  have x1 := blk_cell (blk_drew HX5.out) 1
  have x2 := blk_cell (blk_drew HX5.out) 2
  have x3 := blk_cell (blk_drew HX5.out) 3
  have x4 := blk_cell (blk_drew HX5.out) 4
  have x5 := blk_cell (blk_drew HX5.out) 5
  have x6 := blk_cell (blk_drew HX5.out) 6
  have x7 := blk_cell (blk_drew HX5.out) 7
  have x8 := blk_cell (blk_drew HX5.out) 8
  have x9 := blk_cell (blk_drew HX5.out) 9
  have x10 := blk_cell (blk_drew HX5.out) 10
  have x11 := blk_cell (blk_drew HX5.out) 11
  go_wp2_with fail

  refine start_ (n := 11) (S := fun wx => wx.cell? ⟨w.heap.size, 0, none⟩ = some (.int .i64 5) ∧ wx.cell? ⟨w.heap.size, 1, none⟩ = some (.int .u64 ls) ∧ wx.cell? ⟨w.heap.size, 2, none⟩ = some (.int .i64 tx) ∧ wx.cell? ⟨w.heap.size, 3, none⟩ = some (.int .u64 pv) ∧ wx.cell? ⟨w.heap.size, 4, none⟩ = some (.int .u64 un) ∧ wx.cell? ⟨w.heap.size, 5, none⟩ = some (.int .i64 pg) ∧ wx.cell? ⟨w.heap.size, 6, none⟩ = some (.int .i64 ak) ∧ wx.cell? ⟨w.heap.size, 7, none⟩ = some (.string a) ∧ wx.cell? ⟨w.heap.size, 8, none⟩ = some (.string b) ∧ wx.cell? ⟨w.heap.size, 9, none⟩ = some (.string c) ∧ wx.cell? ⟨w.heap.size, 10, none⟩ = some (.slice At 0 ct) ∧ wx.cell? ⟨w.heap.size, 11, none⟩ = some (.slice Ad 0 cd) ∧ wx.cell? ⟨bx tx, 4, none⟩ = some (.int .i64 nd)) (ds := [10]) #[false, false, false, false, false, false, false, false, false, false, false] (by kernel_rfl) rfl rfl (⟨x0, x1, x2, x3, x4, x5, x6, x7, x8, x9, x10, x11, y4⟩) (fun hHeld => ?_)
  refine pure_ (i := 0) (N := some 52) (v := ?_) (a' := ?_) #[true, false, false, false, false, false, false, false, false, false, false] rfl rfl (by kernel_rfl) (fun _ _ _ h => h) (Or.inl ⟨by rfl, ?_⟩) ?_ ?_
  rotate_left
  · intro w'
    go_simp
    all_goals (with_reducible rfl)
  rotate_left
  · simp only [Act.put, List.setIfInBounds_toArray, List.set_cons_zero, List.set_cons_succ, i64_w, i32_w]
    rfl
  refine pure_ (i := 1) (N := some 53) (v := ?_) (a' := ?_) #[true, true, false, false, false, false, false, false, false, false, false] rfl rfl (by kernel_rfl) (fun _ _ _ h => h) (Or.inl ⟨by rfl, ?_⟩) ?_ ?_
  rotate_left
  · intro w'
    go_simp
    all_goals (with_reducible rfl)
  rotate_left
  · simp only [Act.put, List.setIfInBounds_toArray, List.set_cons_zero, List.set_cons_succ, i64_w, i32_w]
    rfl
  refine pure_ (i := 2) (N := some 54) (v := ?_) (a' := ?_) #[true, true, true, false, false, false, false, false, false, false, false] rfl rfl (by kernel_rfl) (fun _ _ _ h => h) (Or.inl ⟨by rfl, ?_⟩) ?_ ?_
  rotate_left
  · intro w'
    go_simp
    all_goals (with_reducible rfl)
  rotate_left
  · simp only [Act.put, List.setIfInBounds_toArray, List.set_cons_zero, List.set_cons_succ, i64_w, i32_w]
    rfl
  refine pure_ (i := 4) (N := some 56) (v := ?_) (a' := ?_) #[true, true, true, false, true, false, false, false, false, false, false] rfl rfl (by kernel_rfl) (fun _ _ _ h => h) (Or.inl ⟨by rfl, ?_⟩) ?_ ?_
  rotate_left
  · intro w'
    go_simp
    all_goals (with_reducible rfl)
  rotate_left
  · simp only [Act.put, List.setIfInBounds_toArray, List.set_cons_zero, List.set_cons_succ, i64_w, i32_w]
    rfl
  refine take_ (i := 3) (N := some 55) (v := ?_) (a' := ?_) #[true, true, true, true, true, false, false, false, false, false, false] rfl rfl (by kernel_rfl) (fun _ _ _ h => h) (Or.inl ⟨by rfl, ?_⟩) hHeld ?_ ?_
  rotate_left
  · intro w' hSw
    (try dsimp only at hSw)
    go_simp
    all_goals (with_reducible rfl)
  rotate_left
  · simp only [Act.put, List.setIfInBounds_toArray, List.set_cons_zero, List.set_cons_succ, i64_w, i32_w]
    rfl
  refine take_ (i := 5) (N := some 57) (v := ?_) (a' := ?_) #[true, true, true, true, true, true, false, false, false, false, false] rfl rfl (by kernel_rfl) (fun _ _ _ h => h) (Or.inl ⟨by rfl, ?_⟩) hHeld ?_ ?_
  rotate_left
  · intro w' hSw
    (try dsimp only at hSw)
    go_simp
    all_goals (with_reducible rfl)
  rotate_left
  · simp only [Act.put, List.setIfInBounds_toArray, List.set_cons_zero, List.set_cons_succ, i64_w, i32_w]
    rfl
  refine one_ (i := 6) (N := some 58) #[true, true, true, true, true, true, true, false, false, false, false] rfl rfl (by kernel_rfl) (by decide) (fun K hK => ?_)
  go_simp
  go_at_call 23
  refine (hnd _ HTn.out).mono ?_
  rintro e w6 ⟨rfl, hT, hb⟩
  have HB6 := Aside0.mk (below_then (below_drew HB5.out) (below_drew HB5.out).size hb)
  have HX6 := Aside0.mk (blk_below (blk_drew HX5.out) hb)
  have HT6 := Aside0.mk hT
  have HW6 := Aside0.mk (blk_below (blk_drew HW5.out) hb)
  clear hb hT x0 x1 x2 x3 x4 x5 x6 x7 x8 x9 x10 x11 y4
  have x0 := blk_cell HX6.out 0
  have x1 := blk_cell HX6.out 1
  have x2 := blk_cell HX6.out 2
  have x3 := blk_cell HX6.out 3
  have x4 := blk_cell HX6.out 4
  have x5 := blk_cell HX6.out 5
  have x6 := blk_cell HX6.out 6
  have x7 := blk_cell HX6.out 7
  have x8 := blk_cell HX6.out 8
  have x9 := blk_cell HX6.out 9
  have x10 := blk_cell HX6.out 10
  have x11 := blk_cell HX6.out 11
  have y4 : w6.cell? ⟨bx tx, 4, none⟩ = some (.int .i64 nd) := by rw [← HND.out]; exact blk_cell (HT6.out.at_ tx HI.out) 4
  have f4 := blk_frozen (HT6.out.at_ tx HI.out) 4
  (try go_wp2_with fail)
  refine hK.out _ _ (⟨x0, x1, x2, x3, x4, x5, x6, x7, x8, x9, x10, x11, y4⟩) (fun hHeld => ?_)
  clear hK K
  (try simp only [Act.put, List.setIfInBounds_toArray, List.set_cons_zero, List.set_cons_succ])
  refine pure_ (i := 7) (N := some 59) (v := ?_) (a' := ?_) #[true, true, true, true, true, true, true, true, false, false, false] rfl rfl (by kernel_rfl) (fun _ _ _ h => h) (Or.inl ⟨by rfl, ?_⟩) ?_ ?_
  rotate_left
  · intro w'
    go_simp
    all_goals (with_reducible rfl)
  rotate_left
  · simp only [Act.put, List.setIfInBounds_toArray, List.set_cons_zero, List.set_cons_succ, i64_w, i32_w]
    rfl
  refine pure_ (i := 8) (N := some 60) (v := ?_) (a' := ?_) #[true, true, true, true, true, true, true, true, true, false, false] rfl rfl (by kernel_rfl) (fun _ _ _ h => h) (Or.inl ⟨by rfl, ?_⟩) ?_ ?_
  rotate_left
  · intro w'
    go_simp
    all_goals (with_reducible rfl)
  rotate_left
  · simp only [Act.put, List.setIfInBounds_toArray, List.set_cons_zero, List.set_cons_succ, i64_w, i32_w]
    rfl
  refine pure_ (i := 9) (N := some 61) (v := ?_) (a' := ?_) #[true, true, true, true, true, true, true, true, true, true, false] rfl rfl (by kernel_rfl) (fun _ _ _ h => h) (Or.inl ⟨by rfl, ?_⟩) ?_ ?_
  rotate_left
  · intro w'
    go_simp
    all_goals (with_reducible rfl)
  rotate_left
  · simp only [Act.put, List.setIfInBounds_toArray, List.set_cons_zero, List.set_cons_succ, i64_w, i32_w]
    rfl
  refine last_ (i := 10) (N := none) #[true, true, true, true, true, true, true, true, true, true, true] rfl rfl (by kernel_rfl) (by decide) (fun K hK => ?_)
  go_simp
  skip
  (try go_wp2_with fail)
  refine hK.out _ _ ?_
  clear hK K
  (try simp only [Act.put, List.setIfInBounds_toArray, List.set_cons_zero, List.set_cons_succ])
  refine done_ (by kernel_rfl) ?_
  clear y4 f4 x0 x1 x2 x3 x4 x5 x6 x7 x8 x9 x10 x11 hw8 hw9
  (try rw [w64 (x := nd + nn) (by omega) (by omega)])
  obtain ⟨ns, hns⟩ : ∃ ns, ns = nd + nn := ⟨_, rfl⟩
  rw [← hns]
  have HNS := Aside0.mk hns
  clear hns
  have hy7 : (w6.setCell ⟨bx tx, 4, none⟩ (.int .i64 ns)).heap[bx tx]? = some (.cells #[.int .i64 tx, .int .i64 (X tx).st, .int .u64 (X tx).last, .int .u64 (X tx).next, .int .i64 ns, (X tx).sv] 74 (0, 0)) := blk_put (HT6.out.at_ tx HI.out) 4 _ rfl
  have hx7 : (w6.setCell ⟨bx tx, 4, none⟩ (.int .i64 ns)).heap[w.heap.size]? = some (.cells #[.int .i64 5, .int .u64 ls, .int .i64 tx, .int .u64 pv, .int .u64 un, .int .i64 pg, .int .i64 ak, .string a, .string b, .string c, .slice At 0 ct, .slice Ad 0 cd] 39 (0, 0)) := blk_far HX6.out (p := ⟨bx tx, 4, none⟩) (Nat.ne_of_gt HLT.out) _
  have hw7 : (w6.setCell ⟨bx tx, 4, none⟩ (.int .i64 ns)).heap[WB]? = some (.cells #[.func (.func 49) #[] #[], .func (.func 50) #[] #[]] 78 (0, 0)) := blk_far HW6.out (p := ⟨bx tx, 4, none⟩) (Nat.ne_of_gt (Nat.lt_of_lt_of_le HLT.out HWB.out)) _
  have hb7 : Bel w0 (w6.setCell ⟨bx tx, 4, none⟩ (.int .i64 ns)) := Bel.set (g := bx tx) (j := 4) HT6.out.bel (HT6.out.geb tx HI.out)
  have ho7 : ∀ q, q ≠ bx tx → (w6.setCell ⟨bx tx, 4, none⟩ (.int .i64 ns)).heap[q]? = w6.heap[q]? := fun q hne => Below.heap_setCell _ ⟨bx tx, 4, none⟩ _ q hne
  generalize w6.setCell ⟨bx tx, 4, none⟩ (.int .i64 ns) = w7 at hy7 hx7 hw7 hb7 ho7 ⊢
  have HY7 := Aside0.mk hy7
  have HB7 := Aside0.mk hb7
  have HO7 := Aside0.mk ho7
  have HX7 := Aside0.mk hx7
  have HW7 := Aside0.mk hw7
  have x0 := blk_cell HX7.out 0
  have x1 := blk_cell HX7.out 1
  have x2 := blk_cell HX7.out 2
  have x3 := blk_cell HX7.out 3
  have x4 := blk_cell HX7.out 4
  have x5 := blk_cell HX7.out 5
  have x6 := blk_cell HX7.out 6
  have x7 := blk_cell HX7.out 7
  have x8 := blk_cell HX7.out 8
  have x9 := blk_cell HX7.out 9
  have x10 := blk_cell HX7.out 10
  have x11 := blk_cell HX7.out 11
  have y2 := blk_cell hy7 2
  have f2 := blk_frozen hy7 2
  have v1 := blk_cell hw7 1
  have hx8 : (w7.setCell ⟨bx tx, 2, none⟩ (.int .u64 ls)).heap[w.heap.size]? = some (.cells #[.int .i64 5, .int .u64 ls, .int .i64 tx, .int .u64 pv, .int .u64 un, .int .i64 pg, .int .i64 ak, .string a, .string b, .string c, .slice At 0 ct, .slice Ad 0 cd] 39 (0, 0)) := blk_far HX7.out (p := ⟨bx tx, 2, none⟩) (Nat.ne_of_gt HLT.out) _
  have hw8 : (w7.setCell ⟨bx tx, 2, none⟩ (.int .u64 ls)).heap[WB]? = some (.cells #[.func (.func 49) #[] #[], .func (.func 50) #[] #[]] 78 (0, 0)) := blk_far HW7.out (p := ⟨bx tx, 2, none⟩) (Nat.ne_of_gt (Nat.lt_of_lt_of_le HLT.out HWB.out)) _
  have z0 := blk_cell hx8 0
  have z1 := blk_cell hx8 1
  have z2 := blk_cell hx8 2
  have z3 := blk_cell hx8 3
  have z4 := blk_cell hx8 4
  have z5 := blk_cell hx8 5
  have z6 := blk_cell hx8 6
  have z7 := blk_cell hx8 7
  have z8 := blk_cell hx8 8
  have z9 := blk_cell hx8 9
  have z10 := blk_cell hx8 10
  have z11 := blk_cell hx8 11
  have u1 := blk_cell hw8 1
  clear hy7 hb7 ho7 hx7 hw7 hx8 hw8
  go_wp2_with fail
  have ht8 : Tab w0 (w7.setCell ⟨bx tx, 2, none⟩ (.int .u64 ls)) t mb bx ks (updX X tx ⟨(X tx).st, ls, (X tx).next, ns, (X tx).sv⟩) := HT6.out.setTx tx HI.out _ (blk_put HY7.out 2 _ rfl) (fun q hq hne => (Below.heap_setCell _ ⟨bx tx, 2, none⟩ _ q hne).trans (HO7.out q hne)) (Bel.set (g := bx tx) (j := 2) HB7.out (HT6.out.geb tx HI.out))
  have hnse : ns = (X tx).need + nn := by rw [HNS.out, HND.out]
  have HNE := Aside0.mk hnse
  clear hnse
  refine (end_calls w0 _ t mb bx ks _ tx 5 ls tx pv un pg ak a b c At Ad 0 ct 0 cd ht8 HI.out).mono ?_
  rintro e w9 ⟨rfl, hT⟩
  rw [HNE.out] at hT
  have HT9 := Aside0.mk hT
  clear hT ht8
  go_wp2_with fail
  go_ret
  exact ⟨rfl, HT9.out⟩
end Go.Proofs.Yteaklmafjmnmiaa
end
