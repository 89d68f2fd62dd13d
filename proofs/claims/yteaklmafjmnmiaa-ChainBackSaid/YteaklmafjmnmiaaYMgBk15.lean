/- chain's Note: notep noteo notes noteu. -/
import Derived.Test.YteaklmafjmnmiaaYMgBk11
section
namespace Go.Proofs.Yteaklmafjmnmiaa
open Go.RowKit Go.Proofs.YteaklmafjmnmiaaW.PrintWords Go.Proofs.YteaklmafjmnmiaaW.PrintLast Go.Proofs.YteaklmafjmnmiaaW.PrintMore
open Rf MapL MapV
set_option linter.unusedVariables false
set_option linter.unusedSimpArgs false
theorem skipB_ {b : Bool} {A B : Prop} (h : b = false) (hB : B) : if b = true then A else B := by subst h; exact hB
set_option maxRecDepth 100000 in
set_option maxHeartbeats 8000000 in
theorem notep_calls (w0 : Wb) (w : World) (t mb : Nat) (bx : Int → Nat) (ks : List Int) (X : Int → TX) (k : Int) (f g : Nat) (hk7 : k ≠ 7) (hk8 : k ≠ 8) (hway : ((k = 1 ∧ f = 43 ∧ g = 44) ∨ (k = 2 ∧ f = 45 ∧ g = 46) ∨ (k = 3 ∧ f = 43 ∧ g = 47) ∨ (k = 4 ∧ f = 43 ∧ g = 48) ∨ (k = 5 ∧ f = 49 ∧ g = 50) ∨ (k = 6 ∧ f = 43 ∧ g = 51))) (ls tx pv un pg ak : Int) (a b c : ByteArray) (At Ad : Option Addr) (ct cd : Nat) (h : Tab w0 w t mb bx ks X) (hi : tx ∈ ks)
    (hok : recOk k ls tx pv un pg ak a b c [] [] = true) (hpl : pv ≠ (X tx).last) :
    Calls Try.prog 12 #[.pointer (some ⟨t, 0, none⟩), .agg #[.int .i64 k, .int .u64 ls, .int .i64 tx, .int .u64 pv, .int .u64 un, .int .i64 pg, .int .i64 ak, .string a, .string b, .string c, .slice At 0 ct, .slice Ad 0 cd]] w fun e w' => e = .returned (.int .i64 10) ∧ Tab w0 w' t mb bx ks X := by
  have e7 : (k == 7) = false := by simpa using hk7
  have e8 : (k == 8) = false := by simpa using hk8
  have HWY := Aside0.mk hway
  clear hway hk7 hk8
  have hck := fun (W : World) => check_calls W k ls tx pv un pg ak a b c At ct [] Ad cd [] (nilCA _ _ _) (Nat.zero_le _) (nilCA _ _ _) (Nat.zero_le _)
  skip
  rw [hok] at hck
  simp only [List.length_nil] at hck
  have hba : Below w.heap.size w (w.alloc (.cells #[.int .i64 k, .int .u64 ls, .int .i64 tx, .int .u64 pv, .int .u64 un, .int .i64 pg, .int .i64 ak, .string a, .string b, .string c, .slice At 0 ct, .slice Ad 0 cd] 39)) := below_alloc (Below.refl _ _) _
  have hxa : (w.alloc (.cells #[.int .i64 k, .int .u64 ls, .int .i64 tx, .int .u64 pv, .int .u64 un, .int .i64 pg, .int .i64 ak, .string a, .string b, .string c, .slice At 0 ct, .slice Ad 0 cd] 39)).heap[w.heap.size]? = some (.cells #[.int .i64 k, .int .u64 ls, .int .i64 tx, .int .u64 pv, .int .u64 un, .int .i64 pg, .int .i64 ak, .string a, .string b, .string c, .slice At 0 ct, .slice Ad 0 cd] 39 (0, 0)) := heap_alloc_new w _
  have hta := h.next hba
  have HLT := Aside0.mk (h.lt tx hi)
  have HI := Aside0.mk hi
  have HPL := Aside0.mk hpl
  have HOK := Aside0.mk hok
  clear h hi hok hpl
  go_enter Try.func12, Try.ntmps12
  go_wp2_with fail
  generalize w.alloc (.cells #[.int .i64 k, .int .u64 ls, .int .i64 tx, .int .u64 pv, .int .u64 un, .int .i64 pg, .int .i64 ak, .string a, .string b, .string c, .slice At 0 ct, .slice Ad 0 cd] 39) = wa at hba hxa hta ⊢
  refine (hck wa).mono ?_
  rintro e w1 ⟨rfl, hb⟩
  have ec : cde true = 0 := rfl
  rw [ec]
  have HB1 := Aside0.mk (below_then hba hba.size hb)
  have HX1 := Aside0.mk (blk_below hxa hb)
  have HT1 := Aside0.mk (hta.next hb)
  clear hb hck hba hxa hta ec
  have x0 := blk_cell HX1.out 0
  have x1 := blk_cell HX1.out 1
  have x2 := blk_cell HX1.out 2
  have x3 := blk_cell HX1.out 3
  have x4 := blk_cell HX1.out 4
  have x5 := blk_cell HX1.out 5
  have x6 := blk_cell HX1.out 6
  have x7 := blk_cell HX1.out 7
  have x8 := blk_cell HX1.out 8
  have x9 := blk_cell HX1.out 9
  have x10 := blk_cell HX1.out 10
  have x11 := blk_cell HX1.out 11
  go_wp2_with fail
  have hl := fun n => (HT1.out.next (show Below w1.heap.size w1 (w1.drewN n) from ⟨rfl, rfl, rfl, Nat.le_refl _, fun _ _ => rfl⟩)).look tx
  have hl' := HT1.out.look tx
  simp only [if_pos HI.out] at hl hl'
  unfold ptrs at hl hl'
  have hc := blk_cell HT1.out.box 0
  go_quiet (fail)
  clear hl hl' hc x0 x1 x2 x3 x4 x5 x6 x7 x8 x9 x10 x11
  have HB2 := Aside0.mk (show Below w.heap.size w (w1.drewN nq) from ⟨HB1.out.os, HB1.out.tape, HB1.out.output, HB1.out.size, HB1.out.block⟩)
  have HX2 := Aside0.mk (show (w1.drewN nq).heap[w.heap.size]? = some (.cells #[.int .i64 k, .int .u64 ls, .int .i64 tx, .int .u64 pv, .int .u64 un, .int .i64 pg, .int .i64 ak, .string a, .string b, .string c, .slice At 0 ct, .slice Ad 0 cd] 39 (0, 0)) from HX1.out)
  have HT2 := Aside0.mk (HT1.out.next (show Below w1.heap.size w1 (w1.drewN nq) from ⟨rfl, rfl, rfl, Nat.le_refl _, fun _ _ => rfl⟩))
  generalize w1.drewN nq = w2 at HB2 HX2 HT2 ⊢
  have x0 := blk_cell HX2.out 0
  have x1 := blk_cell HX2.out 1
  have x2 := blk_cell HX2.out 2
  have x3 := blk_cell HX2.out 3
  have x4 := blk_cell HX2.out 4
  have x5 := blk_cell HX2.out 5
  have x6 := blk_cell HX2.out 6
  have x7 := blk_cell HX2.out 7
  have x8 := blk_cell HX2.out 8
  have x9 := blk_cell HX2.out 9
  have x10 := blk_cell HX2.out 10
  have x11 := blk_cell HX2.out 11
  go_wp2_with fail
  refine (ways_tab w2 k f g HWY.out).mono ?_
  rintro e w3 ⟨rfl, hb⟩
  have HB3 := Aside0.mk (below_then HB2.out HB2.out.size hb)
  have HX3 := Aside0.mk (blk_below HX2.out hb)
  have HT3 := Aside0.mk (HT2.out.next hb)
  clear hb x0 x1 x2 x3 x4 x5 x6 x7 x8 x9 x10 x11
  unfold fn0
  go_wp2_with fail
  obtain ⟨WB, hWB⟩ : ∃ x, x = w3.heap.size := ⟨_, rfl⟩
  have hw4 : (w3.alloc (.cells #[.func (.func f) #[] #[], .func (.func g) #[] #[]] 78)).heap[w3.heap.size]? = some (.cells #[.func (.func f) #[] #[], .func (.func g) #[] #[]] 78 (0, 0)) := heap_alloc_new w3 _
  have hb4 : Below w3.heap.size w3 (w3.alloc (.cells #[.func (.func f) #[] #[], .func (.func g) #[] #[]] 78)) := below_alloc (Below.refl _ _) _
  generalize w3.alloc (.cells #[.func (.func f) #[] #[], .func (.func g) #[] #[]] 78) = w4 at hw4 hb4 ⊢
  rw [← hWB] at hw4 ⊢
  have HW4 := Aside0.mk hw4
  have HWB := Aside0.mk (show w.heap.size ≤ WB by rw [hWB]; exact HB3.out.size)
  have HB4 := Aside0.mk (below_then HB3.out HB3.out.size hb4)
  have HX4 := Aside0.mk (blk_below HX3.out hb4)
  have HT4 := Aside0.mk (HT3.out.next hb4)
  clear hw4 hb4 hWB
  have x0 := blk_cell (blk_drew HX4.out) 0
  have x1 := blk_cell (blk_drew HX4.out) 1
  have x2 := blk_cell (blk_drew HX4.out) 2
  have x3 := blk_cell (blk_drew HX4.out) 3
  have x4 := blk_cell (blk_drew HX4.out) 4
  have x5 := blk_cell (blk_drew HX4.out) 5
  have x6 := blk_cell (blk_drew HX4.out) 6
  have x7 := blk_cell (blk_drew HX4.out) 7
  have x8 := blk_cell (blk_drew HX4.out) 8
  have x9 := blk_cell (blk_drew HX4.out) 9
  have x10 := blk_cell (blk_drew HX4.out) 10
  have x11 := blk_cell (blk_drew HX4.out) 11
  have y2 : w4.drew.cell? ⟨bx tx, 2, none⟩ = some (.int .u64 (X tx).last) := blk_cell (blk_drew (HT4.out.at_ tx HI.out)) 2
  have v0 := blk_cell (blk_drew HW4.out) 0
  have v1 := blk_cell (blk_drew HW4.out) 1
  have hpn : (pv != (X tx).last) = true := by simp [HPL.out]
  refine start_ (n := 16) (S := fun wx => wx.cell? ⟨w.heap.size, 0, none⟩ = some (.int .i64 k) ∧ wx.cell? ⟨w.heap.size, 1, none⟩ = some (.int .u64 ls) ∧ wx.cell? ⟨w.heap.size, 2, none⟩ = some (.int .i64 tx) ∧ wx.cell? ⟨w.heap.size, 3, none⟩ = some (.int .u64 pv) ∧ wx.cell? ⟨w.heap.size, 4, none⟩ = some (.int .u64 un) ∧ wx.cell? ⟨w.heap.size, 5, none⟩ = some (.int .i64 pg) ∧ wx.cell? ⟨w.heap.size, 6, none⟩ = some (.int .i64 ak) ∧ wx.cell? ⟨w.heap.size, 7, none⟩ = some (.string a) ∧ wx.cell? ⟨w.heap.size, 8, none⟩ = some (.string b) ∧ wx.cell? ⟨w.heap.size, 9, none⟩ = some (.string c) ∧ wx.cell? ⟨w.heap.size, 10, none⟩ = some (.slice At 0 ct) ∧ wx.cell? ⟨w.heap.size, 11, none⟩ = some (.slice Ad 0 cd) ∧ wx.cell? ⟨bx tx, 2, none⟩ = some (.int .u64 (X tx).last) ∧ wx.cell? ⟨WB, 0, none⟩ = some (.func (.func f) #[] #[]) ∧ wx.cell? ⟨WB, 1, none⟩ = some (.func (.func g) #[] #[])) (ds := []) #[false, false, false, false, false, false, false, false, false, false, false, false, false, false, false, false] (by kernel_rfl) rfl rfl (⟨x0, x1, x2, x3, x4, x5, x6, x7, x8, x9, x10, x11, y2, v0, v1⟩) (fun hHeld => ?_)
  refine pure_ (i := 0) (N := some 36) (v := ?_) (a' := ?_) #[true, false, false, false, false, false, false, false, false, false, false, false, false, false, false, false] rfl rfl (by kernel_rfl) (fun _ _ _ h => h) (Or.inl ⟨by rfl, ?_⟩) ?_ ?_
  rotate_left
  · intro w'
    go_simp
    all_goals (with_reducible rfl)
  rotate_left
  · simp only [Act.put, List.setIfInBounds_toArray, List.set_cons_zero, List.set_cons_succ, i64_w, i32_w]
    rfl
  refine pure_ (i := 2) (N := some 38) (v := ?_) (a' := ?_) #[true, false, true, false, false, false, false, false, false, false, false, false, false, false, false, false] rfl rfl (by kernel_rfl) (fun _ _ _ h => h) (Or.inl ⟨by rfl, ?_⟩) ?_ ?_
  rotate_left
  · intro w'
    go_simp
    all_goals (with_reducible rfl)
  rotate_left
  · simp only [Act.put, List.setIfInBounds_toArray, List.set_cons_zero, List.set_cons_succ, i64_w, i32_w]
    rfl
  refine pure_ (i := 3) (N := some 39) (v := ?_) (a' := ?_) #[true, false, true, true, false, false, false, false, false, false, false, false, false, false, false, false] rfl rfl (by kernel_rfl) (fun _ _ _ h => h) (Or.inl ⟨by rfl, ?_⟩) ?_ ?_
  rotate_left
  · intro w'
    go_simp
    all_goals (with_reducible rfl)
  rotate_left
  · simp only [Act.put, List.setIfInBounds_toArray, List.set_cons_zero, List.set_cons_succ, i64_w, i32_w]
    rfl
  refine pure_ (i := 4) (N := some 40) (v := ?_) (a' := ?_) #[true, false, true, true, true, false, false, false, false, false, false, false, false, false, false, false] rfl rfl (by kernel_rfl) (fun _ _ _ h => h) (Or.inl ⟨by rfl, ?_⟩) ?_ ?_
  rotate_left
  · intro w'
    go_simp
    all_goals (with_reducible rfl)
  rotate_left
  · simp only [Act.put, List.setIfInBounds_toArray, List.set_cons_zero, List.set_cons_succ, i64_w, i32_w]
    rfl
  refine pure_ (i := 5) (N := some 41) (v := ?_) (a' := ?_) #[true, false, true, true, true, true, false, false, false, false, false, false, false, false, false, false] rfl rfl (by kernel_rfl) (fun _ _ _ h => h) (Or.inl ⟨by rfl, ?_⟩) ?_ ?_
  rotate_left
  · intro w'
    go_simp
    all_goals (with_reducible rfl)
  rotate_left
  · simp only [Act.put, List.setIfInBounds_toArray, List.set_cons_zero, List.set_cons_succ, i64_w, i32_w]
    rfl
  refine take_ (i := 1) (N := some 37) (v := ?_) (a' := ?_) #[true, true, true, true, true, true, false, false, false, false, false, false, false, false, false, false] rfl rfl (by kernel_rfl) (fun _ _ _ h => h) (Or.inl ⟨by rfl, ?_⟩) hHeld ?_ ?_
  rotate_left
  · intro w' hSw
    (try dsimp only at hSw)
    go_simp
    all_goals (with_reducible rfl)
  rotate_left
  · simp only [Act.put, List.setIfInBounds_toArray, List.set_cons_zero, List.set_cons_succ, i64_w, i32_w]
    rfl
  refine take_ (i := 6) (N := some 42) (v := ?_) (a' := ?_) #[true, true, true, true, true, true, true, false, false, false, false, false, false, false, false, false] rfl rfl (by kernel_rfl) (fun _ _ _ h => h) (Or.inl ⟨by rfl, ?_⟩) hHeld ?_ ?_
  rotate_left
  · intro w' hSw
    (try dsimp only at hSw)
    go_simp
    all_goals (with_reducible rfl)
  rotate_left
  · simp only [Act.put, List.setIfInBounds_toArray, List.set_cons_zero, List.set_cons_succ, i64_w, i32_w]
    rfl
  refine pure_ (i := 7) (N := some 43) (v := ?_) (a' := ?_) #[true, true, true, true, true, true, true, true, false, false, false, false, false, false, false, false] rfl rfl (by kernel_rfl) (fun _ _ _ h => h) (Or.inl ⟨by rfl, ?_⟩) ?_ ?_
  rotate_left
  · intro w'
    go_simp
    all_goals (with_reducible rfl)
  rotate_left
  · simp only [Act.put, List.setIfInBounds_toArray, List.set_cons_zero, List.set_cons_succ, i64_w, i32_w]
    rfl
  refine pure_ (i := 8) (N := some 44) (v := ?_) (a' := ?_) #[true, true, true, true, true, true, true, true, true, false, false, false, false, false, false, false] rfl rfl (by kernel_rfl) (fun _ _ _ h => h) (Or.inl ⟨by rfl, ?_⟩) ?_ ?_
  rotate_left
  · intro w'
    go_simp
    all_goals (with_reducible rfl)
  rotate_left
  · simp only [Act.put, List.setIfInBounds_toArray, List.set_cons_zero, List.set_cons_succ, i64_w, i32_w]
    rfl
  refine pure_ (i := 9) (N := some 45) (v := undef) (a' := ?_) #[true, true, true, true, true, true, true, true, true, true, false, false, false, false, false, false] rfl rfl (by kernel_rfl) (fun _ _ _ h => h) (Or.inr ⟨by rfl, rfl⟩) ?_ ?_
  rotate_left
  · simp only [Act.put, List.setIfInBounds_toArray, List.set_cons_zero, List.set_cons_succ, i64_w, i32_w]
    rfl
  refine pure_ (i := 11) (N := some 47) (v := undef) (a' := ?_) #[true, true, true, true, true, true, true, true, true, true, false, true, false, false, false, false] rfl rfl (by kernel_rfl) (fun _ _ _ h => h) (Or.inr ⟨by rfl, rfl⟩) ?_ ?_
  rotate_left
  · simp only [Act.put, List.setIfInBounds_toArray, List.set_cons_zero, List.set_cons_succ, i64_w, i32_w]
    rfl
  refine pure_ (i := 10) (N := some 46) (v := undef) (a' := ?_) #[true, true, true, true, true, true, true, true, true, true, true, true, false, false, false, false] rfl rfl (by kernel_rfl) (fun _ _ _ h => h) (Or.inr ⟨by rfl, rfl⟩) ?_ ?_
  rotate_left
  · simp only [Act.put, List.setIfInBounds_toArray, List.set_cons_zero, List.set_cons_succ, i64_w, i32_w]
    rfl
  refine pure_ (i := 12) (N := some 48) (v := undef) (a' := ?_) #[true, true, true, true, true, true, true, true, true, true, true, true, true, false, false, false] rfl rfl (by kernel_rfl) (fun _ _ _ h => h) (Or.inr ⟨by rfl, rfl⟩) ?_ ?_
  rotate_left
  · simp only [Act.put, List.setIfInBounds_toArray, List.set_cons_zero, List.set_cons_succ, i64_w, i32_w]
    rfl
  refine one_ (i := 13) (N := some 49) #[true, true, true, true, true, true, true, true, true, true, true, true, true, true, false, false] rfl rfl (by kernel_rfl) (by decide) (fun K hK => ?_)
  refine skipB_ (by rfl) ?_
  refine hK.out _ _ hHeld (fun hHeld => ?_)
  clear hK K
  (try simp only [Act.put, List.setIfInBounds_toArray, List.set_cons_zero, List.set_cons_succ])
  refine pure_ (i := 14) (N := some 50) (v := undef) (a' := ?_) #[true, true, true, true, true, true, true, true, true, true, true, true, true, true, true, false] rfl rfl (by kernel_rfl) (fun _ _ _ h => h) (Or.inr ⟨by rfl, rfl⟩) ?_ ?_
  rotate_left
  · simp only [Act.put, List.setIfInBounds_toArray, List.set_cons_zero, List.set_cons_succ, i64_w, i32_w]
    rfl
  refine pure_ (i := 15) (N := some 51) (v := ?_) (a' := ?_) #[true, true, true, true, true, true, true, true, true, true, true, true, true, true, true, true] rfl rfl (by kernel_rfl) (fun _ _ _ h => h) (Or.inl ⟨by rfl, ?_⟩) ?_ ?_
  rotate_left
  · intro w'
    go_simp
    all_goals (with_reducible rfl)
  rotate_left
  · simp only [Act.put, List.setIfInBounds_toArray, List.set_cons_zero, List.set_cons_succ, i64_w, i32_w]
    rfl
  refine done_ (by kernel_rfl) ?_


  go_wp2_with fail
  go_ret
  exact ⟨rfl, HT4.out.next (below_drew (Below.refl _ _))⟩
set_option maxRecDepth 100000 in
set_option maxHeartbeats 8000000 in
theorem noteo_calls (w0 : Wb) (w : World) (t mb : Nat) (bx : Int → Nat) (ks : List Int) (X : Int → TX) (k : Int) (g : Nat) (hk7 : k ≠ 7) (hk8 : k ≠ 8) (hway : ((k = 1 ∧ 43 = 43 ∧ g = 44) ∨ (k = 2 ∧ 43 = 45 ∧ g = 46) ∨ (k = 3 ∧ 43 = 43 ∧ g = 47) ∨ (k = 4 ∧ 43 = 43 ∧ g = 48) ∨ (k = 5 ∧ 43 = 49 ∧ g = 50) ∨ (k = 6 ∧ 43 = 43 ∧ g = 51))) (ls tx pv un pg ak : Int) (a b c : ByteArray) (At Ad : Option Addr) (ct cd : Nat) (h : Tab w0 w t mb bx ks X) (hi : tx ∈ ks)
    (hok : recOk k ls tx pv un pg ak a b c [] [] = true) (hpl : pv = (X tx).last) (hlt : ((X tx).st == 0) = false) :
    Calls Try.prog 12 #[.pointer (some ⟨t, 0, none⟩), .agg #[.int .i64 k, .int .u64 ls, .int .i64 tx, .int .u64 pv, .int .u64 un, .int .i64 pg, .int .i64 ak, .string a, .string b, .string c, .slice At 0 ct, .slice Ad 0 cd]] w fun e w' => e = .returned (.int .i64 10) ∧ Tab w0 w' t mb bx ks X := by
  have e7 : (k == 7) = false := by simpa using hk7
  have e8 : (k == 8) = false := by simpa using hk8
  have HWY := Aside0.mk hway
  clear hway hk7 hk8
  have hck := fun (W : World) => check_calls W k ls tx pv un pg ak a b c At ct [] Ad cd [] (nilCA _ _ _) (Nat.zero_le _) (nilCA _ _ _) (Nat.zero_le _)
  skip
  rw [hok] at hck
  simp only [List.length_nil] at hck
  have hba : Below w.heap.size w (w.alloc (.cells #[.int .i64 k, .int .u64 ls, .int .i64 tx, .int .u64 pv, .int .u64 un, .int .i64 pg, .int .i64 ak, .string a, .string b, .string c, .slice At 0 ct, .slice Ad 0 cd] 39)) := below_alloc (Below.refl _ _) _
  have hxa : (w.alloc (.cells #[.int .i64 k, .int .u64 ls, .int .i64 tx, .int .u64 pv, .int .u64 un, .int .i64 pg, .int .i64 ak, .string a, .string b, .string c, .slice At 0 ct, .slice Ad 0 cd] 39)).heap[w.heap.size]? = some (.cells #[.int .i64 k, .int .u64 ls, .int .i64 tx, .int .u64 pv, .int .u64 un, .int .i64 pg, .int .i64 ak, .string a, .string b, .string c, .slice At 0 ct, .slice Ad 0 cd] 39 (0, 0)) := heap_alloc_new w _
  have hta := h.next hba
  have HLT := Aside0.mk (h.lt tx hi)
  have HI := Aside0.mk hi
  have HPL := Aside0.mk hpl
  have HOK := Aside0.mk hok
  clear h hi hok hpl
  go_enter Try.func12, Try.ntmps12
  go_wp2_with fail
  generalize w.alloc (.cells #[.int .i64 k, .int .u64 ls, .int .i64 tx, .int .u64 pv, .int .u64 un, .int .i64 pg, .int .i64 ak, .string a, .string b, .string c, .slice At 0 ct, .slice Ad 0 cd] 39) = wa at hba hxa hta ⊢
  refine (hck wa).mono ?_
  rintro e w1 ⟨rfl, hb⟩
  have ec : cde true = 0 := rfl
  rw [ec]
  have HB1 := Aside0.mk (below_then hba hba.size hb)
  have HX1 := Aside0.mk (blk_below hxa hb)
  have HT1 := Aside0.mk (hta.next hb)
  clear hb hck hba hxa hta ec
  have x0 := blk_cell HX1.out 0
  have x1 := blk_cell HX1.out 1
  have x2 := blk_cell HX1.out 2
  have x3 := blk_cell HX1.out 3
  have x4 := blk_cell HX1.out 4
  have x5 := blk_cell HX1.out 5
  have x6 := blk_cell HX1.out 6
  have x7 := blk_cell HX1.out 7
  have x8 := blk_cell HX1.out 8
  have x9 := blk_cell HX1.out 9
  have x10 := blk_cell HX1.out 10
  have x11 := blk_cell HX1.out 11
  go_wp2_with fail
  have hl := fun n => (HT1.out.next (show Below w1.heap.size w1 (w1.drewN n) from ⟨rfl, rfl, rfl, Nat.le_refl _, fun _ _ => rfl⟩)).look tx
  have hl' := HT1.out.look tx
  simp only [if_pos HI.out] at hl hl'
  unfold ptrs at hl hl'
  have hc := blk_cell HT1.out.box 0
  go_quiet (fail)
  clear hl hl' hc x0 x1 x2 x3 x4 x5 x6 x7 x8 x9 x10 x11
  have HB2 := Aside0.mk (show Below w.heap.size w (w1.drewN nq) from ⟨HB1.out.os, HB1.out.tape, HB1.out.output, HB1.out.size, HB1.out.block⟩)
  have HX2 := Aside0.mk (show (w1.drewN nq).heap[w.heap.size]? = some (.cells #[.int .i64 k, .int .u64 ls, .int .i64 tx, .int .u64 pv, .int .u64 un, .int .i64 pg, .int .i64 ak, .string a, .string b, .string c, .slice At 0 ct, .slice Ad 0 cd] 39 (0, 0)) from HX1.out)
  have HT2 := Aside0.mk (HT1.out.next (show Below w1.heap.size w1 (w1.drewN nq) from ⟨rfl, rfl, rfl, Nat.le_refl _, fun _ _ => rfl⟩))
  generalize w1.drewN nq = w2 at HB2 HX2 HT2 ⊢
  have x0 := blk_cell HX2.out 0
  have x1 := blk_cell HX2.out 1
  have x2 := blk_cell HX2.out 2
  have x3 := blk_cell HX2.out 3
  have x4 := blk_cell HX2.out 4
  have x5 := blk_cell HX2.out 5
  have x6 := blk_cell HX2.out 6
  have x7 := blk_cell HX2.out 7
  have x8 := blk_cell HX2.out 8
  have x9 := blk_cell HX2.out 9
  have x10 := blk_cell HX2.out 10
  have x11 := blk_cell HX2.out 11
  go_wp2_with fail
  refine (ways_tab w2 k 43 g (by have q := HWY.out; simpa using q)).mono ?_
  rintro e w3 ⟨rfl, hb⟩
  have HB3 := Aside0.mk (below_then HB2.out HB2.out.size hb)
  have HX3 := Aside0.mk (blk_below HX2.out hb)
  have HT3 := Aside0.mk (HT2.out.next hb)
  clear hb x0 x1 x2 x3 x4 x5 x6 x7 x8 x9 x10 x11
  unfold fn0
  go_wp2_with fail
  obtain ⟨WB, hWB⟩ : ∃ x, x = w3.heap.size := ⟨_, rfl⟩
  have hw4 : (w3.alloc (.cells #[.func (.func 43) #[] #[], .func (.func g) #[] #[]] 78)).heap[w3.heap.size]? = some (.cells #[.func (.func 43) #[] #[], .func (.func g) #[] #[]] 78 (0, 0)) := heap_alloc_new w3 _
  have hb4 : Below w3.heap.size w3 (w3.alloc (.cells #[.func (.func 43) #[] #[], .func (.func g) #[] #[]] 78)) := below_alloc (Below.refl _ _) _
  generalize w3.alloc (.cells #[.func (.func 43) #[] #[], .func (.func g) #[] #[]] 78) = w4 at hw4 hb4 ⊢
  rw [← hWB] at hw4 ⊢
  have HW4 := Aside0.mk hw4
  have HWB := Aside0.mk (show w.heap.size ≤ WB by rw [hWB]; exact HB3.out.size)
  have HB4 := Aside0.mk (below_then HB3.out HB3.out.size hb4)
  have HX4 := Aside0.mk (blk_below HX3.out hb4)
  have HT4 := Aside0.mk (HT3.out.next hb4)
  clear hw4 hb4 hWB
  have x0 := blk_cell (blk_drew HX4.out) 0
  have x1 := blk_cell (blk_drew HX4.out) 1
  have x2 := blk_cell (blk_drew HX4.out) 2
  have x3 := blk_cell (blk_drew HX4.out) 3
  have x4 := blk_cell (blk_drew HX4.out) 4
  have x5 := blk_cell (blk_drew HX4.out) 5
  have x6 := blk_cell (blk_drew HX4.out) 6
  have x7 := blk_cell (blk_drew HX4.out) 7
  have x8 := blk_cell (blk_drew HX4.out) 8
  have x9 := blk_cell (blk_drew HX4.out) 9
  have x10 := blk_cell (blk_drew HX4.out) 10
  have x11 := blk_cell (blk_drew HX4.out) 11
  have y2 : w4.drew.cell? ⟨bx tx, 2, none⟩ = some (.int .u64 (X tx).last) := blk_cell (blk_drew (HT4.out.at_ tx HI.out)) 2
  have v0 := blk_cell (blk_drew HW4.out) 0
  have v1 := blk_cell (blk_drew HW4.out) 1
  have hpn : (pv != (X tx).last) = false := by simp [HPL.out]
  refine start_ (n := 16) (S := fun wx => wx.cell? ⟨w.heap.size, 0, none⟩ = some (.int .i64 k) ∧ wx.cell? ⟨w.heap.size, 1, none⟩ = some (.int .u64 ls) ∧ wx.cell? ⟨w.heap.size, 2, none⟩ = some (.int .i64 tx) ∧ wx.cell? ⟨w.heap.size, 3, none⟩ = some (.int .u64 pv) ∧ wx.cell? ⟨w.heap.size, 4, none⟩ = some (.int .u64 un) ∧ wx.cell? ⟨w.heap.size, 5, none⟩ = some (.int .i64 pg) ∧ wx.cell? ⟨w.heap.size, 6, none⟩ = some (.int .i64 ak) ∧ wx.cell? ⟨w.heap.size, 7, none⟩ = some (.string a) ∧ wx.cell? ⟨w.heap.size, 8, none⟩ = some (.string b) ∧ wx.cell? ⟨w.heap.size, 9, none⟩ = some (.string c) ∧ wx.cell? ⟨w.heap.size, 10, none⟩ = some (.slice At 0 ct) ∧ wx.cell? ⟨w.heap.size, 11, none⟩ = some (.slice Ad 0 cd) ∧ wx.cell? ⟨bx tx, 2, none⟩ = some (.int .u64 (X tx).last) ∧ wx.cell? ⟨WB, 0, none⟩ = some (.func (.func 43) #[] #[]) ∧ wx.cell? ⟨WB, 1, none⟩ = some (.func (.func g) #[] #[])) (ds := []) #[false, false, false, false, false, false, false, false, false, false, false, false, false, false, false, false] (by kernel_rfl) rfl rfl (⟨x0, x1, x2, x3, x4, x5, x6, x7, x8, x9, x10, x11, y2, v0, v1⟩) (fun hHeld => ?_)
  refine pure_ (i := 0) (N := some 36) (v := ?_) (a' := ?_) #[true, false, false, false, false, false, false, false, false, false, false, false, false, false, false, false] rfl rfl (by kernel_rfl) (fun _ _ _ h => h) (Or.inl ⟨by rfl, ?_⟩) ?_ ?_
  rotate_left
  · intro w'
    go_simp
    all_goals (with_reducible rfl)
  rotate_left
  · simp only [Act.put, List.setIfInBounds_toArray, List.set_cons_zero, List.set_cons_succ, i64_w, i32_w]
    rfl
  refine pure_ (i := 2) (N := some 38) (v := ?_) (a' := ?_) #[true, false, true, false, false, false, false, false, false, false, false, false, false, false, false, false] rfl rfl (by kernel_rfl) (fun _ _ _ h => h) (Or.inl ⟨by rfl, ?_⟩) ?_ ?_
  rotate_left
  · intro w'
    go_simp
    all_goals (with_reducible rfl)
  rotate_left
  · simp only [Act.put, List.setIfInBounds_toArray, List.set_cons_zero, List.set_cons_succ, i64_w, i32_w]
    rfl
  refine pure_ (i := 3) (N := some 39) (v := ?_) (a' := ?_) #[true, false, true, true, false, false, false, false, false, false, false, false, false, false, false, false] rfl rfl (by kernel_rfl) (fun _ _ _ h => h) (Or.inl ⟨by rfl, ?_⟩) ?_ ?_
  rotate_left
  · intro w'
    go_simp
    all_goals (with_reducible rfl)
  rotate_left
  · simp only [Act.put, List.setIfInBounds_toArray, List.set_cons_zero, List.set_cons_succ, i64_w, i32_w]
    rfl
  refine pure_ (i := 4) (N := some 40) (v := ?_) (a' := ?_) #[true, false, true, true, true, false, false, false, false, false, false, false, false, false, false, false] rfl rfl (by kernel_rfl) (fun _ _ _ h => h) (Or.inl ⟨by rfl, ?_⟩) ?_ ?_
  rotate_left
  · intro w'
    go_simp
    all_goals (with_reducible rfl)
  rotate_left
  · simp only [Act.put, List.setIfInBounds_toArray, List.set_cons_zero, List.set_cons_succ, i64_w, i32_w]
    rfl
  refine pure_ (i := 5) (N := some 41) (v := ?_) (a' := ?_) #[true, false, true, true, true, true, false, false, false, false, false, false, false, false, false, false] rfl rfl (by kernel_rfl) (fun _ _ _ h => h) (Or.inl ⟨by rfl, ?_⟩) ?_ ?_
  rotate_left
  · intro w'
    go_simp
    all_goals (with_reducible rfl)
  rotate_left
  · simp only [Act.put, List.setIfInBounds_toArray, List.set_cons_zero, List.set_cons_succ, i64_w, i32_w]
    rfl
  refine take_ (i := 1) (N := some 37) (v := ?_) (a' := ?_) #[true, true, true, true, true, true, false, false, false, false, false, false, false, false, false, false] rfl rfl (by kernel_rfl) (fun _ _ _ h => h) (Or.inl ⟨by rfl, ?_⟩) hHeld ?_ ?_
  rotate_left
  · intro w' hSw
    (try dsimp only at hSw)
    go_simp
    all_goals (with_reducible rfl)
  rotate_left
  · simp only [Act.put, List.setIfInBounds_toArray, List.set_cons_zero, List.set_cons_succ, i64_w, i32_w]
    rfl
  refine take_ (i := 6) (N := some 42) (v := ?_) (a' := ?_) #[true, true, true, true, true, true, true, false, false, false, false, false, false, false, false, false] rfl rfl (by kernel_rfl) (fun _ _ _ h => h) (Or.inl ⟨by rfl, ?_⟩) hHeld ?_ ?_
  rotate_left
  · intro w' hSw
    (try dsimp only at hSw)
    go_simp
    all_goals (with_reducible rfl)
  rotate_left
  · simp only [Act.put, List.setIfInBounds_toArray, List.set_cons_zero, List.set_cons_succ, i64_w, i32_w]
    rfl
  refine pure_ (i := 7) (N := some 43) (v := ?_) (a' := ?_) #[true, true, true, true, true, true, true, true, false, false, false, false, false, false, false, false] rfl rfl (by kernel_rfl) (fun _ _ _ h => h) (Or.inl ⟨by rfl, ?_⟩) ?_ ?_
  rotate_left
  · intro w'
    go_simp
    all_goals (with_reducible rfl)
  rotate_left
  · simp only [Act.put, List.setIfInBounds_toArray, List.set_cons_zero, List.set_cons_succ, i64_w, i32_w]
    rfl
  refine pure_ (i := 8) (N := some 44) (v := ?_) (a' := ?_) #[true, true, true, true, true, true, true, true, true, false, false, false, false, false, false, false] rfl rfl (by kernel_rfl) (fun _ _ _ h => h) (Or.inl ⟨by rfl, ?_⟩) ?_ ?_
  rotate_left
  · intro w'
    go_simp
    all_goals (with_reducible rfl)
  rotate_left
  · simp only [Act.put, List.setIfInBounds_toArray, List.set_cons_zero, List.set_cons_succ, i64_w, i32_w]
    rfl
  refine pure_ (i := 9) (N := some 45) (v := ?_) (a' := ?_) #[true, true, true, true, true, true, true, true, true, true, false, false, false, false, false, false] rfl rfl (by kernel_rfl) (fun _ _ _ h => h) (Or.inl ⟨by rfl, ?_⟩) ?_ ?_
  rotate_left
  · intro w'
    go_simp
    all_goals (with_reducible rfl)
  rotate_left
  · simp only [Act.put, List.setIfInBounds_toArray, List.set_cons_zero, List.set_cons_succ, i64_w, i32_w]
    rfl
  refine pure_ (i := 11) (N := some 47) (v := ?_) (a' := ?_) #[true, true, true, true, true, true, true, true, true, true, false, true, false, false, false, false] rfl rfl (by kernel_rfl) (fun _ _ _ h => h) (Or.inl ⟨by rfl, ?_⟩) ?_ ?_
  rotate_left
  · intro w'
    go_simp
    all_goals (with_reducible rfl)
  rotate_left
  · simp only [Act.put, List.setIfInBounds_toArray, List.set_cons_zero, List.set_cons_succ, i64_w, i32_w]
    rfl
  refine take_ (i := 10) (N := some 46) (v := ?_) (a' := ?_) #[true, true, true, true, true, true, true, true, true, true, true, true, false, false, false, false] rfl rfl (by kernel_rfl) (fun _ _ _ h => h) (Or.inl ⟨by rfl, ?_⟩) hHeld ?_ ?_
  rotate_left
  · intro w' hSw
    (try dsimp only at hSw)
    go_simp
    all_goals (with_reducible rfl)
  rotate_left
  · simp only [Act.put, List.setIfInBounds_toArray, List.set_cons_zero, List.set_cons_succ, i64_w, i32_w]
    rfl
  refine take_ (i := 12) (N := some 48) (v := ?_) (a' := ?_) #[true, true, true, true, true, true, true, true, true, true, true, true, true, false, false, false] rfl rfl (by kernel_rfl) (fun _ _ _ h => h) (Or.inl ⟨by rfl, ?_⟩) hHeld ?_ ?_
  rotate_left
  · intro w' hSw
    (try dsimp only at hSw)
    go_simp
    all_goals (with_reducible rfl)
  rotate_left
  · simp only [Act.put, List.setIfInBounds_toArray, List.set_cons_zero, List.set_cons_succ, i64_w, i32_w]
    rfl
  refine one_ (i := 13) (N := some 49) #[true, true, true, true, true, true, true, true, true, true, true, true, true, true, false, false] rfl rfl (by kernel_rfl) (by decide) (fun K hK => ?_)
  go_simp
  go_at_call 43
  refine (open_calls w4.drew (bx tx) tx (X tx) k ls tx pv un pg ak a b c At Ad 0 ct 0 cd (HT4.out.at_ tx HI.out)).mono ?_
  rintro e w5 ⟨rfl, hb⟩
  rw [hlt]
  have HB5 := Aside0.mk (below_then (below_drew HB4.out) (below_drew HB4.out).size hb)
  have HX5 := Aside0.mk (blk_below (blk_drew HX4.out) hb)
  have HT5 := Aside0.mk ((HT4.out.next (below_drew (Below.refl _ _))).next hb)
  have HW5 := Aside0.mk (blk_below (blk_drew HW4.out) hb)
  clear hb x0 x1 x2 x3 x4 x5 x6 x7 x8 x9 x10 x11 y2 v0 v1
  have x0 := blk_cell HX5.out 0
  have x1 := blk_cell HX5.out 1
  have x2 := blk_cell HX5.out 2
  have x3 := blk_cell HX5.out 3
  have x4 := blk_cell HX5.out 4
  have x5 := blk_cell HX5.out 5
  have x6 := blk_cell HX5.out 6
  have x7 := blk_cell HX5.out 7
  have x8 := blk_cell HX5.out 8
  have x9 := blk_cell HX5.out 9
  have x10 := blk_cell HX5.out 10
  have x11 := blk_cell HX5.out 11
  have y2 : w5.cell? ⟨bx tx, 2, none⟩ = some (.int .u64 (X tx).last) := blk_cell (HT5.out.at_ tx HI.out) 2
  have v0 := blk_cell HW5.out 0
  have v1 := blk_cell HW5.out 1
  (try go_wp2_with fail)
  refine hK.out _ _ (⟨x0, x1, x2, x3, x4, x5, x6, x7, x8, x9, x10, x11, y2, v0, v1⟩) (fun hHeld => ?_)
  clear hK K
  (try simp only [Act.put, List.setIfInBounds_toArray, List.set_cons_zero, List.set_cons_succ])
  refine pure_ (i := 14) (N := some 50) (v := ?_) (a' := ?_) #[true, true, true, true, true, true, true, true, true, true, true, true, true, true, true, false] rfl rfl (by kernel_rfl) (fun _ _ _ h => h) (Or.inl ⟨by rfl, ?_⟩) ?_ ?_
  rotate_left
  · intro w'
    go_simp
    all_goals (with_reducible rfl)
  rotate_left
  · simp only [Act.put, List.setIfInBounds_toArray, List.set_cons_zero, List.set_cons_succ, i64_w, i32_w]
    rfl
  refine pure_ (i := 15) (N := some 51) (v := ?_) (a' := ?_) #[true, true, true, true, true, true, true, true, true, true, true, true, true, true, true, true] rfl rfl (by kernel_rfl) (fun _ _ _ h => h) (Or.inl ⟨by rfl, ?_⟩) ?_ ?_
  rotate_left
  · intro w'
    go_simp
    all_goals (with_reducible rfl)
  rotate_left
  · simp only [Act.put, List.setIfInBounds_toArray, List.set_cons_zero, List.set_cons_succ, i64_w, i32_w]
    rfl
  refine done_ (by kernel_rfl) ?_


  go_wp2_with fail
  go_ret
  exact ⟨rfl, HT5.out⟩
set_option maxRecDepth 100000 in
set_option maxHeartbeats 8000000 in
theorem notes_calls (w0 : Wb) (w : World) (t mb : Nat) (bx : Int → Nat) (ks : List Int) (X : Int → TX)  (ls tx pv un pg ak : Int) (a b c : ByteArray) (At Ad : Option Addr) (ct cd : Nat) (h : Tab w0 w t mb bx ks X) (hi : tx ∈ ks)
    (hok : recOk 5 ls tx pv un pg ak a b c [] [] = true) (hpl : pv = (X tx).last) (hlt : ((X tx).st != 0) = false) :
    Calls Try.prog 12 #[.pointer (some ⟨t, 0, none⟩), .agg #[.int .i64 5, .int .u64 ls, .int .i64 tx, .int .u64 pv, .int .u64 un, .int .i64 pg, .int .i64 ak, .string a, .string b, .string c, .slice At 0 ct, .slice Ad 0 cd]] w fun e w' => e = .returned (.int .i64 10) ∧ Tab w0 w' t mb bx ks X := by
  skip
  have hck := fun (W : World) => check_calls W 5 ls tx pv un pg ak a b c At ct [] Ad cd [] (nilCA _ _ _) (Nat.zero_le _) (nilCA _ _ _) (Nat.zero_le _)
  skip
  rw [hok] at hck
  simp only [List.length_nil] at hck
  have hba : Below w.heap.size w (w.alloc (.cells #[.int .i64 5, .int .u64 ls, .int .i64 tx, .int .u64 pv, .int .u64 un, .int .i64 pg, .int .i64 ak, .string a, .string b, .string c, .slice At 0 ct, .slice Ad 0 cd] 39)) := below_alloc (Below.refl _ _) _
  have hxa : (w.alloc (.cells #[.int .i64 5, .int .u64 ls, .int .i64 tx, .int .u64 pv, .int .u64 un, .int .i64 pg, .int .i64 ak, .string a, .string b, .string c, .slice At 0 ct, .slice Ad 0 cd] 39)).heap[w.heap.size]? = some (.cells #[.int .i64 5, .int .u64 ls, .int .i64 tx, .int .u64 pv, .int .u64 un, .int .i64 pg, .int .i64 ak, .string a, .string b, .string c, .slice At 0 ct, .slice Ad 0 cd] 39 (0, 0)) := heap_alloc_new w _
  have hta := h.next hba
  have HLT := Aside0.mk (h.lt tx hi)
  have HI := Aside0.mk hi
  have HPL := Aside0.mk hpl
  have HOK := Aside0.mk hok
  clear h hi hok hpl
  go_enter Try.func12, Try.ntmps12
  go_wp2_with fail
  generalize w.alloc (.cells #[.int .i64 5, .int .u64 ls, .int .i64 tx, .int .u64 pv, .int .u64 un, .int .i64 pg, .int .i64 ak, .string a, .string b, .string c, .slice At 0 ct, .slice Ad 0 cd] 39) = wa at hba hxa hta ⊢
  refine (hck wa).mono ?_
  rintro e w1 ⟨rfl, hb⟩
  have ec : cde true = 0 := rfl
  rw [ec]
  have HB1 := Aside0.mk (below_then hba hba.size hb)
  have HX1 := Aside0.mk (blk_below hxa hb)
  have HT1 := Aside0.mk (hta.next hb)
  clear hb hck hba hxa hta ec
  have x0 := blk_cell HX1.out 0
  have x1 := blk_cell HX1.out 1
  have x2 := blk_cell HX1.out 2
  have x3 := blk_cell HX1.out 3
  have x4 := blk_cell HX1.out 4
  have x5 := blk_cell HX1.out 5
  have x6 := blk_cell HX1.out 6
  have x7 := blk_cell HX1.out 7
  have x8 := blk_cell HX1.out 8
  have x9 := blk_cell HX1.out 9
  have x10 := blk_cell HX1.out 10
  have x11 := blk_cell HX1.out 11
  go_wp2_with fail
  have hl := fun n => (HT1.out.next (show Below w1.heap.size w1 (w1.drewN n) from ⟨rfl, rfl, rfl, Nat.le_refl _, fun _ _ => rfl⟩)).look tx
  have hl' := HT1.out.look tx
  simp only [if_pos HI.out] at hl hl'
  unfold ptrs at hl hl'
  have hc := blk_cell HT1.out.box 0
  go_quiet (fail)
  clear hl hl' hc x0 x1 x2 x3 x4 x5 x6 x7 x8 x9 x10 x11
  have HB2 := Aside0.mk (show Below w.heap.size w (w1.drewN nq) from ⟨HB1.out.os, HB1.out.tape, HB1.out.output, HB1.out.size, HB1.out.block⟩)
  have HX2 := Aside0.mk (show (w1.drewN nq).heap[w.heap.size]? = some (.cells #[.int .i64 5, .int .u64 ls, .int .i64 tx, .int .u64 pv, .int .u64 un, .int .i64 pg, .int .i64 ak, .string a, .string b, .string c, .slice At 0 ct, .slice Ad 0 cd] 39 (0, 0)) from HX1.out)
  have HT2 := Aside0.mk (HT1.out.next (show Below w1.heap.size w1 (w1.drewN nq) from ⟨rfl, rfl, rfl, Nat.le_refl _, fun _ _ => rfl⟩))
  generalize w1.drewN nq = w2 at HB2 HX2 HT2 ⊢
  have x0 := blk_cell HX2.out 0
  have x1 := blk_cell HX2.out 1
  have x2 := blk_cell HX2.out 2
  have x3 := blk_cell HX2.out 3
  have x4 := blk_cell HX2.out 4
  have x5 := blk_cell HX2.out 5
  have x6 := blk_cell HX2.out 6
  have x7 := blk_cell HX2.out 7
  have x8 := blk_cell HX2.out 8
  have x9 := blk_cell HX2.out 9
  have x10 := blk_cell HX2.out 10
  have x11 := blk_cell HX2.out 11
  go_wp2_with fail
  refine (ways_tab w2 5 49 50 (by decide)).mono ?_
  rintro e w3 ⟨rfl, hb⟩
  have HB3 := Aside0.mk (below_then HB2.out HB2.out.size hb)
  have HX3 := Aside0.mk (blk_below HX2.out hb)
  have HT3 := Aside0.mk (HT2.out.next hb)
  clear hb x0 x1 x2 x3 x4 x5 x6 x7 x8 x9 x10 x11
  unfold fn0
  go_wp2_with fail
  obtain ⟨WB, hWB⟩ : ∃ x, x = w3.heap.size := ⟨_, rfl⟩
  have hw4 : (w3.alloc (.cells #[.func (.func 49) #[] #[], .func (.func 50) #[] #[]] 78)).heap[w3.heap.size]? = some (.cells #[.func (.func 49) #[] #[], .func (.func 50) #[] #[]] 78 (0, 0)) := heap_alloc_new w3 _
  have hb4 : Below w3.heap.size w3 (w3.alloc (.cells #[.func (.func 49) #[] #[], .func (.func 50) #[] #[]] 78)) := below_alloc (Below.refl _ _) _
  generalize w3.alloc (.cells #[.func (.func 49) #[] #[], .func (.func 50) #[] #[]] 78) = w4 at hw4 hb4 ⊢
  rw [← hWB] at hw4 ⊢
  have HW4 := Aside0.mk hw4
  have HWB := Aside0.mk (show w.heap.size ≤ WB by rw [hWB]; exact HB3.out.size)
  have HB4 := Aside0.mk (below_then HB3.out HB3.out.size hb4)
  have HX4 := Aside0.mk (blk_below HX3.out hb4)
  have HT4 := Aside0.mk (HT3.out.next hb4)
  clear hw4 hb4 hWB
  have x0 := blk_cell (blk_drew HX4.out) 0
  have x1 := blk_cell (blk_drew HX4.out) 1
  have x2 := blk_cell (blk_drew HX4.out) 2
  have x3 := blk_cell (blk_drew HX4.out) 3
  have x4 := blk_cell (blk_drew HX4.out) 4
  have x5 := blk_cell (blk_drew HX4.out) 5
  have x6 := blk_cell (blk_drew HX4.out) 6
  have x7 := blk_cell (blk_drew HX4.out) 7
  have x8 := blk_cell (blk_drew HX4.out) 8
  have x9 := blk_cell (blk_drew HX4.out) 9
  have x10 := blk_cell (blk_drew HX4.out) 10
  have x11 := blk_cell (blk_drew HX4.out) 11
  have y2 : w4.drew.cell? ⟨bx tx, 2, none⟩ = some (.int .u64 (X tx).last) := blk_cell (blk_drew (HT4.out.at_ tx HI.out)) 2
  have v0 := blk_cell (blk_drew HW4.out) 0
  have v1 := blk_cell (blk_drew HW4.out) 1
  have hpn : (pv != (X tx).last) = false := by simp [HPL.out]
  refine start_ (n := 16) (S := fun wx => wx.cell? ⟨w.heap.size, 0, none⟩ = some (.int .i64 5) ∧ wx.cell? ⟨w.heap.size, 1, none⟩ = some (.int .u64 ls) ∧ wx.cell? ⟨w.heap.size, 2, none⟩ = some (.int .i64 tx) ∧ wx.cell? ⟨w.heap.size, 3, none⟩ = some (.int .u64 pv) ∧ wx.cell? ⟨w.heap.size, 4, none⟩ = some (.int .u64 un) ∧ wx.cell? ⟨w.heap.size, 5, none⟩ = some (.int .i64 pg) ∧ wx.cell? ⟨w.heap.size, 6, none⟩ = some (.int .i64 ak) ∧ wx.cell? ⟨w.heap.size, 7, none⟩ = some (.string a) ∧ wx.cell? ⟨w.heap.size, 8, none⟩ = some (.string b) ∧ wx.cell? ⟨w.heap.size, 9, none⟩ = some (.string c) ∧ wx.cell? ⟨w.heap.size, 10, none⟩ = some (.slice At 0 ct) ∧ wx.cell? ⟨w.heap.size, 11, none⟩ = some (.slice Ad 0 cd) ∧ wx.cell? ⟨bx tx, 2, none⟩ = some (.int .u64 (X tx).last) ∧ wx.cell? ⟨WB, 0, none⟩ = some (.func (.func 49) #[] #[]) ∧ wx.cell? ⟨WB, 1, none⟩ = some (.func (.func 50) #[] #[])) (ds := []) #[false, false, false, false, false, false, false, false, false, false, false, false, false, false, false, false] (by kernel_rfl) rfl rfl (⟨x0, x1, x2, x3, x4, x5, x6, x7, x8, x9, x10, x11, y2, v0, v1⟩) (fun hHeld => ?_)
  refine pure_ (i := 0) (N := some 36) (v := ?_) (a' := ?_) #[true, false, false, false, false, false, false, false, false, false, false, false, false, false, false, false] rfl rfl (by kernel_rfl) (fun _ _ _ h => h) (Or.inl ⟨by rfl, ?_⟩) ?_ ?_
  rotate_left
  · intro w'
    go_simp
    all_goals (with_reducible rfl)
  rotate_left
  · simp only [Act.put, List.setIfInBounds_toArray, List.set_cons_zero, List.set_cons_succ, i64_w, i32_w]
    rfl
  refine pure_ (i := 2) (N := some 38) (v := ?_) (a' := ?_) #[true, false, true, false, false, false, false, false, false, false, false, false, false, false, false, false] rfl rfl (by kernel_rfl) (fun _ _ _ h => h) (Or.inl ⟨by rfl, ?_⟩) ?_ ?_
  rotate_left
  · intro w'
    go_simp
    all_goals (with_reducible rfl)
  rotate_left
  · simp only [Act.put, List.setIfInBounds_toArray, List.set_cons_zero, List.set_cons_succ, i64_w, i32_w]
    rfl
  refine pure_ (i := 3) (N := some 39) (v := ?_) (a' := ?_) #[true, false, true, true, false, false, false, false, false, false, false, false, false, false, false, false] rfl rfl (by kernel_rfl) (fun _ _ _ h => h) (Or.inl ⟨by rfl, ?_⟩) ?_ ?_
  rotate_left
  · intro w'
    go_simp
    all_goals (with_reducible rfl)
  rotate_left
  · simp only [Act.put, List.setIfInBounds_toArray, List.set_cons_zero, List.set_cons_succ, i64_w, i32_w]
    rfl
  refine pure_ (i := 4) (N := some 40) (v := ?_) (a' := ?_) #[true, false, true, true, true, false, false, false, false, false, false, false, false, false, false, false] rfl rfl (by kernel_rfl) (fun _ _ _ h => h) (Or.inl ⟨by rfl, ?_⟩) ?_ ?_
  rotate_left
  · intro w'
    go_simp
    all_goals (with_reducible rfl)
  rotate_left
  · simp only [Act.put, List.setIfInBounds_toArray, List.set_cons_zero, List.set_cons_succ, i64_w, i32_w]
    rfl
  refine pure_ (i := 5) (N := some 41) (v := ?_) (a' := ?_) #[true, false, true, true, true, true, false, false, false, false, false, false, false, false, false, false] rfl rfl (by kernel_rfl) (fun _ _ _ h => h) (Or.inl ⟨by rfl, ?_⟩) ?_ ?_
  rotate_left
  · intro w'
    go_simp
    all_goals (with_reducible rfl)
  rotate_left
  · simp only [Act.put, List.setIfInBounds_toArray, List.set_cons_zero, List.set_cons_succ, i64_w, i32_w]
    rfl
  refine take_ (i := 1) (N := some 37) (v := ?_) (a' := ?_) #[true, true, true, true, true, true, false, false, false, false, false, false, false, false, false, false] rfl rfl (by kernel_rfl) (fun _ _ _ h => h) (Or.inl ⟨by rfl, ?_⟩) hHeld ?_ ?_
  rotate_left
  · intro w' hSw
    (try dsimp only at hSw)
    go_simp
    all_goals (with_reducible rfl)
  rotate_left
  · simp only [Act.put, List.setIfInBounds_toArray, List.set_cons_zero, List.set_cons_succ, i64_w, i32_w]
    rfl
  refine take_ (i := 6) (N := some 42) (v := ?_) (a' := ?_) #[true, true, true, true, true, true, true, false, false, false, false, false, false, false, false, false] rfl rfl (by kernel_rfl) (fun _ _ _ h => h) (Or.inl ⟨by rfl, ?_⟩) hHeld ?_ ?_
  rotate_left
  · intro w' hSw
    (try dsimp only at hSw)
    go_simp
    all_goals (with_reducible rfl)
  rotate_left
  · simp only [Act.put, List.setIfInBounds_toArray, List.set_cons_zero, List.set_cons_succ, i64_w, i32_w]
    rfl
  refine pure_ (i := 7) (N := some 43) (v := ?_) (a' := ?_) #[true, true, true, true, true, true, true, true, false, false, false, false, false, false, false, false] rfl rfl (by kernel_rfl) (fun _ _ _ h => h) (Or.inl ⟨by rfl, ?_⟩) ?_ ?_
  rotate_left
  · intro w'
    go_simp
    all_goals (with_reducible rfl)
  rotate_left
  · simp only [Act.put, List.setIfInBounds_toArray, List.set_cons_zero, List.set_cons_succ, i64_w, i32_w]
    rfl
  refine pure_ (i := 8) (N := some 44) (v := ?_) (a' := ?_) #[true, true, true, true, true, true, true, true, true, false, false, false, false, false, false, false] rfl rfl (by kernel_rfl) (fun _ _ _ h => h) (Or.inl ⟨by rfl, ?_⟩) ?_ ?_
  rotate_left
  · intro w'
    go_simp
    all_goals (with_reducible rfl)
  rotate_left
  · simp only [Act.put, List.setIfInBounds_toArray, List.set_cons_zero, List.set_cons_succ, i64_w, i32_w]
    rfl
  refine pure_ (i := 9) (N := some 45) (v := ?_) (a' := ?_) #[true, true, true, true, true, true, true, true, true, true, false, false, false, false, false, false] rfl rfl (by kernel_rfl) (fun _ _ _ h => h) (Or.inl ⟨by rfl, ?_⟩) ?_ ?_
  rotate_left
  · intro w'
    go_simp
    all_goals (with_reducible rfl)
  rotate_left
  · simp only [Act.put, List.setIfInBounds_toArray, List.set_cons_zero, List.set_cons_succ, i64_w, i32_w]
    rfl
  refine pure_ (i := 11) (N := some 47) (v := ?_) (a' := ?_) #[true, true, true, true, true, true, true, true, true, true, false, true, false, false, false, false] rfl rfl (by kernel_rfl) (fun _ _ _ h => h) (Or.inl ⟨by rfl, ?_⟩) ?_ ?_
  rotate_left
  · intro w'
    go_simp
    all_goals (with_reducible rfl)
  rotate_left
  · simp only [Act.put, List.setIfInBounds_toArray, List.set_cons_zero, List.set_cons_succ, i64_w, i32_w]
    rfl
  refine take_ (i := 10) (N := some 46) (v := ?_) (a' := ?_) #[true, true, true, true, true, true, true, true, true, true, true, true, false, false, false, false] rfl rfl (by kernel_rfl) (fun _ _ _ h => h) (Or.inl ⟨by rfl, ?_⟩) hHeld ?_ ?_
  rotate_left
  · intro w' hSw
    (try dsimp only at hSw)
    go_simp
    all_goals (with_reducible rfl)
  rotate_left
  · simp only [Act.put, List.setIfInBounds_toArray, List.set_cons_zero, List.set_cons_succ, i64_w, i32_w]
    rfl
  refine take_ (i := 12) (N := some 48) (v := ?_) (a' := ?_) #[true, true, true, true, true, true, true, true, true, true, true, true, true, false, false, false] rfl rfl (by kernel_rfl) (fun _ _ _ h => h) (Or.inl ⟨by rfl, ?_⟩) hHeld ?_ ?_
  rotate_left
  · intro w' hSw
    (try dsimp only at hSw)
    go_simp
    all_goals (with_reducible rfl)
  rotate_left
  · simp only [Act.put, List.setIfInBounds_toArray, List.set_cons_zero, List.set_cons_succ, i64_w, i32_w]
    rfl
  refine one_ (i := 13) (N := some 49) #[true, true, true, true, true, true, true, true, true, true, true, true, true, true, false, false] rfl rfl (by kernel_rfl) (by decide) (fun K hK => ?_)
  go_simp
  go_at_call 49
  refine (shut_calls w4.drew (bx tx) tx (X tx) 5 ls tx pv un pg ak a b c At Ad 0 ct 0 cd (HT4.out.at_ tx HI.out)).mono ?_
  rintro e w5 ⟨rfl, hb⟩
  rw [hlt]
  have HB5 := Aside0.mk (below_then (below_drew HB4.out) (below_drew HB4.out).size hb)
  have HX5 := Aside0.mk (blk_below (blk_drew HX4.out) hb)
  have HT5 := Aside0.mk ((HT4.out.next (below_drew (Below.refl _ _))).next hb)
  have HW5 := Aside0.mk (blk_below (blk_drew HW4.out) hb)
  clear hb x0 x1 x2 x3 x4 x5 x6 x7 x8 x9 x10 x11 y2 v0 v1
  have x0 := blk_cell HX5.out 0
  have x1 := blk_cell HX5.out 1
  have x2 := blk_cell HX5.out 2
  have x3 := blk_cell HX5.out 3
  have x4 := blk_cell HX5.out 4
  have x5 := blk_cell HX5.out 5
  have x6 := blk_cell HX5.out 6
  have x7 := blk_cell HX5.out 7
  have x8 := blk_cell HX5.out 8
  have x9 := blk_cell HX5.out 9
  have x10 := blk_cell HX5.out 10
  have x11 := blk_cell HX5.out 11
  have y2 : w5.cell? ⟨bx tx, 2, none⟩ = some (.int .u64 (X tx).last) := blk_cell (HT5.out.at_ tx HI.out) 2
  have v0 := blk_cell HW5.out 0
  have v1 := blk_cell HW5.out 1
  (try go_wp2_with fail)
  refine hK.out _ _ (⟨x0, x1, x2, x3, x4, x5, x6, x7, x8, x9, x10, x11, y2, v0, v1⟩) (fun hHeld => ?_)
  clear hK K
  (try simp only [Act.put, List.setIfInBounds_toArray, List.set_cons_zero, List.set_cons_succ])
  refine pure_ (i := 14) (N := some 50) (v := ?_) (a' := ?_) #[true, true, true, true, true, true, true, true, true, true, true, true, true, true, true, false] rfl rfl (by kernel_rfl) (fun _ _ _ h => h) (Or.inl ⟨by rfl, ?_⟩) ?_ ?_
  rotate_left
  · intro w'
    go_simp
    all_goals (with_reducible rfl)
  rotate_left
  · simp only [Act.put, List.setIfInBounds_toArray, List.set_cons_zero, List.set_cons_succ, i64_w, i32_w]
    rfl
  refine pure_ (i := 15) (N := some 51) (v := ?_) (a' := ?_) #[true, true, true, true, true, true, true, true, true, true, true, true, true, true, true, true] rfl rfl (by kernel_rfl) (fun _ _ _ h => h) (Or.inl ⟨by rfl, ?_⟩) ?_ ?_
  rotate_left
  · intro w'
    go_simp
    all_goals (with_reducible rfl)
  rotate_left
  · simp only [Act.put, List.setIfInBounds_toArray, List.set_cons_zero, List.set_cons_succ, i64_w, i32_w]
    rfl
  refine done_ (by kernel_rfl) ?_


  go_wp2_with fail
  go_ret
  exact ⟨rfl, HT5.out⟩
set_option maxRecDepth 100000 in
set_option maxHeartbeats 8000000 in
theorem noteu_calls (w0 : Wb) (w : World) (t mb : Nat) (bx : Int → Nat) (ks : List Int) (X : Int → TX)  (ls tx pv un pg ak : Int) (a b c : ByteArray) (At Ad : Option Addr) (ct cd : Nat) (h : Tab w0 w t mb bx ks X) (hi : tx ∈ ks)
    (hok : recOk 2 ls tx pv un pg ak a b c [] [] = true) (hpl : pv = (X tx).last) (hlt : (((X tx).st != 1) && decide (un < (X tx).next)) = false) :
    Calls Try.prog 12 #[.pointer (some ⟨t, 0, none⟩), .agg #[.int .i64 2, .int .u64 ls, .int .i64 tx, .int .u64 pv, .int .u64 un, .int .i64 pg, .int .i64 ak, .string a, .string b, .string c, .slice At 0 ct, .slice Ad 0 cd]] w fun e w' => e = .returned (.int .i64 10) ∧ Tab w0 w' t mb bx ks X := by
  skip
  have hck := fun (W : World) => check_calls W 2 ls tx pv un pg ak a b c At ct [] Ad cd [] (nilCA _ _ _) (Nat.zero_le _) (nilCA _ _ _) (Nat.zero_le _)
  skip
  rw [hok] at hck
  simp only [List.length_nil] at hck
  have hba : Below w.heap.size w (w.alloc (.cells #[.int .i64 2, .int .u64 ls, .int .i64 tx, .int .u64 pv, .int .u64 un, .int .i64 pg, .int .i64 ak, .string a, .string b, .string c, .slice At 0 ct, .slice Ad 0 cd] 39)) := below_alloc (Below.refl _ _) _
  have hxa : (w.alloc (.cells #[.int .i64 2, .int .u64 ls, .int .i64 tx, .int .u64 pv, .int .u64 un, .int .i64 pg, .int .i64 ak, .string a, .string b, .string c, .slice At 0 ct, .slice Ad 0 cd] 39)).heap[w.heap.size]? = some (.cells #[.int .i64 2, .int .u64 ls, .int .i64 tx, .int .u64 pv, .int .u64 un, .int .i64 pg, .int .i64 ak, .string a, .string b, .string c, .slice At 0 ct, .slice Ad 0 cd] 39 (0, 0)) := heap_alloc_new w _
  have hta := h.next hba
  have HLT := Aside0.mk (h.lt tx hi)
  have HI := Aside0.mk hi
  have HPL := Aside0.mk hpl
  have HOK := Aside0.mk hok
  clear h hi hok hpl
  go_enter Try.func12, Try.ntmps12
  go_wp2_with fail
  generalize w.alloc (.cells #[.int .i64 2, .int .u64 ls, .int .i64 tx, .int .u64 pv, .int .u64 un, .int .i64 pg, .int .i64 ak, .string a, .string b, .string c, .slice At 0 ct, .slice Ad 0 cd] 39) = wa at hba hxa hta ⊢
  refine (hck wa).mono ?_
  rintro e w1 ⟨rfl, hb⟩
  have ec : cde true = 0 := rfl
  rw [ec]
  have HB1 := Aside0.mk (below_then hba hba.size hb)
  have HX1 := Aside0.mk (blk_below hxa hb)
  have HT1 := Aside0.mk (hta.next hb)
  clear hb hck hba hxa hta ec
  have x0 := blk_cell HX1.out 0
  have x1 := blk_cell HX1.out 1
  have x2 := blk_cell HX1.out 2
  have x3 := blk_cell HX1.out 3
  have x4 := blk_cell HX1.out 4
  have x5 := blk_cell HX1.out 5
  have x6 := blk_cell HX1.out 6
  have x7 := blk_cell HX1.out 7
  have x8 := blk_cell HX1.out 8
  have x9 := blk_cell HX1.out 9
  have x10 := blk_cell HX1.out 10
  have x11 := blk_cell HX1.out 11
  go_wp2_with fail
  have hl := fun n => (HT1.out.next (show Below w1.heap.size w1 (w1.drewN n) from ⟨rfl, rfl, rfl, Nat.le_refl _, fun _ _ => rfl⟩)).look tx
  have hl' := HT1.out.look tx
  simp only [if_pos HI.out] at hl hl'
  unfold ptrs at hl hl'
  have hc := blk_cell HT1.out.box 0
  go_quiet (fail)
  clear hl hl' hc x0 x1 x2 x3 x4 x5 x6 x7 x8 x9 x10 x11
  have HB2 := Aside0.mk (show Below w.heap.size w (w1.drewN nq) from ⟨HB1.out.os, HB1.out.tape, HB1.out.output, HB1.out.size, HB1.out.block⟩)
  have HX2 := Aside0.mk (show (w1.drewN nq).heap[w.heap.size]? = some (.cells #[.int .i64 2, .int .u64 ls, .int .i64 tx, .int .u64 pv, .int .u64 un, .int .i64 pg, .int .i64 ak, .string a, .string b, .string c, .slice At 0 ct, .slice Ad 0 cd] 39 (0, 0)) from HX1.out)
  have HT2 := Aside0.mk (HT1.out.next (show Below w1.heap.size w1 (w1.drewN nq) from ⟨rfl, rfl, rfl, Nat.le_refl _, fun _ _ => rfl⟩))
  generalize w1.drewN nq = w2 at HB2 HX2 HT2 ⊢
  have x0 := blk_cell HX2.out 0
  have x1 := blk_cell HX2.out 1
  have x2 := blk_cell HX2.out 2
  have x3 := blk_cell HX2.out 3
  have x4 := blk_cell HX2.out 4
  have x5 := blk_cell HX2.out 5
  have x6 := blk_cell HX2.out 6
  have x7 := blk_cell HX2.out 7
  have x8 := blk_cell HX2.out 8
  have x9 := blk_cell HX2.out 9
  have x10 := blk_cell HX2.out 10
  have x11 := blk_cell HX2.out 11
  go_wp2_with fail
  refine (ways_tab w2 2 45 46 (by decide)).mono ?_
  rintro e w3 ⟨rfl, hb⟩
  have HB3 := Aside0.mk (below_then HB2.out HB2.out.size hb)
  have HX3 := Aside0.mk (blk_below HX2.out hb)
  have HT3 := Aside0.mk (HT2.out.next hb)
  clear hb x0 x1 x2 x3 x4 x5 x6 x7 x8 x9 x10 x11
  unfold fn0
  go_wp2_with fail
  obtain ⟨WB, hWB⟩ : ∃ x, x = w3.heap.size := ⟨_, rfl⟩
  have hw4 : (w3.alloc (.cells #[.func (.func 45) #[] #[], .func (.func 46) #[] #[]] 78)).heap[w3.heap.size]? = some (.cells #[.func (.func 45) #[] #[], .func (.func 46) #[] #[]] 78 (0, 0)) := heap_alloc_new w3 _
  have hb4 : Below w3.heap.size w3 (w3.alloc (.cells #[.func (.func 45) #[] #[], .func (.func 46) #[] #[]] 78)) := below_alloc (Below.refl _ _) _
  generalize w3.alloc (.cells #[.func (.func 45) #[] #[], .func (.func 46) #[] #[]] 78) = w4 at hw4 hb4 ⊢
  rw [← hWB] at hw4 ⊢
  have HW4 := Aside0.mk hw4
  have HWB := Aside0.mk (show w.heap.size ≤ WB by rw [hWB]; exact HB3.out.size)
  have HB4 := Aside0.mk (below_then HB3.out HB3.out.size hb4)
  have HX4 := Aside0.mk (blk_below HX3.out hb4)
  have HT4 := Aside0.mk (HT3.out.next hb4)
  clear hw4 hb4 hWB
  have x0 := blk_cell (blk_drew HX4.out) 0
  have x1 := blk_cell (blk_drew HX4.out) 1
  have x2 := blk_cell (blk_drew HX4.out) 2
  have x3 := blk_cell (blk_drew HX4.out) 3
  have x4 := blk_cell (blk_drew HX4.out) 4
  have x5 := blk_cell (blk_drew HX4.out) 5
  have x6 := blk_cell (blk_drew HX4.out) 6
  have x7 := blk_cell (blk_drew HX4.out) 7
  have x8 := blk_cell (blk_drew HX4.out) 8
  have x9 := blk_cell (blk_drew HX4.out) 9
  have x10 := blk_cell (blk_drew HX4.out) 10
  have x11 := blk_cell (blk_drew HX4.out) 11
  have y2 : w4.drew.cell? ⟨bx tx, 2, none⟩ = some (.int .u64 (X tx).last) := blk_cell (blk_drew (HT4.out.at_ tx HI.out)) 2
  have v0 := blk_cell (blk_drew HW4.out) 0
  have v1 := blk_cell (blk_drew HW4.out) 1
  have hpn : (pv != (X tx).last) = false := by simp [HPL.out]
  refine start_ (n := 16) (S := fun wx => wx.cell? ⟨w.heap.size, 0, none⟩ = some (.int .i64 2) ∧ wx.cell? ⟨w.heap.size, 1, none⟩ = some (.int .u64 ls) ∧ wx.cell? ⟨w.heap.size, 2, none⟩ = some (.int .i64 tx) ∧ wx.cell? ⟨w.heap.size, 3, none⟩ = some (.int .u64 pv) ∧ wx.cell? ⟨w.heap.size, 4, none⟩ = some (.int .u64 un) ∧ wx.cell? ⟨w.heap.size, 5, none⟩ = some (.int .i64 pg) ∧ wx.cell? ⟨w.heap.size, 6, none⟩ = some (.int .i64 ak) ∧ wx.cell? ⟨w.heap.size, 7, none⟩ = some (.string a) ∧ wx.cell? ⟨w.heap.size, 8, none⟩ = some (.string b) ∧ wx.cell? ⟨w.heap.size, 9, none⟩ = some (.string c) ∧ wx.cell? ⟨w.heap.size, 10, none⟩ = some (.slice At 0 ct) ∧ wx.cell? ⟨w.heap.size, 11, none⟩ = some (.slice Ad 0 cd) ∧ wx.cell? ⟨bx tx, 2, none⟩ = some (.int .u64 (X tx).last) ∧ wx.cell? ⟨WB, 0, none⟩ = some (.func (.func 45) #[] #[]) ∧ wx.cell? ⟨WB, 1, none⟩ = some (.func (.func 46) #[] #[])) (ds := []) #[false, false, false, false, false, false, false, false, false, false, false, false, false, false, false, false] (by kernel_rfl) rfl rfl (⟨x0, x1, x2, x3, x4, x5, x6, x7, x8, x9, x10, x11, y2, v0, v1⟩) (fun hHeld => ?_)
  refine pure_ (i := 0) (N := some 36) (v := ?_) (a' := ?_) #[true, false, false, false, false, false, false, false, false, false, false, false, false, false, false, false] rfl rfl (by kernel_rfl) (fun _ _ _ h => h) (Or.inl ⟨by rfl, ?_⟩) ?_ ?_
  rotate_left
  · intro w'
    go_simp
    all_goals (with_reducible rfl)
  rotate_left
  · simp only [Act.put, List.setIfInBounds_toArray, List.set_cons_zero, List.set_cons_succ, i64_w, i32_w]
    rfl
  refine pure_ (i := 2) (N := some 38) (v := ?_) (a' := ?_) #[true, false, true, false, false, false, false, false, false, false, false, false, false, false, false, false] rfl rfl (by kernel_rfl) (fun _ _ _ h => h) (Or.inl ⟨by rfl, ?_⟩) ?_ ?_
  rotate_left
  · intro w'
    go_simp
    all_goals (with_reducible rfl)
  rotate_left
  · simp only [Act.put, List.setIfInBounds_toArray, List.set_cons_zero, List.set_cons_succ, i64_w, i32_w]
    rfl
  refine pure_ (i := 3) (N := some 39) (v := ?_) (a' := ?_) #[true, false, true, true, false, false, false, false, false, false, false, false, false, false, false, false] rfl rfl (by kernel_rfl) (fun _ _ _ h => h) (Or.inl ⟨by rfl, ?_⟩) ?_ ?_
  rotate_left
  · intro w'
    go_simp
    all_goals (with_reducible rfl)
  rotate_left
  · simp only [Act.put, List.setIfInBounds_toArray, List.set_cons_zero, List.set_cons_succ, i64_w, i32_w]
    rfl
  refine pure_ (i := 4) (N := some 40) (v := ?_) (a' := ?_) #[true, false, true, true, true, false, false, false, false, false, false, false, false, false, false, false] rfl rfl (by kernel_rfl) (fun _ _ _ h => h) (Or.inl ⟨by rfl, ?_⟩) ?_ ?_
  rotate_left
  · intro w'
    go_simp
    all_goals (with_reducible rfl)
  rotate_left
  · simp only [Act.put, List.setIfInBounds_toArray, List.set_cons_zero, List.set_cons_succ, i64_w, i32_w]
    rfl
  refine pure_ (i := 5) (N := some 41) (v := ?_) (a' := ?_) #[true, false, true, true, true, true, false, false, false, false, false, false, false, false, false, false] rfl rfl (by kernel_rfl) (fun _ _ _ h => h) (Or.inl ⟨by rfl, ?_⟩) ?_ ?_
  rotate_left
  · intro w'
    go_simp
    all_goals (with_reducible rfl)
  rotate_left
  · simp only [Act.put, List.setIfInBounds_toArray, List.set_cons_zero, List.set_cons_succ, i64_w, i32_w]
    rfl
  refine take_ (i := 1) (N := some 37) (v := ?_) (a' := ?_) #[true, true, true, true, true, true, false, false, false, false, false, false, false, false, false, false] rfl rfl (by kernel_rfl) (fun _ _ _ h => h) (Or.inl ⟨by rfl, ?_⟩) hHeld ?_ ?_
  rotate_left
  · intro w' hSw
    (try dsimp only at hSw)
    go_simp
    all_goals (with_reducible rfl)
  rotate_left
  · simp only [Act.put, List.setIfInBounds_toArray, List.set_cons_zero, List.set_cons_succ, i64_w, i32_w]
    rfl
  refine take_ (i := 6) (N := some 42) (v := ?_) (a' := ?_) #[true, true, true, true, true, true, true, false, false, false, false, false, false, false, false, false] rfl rfl (by kernel_rfl) (fun _ _ _ h => h) (Or.inl ⟨by rfl, ?_⟩) hHeld ?_ ?_
  rotate_left
  · intro w' hSw
    (try dsimp only at hSw)
    go_simp
    all_goals (with_reducible rfl)
  rotate_left
  · simp only [Act.put, List.setIfInBounds_toArray, List.set_cons_zero, List.set_cons_succ, i64_w, i32_w]
    rfl
  refine pure_ (i := 7) (N := some 43) (v := ?_) (a' := ?_) #[true, true, true, true, true, true, true, true, false, false, false, false, false, false, false, false] rfl rfl (by kernel_rfl) (fun _ _ _ h => h) (Or.inl ⟨by rfl, ?_⟩) ?_ ?_
  rotate_left
  · intro w'
    go_simp
    all_goals (with_reducible rfl)
  rotate_left
  · simp only [Act.put, List.setIfInBounds_toArray, List.set_cons_zero, List.set_cons_succ, i64_w, i32_w]
    rfl
  refine pure_ (i := 8) (N := some 44) (v := ?_) (a' := ?_) #[true, true, true, true, true, true, true, true, true, false, false, false, false, false, false, false] rfl rfl (by kernel_rfl) (fun _ _ _ h => h) (Or.inl ⟨by rfl, ?_⟩) ?_ ?_
  rotate_left
  · intro w'
    go_simp
    all_goals (with_reducible rfl)
  rotate_left
  · simp only [Act.put, List.setIfInBounds_toArray, List.set_cons_zero, List.set_cons_succ, i64_w, i32_w]
    rfl
  refine pure_ (i := 9) (N := some 45) (v := ?_) (a' := ?_) #[true, true, true, true, true, true, true, true, true, true, false, false, false, false, false, false] rfl rfl (by kernel_rfl) (fun _ _ _ h => h) (Or.inl ⟨by rfl, ?_⟩) ?_ ?_
  rotate_left
  · intro w'
    go_simp
    all_goals (with_reducible rfl)
  rotate_left
  · simp only [Act.put, List.setIfInBounds_toArray, List.set_cons_zero, List.set_cons_succ, i64_w, i32_w]
    rfl
  refine pure_ (i := 11) (N := some 47) (v := ?_) (a' := ?_) #[true, true, true, true, true, true, true, true, true, true, false, true, false, false, false, false] rfl rfl (by kernel_rfl) (fun _ _ _ h => h) (Or.inl ⟨by rfl, ?_⟩) ?_ ?_
  rotate_left
  · intro w'
    go_simp
    all_goals (with_reducible rfl)
  rotate_left
  · simp only [Act.put, List.setIfInBounds_toArray, List.set_cons_zero, List.set_cons_succ, i64_w, i32_w]
    rfl
  refine take_ (i := 10) (N := some 46) (v := ?_) (a' := ?_) #[true, true, true, true, true, true, true, true, true, true, true, true, false, false, false, false] rfl rfl (by kernel_rfl) (fun _ _ _ h => h) (Or.inl ⟨by rfl, ?_⟩) hHeld ?_ ?_
  rotate_left
  · intro w' hSw
    (try dsimp only at hSw)
    go_simp
    all_goals (with_reducible rfl)
  rotate_left
  · simp only [Act.put, List.setIfInBounds_toArray, List.set_cons_zero, List.set_cons_succ, i64_w, i32_w]
    rfl
  refine take_ (i := 12) (N := some 48) (v := ?_) (a' := ?_) #[true, true, true, true, true, true, true, true, true, true, true, true, true, false, false, false] rfl rfl (by kernel_rfl) (fun _ _ _ h => h) (Or.inl ⟨by rfl, ?_⟩) hHeld ?_ ?_
  rotate_left
  · intro w' hSw
    (try dsimp only at hSw)
    go_simp
    all_goals (with_reducible rfl)
  rotate_left
  · simp only [Act.put, List.setIfInBounds_toArray, List.set_cons_zero, List.set_cons_succ, i64_w, i32_w]
    rfl
  refine one_ (i := 13) (N := some 49) #[true, true, true, true, true, true, true, true, true, true, true, true, true, true, false, false] rfl rfl (by kernel_rfl) (by decide) (fun K hK => ?_)
  go_simp
  go_at_call 45
  refine (undone_calls w4.drew (bx tx) tx (X tx) 2 ls tx pv un pg ak a b c At Ad 0 ct 0 cd (HT4.out.at_ tx HI.out)).mono ?_
  rintro e w5 ⟨rfl, hb⟩
  rw [hlt]
  have HB5 := Aside0.mk (below_then (below_drew HB4.out) (below_drew HB4.out).size hb)
  have HX5 := Aside0.mk (blk_below (blk_drew HX4.out) hb)
  have HT5 := Aside0.mk ((HT4.out.next (below_drew (Below.refl _ _))).next hb)
  have HW5 := Aside0.mk (blk_below (blk_drew HW4.out) hb)
  clear hb x0 x1 x2 x3 x4 x5 x6 x7 x8 x9 x10 x11 y2 v0 v1
  have x0 := blk_cell HX5.out 0
  have x1 := blk_cell HX5.out 1
  have x2 := blk_cell HX5.out 2
  have x3 := blk_cell HX5.out 3
  have x4 := blk_cell HX5.out 4
  have x5 := blk_cell HX5.out 5
  have x6 := blk_cell HX5.out 6
  have x7 := blk_cell HX5.out 7
  have x8 := blk_cell HX5.out 8
  have x9 := blk_cell HX5.out 9
  have x10 := blk_cell HX5.out 10
  have x11 := blk_cell HX5.out 11
  have y2 : w5.cell? ⟨bx tx, 2, none⟩ = some (.int .u64 (X tx).last) := blk_cell (HT5.out.at_ tx HI.out) 2
  have v0 := blk_cell HW5.out 0
  have v1 := blk_cell HW5.out 1
  (try go_wp2_with fail)
  refine hK.out _ _ (⟨x0, x1, x2, x3, x4, x5, x6, x7, x8, x9, x10, x11, y2, v0, v1⟩) (fun hHeld => ?_)
  clear hK K
  (try simp only [Act.put, List.setIfInBounds_toArray, List.set_cons_zero, List.set_cons_succ])
  refine pure_ (i := 14) (N := some 50) (v := ?_) (a' := ?_) #[true, true, true, true, true, true, true, true, true, true, true, true, true, true, true, false] rfl rfl (by kernel_rfl) (fun _ _ _ h => h) (Or.inl ⟨by rfl, ?_⟩) ?_ ?_
  rotate_left
  · intro w'
    go_simp
    all_goals (with_reducible rfl)
  rotate_left
  · simp only [Act.put, List.setIfInBounds_toArray, List.set_cons_zero, List.set_cons_succ, i64_w, i32_w]
    rfl
  refine pure_ (i := 15) (N := some 51) (v := ?_) (a' := ?_) #[true, true, true, true, true, true, true, true, true, true, true, true, true, true, true, true] rfl rfl (by kernel_rfl) (fun _ _ _ h => h) (Or.inl ⟨by rfl, ?_⟩) ?_ ?_
  rotate_left
  · intro w'
    go_simp
    all_goals (with_reducible rfl)
  rotate_left
  · simp only [Act.put, List.setIfInBounds_toArray, List.set_cons_zero, List.set_cons_succ, i64_w, i32_w]
    rfl
  refine done_ (by kernel_rfl) ?_


  go_wp2_with fail
  go_ret
  exact ⟨rfl, HT5.out⟩
end Go.Proofs.Yteaklmafjmnmiaa
end
