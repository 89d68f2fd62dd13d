/- A transaction's undo: a record that takes back. -/
import Derived.Test.YteaklmafjmnmiaaYMgBk9
section
namespace Go.Proofs.Yteaklmafjmnmiaa
open Go.RowKit Go.Proofs.YteaklmafjmnmiaaW.PrintWords Go.Proofs.YteaklmafjmnmiaaW.PrintLast Go.Proofs.YteaklmafjmnmiaaW.PrintMore
open Rf MapL MapV
set_option linter.unusedVariables false
set_option linter.unusedSimpArgs false
attribute [local go_sem] max2_int min2_int max_two min_two
theorem nilCA {α : Type} (K : Kd α) (w : World) (A : Option Addr) : Kd.C K w A ([] : List α).length [] := ⟨rfl, by simp, fun h => by simp at h⟩
set_option maxRecDepth 100000 in
set_option maxHeartbeats 8000000 in
theorem undo0_calls (w0 : Wb) (w : World) (t mb : Nat) (bx : Int → Nat) (ks : List Int) (X : Int → TX) (id : Int) (ls tx pv un pg ak : Int) (a b c : ByteArray) (At Ad : Option Addr) (ct cd : Nat) (h : Tab w0 w t mb bx ks X) (hi : id ∈ ks)
    (hpv : 0 ≤ pv) (hun : 0 ≤ un) (hok : recOk 2 ls tx pv un pg ak a b c [] [] = true) (nd : Int) (hnd : (X id).need = nd) (hn : 0 ≤ nd ∧ nd ≤ (szU a b c : Int)) :
    Calls Try.prog 46 #[.pointer (some ⟨bx id, 0, none⟩), .pointer (some ⟨t, 0, none⟩), .agg #[.int .i64 2, .int .u64 ls, .int .i64 tx, .int .u64 pv, .int .u64 un, .int .i64 pg, .int .i64 ak, .string a, .string b, .string c, .slice At 0 ct, .slice Ad 0 cd]] w fun e w' => e = .returned (.tuple #[]) ∧ Tab w0 w' t mb bx ks (updX X id ⟨(X id).st, (X id).last, un, 0, (X id).sv⟩) := by
  have hsz := fun (W : World) => size_undo W ls tx pv un pg ak a b c At ct [] Ad cd [] (nilCA _ _ _) (Nat.zero_le _) (nilCA _ _ _) (Nat.zero_le _) hpv hun hok
  simp only [List.length_nil] at hsz
  obtain ⟨_, _, _, _, _, f6, _⟩ := undo_facts hok
  obtain ⟨sz, hsze⟩ : ∃ s : Nat, s = szU a b c := ⟨_, rfl⟩
  rw [← hsze] at hsz hn
  (try rw [← hsze])
  have hs1 : (sz : Int) ≤ 1000 := by rw [hsze]; unfold szU; omega
  have HH := Aside0.mk h
  have HI := Aside0.mk hi
  have hn1 := hn.1
  have hn2 := hn.2
  have z3 : ∀ ob, (w.alloc ob).cell? ⟨bx id, 3, none⟩ = some (.int .u64 (X id).next) := fun ob => blk_cell (blk_alloc (HH.out.at_ id HI.out) ob) 3
  have zf3 : ∀ ob, (w.alloc ob).frozen? ⟨bx id, 3, none⟩ = false := fun ob => blk_frozen (blk_alloc (HH.out.at_ id HI.out) ob) 3
  have hne : w.heap.size ≠ bx id := by have := h.lt id hi; omega
  have hx1 : ((w.alloc (.cells #[.int .i64 2, .int .u64 ls, .int .i64 tx, .int .u64 pv, .int .u64 un, .int .i64 pg, .int .i64 ak, .string a, .string b, .string c, .slice At 0 ct, .slice Ad 0 cd] 39)).setCell ⟨bx id, 3, none⟩ (.int .u64 un)).heap[w.heap.size]? = some (.cells #[.int .i64 2, .int .u64 ls, .int .i64 tx, .int .u64 pv, .int .u64 un, .int .i64 pg, .int .i64 ak, .string a, .string b, .string c, .slice At 0 ct, .slice Ad 0 cd] 39 (0, 0)) := blk_far (p := ⟨bx id, 3, none⟩) (heap_alloc_new w _) hne _
  have hy1 : ((w.alloc (.cells #[.int .i64 2, .int .u64 ls, .int .i64 tx, .int .u64 pv, .int .u64 un, .int .i64 pg, .int .i64 ak, .string a, .string b, .string c, .slice At 0 ct, .slice Ad 0 cd] 39)).setCell ⟨bx id, 3, none⟩ (.int .u64 un)).heap[bx id]? = some (.cells #[.int .i64 id, .int .i64 (X id).st, .int .u64 (X id).last, .int .u64 un, .int .i64 nd, (X id).sv] 74 (0, 0)) := by
    rw [← hnd]; exact blk_put (blk_alloc (h.at_ id hi) _) 3 _ rfl
  have hb1 : Bel w0 ((w.alloc (.cells #[.int .i64 2, .int .u64 ls, .int .i64 tx, .int .u64 pv, .int .u64 un, .int .i64 pg, .int .i64 ak, .string a, .string b, .string c, .slice At 0 ct, .slice Ad 0 cd] 39)).setCell ⟨bx id, 3, none⟩ (.int .u64 un)) := Bel.set (g := bx id) (j := 3) (h.bel.then (below_alloc (Below.refl _ _) _)) (h.geb id hi)
  have ho1 : ∀ q, q < w.heap.size → q ≠ bx id → ((w.alloc (.cells #[.int .i64 2, .int .u64 ls, .int .i64 tx, .int .u64 pv, .int .u64 un, .int .i64 pg, .int .i64 ak, .string a, .string b, .string c, .slice At 0 ct, .slice Ad 0 cd] 39)).setCell ⟨bx id, 3, none⟩ (.int .u64 un)).heap[q]? = w.heap[q]? := fun q hq hne => (Below.heap_setCell _ ⟨bx id, 3, none⟩ _ q hne).trans ((below_alloc (Below.refl w.heap.size w) _).block q hq)
  have hs2 : w.heap.size ≤ ((w.alloc (.cells #[.int .i64 2, .int .u64 ls, .int .i64 tx, .int .u64 pv, .int .u64 un, .int .i64 pg, .int .i64 ak, .string a, .string b, .string c, .slice At 0 ct, .slice Ad 0 cd] 39)).setCell ⟨bx id, 3, none⟩ (.int .u64 un)).heap.size := by rw [World.size_setCell, World.size_alloc]; omega
  clear h hi hsze hok f6 hn
  go_enter Try.func46, Try.ntmps46
  go_wp2_with fail
  generalize (w.alloc (.cells #[.int .i64 2, .int .u64 ls, .int .i64 tx, .int .u64 pv, .int .u64 un, .int .i64 pg, .int .i64 ak, .string a, .string b, .string c, .slice At 0 ct, .slice Ad 0 cd] 39)).setCell ⟨bx id, 3, none⟩ (.int .u64 un) = w1 at hx1 hy1 hb1 ho1 hs2 ⊢
  have HX1 := Aside0.mk (blk_drew hx1)
  have HY1 := Aside0.mk (blk_drew hy1)
  have HB1 := Aside0.mk hb1
  have HO1 := Aside0.mk ho1
  have HS2 := Aside0.mk hs2
  have x0 := blk_cell HX1.out 0
  have x1 := blk_cell HX1.out 1
  have x2 := blk_cell HX1.out 2
  have x3 := blk_cell HX1.out 3
  have x4 := blk_cell HX1.out 4
  have x5 := blk_cell HX1.out 5
  have x6 := blk_cell HX1.out 6
  have x7 := blk_cell HX1.out 7
  have x8 := blk_cell HX1.out 8
  have x9 := blk_cell HX1.out 9
  have x10 := blk_cell HX1.out 10
  have x11 := blk_cell HX1.out 11
  have y4 := blk_cell HY1.out 4
  have hn3 : max (0 : Int) (nd - (sz : Int)) = 0 := by omega
  have hn4 : wrap64 (nd - (sz : Int)) = nd - (sz : Int) := w64 (by omega) (by omega)
  have hn5 : IntKind.i64.wrap (nd - (sz : Int)) = nd - (sz : Int) := i64w (by omega) (by omega)
  clear hx1 hy1 hb1 ho1 hs2 hne z3 zf3
  refine start_ (n := 12) (S := fun wx => wx.cell? ⟨w.heap.size, 0, none⟩ = some (.int .i64 2) ∧ wx.cell? ⟨w.heap.size, 1, none⟩ = some (.int .u64 ls) ∧ wx.cell? ⟨w.heap.size, 2, none⟩ = some (.int .i64 tx) ∧ wx.cell? ⟨w.heap.size, 3, none⟩ = some (.int .u64 pv) ∧ wx.cell? ⟨w.heap.size, 4, none⟩ = some (.int .u64 un) ∧ wx.cell? ⟨w.heap.size, 5, none⟩ = some (.int .i64 pg) ∧ wx.cell? ⟨w.heap.size, 6, none⟩ = some (.int .i64 ak) ∧ wx.cell? ⟨w.heap.size, 7, none⟩ = some (.string a) ∧ wx.cell? ⟨w.heap.size, 8, none⟩ = some (.string b) ∧ wx.cell? ⟨w.heap.size, 9, none⟩ = some (.string c) ∧ wx.cell? ⟨w.heap.size, 10, none⟩ = some (.slice At 0 ct) ∧ wx.cell? ⟨w.heap.size, 11, none⟩ = some (.slice Ad 0 cd) ∧ wx.cell? ⟨bx id, 4, none⟩ = some (.int .i64 nd)) (ds := [11]) #[false, false, false, false, false, false, false, false, false, false, false, false] (by kernel_rfl) rfl rfl (⟨x0, x1, x2, x3, x4, x5, x6, x7, x8, x9, x10, x11, y4⟩) (fun hHeld => ?_)
  refine pure_ (i := 0) (N := some 11) (v := ?_) (a' := ?_) #[true, false, false, false, false, false, false, false, false, false, false, false] rfl rfl (by kernel_rfl) (fun _ _ _ h => h) (Or.inl ⟨by rfl, ?_⟩) ?_ ?_
  rotate_left
  · intro w'
    go_simp
    all_goals (with_reducible rfl)
  rotate_left
  · simp only [Act.put, List.setIfInBounds_toArray, List.set_cons_zero, List.set_cons_succ, i64_w, i32_w]
    rfl
  refine pure_ (i := 1) (N := some 12) (v := ?_) (a' := ?_) #[true, true, false, false, false, false, false, false, false, false, false, false] rfl rfl (by kernel_rfl) (fun _ _ _ h => h) (Or.inl ⟨by rfl, ?_⟩) ?_ ?_
  rotate_left
  · intro w'
    go_simp
    all_goals (with_reducible rfl)
  rotate_left
  · simp only [Act.put, List.setIfInBounds_toArray, List.set_cons_zero, List.set_cons_succ, i64_w, i32_w]
    rfl
  refine pure_ (i := 2) (N := some 13) (v := ?_) (a' := ?_) #[true, true, true, false, false, false, false, false, false, false, false, false] rfl rfl (by kernel_rfl) (fun _ _ _ h => h) (Or.inl ⟨by rfl, ?_⟩) ?_ ?_
  rotate_left
  · intro w'
    go_simp
    all_goals (with_reducible rfl)
  rotate_left
  · simp only [Act.put, List.setIfInBounds_toArray, List.set_cons_zero, List.set_cons_succ, i64_w, i32_w]
    rfl
  refine pure_ (i := 3) (N := some 14) (v := ?_) (a' := ?_) #[true, true, true, true, false, false, false, false, false, false, false, false] rfl rfl (by kernel_rfl) (fun _ _ _ h => h) (Or.inl ⟨by rfl, ?_⟩) ?_ ?_
  rotate_left
  · intro w'
    go_simp
    all_goals (with_reducible rfl)
  rotate_left
  · simp only [Act.put, List.setIfInBounds_toArray, List.set_cons_zero, List.set_cons_succ, i64_w, i32_w]
    rfl
  refine take_ (i := 4) (N := some 15) (v := ?_) (a' := ?_) #[true, true, true, true, true, false, false, false, false, false, false, false] rfl rfl (by kernel_rfl) (fun _ _ _ h => h) (Or.inl ⟨by rfl, ?_⟩) hHeld ?_ ?_
  rotate_left
  · intro w' hSw
    (try dsimp only at hSw)
    go_simp
    all_goals (with_reducible rfl)
  rotate_left
  · simp only [Act.put, List.setIfInBounds_toArray, List.set_cons_zero, List.set_cons_succ, i64_w, i32_w]
    rfl
  refine take_ (i := 5) (N := some 16) (v := ?_) (a' := ?_) #[true, true, true, true, true, true, false, false, false, false, false, false] rfl rfl (by kernel_rfl) (fun _ _ _ h => h) (Or.inl ⟨by rfl, ?_⟩) hHeld ?_ ?_
  rotate_left
  · intro w' hSw
    (try dsimp only at hSw)
    go_simp
    all_goals (with_reducible rfl)
  rotate_left
  · simp only [Act.put, List.setIfInBounds_toArray, List.set_cons_zero, List.set_cons_succ, i64_w, i32_w]
    rfl
  refine one_ (i := 6) (N := some 17) #[true, true, true, true, true, true, true, false, false, false, false, false] rfl rfl (by kernel_rfl) (by decide) (fun K hK => ?_)
  go_simp
  go_at_call 57
  refine (hsz _).mono ?_
  rintro e w2 ⟨rfl, hb⟩
  have HB2 := Aside0.mk hb
  have HX2 := Aside0.mk (blk_below HX1.out hb)
  have HY2 := Aside0.mk (blk_below HY1.out hb)
  clear hb x0 x1 x2 x3 x4 x5 x6 x7 x8 x9 x10 x11 y4
  have x0 := blk_cell HX2.out 0
  have x1 := blk_cell HX2.out 1
  have x2 := blk_cell HX2.out 2
  have x3 := blk_cell HX2.out 3
  have x4 := blk_cell HX2.out 4
  have x5 := blk_cell HX2.out 5
  have x6 := blk_cell HX2.out 6
  have x7 := blk_cell HX2.out 7
  have x8 := blk_cell HX2.out 8
  have x9 := blk_cell HX2.out 9
  have x10 := blk_cell HX2.out 10
  have x11 := blk_cell HX2.out 11
  have y4 := blk_cell HY2.out 4
  have f4 := blk_frozen HY2.out 4
  (try go_wp2_with fail)
  refine hK.out _ _ (⟨x0, x1, x2, x3, x4, x5, x6, x7, x8, x9, x10, x11, y4⟩) (fun hHeld => ?_)
  clear hK K
  (try simp only [Act.put, List.setIfInBounds_toArray, List.set_cons_zero, List.set_cons_succ])
  refine pure_ (i := 7) (N := some 18) (v := ?_) (a' := ?_) #[true, true, true, true, true, true, true, true, false, false, false, false] rfl rfl (by kernel_rfl) (fun _ _ _ h => h) (Or.inl ⟨by rfl, ?_⟩) ?_ ?_
  rotate_left
  · intro w'
    go_simp
    all_goals (with_reducible rfl)
  rotate_left
  · simp only [Act.put, List.setIfInBounds_toArray, List.set_cons_zero, List.set_cons_succ, i64_w, i32_w]
    rfl
  refine pure_ (i := 8) (N := some 19) (v := ?_) (a' := ?_) #[true, true, true, true, true, true, true, true, true, false, false, false] rfl rfl (by kernel_rfl) (fun _ _ _ h => h) (Or.inl ⟨by rfl, ?_⟩) ?_ ?_
  rotate_left
  · intro w'
    go_simp
    all_goals (with_reducible rfl)
  rotate_left
  · simp only [Act.put, List.setIfInBounds_toArray, List.set_cons_zero, List.set_cons_succ, i64_w, i32_w]
    rfl
  refine pure_ (i := 9) (N := some 20) (v := ?_) (a' := ?_) #[true, true, true, true, true, true, true, true, true, true, false, false] rfl rfl (by kernel_rfl) (fun _ _ _ h => h) (Or.inl ⟨by rfl, ?_⟩) ?_ ?_
  rotate_left
  · intro w'
    go_simp
    all_goals (with_reducible rfl)
  rotate_left
  · simp only [Act.put, List.setIfInBounds_toArray, List.set_cons_zero, List.set_cons_succ, i64_w, i32_w]
    rfl
  refine pure_ (i := 10) (N := some 21) (v := ?_) (a' := ?_) #[true, true, true, true, true, true, true, true, true, true, true, false] rfl rfl (by kernel_rfl) (fun _ _ _ h => h) (Or.inl ⟨by rfl, ?_⟩) ?_ ?_
  rotate_left
  · intro w'
    go_simp
    all_goals (with_reducible rfl)
  rotate_left
  · simp only [Act.put, List.setIfInBounds_toArray, List.set_cons_zero, List.set_cons_succ, i64_w, i32_w]
    rfl
  refine last_ (i := 11) (N := none) #[true, true, true, true, true, true, true, true, true, true, true, true] rfl rfl (by kernel_rfl) (by decide) (fun K hK => ?_)
  go_simp
  skip
  (try go_wp2_with fail)
  refine hK.out _ _ ?_
  clear hK K
  (try simp only [Act.put, List.setIfInBounds_toArray, List.set_cons_zero, List.set_cons_succ])
  refine done_ (by kernel_rfl) ?_
  clear hn3 hn4 hn5
  go_wp2_with fail
  go_end0
  have hb2 : Below w.heap.size w1 w2 := ⟨HB2.out.os, HB2.out.tape, HB2.out.output, HB2.out.size, fun k hk => HB2.out.block k (Nat.lt_of_lt_of_le hk HS2.out)⟩
  have hb3 : Below w1.heap.size w1 w2 := ⟨HB2.out.os, HB2.out.tape, HB2.out.output, HB2.out.size, HB2.out.block⟩
  exact ⟨rfl, HH.out.setTx id HI.out _ (blk_put (cs' := #[.int .i64 id, .int .i64 (X id).st, .int .u64 (X id).last, .int .u64 un, .int .i64 (0), (X id).sv]) HY2.out 4 _ rfl) (fun q hq hne => (Below.heap_setCell _ ⟨bx id, 4, none⟩ _ q hne).trans ((hb2.block q hq).trans (HO1.out q hq hne))) (Bel.set (g := bx id) (j := 4) (HB1.out.then hb3) (HH.out.geb id HI.out))⟩
set_option maxRecDepth 100000 in
set_option maxHeartbeats 8000000 in
theorem undo1_calls (w0 : Wb) (w : World) (t mb : Nat) (bx : Int → Nat) (ks : List Int) (X : Int → TX) (id : Int) (ls tx pv un pg ak : Int) (a b c : ByteArray) (At Ad : Option Addr) (ct cd : Nat) (h : Tab w0 w t mb bx ks X) (hi : id ∈ ks)
    (hpv : 0 ≤ pv) (hun : 0 ≤ un) (hok : recOk 2 ls tx pv un pg ak a b c [] [] = true) (nd : Int) (hnd : (X id).need = nd) (hn : (szU a b c : Int) < nd ∧ nd ≤ 1125899906842624) :
    Calls Try.prog 46 #[.pointer (some ⟨bx id, 0, none⟩), .pointer (some ⟨t, 0, none⟩), .agg #[.int .i64 2, .int .u64 ls, .int .i64 tx, .int .u64 pv, .int .u64 un, .int .i64 pg, .int .i64 ak, .string a, .string b, .string c, .slice At 0 ct, .slice Ad 0 cd]] w fun e w' => e = .returned (.tuple #[]) ∧ Tab w0 w' t mb bx ks (updX X id ⟨(X id).st, (X id).last, un, nd - (szU a b c : Int), (X id).sv⟩) := by
  have hsz := fun (W : World) => size_undo W ls tx pv un pg ak a b c At ct [] Ad cd [] (nilCA _ _ _) (Nat.zero_le _) (nilCA _ _ _) (Nat.zero_le _) hpv hun hok
  simp only [List.length_nil] at hsz
  obtain ⟨_, _, _, _, _, f6, _⟩ := undo_facts hok
  obtain ⟨sz, hsze⟩ : ∃ s : Nat, s = szU a b c := ⟨_, rfl⟩
  rw [← hsze] at hsz hn
  (try rw [← hsze])
  have hs1 : (sz : Int) ≤ 1000 := by rw [hsze]; unfold szU; omega
  have HH := Aside0.mk h
  have HI := Aside0.mk hi
  have hn1 := hn.1
  have hn2 := hn.2
  have z3 : ∀ ob, (w.alloc ob).cell? ⟨bx id, 3, none⟩ = some (.int .u64 (X id).next) := fun ob => blk_cell (blk_alloc (HH.out.at_ id HI.out) ob) 3
  have zf3 : ∀ ob, (w.alloc ob).frozen? ⟨bx id, 3, none⟩ = false := fun ob => blk_frozen (blk_alloc (HH.out.at_ id HI.out) ob) 3
  have hne : w.heap.size ≠ bx id := by have := h.lt id hi; omega
  have hx1 : ((w.alloc (.cells #[.int .i64 2, .int .u64 ls, .int .i64 tx, .int .u64 pv, .int .u64 un, .int .i64 pg, .int .i64 ak, .string a, .string b, .string c, .slice At 0 ct, .slice Ad 0 cd] 39)).setCell ⟨bx id, 3, none⟩ (.int .u64 un)).heap[w.heap.size]? = some (.cells #[.int .i64 2, .int .u64 ls, .int .i64 tx, .int .u64 pv, .int .u64 un, .int .i64 pg, .int .i64 ak, .string a, .string b, .string c, .slice At 0 ct, .slice Ad 0 cd] 39 (0, 0)) := blk_far (p := ⟨bx id, 3, none⟩) (heap_alloc_new w _) hne _
  have hy1 : ((w.alloc (.cells #[.int .i64 2, .int .u64 ls, .int .i64 tx, .int .u64 pv, .int .u64 un, .int .i64 pg, .int .i64 ak, .string a, .string b, .string c, .slice At 0 ct, .slice Ad 0 cd] 39)).setCell ⟨bx id, 3, none⟩ (.int .u64 un)).heap[bx id]? = some (.cells #[.int .i64 id, .int .i64 (X id).st, .int .u64 (X id).last, .int .u64 un, .int .i64 nd, (X id).sv] 74 (0, 0)) := by
    rw [← hnd]; exact blk_put (blk_alloc (h.at_ id hi) _) 3 _ rfl
  have hb1 : Bel w0 ((w.alloc (.cells #[.int .i64 2, .int .u64 ls, .int .i64 tx, .int .u64 pv, .int .u64 un, .int .i64 pg, .int .i64 ak, .string a, .string b, .string c, .slice At 0 ct, .slice Ad 0 cd] 39)).setCell ⟨bx id, 3, none⟩ (.int .u64 un)) := Bel.set (g := bx id) (j := 3) (h.bel.then (below_alloc (Below.refl _ _) _)) (h.geb id hi)
  have ho1 : ∀ q, q < w.heap.size → q ≠ bx id → ((w.alloc (.cells #[.int .i64 2, .int .u64 ls, .int .i64 tx, .int .u64 pv, .int .u64 un, .int .i64 pg, .int .i64 ak, .string a, .string b, .string c, .slice At 0 ct, .slice Ad 0 cd] 39)).setCell ⟨bx id, 3, none⟩ (.int .u64 un)).heap[q]? = w.heap[q]? := fun q hq hne => (Below.heap_setCell _ ⟨bx id, 3, none⟩ _ q hne).trans ((below_alloc (Below.refl w.heap.size w) _).block q hq)
  have hs2 : w.heap.size ≤ ((w.alloc (.cells #[.int .i64 2, .int .u64 ls, .int .i64 tx, .int .u64 pv, .int .u64 un, .int .i64 pg, .int .i64 ak, .string a, .string b, .string c, .slice At 0 ct, .slice Ad 0 cd] 39)).setCell ⟨bx id, 3, none⟩ (.int .u64 un)).heap.size := by rw [World.size_setCell, World.size_alloc]; omega
  clear h hi hsze hok f6 hn
  go_enter Try.func46, Try.ntmps46
  go_wp2_with fail
  generalize (w.alloc (.cells #[.int .i64 2, .int .u64 ls, .int .i64 tx, .int .u64 pv, .int .u64 un, .int .i64 pg, .int .i64 ak, .string a, .string b, .string c, .slice At 0 ct, .slice Ad 0 cd] 39)).setCell ⟨bx id, 3, none⟩ (.int .u64 un) = w1 at hx1 hy1 hb1 ho1 hs2 ⊢
  have HX1 := Aside0.mk (blk_drew hx1)
  have HY1 := Aside0.mk (blk_drew hy1)
  have HB1 := Aside0.mk hb1
  have HO1 := Aside0.mk ho1
  have HS2 := Aside0.mk hs2
  have x0 := blk_cell HX1.out 0
  have x1 := blk_cell HX1.out 1
  have x2 := blk_cell HX1.out 2
  have x3 := blk_cell HX1.out 3
  have x4 := blk_cell HX1.out 4
  have x5 := blk_cell HX1.out 5
  have x6 := blk_cell HX1.out 6
  have x7 := blk_cell HX1.out 7
  have x8 := blk_cell HX1.out 8
  have x9 := blk_cell HX1.out 9
  have x10 := blk_cell HX1.out 10
  have x11 := blk_cell HX1.out 11
  have y4 := blk_cell HY1.out 4
  have hn3 : max (0 : Int) (nd - (sz : Int)) = nd - (sz : Int) := by omega
  have hn4 : wrap64 (nd - (sz : Int)) = nd - (sz : Int) := w64 (by omega) (by omega)
  have hn5 : IntKind.i64.wrap (nd - (sz : Int)) = nd - (sz : Int) := i64w (by omega) (by omega)
  clear hx1 hy1 hb1 ho1 hs2 hne z3 zf3
  refine start_ (n := 12) (S := fun wx => wx.cell? ⟨w.heap.size, 0, none⟩ = some (.int .i64 2) ∧ wx.cell? ⟨w.heap.size, 1, none⟩ = some (.int .u64 ls) ∧ wx.cell? ⟨w.heap.size, 2, none⟩ = some (.int .i64 tx) ∧ wx.cell? ⟨w.heap.size, 3, none⟩ = some (.int .u64 pv) ∧ wx.cell? ⟨w.heap.size, 4, none⟩ = some (.int .u64 un) ∧ wx.cell? ⟨w.heap.size, 5, none⟩ = some (.int .i64 pg) ∧ wx.cell? ⟨w.heap.size, 6, none⟩ = some (.int .i64 ak) ∧ wx.cell? ⟨w.heap.size, 7, none⟩ = some (.string a) ∧ wx.cell? ⟨w.heap.size, 8, none⟩ = some (.string b) ∧ wx.cell? ⟨w.heap.size, 9, none⟩ = some (.string c) ∧ wx.cell? ⟨w.heap.size, 10, none⟩ = some (.slice At 0 ct) ∧ wx.cell? ⟨w.heap.size, 11, none⟩ = some (.slice Ad 0 cd) ∧ wx.cell? ⟨bx id, 4, none⟩ = some (.int .i64 nd)) (ds := [11]) #[false, false, false, false, false, false, false, false, false, false, false, false] (by kernel_rfl) rfl rfl (⟨x0, x1, x2, x3, x4, x5, x6, x7, x8, x9, x10, x11, y4⟩) (fun hHeld => ?_)
  refine pure_ (i := 0) (N := some 11) (v := ?_) (a' := ?_) #[true, false, false, false, false, false, false, false, false, false, false, false] rfl rfl (by kernel_rfl) (fun _ _ _ h => h) (Or.inl ⟨by rfl, ?_⟩) ?_ ?_
  rotate_left
  · intro w'
    go_simp
    all_goals (with_reducible rfl)
  rotate_left
  · simp only [Act.put, List.setIfInBounds_toArray, List.set_cons_zero, List.set_cons_succ, i64_w, i32_w]
    rfl
  refine pure_ (i := 1) (N := some 12) (v := ?_) (a' := ?_) #[true, true, false, false, false, false, false, false, false, false, false, false] rfl rfl (by kernel_rfl) (fun _ _ _ h => h) (Or.inl ⟨by rfl, ?_⟩) ?_ ?_
  rotate_left
  · intro w'
    go_simp
    all_goals (with_reducible rfl)
  rotate_left
  · simp only [Act.put, List.setIfInBounds_toArray, List.set_cons_zero, List.set_cons_succ, i64_w, i32_w]
    rfl
  refine pure_ (i := 2) (N := some 13) (v := ?_) (a' := ?_) #[true, true, true, false, false, false, false, false, false, false, false, false] rfl rfl (by kernel_rfl) (fun _ _ _ h => h) (Or.inl ⟨by rfl, ?_⟩) ?_ ?_
  rotate_left
  · intro w'
    go_simp
    all_goals (with_reducible rfl)
  rotate_left
  · simp only [Act.put, List.setIfInBounds_toArray, List.set_cons_zero, List.set_cons_succ, i64_w, i32_w]
    rfl
  refine pure_ (i := 3) (N := some 14) (v := ?_) (a' := ?_) #[true, true, true, true, false, false, false, false, false, false, false, false] rfl rfl (by kernel_rfl) (fun _ _ _ h => h) (Or.inl ⟨by rfl, ?_⟩) ?_ ?_
  rotate_left
  · intro w'
    go_simp
    all_goals (with_reducible rfl)
  rotate_left
  · simp only [Act.put, List.setIfInBounds_toArray, List.set_cons_zero, List.set_cons_succ, i64_w, i32_w]
    rfl
  refine take_ (i := 4) (N := some 15) (v := ?_) (a' := ?_) #[true, true, true, true, true, false, false, false, false, false, false, false] rfl rfl (by kernel_rfl) (fun _ _ _ h => h) (Or.inl ⟨by rfl, ?_⟩) hHeld ?_ ?_
  rotate_left
  · intro w' hSw
    (try dsimp only at hSw)
    go_simp
    all_goals (with_reducible rfl)
  rotate_left
  · simp only [Act.put, List.setIfInBounds_toArray, List.set_cons_zero, List.set_cons_succ, i64_w, i32_w]
    rfl
  refine take_ (i := 5) (N := some 16) (v := ?_) (a' := ?_) #[true, true, true, true, true, true, false, false, false, false, false, false] rfl rfl (by kernel_rfl) (fun _ _ _ h => h) (Or.inl ⟨by rfl, ?_⟩) hHeld ?_ ?_
  rotate_left
  · intro w' hSw
    (try dsimp only at hSw)
    go_simp
    all_goals (with_reducible rfl)
  rotate_left
  · simp only [Act.put, List.setIfInBounds_toArray, List.set_cons_zero, List.set_cons_succ, i64_w, i32_w]
    rfl
  refine one_ (i := 6) (N := some 17) #[true, true, true, true, true, true, true, false, false, false, false, false] rfl rfl (by kernel_rfl) (by decide) (fun K hK => ?_)
  go_simp
  go_at_call 57
  refine (hsz _).mono ?_
  rintro e w2 ⟨rfl, hb⟩
  have HB2 := Aside0.mk hb
  have HX2 := Aside0.mk (blk_below HX1.out hb)
  have HY2 := Aside0.mk (blk_below HY1.out hb)
  clear hb x0 x1 x2 x3 x4 x5 x6 x7 x8 x9 x10 x11 y4
  have x0 := blk_cell HX2.out 0
  have x1 := blk_cell HX2.out 1
  have x2 := blk_cell HX2.out 2
  have x3 := blk_cell HX2.out 3
  have x4 := blk_cell HX2.out 4
  have x5 := blk_cell HX2.out 5
  have x6 := blk_cell HX2.out 6
  have x7 := blk_cell HX2.out 7
  have x8 := blk_cell HX2.out 8
  have x9 := blk_cell HX2.out 9
  have x10 := blk_cell HX2.out 10
  have x11 := blk_cell HX2.out 11
  have y4 := blk_cell HY2.out 4
  have f4 := blk_frozen HY2.out 4
  (try go_wp2_with fail)
  refine hK.out _ _ (⟨x0, x1, x2, x3, x4, x5, x6, x7, x8, x9, x10, x11, y4⟩) (fun hHeld => ?_)
  clear hK K
  (try simp only [Act.put, List.setIfInBounds_toArray, List.set_cons_zero, List.set_cons_succ])
  refine pure_ (i := 7) (N := some 18) (v := ?_) (a' := ?_) #[true, true, true, true, true, true, true, true, false, false, false, false] rfl rfl (by kernel_rfl) (fun _ _ _ h => h) (Or.inl ⟨by rfl, ?_⟩) ?_ ?_
  rotate_left
  · intro w'
    go_simp
    all_goals (with_reducible rfl)
  rotate_left
  · simp only [Act.put, List.setIfInBounds_toArray, List.set_cons_zero, List.set_cons_succ, i64_w, i32_w]
    rfl
  refine pure_ (i := 8) (N := some 19) (v := ?_) (a' := ?_) #[true, true, true, true, true, true, true, true, true, false, false, false] rfl rfl (by kernel_rfl) (fun _ _ _ h => h) (Or.inl ⟨by rfl, ?_⟩) ?_ ?_
  rotate_left
  · intro w'
    go_simp
    all_goals (with_reducible rfl)
  rotate_left
  · simp only [Act.put, List.setIfInBounds_toArray, List.set_cons_zero, List.set_cons_succ, i64_w, i32_w]
    rfl
  refine pure_ (i := 9) (N := some 20) (v := ?_) (a' := ?_) #[true, true, true, true, true, true, true, true, true, true, false, false] rfl rfl (by kernel_rfl) (fun _ _ _ h => h) (Or.inl ⟨by rfl, ?_⟩) ?_ ?_
  rotate_left
  · intro w'
    go_simp
    all_goals (with_reducible rfl)
  rotate_left
  · simp only [Act.put, List.setIfInBounds_toArray, List.set_cons_zero, List.set_cons_succ, i64_w, i32_w]
    rfl
  refine pure_ (i := 10) (N := some 21) (v := ?_) (a' := ?_) #[true, true, true, true, true, true, true, true, true, true, true, false] rfl rfl (by kernel_rfl) (fun _ _ _ h => h) (Or.inl ⟨by rfl, ?_⟩) ?_ ?_
  rotate_left
  · intro w'
    go_simp
    all_goals (with_reducible rfl)
  rotate_left
  · simp only [Act.put, List.setIfInBounds_toArray, List.set_cons_zero, List.set_cons_succ, i64_w, i32_w]
    rfl
  refine last_ (i := 11) (N := none) #[true, true, true, true, true, true, true, true, true, true, true, true] rfl rfl (by kernel_rfl) (by decide) (fun K hK => ?_)
  go_simp
  skip
  (try go_wp2_with fail)
  refine hK.out _ _ ?_
  clear hK K
  (try simp only [Act.put, List.setIfInBounds_toArray, List.set_cons_zero, List.set_cons_succ])
  refine done_ (by kernel_rfl) ?_
  clear hn3 hn4 hn5
  go_wp2_with fail
  go_end0
  have hb2 : Below w.heap.size w1 w2 := ⟨HB2.out.os, HB2.out.tape, HB2.out.output, HB2.out.size, fun k hk => HB2.out.block k (Nat.lt_of_lt_of_le hk HS2.out)⟩
  have hb3 : Below w1.heap.size w1 w2 := ⟨HB2.out.os, HB2.out.tape, HB2.out.output, HB2.out.size, HB2.out.block⟩
  exact ⟨rfl, HH.out.setTx id HI.out _ (blk_put (cs' := #[.int .i64 id, .int .i64 (X id).st, .int .u64 (X id).last, .int .u64 un, .int .i64 (nd - (sz : Int)), (X id).sv]) HY2.out 4 _ rfl) (fun q hq hne => (Below.heap_setCell _ ⟨bx id, 4, none⟩ _ q hne).trans ((hb2.block q hq).trans (HO1.out q hq hne))) (Bel.set (g := bx id) (j := 4) (HB1.out.then hb3) (HH.out.geb id HI.out))⟩
end Go.Proofs.Yteaklmafjmnmiaa
end
