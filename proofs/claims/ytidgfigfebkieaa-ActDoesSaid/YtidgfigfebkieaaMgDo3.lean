/- Layer 7: ActTurns' walk. 
The references' Num, Cell, Sum, Four, Free, SameCells as calls; Bytes by hand. 
PLAIN: the references' Find, with, Insert, Update: what they come to. 
PLAIN: the reference's Delete: what it comes to. 
The document's Find, Insert, Update, Delete, as calls, by the plain laws. 
The document's Do of layer 7. 
Layer 7: Plan, alike, pair. 
Kinds: api.Pair, api.Act. 
A page of the call's own and the document's beside it; blocks B that neither touches. -/
import Derived.Test.YtidgfigfebkieaaMgDo2
import Derived.Test.YtidgfigfebkieaaMgDo1
import Derived.Test.YtidgfigfebkieaaRf3
import Derived.Test.YtidgfigfebkieaaRf4
import Derived.Test.YtidgfigfebkieaaRf5
import Derived.Test.YtidgfigfebkieaaRfT
section
namespace Go.Proofs.Ytidgfigfebkieaa
open Go.RowKit Go.Proofs.YtidgfigfebkieaaW.PrintWords Go.Proofs.YtidgfigfebkieaaW.PrintLast Go.Proofs.YtidgfigfebkieaaW.PrintMore
open Rf Go.ChangeMaps
set_option linter.unusedVariables false
set_option linter.unusedSimpArgs false
theorem skip_ {b : Bool} {A B : Prop} (h : b = false) (hB : B) : if b = true then A else B := by subst h; exact hB
theorem yund : yielded.match_1 (fun _ => Option Bool) (some undef) (fun b => some b) (fun _ => none) = none := rfl
attribute [local go_sem high] yund
attribute [local go_sem high] eqA24
theorem short_calls (k : Int) (a b c : ByteArray) (w : World) (ha : a.size ≤ 140737488351232) (hb : b.size ≤ 140737488351232) (hc : c.size ≤ 140737488351232) :
    Calls Try.prog 9 #[.agg #[.int .i64 k, .string a, .string b, .string c]] w fun e w' => e = .returned (.bool (decide (a.size + b.size + c.size ≤ 1000))) ∧ Below w.heap.size w w' := by
  refine flotillalaw07_short.calls k a b c _ w ?_
  unfold flotillalaw07_short.f
  rw [w64 (x := (a.size : Int) + (b.size : Int)) (by omega) (by omega), w64 (by omega) (by omega)]
  congr 1
  rw [decide_eq_decide]
  omega
theorem refturn_calls (k : Int) (a b c : ByteArray) (w : World) : Calls Try.prog 12 #[.agg #[.int .i64 k, .string a, .string b, .string c]] w fun e w' => e = .returned (actV (actTurn k a b c)) ∧ Below w.heap.size w w' :=
  flotillaref07_Turn.calls k a b c _ _ _ _ w (refTurn k a b c)
theorem turn_may {k : Int} {a b c : ByteArray} (h : actMay k a b c = true) : actMay (turnK k) a c b = true := by
  have hf := may_fits h
  have h2 : fits a c b = true := (fits_iff a c b).2 ⟨hf.1, hf.2.1, hf.2.2.2, hf.2.2.1⟩
  rcases may_kind h with rfl | rfl | rfl
  · unfold actMay at h ⊢; rw [h2]; rw [Bool.and_eq_true] at h; exact h.2
  · unfold actMay; rw [h2]; rfl
  · unfold actMay at h ⊢; rw [h2]; rw [Bool.and_eq_true] at h; exact h.2
theorem turn_turn {k : Int} {a b c : ByteArray} (h : actMay k a b c = true) : actTurn (turnK k) a c b = (k, a, b, c) := by
  unfold actTurn
  rw [turn_may h, if_pos rfl]
  rcases may_kind h with rfl | rfl | rfl <;> rfl
set_option maxRecDepth 100000 in
set_option maxHeartbeats 2000000 in
theorem turns_walk (w : World) (k : Int) (a b c : ByteArray) (ha : a.size ≤ 140737488351232) (hb : b.size ≤ 140737488351232) (hc : c.size ≤ 140737488351232) :
    Calls Try.prog 3 #[.agg #[.int .i64 k, .string a, .string b, .string c]] w fun e w' => e = .returned (.bool true) ∧ Below w.heap.size w w' := by
  go_enter Try.func3, Try.ntmps3
  go_wp2_with fail
  have hb0 : Below w.heap.size w (w.alloc (.cells #[.int .i64 k, .string a, .string b, .string c] 24)) := below_alloc (Below.refl _ _) _
  have hbx := heap_alloc_new w (.cells #[.int .i64 k, .string a, .string b, .string c] 24)
  generalize w.alloc (.cells #[.int .i64 k, .string a, .string b, .string c] 24) = w1 at hb0 hbx ⊢
  refine (short_calls k a b c w1 ha hb hc).mono ?_
  rintro e w2 ⟨rfl, hbs⟩
  have HBL := Aside0.mk (below_then hb0 hb0.size hbs)
  have HX := Aside0.mk (blk_below hbx hbs)
  clear hb0 hbx hbs
  have x0 := blk_cell HX.out 0
  have x1 := blk_cell HX.out 1
  have x2 := blk_cell HX.out 2
  have x3 := blk_cell HX.out 3
  cases decide (a.size + b.size + c.size ≤ 1000) with
  | false =>
    go_wp2_with (go_at_call 10; refine (lives_calls _).mono ?_; rintro e w8 ⟨rfl, hb⟩; have HB8 := Aside0.mk (below_then HBL.out HBL.out.size hb); clear hb)
    go_ret
    exact ⟨rfl, HB8.out⟩
  | true =>
    go_wp2_with fail
    refine (turn_calls w2 k a b c ha hb hc).mono ?_
    rintro e w3 ⟨rfl, hbs⟩
    have HB3 := Aside0.mk (below_then HBL.out HBL.out.size hbs)
    have HX3 := Aside0.mk (blk_below HX.out hbs)
    clear hbs x0 x1 x2 x3 HX HBL
    cases hm : actMay k a b c with
    | false =>
      rw [show actTurn k a b c = (0, ⟨#[]⟩, ⟨#[]⟩, ⟨#[]⟩) from by unfold actTurn; rw [hm]; rfl]
      have HTa := Aside0.mk (show actTurn k a b c = (0, ⟨#[]⟩, ⟨#[]⟩, ⟨#[]⟩) from by unfold actTurn; rw [hm]; rfl)
      go_wp2_with fail
      have hb4 : Below w3.heap.size w3 (w3.alloc (.cells #[.int .i64 0, .string ⟨#[]⟩, .string ⟨#[]⟩, .string ⟨#[]⟩] 24)) := below_alloc (Below.refl _ _) _
      have ht4 := heap_alloc_new w3 (.cells #[.int .i64 0, .string ⟨#[]⟩, .string ⟨#[]⟩, .string ⟨#[]⟩] 24)
      have hx4 := blk_alloc HX3.out (.cells #[.int .i64 0, .string ⟨#[]⟩, .string ⟨#[]⟩, .string ⟨#[]⟩] 24)
      generalize w3.alloc (.cells #[.int .i64 0, .string ⟨#[]⟩, .string ⟨#[]⟩, .string ⟨#[]⟩] 24) = w4 at hb4 ht4 hx4 ⊢
      have HB4 := Aside0.mk (below_then HB3.out HB3.out.size hb4)
      have HX4 := Aside0.mk hx4
      have HT4 := Aside0.mk ht4
      have HBc := Aside0.mk (below_drew (Below.refl w4.heap.size w4))
      have p0 := blk_cell hx4 0
      have p1 := blk_cell hx4 1
      have p2 := blk_cell hx4 2
      have p3 := blk_cell hx4 3
      have q0 := blk_cell ht4 0
      have q1 := blk_cell ht4 1
      have q2 := blk_cell ht4 2
      have q3 := blk_cell ht4 3
      clear hb4 ht4 hx4
      refine start_ (n := 32) (S := fun wx => wx.cell? ⟨w.heap.size, 0, none⟩ = some (.int .i64 k) ∧ wx.cell? ⟨w.heap.size, 1, none⟩ = some (.string a) ∧ wx.cell? ⟨w.heap.size, 2, none⟩ = some (.string b) ∧ wx.cell? ⟨w.heap.size, 3, none⟩ = some (.string c) ∧ wx.cell? ⟨w3.heap.size, 0, none⟩ = some (.int .i64 0) ∧ wx.cell? ⟨w3.heap.size, 1, none⟩ = some (.string ⟨#[]⟩) ∧ wx.cell? ⟨w3.heap.size, 2, none⟩ = some (.string ⟨#[]⟩) ∧ wx.cell? ⟨w3.heap.size, 3, none⟩ = some (.string ⟨#[]⟩)) (ds := []) #[false, false, false, false, false, false, false, false, false, false, false, false, false, false, false, false, false, false, false, false, false, false, false, false, false, false, false, false, false, false, false, false] (by kernel_rfl) rfl rfl (⟨p0, p1, p2, p3, q0, q1, q2, q3⟩) (fun hHeld => ?_)
      refine take_ (i := 0) (N := some 10) (v := ?_) (a' := ?_) #[true, false, false, false, false, false, false, false, false, false, false, false, false, false, false, false, false, false, false, false, false, false, false, false, false, false, false, false, false, false, false, false] rfl rfl (by kernel_rfl) (fun _ _ _ h => h) (Or.inl ⟨by rfl, ?_⟩) hHeld ?_ ?_
      rotate_left
      · intro w' hSw
        (try dsimp only at hSw)
        go_simp
        all_goals (with_reducible rfl)
      rotate_left
      · simp only [Act.put, List.setIfInBounds_toArray, List.set_cons_zero, List.set_cons_succ, i64_w, i32_w]
        rfl
      refine take_ (i := 1) (N := some 11) (v := ?_) (a' := ?_) #[true, true, false, false, false, false, false, false, false, false, false, false, false, false, false, false, false, false, false, false, false, false, false, false, false, false, false, false, false, false, false, false] rfl rfl (by kernel_rfl) (fun _ _ _ h => h) (Or.inl ⟨by rfl, ?_⟩) hHeld ?_ ?_
      rotate_left
      · intro w' hSw
        (try dsimp only at hSw)
        go_simp
        all_goals (with_reducible rfl)
      rotate_left
      · simp only [Act.put, List.setIfInBounds_toArray, List.set_cons_zero, List.set_cons_succ, i64_w, i32_w]
        rfl
      refine one_ (i := 2) (N := some 12) #[true, true, true, false, false, false, false, false, false, false, false, false, false, false, false, false, false, false, false, false, false, false, false, false, false, false, false, false, false, false, false, false] rfl rfl (by kernel_rfl) (by decide) (fun K hK => ?_)
      go_simp
      go_at_call 12
      refine (refturn_calls k a b c _).mono ?_
      rintro e wq ⟨rfl, hb⟩
      rw [HTa.out]
      have HBc := Aside0.mk (below_then HBc.out HBc.out.size hb)
      have p0 := blk_cell (blk_below HX4.out HBc.out) 0
      have q0 := blk_cell (blk_below HT4.out HBc.out) 0
      have p1 := blk_cell (blk_below HX4.out HBc.out) 1
      have q1 := blk_cell (blk_below HT4.out HBc.out) 1
      have p2 := blk_cell (blk_below HX4.out HBc.out) 2
      have q2 := blk_cell (blk_below HT4.out HBc.out) 2
      have p3 := blk_cell (blk_below HX4.out HBc.out) 3
      have q3 := blk_cell (blk_below HT4.out HBc.out) 3
      clear hb
      (try go_wp2_with fail)
      refine hK.out _ _ (⟨p0, p1, p2, p3, q0, q1, q2, q3⟩) (fun hHeld => ?_)
      clear hK K
      (try simp only [Act.put, List.setIfInBounds_toArray, List.set_cons_zero, List.set_cons_succ])
      refine pure_ (i := 3) (N := some 13) (v := ?_) (a' := ?_) #[true, true, true, true, false, false, false, false, false, false, false, false, false, false, false, false, false, false, false, false, false, false, false, false, false, false, false, false, false, false, false, false] rfl rfl (by kernel_rfl) (fun _ _ _ h => h) (Or.inl ⟨by rfl, ?_⟩) ?_ ?_
      rotate_left
      · intro w'
        go_simp
        all_goals (with_reducible rfl)
      rotate_left
      · simp only [Act.put, List.setIfInBounds_toArray, List.set_cons_zero, List.set_cons_succ, i64_w, i32_w]
        rfl
      refine pure_ (i := 4) (N := some 14) (v := ?_) (a' := ?_) #[true, true, true, true, true, false, false, false, false, false, false, false, false, false, false, false, false, false, false, false, false, false, false, false, false, false, false, false, false, false, false, false] rfl rfl (by kernel_rfl) (fun _ _ _ h => h) (Or.inl ⟨by rfl, ?_⟩) ?_ ?_
      rotate_left
      · intro w'
        go_simp
        all_goals (with_reducible rfl)
      rotate_left
      · simp only [Act.put, List.setIfInBounds_toArray, List.set_cons_zero, List.set_cons_succ, i64_w, i32_w]
        rfl
      refine take_ (i := 5) (N := some 15) (v := ?_) (a' := ?_) #[true, true, true, true, true, true, false, false, false, false, false, false, false, false, false, false, false, false, false, false, false, false, false, false, false, false, false, false, false, false, false, false] rfl rfl (by kernel_rfl) (fun _ _ _ h => h) (Or.inl ⟨by rfl, ?_⟩) hHeld ?_ ?_
      rotate_left
      · intro w' hSw
        (try dsimp only at hSw)
        go_simp
        all_goals (with_reducible rfl)
      rotate_left
      · simp only [Act.put, List.setIfInBounds_toArray, List.set_cons_zero, List.set_cons_succ, i64_w, i32_w]
        rfl
      refine one_ (i := 6) (N := some 16) #[true, true, true, true, true, true, true, false, false, false, false, false, false, false, false, false, false, false, false, false, false, false, false, false, false, false, false, false, false, false, false, false] rfl rfl (by kernel_rfl) (by decide) (fun K hK => ?_)
      go_simp
      go_at_call 13
      refine (actmay_calls _ k a b c ha hb hc).mono ?_
      rintro e wq ⟨rfl, hb⟩
      rw [hm]
      have HBc := Aside0.mk (below_then HBc.out HBc.out.size hb)
      have p0 := blk_cell (blk_below HX4.out HBc.out) 0
      have q0 := blk_cell (blk_below HT4.out HBc.out) 0
      have p1 := blk_cell (blk_below HX4.out HBc.out) 1
      have q1 := blk_cell (blk_below HT4.out HBc.out) 1
      have p2 := blk_cell (blk_below HX4.out HBc.out) 2
      have q2 := blk_cell (blk_below HT4.out HBc.out) 2
      have p3 := blk_cell (blk_below HX4.out HBc.out) 3
      have q3 := blk_cell (blk_below HT4.out HBc.out) 3
      clear hb
      (try go_wp2_with fail)
      refine hK.out _ _ (⟨p0, p1, p2, p3, q0, q1, q2, q3⟩) (fun hHeld => ?_)
      clear hK K
      (try simp only [Act.put, List.setIfInBounds_toArray, List.set_cons_zero, List.set_cons_succ])
      refine pure_ (i := 7) (N := some 17) (v := ?_) (a' := ?_) #[true, true, true, true, true, true, true, true, false, false, false, false, false, false, false, false, false, false, false, false, false, false, false, false, false, false, false, false, false, false, false, false] rfl rfl (by kernel_rfl) (fun _ _ _ h => h) (Or.inl ⟨by rfl, ?_⟩) ?_ ?_
      rotate_left
      · intro w'
        go_simp
        all_goals (with_reducible rfl)
      rotate_left
      · simp only [Act.put, List.setIfInBounds_toArray, List.set_cons_zero, List.set_cons_succ, i64_w, i32_w]
        rfl
      refine pure_ (i := 8) (N := some 18) (v := ?_) (a' := ?_) #[true, true, true, true, true, true, true, true, true, false, false, false, false, false, false, false, false, false, false, false, false, false, false, false, false, false, false, false, false, false, false, false] rfl rfl (by kernel_rfl) (fun _ _ _ h => h) (Or.inl ⟨by rfl, ?_⟩) ?_ ?_
      rotate_left
      · intro w'
        go_simp
        all_goals (with_reducible rfl)
      rotate_left
      · simp only [Act.put, List.setIfInBounds_toArray, List.set_cons_zero, List.set_cons_succ, i64_w, i32_w]
        rfl
      refine pure_ (i := 10) (N := some 20) (v := ?_) (a' := ?_) #[true, true, true, true, true, true, true, true, true, false, true, false, false, false, false, false, false, false, false, false, false, false, false, false, false, false, false, false, false, false, false, false] rfl rfl (by kernel_rfl) (fun _ _ _ h => h) (Or.inl ⟨by rfl, ?_⟩) ?_ ?_
      rotate_left
      · intro w'
        go_simp
        all_goals (with_reducible rfl)
      rotate_left
      · simp only [Act.put, List.setIfInBounds_toArray, List.set_cons_zero, List.set_cons_succ, i64_w, i32_w]
        rfl
      refine take_ (i := 9) (N := some 19) (v := ?_) (a' := ?_) #[true, true, true, true, true, true, true, true, true, true, true, false, false, false, false, false, false, false, false, false, false, false, false, false, false, false, false, false, false, false, false, false] rfl rfl (by kernel_rfl) (fun _ _ _ h => h) (Or.inl ⟨by rfl, ?_⟩) hHeld ?_ ?_
      rotate_left
      · intro w' hSw
        (try dsimp only at hSw)
        go_simp
        all_goals (with_reducible rfl)
      rotate_left
      · simp only [Act.put, List.setIfInBounds_toArray, List.set_cons_zero, List.set_cons_succ, i64_w, i32_w]
        rfl
      refine pure_ (i := 11) (N := some 21) (v := ?_) (a' := ?_) #[true, true, true, true, true, true, true, true, true, true, true, true, false, false, false, false, false, false, false, false, false, false, false, false, false, false, false, false, false, false, false, false] rfl rfl (by kernel_rfl) (fun _ _ _ h => h) (Or.inl ⟨by rfl, ?_⟩) ?_ ?_
      rotate_left
      · intro w'
        go_simp
        all_goals (with_reducible rfl)
      rotate_left
      · simp only [Act.put, List.setIfInBounds_toArray, List.set_cons_zero, List.set_cons_succ, i64_w, i32_w]
        rfl
      refine pure_ (i := 12) (N := some 22) (v := ?_) (a' := ?_) #[true, true, true, true, true, true, true, true, true, true, true, true, true, false, false, false, false, false, false, false, false, false, false, false, false, false, false, false, false, false, false, false] rfl rfl (by kernel_rfl) (fun _ _ _ h => h) (Or.inl ⟨by rfl, ?_⟩) ?_ ?_
      rotate_left
      · intro w'
        go_simp
        all_goals (with_reducible rfl)
      rotate_left
      · simp only [Act.put, List.setIfInBounds_toArray, List.set_cons_zero, List.set_cons_succ, i64_w, i32_w]
        rfl
      refine pure_ (i := 13) (N := some 23) (v := ?_) (a' := ?_) #[true, true, true, true, true, true, true, true, true, true, true, true, true, true, false, false, false, false, false, false, false, false, false, false, false, false, false, false, false, false, false, false] rfl rfl (by kernel_rfl) (fun _ _ _ h => h) (Or.inl ⟨by rfl, ?_⟩) ?_ ?_
      rotate_left
      · intro w'
        go_simp
        all_goals (with_reducible rfl)
      rotate_left
      · simp only [Act.put, List.setIfInBounds_toArray, List.set_cons_zero, List.set_cons_succ, i64_w, i32_w]
        rfl
      refine pure_ (i := 14) (N := some 24) (v := undef) (a' := ?_) #[true, true, true, true, true, true, true, true, true, true, true, true, true, true, true, false, false, false, false, false, false, false, false, false, false, false, false, false, false, false, false, false] rfl rfl (by kernel_rfl) (fun _ _ _ h => h) (Or.inr ⟨by rfl, rfl⟩) ?_ ?_
      rotate_left
      · simp only [Act.put, List.setIfInBounds_toArray, List.set_cons_zero, List.set_cons_succ, i64_w, i32_w]
        rfl
      refine one_ (i := 15) (N := some 25) #[true, true, true, true, true, true, true, true, true, true, true, true, true, true, true, true, false, false, false, false, false, false, false, false, false, false, false, false, false, false, false, false] rfl rfl (by kernel_rfl) (by decide) (fun K hK => ?_)
      refine skip_ (by rfl) ?_
      refine hK.out _ _ hHeld (fun hHeld => ?_)
      clear hK K
      (try simp only [Act.put, List.setIfInBounds_toArray, List.set_cons_zero, List.set_cons_succ])
      refine pure_ (i := 16) (N := some 26) (v := undef) (a' := ?_) #[true, true, true, true, true, true, true, true, true, true, true, true, true, true, true, true, true, false, false, false, false, false, false, false, false, false, false, false, false, false, false, false] rfl rfl (by kernel_rfl) (fun _ _ _ h => h) (Or.inr ⟨by rfl, rfl⟩) ?_ ?_
      rotate_left
      · simp only [Act.put, List.setIfInBounds_toArray, List.set_cons_zero, List.set_cons_succ, i64_w, i32_w]
        rfl
      refine pure_ (i := 17) (N := some 27) (v := undef) (a' := ?_) #[true, true, true, true, true, true, true, true, true, true, true, true, true, true, true, true, true, true, false, false, false, false, false, false, false, false, false, false, false, false, false, false] rfl rfl (by kernel_rfl) (fun _ _ _ h => h) (Or.inr ⟨by rfl, rfl⟩) ?_ ?_
      rotate_left
      · simp only [Act.put, List.setIfInBounds_toArray, List.set_cons_zero, List.set_cons_succ, i64_w, i32_w]
        rfl
      refine pure_ (i := 19) (N := some 29) (v := undef) (a' := ?_) #[true, true, true, true, true, true, true, true, true, true, true, true, true, true, true, true, true, true, false, true, false, false, false, false, false, false, false, false, false, false, false, false] rfl rfl (by kernel_rfl) (fun _ _ _ h => h) (Or.inr ⟨by rfl, rfl⟩) ?_ ?_
      rotate_left
      · simp only [Act.put, List.setIfInBounds_toArray, List.set_cons_zero, List.set_cons_succ, i64_w, i32_w]
        rfl
      refine one_ (i := 18) (N := some 28) #[true, true, true, true, true, true, true, true, true, true, true, true, true, true, true, true, true, true, true, true, false, false, false, false, false, false, false, false, false, false, false, false] rfl rfl (by kernel_rfl) (by decide) (fun K hK => ?_)
      refine skip_ (by rfl) ?_
      refine hK.out _ _ hHeld (fun hHeld => ?_)
      clear hK K
      (try simp only [Act.put, List.setIfInBounds_toArray, List.set_cons_zero, List.set_cons_succ])
      refine pure_ (i := 20) (N := some 30) (v := undef) (a' := ?_) #[true, true, true, true, true, true, true, true, true, true, true, true, true, true, true, true, true, true, true, true, true, false, false, false, false, false, false, false, false, false, false, false] rfl rfl (by kernel_rfl) (fun _ _ _ h => h) (Or.inr ⟨by rfl, rfl⟩) ?_ ?_
      rotate_left
      · simp only [Act.put, List.setIfInBounds_toArray, List.set_cons_zero, List.set_cons_succ, i64_w, i32_w]
        rfl
      refine pure_ (i := 21) (N := some 31) (v := undef) (a' := ?_) #[true, true, true, true, true, true, true, true, true, true, true, true, true, true, true, true, true, true, true, true, true, true, false, false, false, false, false, false, false, false, false, false] rfl rfl (by kernel_rfl) (fun _ _ _ h => h) (Or.inr ⟨by rfl, rfl⟩) ?_ ?_
      rotate_left
      · simp only [Act.put, List.setIfInBounds_toArray, List.set_cons_zero, List.set_cons_succ, i64_w, i32_w]
        rfl
      refine pure_ (i := 22) (N := some 32) (v := undef) (a' := ?_) #[true, true, true, true, true, true, true, true, true, true, true, true, true, true, true, true, true, true, true, true, true, true, true, false, false, false, false, false, false, false, false, false] rfl rfl (by kernel_rfl) (fun _ _ _ h => h) (Or.inr ⟨by rfl, rfl⟩) ?_ ?_
      rotate_left
      · simp only [Act.put, List.setIfInBounds_toArray, List.set_cons_zero, List.set_cons_succ, i64_w, i32_w]
        rfl
      refine pure_ (i := 23) (N := some 33) (v := undef) (a' := ?_) #[true, true, true, true, true, true, true, true, true, true, true, true, true, true, true, true, true, true, true, true, true, true, true, true, false, false, false, false, false, false, false, false] rfl rfl (by kernel_rfl) (fun _ _ _ h => h) (Or.inr ⟨by rfl, rfl⟩) ?_ ?_
      rotate_left
      · simp only [Act.put, List.setIfInBounds_toArray, List.set_cons_zero, List.set_cons_succ, i64_w, i32_w]
        rfl
      refine one_ (i := 24) (N := some 34) #[true, true, true, true, true, true, true, true, true, true, true, true, true, true, true, true, true, true, true, true, true, true, true, true, true, false, false, false, false, false, false, false] rfl rfl (by kernel_rfl) (by decide) (fun K hK => ?_)
      refine skip_ (by rfl) ?_
      refine hK.out _ _ hHeld (fun hHeld => ?_)
      clear hK K
      (try simp only [Act.put, List.setIfInBounds_toArray, List.set_cons_zero, List.set_cons_succ])
      refine pure_ (i := 25) (N := some 35) (v := undef) (a' := ?_) #[true, true, true, true, true, true, true, true, true, true, true, true, true, true, true, true, true, true, true, true, true, true, true, true, true, true, false, false, false, false, false, false] rfl rfl (by kernel_rfl) (fun _ _ _ h => h) (Or.inr ⟨by rfl, rfl⟩) ?_ ?_
      rotate_left
      · simp only [Act.put, List.setIfInBounds_toArray, List.set_cons_zero, List.set_cons_succ, i64_w, i32_w]
        rfl
      refine pure_ (i := 26) (N := some 36) (v := ?_) (a' := ?_) #[true, true, true, true, true, true, true, true, true, true, true, true, true, true, true, true, true, true, true, true, true, true, true, true, true, true, true, false, false, false, false, false] rfl rfl (by kernel_rfl) (fun _ _ _ h => h) (Or.inl ⟨by rfl, ?_⟩) ?_ ?_
      rotate_left
      · intro w'
        go_simp
        all_goals (with_reducible rfl)
      rotate_left
      · simp only [Act.put, List.setIfInBounds_toArray, List.set_cons_zero, List.set_cons_succ, i64_w, i32_w]
        rfl
      refine pure_ (i := 27) (N := some 37) (v := ?_) (a' := ?_) #[true, true, true, true, true, true, true, true, true, true, true, true, true, true, true, true, true, true, true, true, true, true, true, true, true, true, true, true, false, false, false, false] rfl rfl (by kernel_rfl) (fun _ _ _ h => h) (Or.inl ⟨by rfl, ?_⟩) ?_ ?_
      rotate_left
      · intro w'
        go_simp
        all_goals (with_reducible rfl)
      rotate_left
      · simp only [Act.put, List.setIfInBounds_toArray, List.set_cons_zero, List.set_cons_succ, i64_w, i32_w]
        rfl
      refine pure_ (i := 28) (N := some 38) (v := ?_) (a' := ?_) #[true, true, true, true, true, true, true, true, true, true, true, true, true, true, true, true, true, true, true, true, true, true, true, true, true, true, true, true, true, false, false, false] rfl rfl (by kernel_rfl) (fun _ _ _ h => h) (Or.inl ⟨by rfl, ?_⟩) ?_ ?_
      rotate_left
      · intro w'
        go_simp
        all_goals (with_reducible rfl)
      rotate_left
      · simp only [Act.put, List.setIfInBounds_toArray, List.set_cons_zero, List.set_cons_succ, i64_w, i32_w]
        rfl
      refine one_ (i := 29) (N := some 39) #[true, true, true, true, true, true, true, true, true, true, true, true, true, true, true, true, true, true, true, true, true, true, true, true, true, true, true, true, true, true, false, false] rfl rfl (by kernel_rfl) (by decide) (fun K hK => ?_)
      go_simp
      go_at_call 10
      refine (lives_calls _).mono ?_
      rintro e wq ⟨rfl, hb⟩
      have HBc := Aside0.mk (below_then HBc.out HBc.out.size hb)
      have p0 := blk_cell (blk_below HX4.out HBc.out) 0
      have q0 := blk_cell (blk_below HT4.out HBc.out) 0
      have p1 := blk_cell (blk_below HX4.out HBc.out) 1
      have q1 := blk_cell (blk_below HT4.out HBc.out) 1
      have p2 := blk_cell (blk_below HX4.out HBc.out) 2
      have q2 := blk_cell (blk_below HT4.out HBc.out) 2
      have p3 := blk_cell (blk_below HX4.out HBc.out) 3
      have q3 := blk_cell (blk_below HT4.out HBc.out) 3
      clear hb
      (try go_wp2_with fail)
      refine hK.out _ _ (⟨p0, p1, p2, p3, q0, q1, q2, q3⟩) (fun hHeld => ?_)
      clear hK K
      (try simp only [Act.put, List.setIfInBounds_toArray, List.set_cons_zero, List.set_cons_succ])
      refine pure_ (i := 30) (N := some 40) (v := ?_) (a' := ?_) #[true, true, true, true, true, true, true, true, true, true, true, true, true, true, true, true, true, true, true, true, true, true, true, true, true, true, true, true, true, true, true, false] rfl rfl (by kernel_rfl) (fun _ _ _ h => h) (Or.inl ⟨by rfl, ?_⟩) ?_ ?_
      rotate_left
      · intro w'
        go_simp
        all_goals (with_reducible rfl)
      rotate_left
      · simp only [Act.put, List.setIfInBounds_toArray, List.set_cons_zero, List.set_cons_succ, i64_w, i32_w]
        rfl
      refine pure_ (i := 31) (N := some 2) (v := ?_) (a' := ?_) #[true, true, true, true, true, true, true, true, true, true, true, true, true, true, true, true, true, true, true, true, true, true, true, true, true, true, true, true, true, true, true, true] rfl rfl (by kernel_rfl) (fun _ _ _ h => h) (Or.inl ⟨by rfl, ?_⟩) ?_ ?_
      rotate_left
      · intro w'
        go_simp
        all_goals (with_reducible rfl)
      rotate_left
      · simp only [Act.put, List.setIfInBounds_toArray, List.set_cons_zero, List.set_cons_succ, i64_w, i32_w]
        rfl
      refine done_ (by kernel_rfl) ?_
      go_wp2
      go_ret
      exact ⟨rfl, below_then HB4.out HB4.out.size HBc.out⟩
    | true =>
      rw [show actTurn k a b c = (turnK k, a, c, b) from by unfold actTurn; rw [hm]; rfl]
      have HTa := Aside0.mk (show actTurn k a b c = (turnK k, a, c, b) from by unfold actTurn; rw [hm]; rfl)
      go_wp2_with fail
      have hb4 : Below w3.heap.size w3 (w3.alloc (.cells #[.int .i64 (turnK k), .string a, .string c, .string b] 24)) := below_alloc (Below.refl _ _) _
      have ht4 := heap_alloc_new w3 (.cells #[.int .i64 (turnK k), .string a, .string c, .string b] 24)
      have hx4 := blk_alloc HX3.out (.cells #[.int .i64 (turnK k), .string a, .string c, .string b] 24)
      generalize w3.alloc (.cells #[.int .i64 (turnK k), .string a, .string c, .string b] 24) = w4 at hb4 ht4 hx4 ⊢
      have HB4 := Aside0.mk (below_then HB3.out HB3.out.size hb4)
      have HX4 := Aside0.mk hx4
      have HT4 := Aside0.mk ht4
      have HBc := Aside0.mk (below_drew (Below.refl w4.heap.size w4))
      have p0 := blk_cell hx4 0
      have p1 := blk_cell hx4 1
      have p2 := blk_cell hx4 2
      have p3 := blk_cell hx4 3
      have q0 := blk_cell ht4 0
      have q1 := blk_cell ht4 1
      have q2 := blk_cell ht4 2
      have q3 := blk_cell ht4 3
      clear hb4 ht4 hx4
      refine start_ (n := 32) (S := fun wx => wx.cell? ⟨w.heap.size, 0, none⟩ = some (.int .i64 k) ∧ wx.cell? ⟨w.heap.size, 1, none⟩ = some (.string a) ∧ wx.cell? ⟨w.heap.size, 2, none⟩ = some (.string b) ∧ wx.cell? ⟨w.heap.size, 3, none⟩ = some (.string c) ∧ wx.cell? ⟨w3.heap.size, 0, none⟩ = some (.int .i64 (turnK k)) ∧ wx.cell? ⟨w3.heap.size, 1, none⟩ = some (.string a) ∧ wx.cell? ⟨w3.heap.size, 2, none⟩ = some (.string c) ∧ wx.cell? ⟨w3.heap.size, 3, none⟩ = some (.string b)) (ds := []) #[false, false, false, false, false, false, false, false, false, false, false, false, false, false, false, false, false, false, false, false, false, false, false, false, false, false, false, false, false, false, false, false] (by kernel_rfl) rfl rfl (⟨p0, p1, p2, p3, q0, q1, q2, q3⟩) (fun hHeld => ?_)
      refine take_ (i := 0) (N := some 10) (v := ?_) (a' := ?_) #[true, false, false, false, false, false, false, false, false, false, false, false, false, false, false, false, false, false, false, false, false, false, false, false, false, false, false, false, false, false, false, false] rfl rfl (by kernel_rfl) (fun _ _ _ h => h) (Or.inl ⟨by rfl, ?_⟩) hHeld ?_ ?_
      rotate_left
      · intro w' hSw
        (try dsimp only at hSw)
        go_simp
        all_goals (with_reducible rfl)
      rotate_left
      · simp only [Act.put, List.setIfInBounds_toArray, List.set_cons_zero, List.set_cons_succ, i64_w, i32_w]
        rfl
      refine take_ (i := 1) (N := some 11) (v := ?_) (a' := ?_) #[true, true, false, false, false, false, false, false, false, false, false, false, false, false, false, false, false, false, false, false, false, false, false, false, false, false, false, false, false, false, false, false] rfl rfl (by kernel_rfl) (fun _ _ _ h => h) (Or.inl ⟨by rfl, ?_⟩) hHeld ?_ ?_
      rotate_left
      · intro w' hSw
        (try dsimp only at hSw)
        go_simp
        all_goals (with_reducible rfl)
      rotate_left
      · simp only [Act.put, List.setIfInBounds_toArray, List.set_cons_zero, List.set_cons_succ, i64_w, i32_w]
        rfl
      refine one_ (i := 2) (N := some 12) #[true, true, true, false, false, false, false, false, false, false, false, false, false, false, false, false, false, false, false, false, false, false, false, false, false, false, false, false, false, false, false, false] rfl rfl (by kernel_rfl) (by decide) (fun K hK => ?_)
      go_simp
      go_at_call 12
      refine (refturn_calls k a b c _).mono ?_
      rintro e wq ⟨rfl, hb⟩
      rw [HTa.out]
      have HBc := Aside0.mk (below_then HBc.out HBc.out.size hb)
      have p0 := blk_cell (blk_below HX4.out HBc.out) 0
      have q0 := blk_cell (blk_below HT4.out HBc.out) 0
      have p1 := blk_cell (blk_below HX4.out HBc.out) 1
      have q1 := blk_cell (blk_below HT4.out HBc.out) 1
      have p2 := blk_cell (blk_below HX4.out HBc.out) 2
      have q2 := blk_cell (blk_below HT4.out HBc.out) 2
      have p3 := blk_cell (blk_below HX4.out HBc.out) 3
      have q3 := blk_cell (blk_below HT4.out HBc.out) 3
      clear hb
      (try go_wp2_with fail)
      refine hK.out _ _ (⟨p0, p1, p2, p3, q0, q1, q2, q3⟩) (fun hHeld => ?_)
      clear hK K
      (try simp only [Act.put, List.setIfInBounds_toArray, List.set_cons_zero, List.set_cons_succ])
      refine pure_ (i := 3) (N := some 13) (v := ?_) (a' := ?_) #[true, true, true, true, false, false, false, false, false, false, false, false, false, false, false, false, false, false, false, false, false, false, false, false, false, false, false, false, false, false, false, false] rfl rfl (by kernel_rfl) (fun _ _ _ h => h) (Or.inl ⟨by rfl, ?_⟩) ?_ ?_
      rotate_left
      · intro w'
        go_simp
        all_goals (with_reducible rfl)
      rotate_left
      · simp only [Act.put, List.setIfInBounds_toArray, List.set_cons_zero, List.set_cons_succ, i64_w, i32_w]
        rfl
      refine pure_ (i := 4) (N := some 14) (v := ?_) (a' := ?_) #[true, true, true, true, true, false, false, false, false, false, false, false, false, false, false, false, false, false, false, false, false, false, false, false, false, false, false, false, false, false, false, false] rfl rfl (by kernel_rfl) (fun _ _ _ h => h) (Or.inl ⟨by rfl, ?_⟩) ?_ ?_
      rotate_left
      · intro w'
        go_simp
        all_goals (with_reducible rfl)
      rotate_left
      · simp only [Act.put, List.setIfInBounds_toArray, List.set_cons_zero, List.set_cons_succ, i64_w, i32_w]
        rfl
      refine take_ (i := 5) (N := some 15) (v := ?_) (a' := ?_) #[true, true, true, true, true, true, false, false, false, false, false, false, false, false, false, false, false, false, false, false, false, false, false, false, false, false, false, false, false, false, false, false] rfl rfl (by kernel_rfl) (fun _ _ _ h => h) (Or.inl ⟨by rfl, ?_⟩) hHeld ?_ ?_
      rotate_left
      · intro w' hSw
        (try dsimp only at hSw)
        go_simp
        all_goals (with_reducible rfl)
      rotate_left
      · simp only [Act.put, List.setIfInBounds_toArray, List.set_cons_zero, List.set_cons_succ, i64_w, i32_w]
        rfl
      refine one_ (i := 6) (N := some 16) #[true, true, true, true, true, true, true, false, false, false, false, false, false, false, false, false, false, false, false, false, false, false, false, false, false, false, false, false, false, false, false, false] rfl rfl (by kernel_rfl) (by decide) (fun K hK => ?_)
      go_simp
      go_at_call 13
      refine (actmay_calls _ k a b c ha hb hc).mono ?_
      rintro e wq ⟨rfl, hb⟩
      rw [hm]
      have HBc := Aside0.mk (below_then HBc.out HBc.out.size hb)
      have p0 := blk_cell (blk_below HX4.out HBc.out) 0
      have q0 := blk_cell (blk_below HT4.out HBc.out) 0
      have p1 := blk_cell (blk_below HX4.out HBc.out) 1
      have q1 := blk_cell (blk_below HT4.out HBc.out) 1
      have p2 := blk_cell (blk_below HX4.out HBc.out) 2
      have q2 := blk_cell (blk_below HT4.out HBc.out) 2
      have p3 := blk_cell (blk_below HX4.out HBc.out) 3
      have q3 := blk_cell (blk_below HT4.out HBc.out) 3
      clear hb
      (try go_wp2_with fail)
      refine hK.out _ _ (⟨p0, p1, p2, p3, q0, q1, q2, q3⟩) (fun hHeld => ?_)
      clear hK K
      (try simp only [Act.put, List.setIfInBounds_toArray, List.set_cons_zero, List.set_cons_succ])
      refine pure_ (i := 7) (N := some 17) (v := ?_) (a' := ?_) #[true, true, true, true, true, true, true, true, false, false, false, false, false, false, false, false, false, false, false, false, false, false, false, false, false, false, false, false, false, false, false, false] rfl rfl (by kernel_rfl) (fun _ _ _ h => h) (Or.inl ⟨by rfl, ?_⟩) ?_ ?_
      rotate_left
      · intro w'
        go_simp
        all_goals (with_reducible rfl)
      rotate_left
      · simp only [Act.put, List.setIfInBounds_toArray, List.set_cons_zero, List.set_cons_succ, i64_w, i32_w]
        rfl
      refine pure_ (i := 8) (N := some 18) (v := ?_) (a' := ?_) #[true, true, true, true, true, true, true, true, true, false, false, false, false, false, false, false, false, false, false, false, false, false, false, false, false, false, false, false, false, false, false, false] rfl rfl (by kernel_rfl) (fun _ _ _ h => h) (Or.inl ⟨by rfl, ?_⟩) ?_ ?_
      rotate_left
      · intro w'
        go_simp
        all_goals (with_reducible rfl)
      rotate_left
      · simp only [Act.put, List.setIfInBounds_toArray, List.set_cons_zero, List.set_cons_succ, i64_w, i32_w]
        rfl
      refine pure_ (i := 10) (N := some 20) (v := undef) (a' := ?_) #[true, true, true, true, true, true, true, true, true, false, true, false, false, false, false, false, false, false, false, false, false, false, false, false, false, false, false, false, false, false, false, false] rfl rfl (by kernel_rfl) (fun _ _ _ h => h) (Or.inr ⟨by rfl, rfl⟩) ?_ ?_
      rotate_left
      · simp only [Act.put, List.setIfInBounds_toArray, List.set_cons_zero, List.set_cons_succ, i64_w, i32_w]
        rfl
      refine pure_ (i := 9) (N := some 19) (v := undef) (a' := ?_) #[true, true, true, true, true, true, true, true, true, true, true, false, false, false, false, false, false, false, false, false, false, false, false, false, false, false, false, false, false, false, false, false] rfl rfl (by kernel_rfl) (fun _ _ _ h => h) (Or.inr ⟨by rfl, rfl⟩) ?_ ?_
      rotate_left
      · simp only [Act.put, List.setIfInBounds_toArray, List.set_cons_zero, List.set_cons_succ, i64_w, i32_w]
        rfl
      refine pure_ (i := 11) (N := some 21) (v := undef) (a' := ?_) #[true, true, true, true, true, true, true, true, true, true, true, true, false, false, false, false, false, false, false, false, false, false, false, false, false, false, false, false, false, false, false, false] rfl rfl (by kernel_rfl) (fun _ _ _ h => h) (Or.inr ⟨by rfl, rfl⟩) ?_ ?_
      rotate_left
      · simp only [Act.put, List.setIfInBounds_toArray, List.set_cons_zero, List.set_cons_succ, i64_w, i32_w]
        rfl
      refine pure_ (i := 12) (N := some 22) (v := ?_) (a' := ?_) #[true, true, true, true, true, true, true, true, true, true, true, true, true, false, false, false, false, false, false, false, false, false, false, false, false, false, false, false, false, false, false, false] rfl rfl (by kernel_rfl) (fun _ _ _ h => h) (Or.inl ⟨by rfl, ?_⟩) ?_ ?_
      rotate_left
      · intro w'
        go_simp
        all_goals (with_reducible rfl)
      rotate_left
      · simp only [Act.put, List.setIfInBounds_toArray, List.set_cons_zero, List.set_cons_succ, i64_w, i32_w]
        rfl
      refine pure_ (i := 13) (N := some 23) (v := ?_) (a' := ?_) #[true, true, true, true, true, true, true, true, true, true, true, true, true, true, false, false, false, false, false, false, false, false, false, false, false, false, false, false, false, false, false, false] rfl rfl (by kernel_rfl) (fun _ _ _ h => h) (Or.inl ⟨by rfl, ?_⟩) ?_ ?_
      rotate_left
      · intro w'
        go_simp
        all_goals (with_reducible rfl)
      rotate_left
      · simp only [Act.put, List.setIfInBounds_toArray, List.set_cons_zero, List.set_cons_succ, i64_w, i32_w]
        rfl
      refine take_ (i := 14) (N := some 24) (v := ?_) (a' := ?_) #[true, true, true, true, true, true, true, true, true, true, true, true, true, true, true, false, false, false, false, false, false, false, false, false, false, false, false, false, false, false, false, false] rfl rfl (by kernel_rfl) (fun _ _ _ h => h) (Or.inl ⟨by rfl, ?_⟩) hHeld ?_ ?_
      rotate_left
      · intro w' hSw
        (try dsimp only at hSw)
        go_simp
        all_goals (with_reducible rfl)
      rotate_left
      · simp only [Act.put, List.setIfInBounds_toArray, List.set_cons_zero, List.set_cons_succ, i64_w, i32_w]
        rfl
      refine one_ (i := 15) (N := some 25) #[true, true, true, true, true, true, true, true, true, true, true, true, true, true, true, true, false, false, false, false, false, false, false, false, false, false, false, false, false, false, false, false] rfl rfl (by kernel_rfl) (by decide) (fun K hK => ?_)
      go_simp
      go_at_call 13
      refine (actmay_calls _ k a b c ha hb hc).mono ?_
      rintro e wq ⟨rfl, hb⟩
      rw [hm]
      have HBc := Aside0.mk (below_then HBc.out HBc.out.size hb)
      have p0 := blk_cell (blk_below HX4.out HBc.out) 0
      have q0 := blk_cell (blk_below HT4.out HBc.out) 0
      have p1 := blk_cell (blk_below HX4.out HBc.out) 1
      have q1 := blk_cell (blk_below HT4.out HBc.out) 1
      have p2 := blk_cell (blk_below HX4.out HBc.out) 2
      have q2 := blk_cell (blk_below HT4.out HBc.out) 2
      have p3 := blk_cell (blk_below HX4.out HBc.out) 3
      have q3 := blk_cell (blk_below HT4.out HBc.out) 3
      clear hb
      (try go_wp2_with fail)
      refine hK.out _ _ (⟨p0, p1, p2, p3, q0, q1, q2, q3⟩) (fun hHeld => ?_)
      clear hK K
      (try simp only [Act.put, List.setIfInBounds_toArray, List.set_cons_zero, List.set_cons_succ])
      refine pure_ (i := 16) (N := some 26) (v := ?_) (a' := ?_) #[true, true, true, true, true, true, true, true, true, true, true, true, true, true, true, true, true, false, false, false, false, false, false, false, false, false, false, false, false, false, false, false] rfl rfl (by kernel_rfl) (fun _ _ _ h => h) (Or.inl ⟨by rfl, ?_⟩) ?_ ?_
      rotate_left
      · intro w'
        go_simp
        all_goals (with_reducible rfl)
      rotate_left
      · simp only [Act.put, List.setIfInBounds_toArray, List.set_cons_zero, List.set_cons_succ, i64_w, i32_w]
        rfl
      refine take_ (i := 17) (N := some 27) (v := ?_) (a' := ?_) #[true, true, true, true, true, true, true, true, true, true, true, true, true, true, true, true, true, true, false, false, false, false, false, false, false, false, false, false, false, false, false, false] rfl rfl (by kernel_rfl) (fun _ _ _ h => h) (Or.inl ⟨by rfl, ?_⟩) hHeld ?_ ?_
      rotate_left
      · intro w' hSw
        (try dsimp only at hSw)
        go_simp
        all_goals (with_reducible rfl)
      rotate_left
      · simp only [Act.put, List.setIfInBounds_toArray, List.set_cons_zero, List.set_cons_succ, i64_w, i32_w]
        rfl
      refine take_ (i := 19) (N := some 29) (v := ?_) (a' := ?_) #[true, true, true, true, true, true, true, true, true, true, true, true, true, true, true, true, true, true, false, true, false, false, false, false, false, false, false, false, false, false, false, false] rfl rfl (by kernel_rfl) (fun _ _ _ h => h) (Or.inl ⟨by rfl, ?_⟩) hHeld ?_ ?_
      rotate_left
      · intro w' hSw
        (try dsimp only at hSw)
        go_simp
        all_goals (with_reducible rfl)
      rotate_left
      · simp only [Act.put, List.setIfInBounds_toArray, List.set_cons_zero, List.set_cons_succ, i64_w, i32_w]
        rfl
      refine one_ (i := 18) (N := some 28) #[true, true, true, true, true, true, true, true, true, true, true, true, true, true, true, true, true, true, true, true, false, false, false, false, false, false, false, false, false, false, false, false] rfl rfl (by kernel_rfl) (by decide) (fun K hK => ?_)
      go_simp
      go_at_call 11
      refine (turn_calls _ (turnK k) a c b ha hc hb).mono ?_
      rintro e wq ⟨rfl, hb⟩
      rw [turn_turn hm]
      have HBc := Aside0.mk (below_then HBc.out HBc.out.size hb)
      have p0 := blk_cell (blk_below HX4.out HBc.out) 0
      have q0 := blk_cell (blk_below HT4.out HBc.out) 0
      have p1 := blk_cell (blk_below HX4.out HBc.out) 1
      have q1 := blk_cell (blk_below HT4.out HBc.out) 1
      have p2 := blk_cell (blk_below HX4.out HBc.out) 2
      have q2 := blk_cell (blk_below HT4.out HBc.out) 2
      have p3 := blk_cell (blk_below HX4.out HBc.out) 3
      have q3 := blk_cell (blk_below HT4.out HBc.out) 3
      clear hb
      (try go_wp2_with fail)
      refine hK.out _ _ (⟨p0, p1, p2, p3, q0, q1, q2, q3⟩) (fun hHeld => ?_)
      clear hK K
      (try simp only [Act.put, List.setIfInBounds_toArray, List.set_cons_zero, List.set_cons_succ])
      refine pure_ (i := 20) (N := some 30) (v := ?_) (a' := ?_) #[true, true, true, true, true, true, true, true, true, true, true, true, true, true, true, true, true, true, true, true, true, false, false, false, false, false, false, false, false, false, false, false] rfl rfl (by kernel_rfl) (fun _ _ _ h => h) (Or.inl ⟨by rfl, ?_⟩) ?_ ?_
      rotate_left
      · intro w'
        go_simp
        all_goals (with_reducible rfl)
      rotate_left
      · simp only [Act.put, List.setIfInBounds_toArray, List.set_cons_zero, List.set_cons_succ, i64_w, i32_w]
        rfl
      refine pure_ (i := 21) (N := some 31) (v := ?_) (a' := ?_) #[true, true, true, true, true, true, true, true, true, true, true, true, true, true, true, true, true, true, true, true, true, true, false, false, false, false, false, false, false, false, false, false] rfl rfl (by kernel_rfl) (fun _ _ _ h => h) (Or.inl ⟨by rfl, ?_⟩) ?_ ?_
      rotate_left
      · intro w'
        go_simp
        all_goals (with_reducible rfl)
      rotate_left
      · simp only [Act.put, List.setIfInBounds_toArray, List.set_cons_zero, List.set_cons_succ, i64_w, i32_w]
        rfl
      refine pure_ (i := 22) (N := some 32) (v := ?_) (a' := ?_) #[true, true, true, true, true, true, true, true, true, true, true, true, true, true, true, true, true, true, true, true, true, true, true, false, false, false, false, false, false, false, false, false] rfl rfl (by kernel_rfl) (fun _ _ _ h => h) (Or.inl ⟨by rfl, ?_⟩) ?_ ?_
      rotate_left
      · intro w'
        go_simp
        all_goals (with_reducible rfl)
      rotate_left
      · simp only [Act.put, List.setIfInBounds_toArray, List.set_cons_zero, List.set_cons_succ, i64_w, i32_w]
        rfl
      refine take_ (i := 23) (N := some 33) (v := ?_) (a' := ?_) #[true, true, true, true, true, true, true, true, true, true, true, true, true, true, true, true, true, true, true, true, true, true, true, true, false, false, false, false, false, false, false, false] rfl rfl (by kernel_rfl) (fun _ _ _ h => h) (Or.inl ⟨by rfl, ?_⟩) hHeld ?_ ?_
      rotate_left
      · intro w' hSw
        (try dsimp only at hSw)
        go_simp
        all_goals (with_reducible rfl)
      rotate_left
      · simp only [Act.put, List.setIfInBounds_toArray, List.set_cons_zero, List.set_cons_succ, i64_w, i32_w]
        rfl
      refine one_ (i := 24) (N := some 34) #[true, true, true, true, true, true, true, true, true, true, true, true, true, true, true, true, true, true, true, true, true, true, true, true, true, false, false, false, false, false, false, false] rfl rfl (by kernel_rfl) (by decide) (fun K hK => ?_)
      go_simp
      go_at_call 13
      refine (actmay_calls _ (turnK k) a c b ha hc hb).mono ?_
      rintro e wq ⟨rfl, hb⟩
      rw [turn_may hm]
      have HBc := Aside0.mk (below_then HBc.out HBc.out.size hb)
      have p0 := blk_cell (blk_below HX4.out HBc.out) 0
      have q0 := blk_cell (blk_below HT4.out HBc.out) 0
      have p1 := blk_cell (blk_below HX4.out HBc.out) 1
      have q1 := blk_cell (blk_below HT4.out HBc.out) 1
      have p2 := blk_cell (blk_below HX4.out HBc.out) 2
      have q2 := blk_cell (blk_below HT4.out HBc.out) 2
      have p3 := blk_cell (blk_below HX4.out HBc.out) 3
      have q3 := blk_cell (blk_below HT4.out HBc.out) 3
      clear hb
      (try go_wp2_with fail)
      refine hK.out _ _ (⟨p0, p1, p2, p3, q0, q1, q2, q3⟩) (fun hHeld => ?_)
      clear hK K
      (try simp only [Act.put, List.setIfInBounds_toArray, List.set_cons_zero, List.set_cons_succ])
      refine pure_ (i := 25) (N := some 35) (v := ?_) (a' := ?_) #[true, true, true, true, true, true, true, true, true, true, true, true, true, true, true, true, true, true, true, true, true, true, true, true, true, true, false, false, false, false, false, false] rfl rfl (by kernel_rfl) (fun _ _ _ h => h) (Or.inl ⟨by rfl, ?_⟩) ?_ ?_
      rotate_left
      · intro w'
        go_simp
        all_goals (with_reducible rfl)
      rotate_left
      · simp only [Act.put, List.setIfInBounds_toArray, List.set_cons_zero, List.set_cons_succ, i64_w, i32_w]
        rfl
      refine pure_ (i := 26) (N := some 36) (v := ?_) (a' := ?_) #[true, true, true, true, true, true, true, true, true, true, true, true, true, true, true, true, true, true, true, true, true, true, true, true, true, true, true, false, false, false, false, false] rfl rfl (by kernel_rfl) (fun _ _ _ h => h) (Or.inl ⟨by rfl, ?_⟩) ?_ ?_
      rotate_left
      · intro w'
        go_simp
        all_goals (with_reducible rfl)
      rotate_left
      · simp only [Act.put, List.setIfInBounds_toArray, List.set_cons_zero, List.set_cons_succ, i64_w, i32_w]
        rfl
      refine pure_ (i := 27) (N := some 37) (v := ?_) (a' := ?_) #[true, true, true, true, true, true, true, true, true, true, true, true, true, true, true, true, true, true, true, true, true, true, true, true, true, true, true, true, false, false, false, false] rfl rfl (by kernel_rfl) (fun _ _ _ h => h) (Or.inl ⟨by rfl, ?_⟩) ?_ ?_
      rotate_left
      · intro w'
        go_simp
        all_goals (with_reducible rfl)
      rotate_left
      · simp only [Act.put, List.setIfInBounds_toArray, List.set_cons_zero, List.set_cons_succ, i64_w, i32_w]
        rfl
      refine pure_ (i := 28) (N := some 38) (v := ?_) (a' := ?_) #[true, true, true, true, true, true, true, true, true, true, true, true, true, true, true, true, true, true, true, true, true, true, true, true, true, true, true, true, true, false, false, false] rfl rfl (by kernel_rfl) (fun _ _ _ h => h) (Or.inl ⟨by rfl, ?_⟩) ?_ ?_
      rotate_left
      · intro w'
        go_simp
        all_goals (with_reducible rfl)
      rotate_left
      · simp only [Act.put, List.setIfInBounds_toArray, List.set_cons_zero, List.set_cons_succ, i64_w, i32_w]
        rfl
      refine one_ (i := 29) (N := some 39) #[true, true, true, true, true, true, true, true, true, true, true, true, true, true, true, true, true, true, true, true, true, true, true, true, true, true, true, true, true, true, false, false] rfl rfl (by kernel_rfl) (by decide) (fun K hK => ?_)
      go_simp
      go_at_call 10
      refine (lives_calls _).mono ?_
      rintro e wq ⟨rfl, hb⟩
      have HBc := Aside0.mk (below_then HBc.out HBc.out.size hb)
      have p0 := blk_cell (blk_below HX4.out HBc.out) 0
      have q0 := blk_cell (blk_below HT4.out HBc.out) 0
      have p1 := blk_cell (blk_below HX4.out HBc.out) 1
      have q1 := blk_cell (blk_below HT4.out HBc.out) 1
      have p2 := blk_cell (blk_below HX4.out HBc.out) 2
      have q2 := blk_cell (blk_below HT4.out HBc.out) 2
      have p3 := blk_cell (blk_below HX4.out HBc.out) 3
      have q3 := blk_cell (blk_below HT4.out HBc.out) 3
      clear hb
      (try go_wp2_with fail)
      refine hK.out _ _ (⟨p0, p1, p2, p3, q0, q1, q2, q3⟩) (fun hHeld => ?_)
      clear hK K
      (try simp only [Act.put, List.setIfInBounds_toArray, List.set_cons_zero, List.set_cons_succ])
      refine pure_ (i := 30) (N := some 40) (v := ?_) (a' := ?_) #[true, true, true, true, true, true, true, true, true, true, true, true, true, true, true, true, true, true, true, true, true, true, true, true, true, true, true, true, true, true, true, false] rfl rfl (by kernel_rfl) (fun _ _ _ h => h) (Or.inl ⟨by rfl, ?_⟩) ?_ ?_
      rotate_left
      · intro w'
        go_simp
        all_goals (with_reducible rfl)
      rotate_left
      · simp only [Act.put, List.setIfInBounds_toArray, List.set_cons_zero, List.set_cons_succ, i64_w, i32_w]
        rfl
      refine pure_ (i := 31) (N := some 2) (v := ?_) (a' := ?_) #[true, true, true, true, true, true, true, true, true, true, true, true, true, true, true, true, true, true, true, true, true, true, true, true, true, true, true, true, true, true, true, true] rfl rfl (by kernel_rfl) (fun _ _ _ h => h) (Or.inl ⟨by rfl, ?_⟩) ?_ ?_
      rotate_left
      · intro w'
        go_simp
        all_goals (with_reducible rfl)
      rotate_left
      · simp only [Act.put, List.setIfInBounds_toArray, List.set_cons_zero, List.set_cons_succ, i64_w, i32_w]
        rfl
      refine done_ (by kernel_rfl) ?_
      go_wp2
      go_ret
      exact ⟨rfl, below_then HB4.out HB4.out.size HBc.out⟩
end Go.Proofs.Ytidgfigfebkieaa
end
section
namespace Go.Proofs.Ytidgfigfebkieaa
open Go.RowKit Go.Proofs.YtidgfigfebkieaaW.PrintWords Go.Proofs.YtidgfigfebkieaaW.PrintLast Go.Proofs.YtidgfigfebkieaaW.PrintMore
open Rf
set_option linter.unusedVariables false
set_option linter.unusedSimpArgs false

theorem rnum_calls (w : World) (x m : Nat) (hx : x < 18446744073709551616) (hm : m ≤ 100) :
    Calls Try.prog 64 #[.int .u64 x, .int .i64 m] w fun e w' => e = .returned (.string (mkS (le x m))) ∧ Below w.heap.size w w' := by
  obtain ⟨k, h⟩ := (num_ev x m hx hm).rounds
  exact flotillaref01_Num.calls k x m _ w h
theorem rnum8_calls (w : World) (x : Nat) (hx : x < 18446744073709551616) :
    Calls Try.prog 64 #[.int .u64 x, .int .i64 8] w fun e w' => e = .returned (.string (mkS (le x 8))) ∧ Below w.heap.size w w' := rnum_calls w x 8 hx (by omega)
theorem rnum2_calls (w : World) (x : Nat) (hx : x < 18446744073709551616) :
    Calls Try.prog 64 #[.int .u64 x, .int .i64 2] w fun e w' => e = .returned (.string (mkS (le x 2))) ∧ Below w.heap.size w w' := rnum_calls w x 2 hx (by omega)
theorem rcell_calls (w : World) (c : SGCell) (h1 : c.f1.size ≤ 1000) (h2 : c.f2.size ≤ 1000) :
    Calls Try.prog 63 #[.agg #[.bool c.f0, .string c.f1, .string c.f2]] w fun e w' => e = .returned (.string (mkS (cellB c))) ∧ Below w.heap.size w w' := by
  obtain ⟨k, h⟩ := (cell_ev c h1 h2).rounds
  exact flotillaref06_Cell.calls k c.f0 c.f1 c.f2 _ w h
theorem rsum_calls (w : World) (L : List UInt8) (h : L.length ≤ 1000000) :
    Calls Try.prog 66 #[.string (mkS L)] w fun e w' => e = .returned (.int .u32 (Crc.sum L)) ∧ Below w.heap.size w w' := by
  obtain ⟨k, h⟩ := (sum_ev (mkS L) (by rw [mkS_size]; exact h)).rounds
  rw [mkS_data] at h
  exact (flotillaref02_Sum.calls k (mkS L) _ w h).mono (by rintro e w' ⟨rfl, hd⟩; exact ⟨rfl, hd.below⟩)
theorem rfour_calls (w : World) (n : Nat) (h : n < 4294967296) :
    Calls Try.prog 65 #[.int .u32 n] w fun e w' => e = .returned (.string (mkS (le n 4))) ∧ Below w.heap.size w w' :=
  flotillaref02_Four.calls n _ w (four_f n h)
theorem rfree_calls (w : World) (id lsn : Int) (A : Option Addr) (c : Nat) (cs : List SGCell) (hC : Kd.C kGCell w A cs.length cs) (hc : cs.length ≤ c) (hS : Small cs) :
    Calls Try.prog 61 #[.agg #[.int .i64 id, .int .u64 lsn, .slice A cs.length c]] w fun e w' => e = .returned (.int .i64 (free cs)) ∧ Below w.heap.size w w' := by
  obtain ⟨k, h⟩ := (free_ev cs hS id lsn).rounds
  exact flotillaref06_Free.calls k id lsn A c cs _ w hC hc h

theorem tot_take_all (cs : List SGCell) (k : Nat) : tot (cs.take k) ≤ tot cs := by
  conv => rhs; rw [← List.take_append_drop k cs, tot_append]
  omega
/-- What stands ahead of the cells: the head, the slots, j noughts. -/
def preB (id lsn : Nat) (cs : List SGCell) (j : Nat) : List UInt8 := hdB id lsn cs.length ++ slotsB cs 512 ++ List.replicate j 0
theorem preB_length (id lsn : Nat) (cs : List SGCell) (j : Nat) : (preB id lsn cs j).length = 12 + 4 * cs.length + j := by
  rw [preB, List.length_append, List.length_append, hdB_length, slotsB_length, List.length_replicate]
theorem preB_zero (id lsn : Nat) (cs : List SGCell) : hdB id lsn cs.length ++ slotsB cs 512 = preB id lsn cs 0 := by rw [preB, List.replicate_zero, List.append_nil]
theorem preB_succ (id lsn : Nat) (cs : List SGCell) (j : Nat) : mkS (preB id lsn cs j) ++ (⟨#[0]⟩ : ByteArray) = mkS (preB id lsn cs (j + 1)) := by
  rw [show (⟨#[0]⟩ : ByteArray) = mkS [0] from rfl, mkS_append]
  unfold preB
  rw [List.replicate_succ', List.append_assoc, List.append_assoc]
theorem preB_all (id lsn : Nat) (cs : List SGCell) : mkS (preB id lsn cs (496 - 4 * cs.length - tot cs)) ++ mkS (cellsB cs) = mkS (bodyB id lsn cs) := by
  rw [mkS_append]
  unfold preB bodyB layB
  simp only [List.append_assoc]
theorem slots_next (cs : List SGCell) (i : Nat) (hi : i < cs.length) : slotsB (cs.take (i + 1)) 512 = slotsB (cs.take i) 512 ++ slotB (rd_TGCell cs i) (512 - tot (cs.take i) - csz (rd_TGCell cs i)) := by
  rw [rd_get cs i hi, List.take_succ_eq_append_getElem hi, slotsB_snoc]
theorem cells_next (cs : List SGCell) (i : Nat) (hi : i < cs.length) : cellsB (cs.take (i + 1)) = cellB (rd_TGCell cs i) ++ cellsB (cs.take i) := by
  rw [rd_get cs i hi, List.take_succ_eq_append_getElem hi, cellsB_snoc]

set_option maxRecDepth 100000 in
set_option maxHeartbeats 4000000 in
theorem rbytes_calls (w : World) (id lsn : Nat) (A : Option Addr) (c : Nat) (cs : List SGCell) (hC : Kd.C kGCell w A cs.length cs) (hS : Small cs) (hroom : 4 * cs.length + tot cs ≤ 496) (hid : id < 65536) (hlsn : lsn < 18446744073709551616) :
    Calls Try.prog 39 #[.agg #[.int .i64 id, .int .u64 lsn, .slice A cs.length c]] w fun e w' => e = .returned (.string (mkS (pgB id lsn cs))) ∧ Below w.heap.size w w' := by
  have HC := Aside0.mk hC
  have HS := Aside0.mk hS
  have HL := Aside0.mk hlsn
  have HR := Aside0.mk hroom
  clear hC hS hlsn hroom
  go_enter Try.func39, Try.ntmps39
  go_wp2_with fail
  have hb0 : Below w.heap.size w (w.alloc (.cells #[.int .i64 id, .int .u64 lsn, .slice A cs.length c] 46)) := below_alloc (Below.refl _ _) _
  have hx0 : (w.alloc (.cells #[.int .i64 id, .int .u64 lsn, .slice A cs.length c] 46)).cell? ⟨w.heap.size, 0, none⟩ = some (.int .i64 id) := blk_cell (heap_alloc_new w _) 0
  have hx1 : (w.alloc (.cells #[.int .i64 id, .int .u64 lsn, .slice A cs.length c] 46)).cell? ⟨w.heap.size, 1, none⟩ = some (.int .u64 lsn) := blk_cell (heap_alloc_new w _) 1
  have hx2 : (w.alloc (.cells #[.int .i64 id, .int .u64 lsn, .slice A cs.length c] 46)).cell? ⟨w.heap.size, 2, none⟩ = some (.slice A cs.length c) := blk_cell (heap_alloc_new w _) 2
  generalize w.alloc (.cells #[.int .i64 id, .int .u64 lsn, .slice A cs.length c] 46) = wb at hb0 hx0 hx1 hx2 ⊢
  have HX0 := Aside0.mk hx0
  have HX1 := Aside0.mk hx1
  have HX2 := Aside0.mk hx2
  have HB0 := Aside0.mk hb0
  have HCB := Aside0.mk (Kd.C_below HC.out hb0)
  have hl := HS.out.1
  clear hb0 hx0 hx1 hx2
  go_loopg [3, 4, 5] cs.length (fun gk v3 v4 v5 wr => ∃ k : Nat, Aside0 (k + gk = cs.length) ∧ v3 = .string (mkS (slotsB (cs.take k) 512)) ∧ v4 = .string (mkS (cellsB (cs.take k))) ∧ v5 = .int .i64 k ∧ k ≤ cs.length ∧ Aside0 (Below wb.heap.size wb wr))
  case atStart => exact ⟨0, ⟨by omega⟩, rfl, rfl, rfl, by omega, ⟨Below.refl _ _⟩⟩
  case round =>
    obtain ⟨k, Hk, rfl, rfl, rfl, hkl, Hb⟩ := hrel
    have hy2 : wr.cell? ⟨w.heap.size, 2, none⟩ = some (.slice A cs.length c) := pw_cell_below Hb.out HX2.out
    by_cases hlt : k < cs.length
    · obtain ⟨ad, rfl, hc0, hc1, hc2⟩ := cell_at (Kd.C_below HCB.out Hb.out) k hlt
      have hm := HS.out.2 _ (rd_mem cs k hlt)
      have HM := Aside0.mk hm
      clear hm
      go_wp2_with fail
      refine (rcell_calls wr _ HM.out.1 HM.out.2).mono ?_
      rintro e w1 ⟨rfl, hb⟩
      have HB1 := Aside0.mk (below_then Hb.out Hb.out.size hb)
      clear hb hc0 hc1 hc2 hy2
      have hr4 : 4 * (k + 1) + tot (cs.take k) + csz (rd_TGCell cs k) ≤ 496 := by
        have h1 := tot_take_succ cs k hlt
        have h2 := tot_take_all cs (k + 1)
        have h3 := HR.out
        omega
      have hz1 : (mkS (cellB (rd_TGCell cs k))).size = csz (rd_TGCell cs k) := by rw [mkS_size, cellB_length]
      have hz2 : (mkS (cellsB (cs.take k))).size = tot (cs.take k) := by rw [mkS_size, cellsB_length]
      have hz3 : (mkS (slotsB (cs.take k) 512)).size = 4 * k := by rw [mkS_size, slotsB_length, List.length_take, Nat.min_eq_left hkl]
      have hz4 : ∀ x, (mkS (le x 2)).size = 2 := fun x => by rw [mkS_size, le_length]
      have HS1 := Aside0.mk (slots_next cs k hlt)
      have HC1 := Aside0.mk (cells_next cs k hlt)
      by_cases hu : (rd_TGCell cs k).f0 = true
      · have he : (mkS (cellB (rd_TGCell cs k))).toList.isEmpty = false := by rw [mkS_toList]; unfold cellB; rw [if_pos hu]; rfl
        have hw1 : IntKind.u64.wrap (512 - ((csz (rd_TGCell cs k) : Int) + (tot (cs.take k) : Int))) = ((512 - tot (cs.take k) - csz (rd_TGCell cs k) : Nat) : Int) := by rw [u64w (by omega) (by omega)]; omega
        have hw2 : IntKind.u64.wrap (csz (rd_TGCell cs k) : Int) = ((csz (rd_TGCell cs k) : Nat) : Int) := u64w (by omega) (by omega)
        have HU := Aside0.mk hu
        clear hu
        go_wp2_with fail
        refine (rnum_calls _ _ 2 (by omega) (by omega)).mono ?_
        rintro e w2 ⟨rfl, hb⟩
        have HB2 := Aside0.mk (below_then HB1.out HB1.out.size hb)
        clear hb
        go_wp2_with fail
        refine (rnum_calls _ _ 2 (by omega) (by omega)).mono ?_
        rintro e w3 ⟨rfl, hb⟩
        have HB3 := Aside0.mk (below_then HB2.out HB2.out.size hb)
        clear hb
        go_wp2_with fail
        go_roundg (gk - 1)
        case measure => have := Hk.out; omega
        case rel =>
          refine ⟨k + 1, ⟨by have := Hk.out; omega⟩, ?_, ?_, by simp, by omega, HB3⟩
          · rw [HS1.out, mkS_append, mkS_append]; unfold slotB; rw [if_pos HU.out, List.append_assoc]
          · rw [HC1.out, mkS_append]
      · have he : (mkS (cellB (rd_TGCell cs k))).toList.isEmpty = true := by rw [mkS_toList]; unfold cellB; rw [if_neg hu]; rfl
        have h0 : csz (rd_TGCell cs k) = 0 := by unfold csz; rw [if_neg hu]
        have HU := Aside0.mk hu
        clear hu
        go_wp2_with fail
        refine (rnum_calls _ 0 2 (by omega) (by omega)).mono ?_
        rintro e w2 ⟨rfl, hb⟩
        have HB2 := Aside0.mk (below_then HB1.out HB1.out.size hb)
        clear hb
        go_wp2_with fail
        refine (rnum_calls _ 0 2 (by omega) (by omega)).mono ?_
        rintro e w3 ⟨rfl, hb⟩
        have HB3 := Aside0.mk (below_then HB2.out HB2.out.size hb)
        clear hb
        go_wp2_with fail
        go_roundg (gk - 1)
        case measure => have := Hk.out; omega
        case rel =>
          refine ⟨k + 1, ⟨by have := Hk.out; omega⟩, ?_, ?_, by simp, by omega, HB3⟩
          · rw [HS1.out, mkS_append, mkS_append]; unfold slotB; rw [if_neg HU.out, List.append_assoc]; rfl
          · rw [HC1.out, mkS_append]
    · obtain rfl : k = cs.length := by omega
      have hy0 : wr.cell? ⟨w.heap.size, 0, none⟩ = some (.int .i64 id) := pw_cell_below Hb.out HX0.out
      have hy1 : wr.cell? ⟨w.heap.size, 1, none⟩ = some (.int .u64 lsn) := pw_cell_below Hb.out HX1.out
      rw [List.take_length]
      have hwi : IntKind.u64.wrap (id : Int) = id := u64w (by omega) (by omega)
      have hwn : IntKind.u64.wrap (cs.length : Int) = cs.length := u64w (by omega) (by omega)
      have hz1 : (mkS (cellsB cs)).size = tot cs := by rw [mkS_size, cellsB_length]
      have hz2 : (mkS (slotsB cs 512)).size = 4 * cs.length := by rw [mkS_size, slotsB_length]
      have hz3 : ∀ x m, (mkS (le x m)).size = m := fun x m => by rw [mkS_size, le_length]
      have hroom := HR.out
      have HQ := Aside0.mk (below_drew Hb.out)
      go_wp2_with fail
      have hq1 : ¬ 9223372036854775807 < 12 + 4 * cs.length := by omega
      go_region_held3 (fun wx => wx.cell? ⟨w.heap.size, 0, none⟩ = some (.int .i64 id) ∧ wx.cell? ⟨w.heap.size, 1, none⟩ = some (.int .u64 lsn) ∧ wx.cell? ⟨w.heap.size, 2, none⟩ = some (.slice A cs.length c)) (go_keep) ((first | (go_at_call 64; with_reducible refine (rnum8_calls _ lsn HL.out).mono ?_; rintro e wq ⟨rfl, hb⟩; have HQ := Aside0.mk (below_then HQ.out HQ.out.size hb); clear hb; have q0 := pw_cell_below HQ.out HX0.out; have q1 := pw_cell_below HQ.out HX1.out; have q2 := pw_cell_below HQ.out HX2.out) | (go_at_call 64; with_reducible refine (rnum2_calls _ id (by omega)).mono ?_; rintro e wq ⟨rfl, hb⟩; have HQ := Aside0.mk (below_then HQ.out HQ.out.size hb); clear hb; have q0 := pw_cell_below HQ.out HX0.out; have q1 := pw_cell_below HQ.out HX1.out; have q2 := pw_cell_below HQ.out HX2.out) | (go_at_call 64; with_reducible refine (rnum2_calls _ cs.length (by omega)).mono ?_; rintro e wq ⟨rfl, hb⟩; have HQ := Aside0.mk (below_then HQ.out HQ.out.size hb); clear hb; have q0 := pw_cell_below HQ.out HX0.out; have q1 := pw_cell_below HQ.out HX1.out; have q2 := pw_cell_below HQ.out HX2.out)))
      clear q0 q1 q2
      rw [mkS_append, mkS_append, mkS_append, show le lsn 8 ++ le id 2 ++ le cs.length 2 = hdB id lsn cs.length from rfl, preB_zero]
      go_wp2_with fail
      go_loopg [8] (496 - 4 * cs.length - tot cs) (fun gk v8 wr => ∃ j : Nat, Aside0 (j + gk = 496 - 4 * cs.length - tot cs) ∧ v8 = .string (mkS (preB id lsn cs j)) ∧ j ≤ 496 - 4 * cs.length - tot cs ∧ Aside0 (wq = wr))
      case atStart => exact ⟨0, ⟨by omega⟩, rfl, by omega, ⟨rfl⟩⟩
      case round =>
        obtain ⟨j, Hj, rfl, hjl, Hw⟩ := hrel
        obtain rfl := Hw.out
        clear Hw
        have hzj : (mkS (preB id lsn cs j)).size = 12 + 4 * cs.length + j := by rw [mkS_size, preB_length]
        by_cases hj : j < 496 - 4 * cs.length - tot cs
        · have hsz0 : (⟨#[0]⟩ : ByteArray).size = 1 := rfl
          go_wp2_with fail
          rw [preB_succ]
          go_roundg (gk - 1)
          case measure => have := Hj.out; omega
          case rel => exact ⟨j + 1, ⟨by have := Hj.out; omega⟩, rfl, by omega, ⟨rfl⟩⟩
        · obtain rfl : j = 496 - 4 * cs.length - tot cs := by omega
          have HP := Aside0.mk (preB_all id lsn cs)
          have HBL := Aside0.mk (bodyB_length id lsn cs HR.out)
          have hbz : (mkS (bodyB id lsn cs)).size = 508 := by rw [mkS_size, HBL.out]
          have hz4 : (mkS (le (Crc.sum (bodyB id lsn cs)) 4)).size = 4 := by rw [mkS_size, le_length]
          go_wp2_with fail
          rw [HP.out]
          refine (rsum_calls wq (bodyB id lsn cs) (by rw [HBL.out]; omega)).mono ?_
          rintro e w5 ⟨rfl, hb⟩
          have HB5 := Aside0.mk (below_then HQ.out HQ.out.size hb)
          clear hb
          go_wp2_with fail
          refine (rfour_calls w5 _ (Crc.sum_lt _)).mono ?_
          rintro e w6 ⟨rfl, hb⟩
          have HB6 := Aside0.mk (below_then HB5.out HB5.out.size hb)
          clear hb
          go_wp2_with fail
          go_ret
          exact ⟨by rw [mkS_append]; rfl, below_then HB0.out HB0.out.size HB6.out⟩
end Go.Proofs.Ytidgfigfebkieaa
end
section
namespace Go.Proofs.Ytidgfigfebkieaa
open Go.RowKit Go.Proofs.YtidgfigfebkieaaW.PrintWords Go.Proofs.YtidgfigfebkieaaW.PrintLast Go.Proofs.YtidgfigfebkieaaW.PrintMore
open Rf
set_option linter.unusedVariables false
set_option linter.unusedSimpArgs false

theorem find_loop (cs : List SGCell) (hl : cs.length ≤ 1000) (id lsn : Int) (key : ByteArray) (d : Nat) : ∀ i : Nat, i + d = cs.length → Ev (fun k => flotillaref06_Find.l0 k key i id lsn cs) (fndN key (cs.drop i) i) := by
  induction d with
  | zero =>
    intro i hi
    refine Ev.step (f := fun _ => some (-1)) (fun k => ?_) ?_
    · simp only [flotillaref06_Find.l0]; rw [if_neg (by omega)]
    · rw [List.drop_eq_nil_of_le (by omega)]; exact Ev.now _
  | succ d ih =>
    intro i hi
    have hlt : i < cs.length := by omega
    rw [fndN_drop key cs i hlt]
    unfold hit
    by_cases hu : (rd_TGCell cs i).f0 = true
    · by_cases hk : (rd_TGCell cs i).f1.toList = key.toList
      · rw [if_pos (by rw [hu, hk]; simp)]
        refine Ev.step (f := fun _ => some (i : Int)) (fun k => ?_) (Ev.now _)
        simp only [flotillaref06_Find.l0]; rw [if_pos (by omega), if_pos (by omega), if_pos hu, if_pos hk]
      · rw [if_neg (by rw [hu]; simpa using hk)]
        refine Ev.step (fun k => ?_) (ih (i + 1) (by omega))
        simp only [flotillaref06_Find.l0]; rw [if_pos (by omega), if_pos (by omega), if_pos hu, if_neg hk, w64 (by omega) (by omega)]; rfl
    · rw [if_neg (by simp [hu])]
      refine Ev.step (fun k => ?_) (ih (i + 1) (by omega))
      simp only [flotillaref06_Find.l0]; rw [if_pos (by omega), if_pos (by omega), if_neg hu, w64 (by omega) (by omega)]; rfl
theorem find_ev (cs : List SGCell) (hl : cs.length ≤ 1000) (id lsn : Int) (key : ByteArray) : Ev (fun k => flotillaref06_Find.f k id lsn cs key) (fnd cs key) := by
  have := find_loop cs hl id lsn key cs.length 0 (by omega)
  rwa [List.drop_zero] at this

theorem trim_ev (id lsn : Int) (cs0 : List SGCell) (d : Nat) : ∀ l : List SGCell, l.length = d → l.length ≤ 1000 → Ev (fun k => flotillaref06_with.l1 k l id lsn cs0) (id, lsn, trimN d l) := by
  induction d with
  | zero =>
    intro l hl _
    refine Ev.step (f := fun _ => some (id, lsn, l)) (fun k => ?_) (Ev.now _)
    simp only [flotillaref06_with.l1]; rw [if_neg (by omega)]
  | succ d ih =>
    intro l hl hm
    have e1 : wrap64 ((l.length : Int) - 1) = (d : Int) := by rw [w64 (by omega) (by omega)]; omega
    by_cases hu : (rd_TGCell l d).f0 = true
    · rw [trimN_used _ l d hl hu]
      refine Ev.step (f := fun _ => some (id, lsn, l)) (fun k => ?_) (Ev.now _)
      simp only [flotillaref06_with.l1]; rw [if_pos (by omega), e1, if_pos (by omega), if_pos (by omega), if_pos hu]
    · rw [trimN_free d l d hl (by simpa using hu)]
      refine Ev.step (fun k => ?_) (ih (l.take d) (by rw [List.length_take]; omega) (by rw [List.length_take]; omega))
      simp only [flotillaref06_with.l1]; rw [if_pos (by omega), e1, if_pos (by omega), if_pos (by omega), if_neg hu, if_pos (by omega)]; rfl

/-- A list whose slot i (one behind the last: a new one) is c. -/
def putAt (cs : List SGCell) (i : Nat) (c : SGCell) : List SGCell := if i = cs.length then cs ++ [c] else cs.set i c
theorem with_loop (cs : List SGCell) (hl : cs.length ≤ 100) (id lsn : Int) (i : Nat) (c : SGCell) (d : Nat) : ∀ j : Nat, j + d = cs.length →
    Ev (fun k => flotillaref06_with.l0 k i ((cs.set i c).take j) j id lsn cs c.f0 c.f1 c.f2) (id, lsn, trim (putAt cs i c)) := by
  induction d with
  | zero =>
    intro j hj
    obtain rfl : j = cs.length := by omega
    by_cases hi : i = cs.length
    · have e : cs.set i c = cs := by rw [hi]; exact List.set_eq_of_length_le (by omega)
      refine Ev.step (f := fun k => flotillaref06_with.j1 k (cs ++ [c]) id lsn cs) (fun k => ?_) ?_
      · simp only [flotillaref06_with.l0]; rw [if_neg (by omega), if_pos (by omega), if_pos (by rw [List.length_take, List.length_set]; omega), e, List.take_length]
      · refine Ev.step (f := fun k => flotillaref06_with.l1 k (cs ++ [c]) id lsn cs) (fun k => rfl) ?_
        unfold putAt trim; rw [if_pos hi]
        exact trim_ev id lsn cs _ _ rfl (by simp; omega)
    · refine Ev.step (f := fun k => flotillaref06_with.j1 k (cs.set i c) id lsn cs) (fun k => ?_) ?_
      · simp only [flotillaref06_with.l0]; rw [if_neg (by omega), if_neg (by omega), List.take_of_length_le (by rw [List.length_set]; omega)]
      · refine Ev.step (f := fun k => flotillaref06_with.l1 k (cs.set i c) id lsn cs) (fun k => rfl) ?_
        unfold putAt trim; rw [if_neg hi]
        exact trim_ev id lsn cs _ _ rfl (by simp; omega)
  | succ d ih =>
    intro j hj
    have hlt : j < cs.length := by omega
    have hs : (cs.set i c).take (j + 1) = (cs.set i c).take j ++ [if i = j then c else rd_TGCell cs j] := by
      rw [List.take_succ_eq_append_getElem (by rw [List.length_set]; exact hlt), List.getElem_set, rd_get cs j hlt]
    have h := ih (j + 1) (by omega)
    rw [hs] at h
    refine Ev.step (fun k => ?_) h
    simp only [flotillaref06_with.l0]
    rw [if_pos (by omega)]
    by_cases e : i = j
    · rw [if_pos (by omega), if_pos (by rw [List.length_take]; omega), w64 (by omega) (by omega), if_pos e]; rfl
    · rw [if_neg (by omega), if_pos (by omega), if_pos (by rw [List.length_take]; omega), w64 (by omega) (by omega), if_neg e]; rfl
theorem with_ev (cs : List SGCell) (hl : cs.length ≤ 100) (id lsn : Int) (i : Nat) (c : SGCell) : Ev (fun k => flotillaref06_with.f k id lsn cs i c.f0 c.f1 c.f2) (id, lsn, trim (putAt cs i c)) := by
  have := with_loop cs hl id lsn i c cs.length 0 (by omega)
  rwa [List.take_zero] at this

theorem trim_last (cs : List SGCell) (h : ∀ c, cs.getLast? = some c → c.f0 = true) : trim cs = cs := by
  unfold trim
  rcases Nat.eq_zero_or_pos cs.length with h0 | h0
  · exact trimN_zero _ _ h0
  · refine trimN_used _ cs (cs.length - 1) (by omega) ?_
    rw [rd_get cs _ (by omega)]
    exact h _ (by rw [List.getLast?_eq_getElem?, List.getElem?_eq_getElem])
theorem putAt_ins (cs : List SGCell) (c : SGCell) : putAt cs (frs cs) c = insAt cs c := rfl
theorem insAt_last (cs : List SGCell) (hv : Valid cs) (key value : ByteArray) : ∀ c, (insAt cs (cel key value)).getLast? = some c → c.f0 = true := by
  intro c hc
  unfold insAt at hc
  split at hc
  · rw [List.getLast?_append] at hc; simp at hc; rw [← hc]; rfl
  · rename_i hne
    have hle := frs_le cs
    rw [List.getLast?_eq_getElem?, List.length_set, List.getElem?_set] at hc
    split at hc
    · split at hc
      · rw [← Option.some.inj hc]; rfl
      · simp at hc
    · rw [← List.getLast?_eq_getElem?] at hc; exact hv.last c hc
theorem small_insAt (cs : List SGCell) (hv : Valid cs) (key value : ByteArray) (hm : mayB key value = true) : Small (insAt cs (cel key value)) := by
  have h := (mayB_iff _ _).1 hm
  have hs := hv.small
  have hl := hv.len
  unfold insAt
  split
  · refine ⟨by simp; omega, fun c hc => ?_⟩
    rcases List.mem_append.1 hc with hc | hc
    · exact hs.2 c hc
    · rw [List.mem_singleton.1 hc]; show key.size ≤ 1000 ∧ value.size ≤ 1000; omega
  · refine ⟨by simp; omega, fun c hc => ?_⟩
    rcases List.mem_or_eq_of_mem_set hc with hc | rfl
    · exact hs.2 c hc
    · show key.size ≤ 1000 ∧ value.size ≤ 1000; omega
theorem may_f (key value : ByteArray) : flotillaref06_May.f key value = some (mayB key value) := by
  unfold flotillaref06_May.f mayB
  by_cases h1 : (key.size : Int) ≥ 1
  · by_cases h2 : (key.size : Int) ≤ 16
    · rw [if_pos h1, if_pos h2]
      congr 1
      rw [Bool.eq_iff_iff]; simp; omega
    · rw [if_pos h1, if_neg h2]
      congr 1
      rw [Bool.eq_iff_iff]; simp; omega
  · rw [if_neg h1]
    congr 1
    rw [Bool.eq_iff_iff]; simp; omega
theorem insj_ev (cs : List SGCell) (hv : Valid cs) (id lsn : Int) (key value : ByteArray) (hm : mayB key value = true) (hf : fnd cs key < 0) :
    Ev (fun k => flotillaref06_Insert.j1 k key value (frs cs : Nat) id lsn cs) (id, lsn, (ins cs key value).1, (ins cs key value).2) := by
  have hl := hv.len
  have hle := frs_le cs
  have hw := with_ev cs (by omega) id lsn (frs cs) (cel key value)
  rw [putAt_ins, trim_last _ (insAt_last cs hv key value)] at hw
  have hfr := insAt_free cs hv.zero key value
  have hfe := free_ev (insAt cs (cel key value)) (small_insAt cs hv key value hm) id lsn
  refine Ev.step (f := fun k => (flotillaref06_with.f k id lsn cs (frs cs : Nat) true key value).bind fun bt163 => (if ((frs cs : Nat) : Int) ≥ 64 then (some (id, lsn, cs, 7)) else ((flotillaref06_Free.f k bt163.1 bt163.2.1 bt163.2.2).bind fun t169 => (if t169 < 0 then (some (id, lsn, cs, 7)) else (some (bt163.1, bt163.2.1, bt163.2.2, 0)))))) (fun k => rfl) ?_
  refine Ev.bind hw ?_
  unfold ins
  rw [if_pos hm, if_neg (by omega)]
  by_cases h64 : frs cs = 64
  · rw [if_pos (.inl h64)]
    simp only [h64]
    exact Ev.now _
  · have e : ¬ ((frs cs : Nat) : Int) ≥ 64 := by omega
    simp only [if_neg e]
    refine Ev.bind hfe ?_
    by_cases hr : free cs < insNeed cs key value
    · simp only [if_pos (show free (insAt cs (cel key value)) < 0 by omega)]
      rw [if_pos (show frs cs = 64 ∨ free cs < insNeed cs key value from .inr hr)]
      exact Ev.now _
    · simp only [if_neg (show ¬ free (insAt cs (cel key value)) < 0 by omega)]
      rw [if_neg (show ¬ (frs cs = 64 ∨ free cs < insNeed cs key value) by omega)]
      exact Ev.now _
theorem insl_ev (cs : List SGCell) (hv : Valid cs) (id lsn : Int) (key value : ByteArray) (hm : mayB key value = true) (hf : fnd cs key < 0) (d : Nat) : ∀ i : Nat, i + d = frs cs →
    Ev (fun k => flotillaref06_Insert.l0 k key value i id lsn cs) (id, lsn, (ins cs key value).1, (ins cs key value).2) := by
  have hl := hv.len
  have hle := frs_le cs
  induction d with
  | zero =>
    intro i hi
    obtain rfl : i = frs cs := by omega
    refine Ev.step (fun k => ?_) (insj_ev cs hv id lsn key value hm hf)
    simp only [flotillaref06_Insert.l0]
    by_cases h : frs cs < cs.length
    · rw [if_pos (by omega), if_pos (by omega), if_neg (by rw [frs_free cs h]; simp)]
    · rw [if_neg (by omega)]
  | succ d ih =>
    intro i hi
    refine Ev.step (fun k => ?_) (ih (i + 1) (by omega))
    simp only [flotillaref06_Insert.l0]
    rw [if_pos (by omega), if_pos (by omega), if_pos (frs_used cs i (by omega)), w64 (by omega) (by omega)]
    rfl
theorem insert_ev (cs : List SGCell) (hv : Valid cs) (id lsn : Int) (key value : ByteArray) : Ev (fun k => flotillaref06_Insert.f k id lsn cs key value) (id, lsn, (ins cs key value).1, (ins cs key value).2) := by
  have hl := hv.len
  unfold flotillaref06_Insert.f
  rw [may_f]
  by_cases hm : mayB key value = true
  · refine Ev.bind (a := mayB key value) (Ev.now _) ?_
    simp only [hm, if_true]
    refine Ev.bind (find_ev cs (by omega) id lsn key) ?_
    by_cases hf : 0 ≤ fnd cs key
    · simp only [if_pos (show fnd cs key ≥ 0 from hf)]
      unfold ins; rw [if_pos hm, if_pos hf]
      exact Ev.now _
    · simp only [if_neg (show ¬ fnd cs key ≥ 0 from hf)]
      exact insl_ev cs hv id lsn key value hm (by omega) (frs cs) 0 (by omega)
  · refine Ev.bind (a := mayB key value) (Ev.now _) ?_
    simp only [hm]
    unfold ins; rw [if_neg hm]
    exact Ev.now _
theorem update_ev (cs : List SGCell) (hv : Valid cs) (id lsn : Int) (key value : ByteArray) : Ev (fun k => flotillaref06_Update.f k id lsn cs key value) (id, lsn, (upd cs key value).1, (upd cs key value).2) := by
  have hl := hv.len
  unfold flotillaref06_Update.f
  rw [may_f]
  by_cases hm : mayB key value = true
  · refine Ev.bind (a := mayB key value) (Ev.now _) ?_
    simp only [hm, if_true]
    refine Ev.bind (find_ev cs (by omega) id lsn key) ?_
    by_cases hf : fnd cs key < 0
    · simp only [if_pos hf]
      unfold upd; rw [if_pos hm, if_pos hf]
      exact Ev.now _
    · simp only [if_neg hf]
      obtain ⟨j, hj, e, hu, hk⟩ := fnd_hit cs key (by omega)
      have hmm := (mayB_iff _ _).1 hm
      have hp : putAt cs j (cel key value) = updAt cs j value := by
        unfold putAt updAt; rw [if_neg (by omega), rd_get cs j hj, hu, hk]; rfl
      have hlast : ∀ c, (updAt cs j value).getLast? = some c → c.f0 = true := by
        intro c hc
        unfold updAt at hc
        rw [List.getLast?_eq_getElem?, List.length_set, List.getElem?_set] at hc
        split at hc
        · rw [← Option.some.inj hc, rd_get cs j hj]; exact hu
        · rw [← List.getLast?_eq_getElem?] at hc; exact hv.last c hc
      have hsm : Small (updAt cs j value) := by
        refine ⟨by unfold updAt; rw [List.length_set]; omega, fun c hc => ?_⟩
        unfold updAt at hc
        rcases List.mem_or_eq_of_mem_set hc with hc | rfl
        · exact hv.small.2 c hc
        · rw [rd_get cs j hj]; exact ⟨(hv.small.2 _ (List.getElem_mem hj)).1, by show value.size ≤ 1000; omega⟩
      have hw := with_ev cs (by omega) id lsn j (cel key value)
      rw [hp, trim_last _ hlast] at hw
      have hfr := updAt_free cs j hj hu value
      rw [e]
      refine Ev.bind hw ?_
      refine Ev.bind (free_ev (updAt cs j value) hsm id lsn) ?_
      unfold upd
      rw [if_pos hm, if_neg hf, e, rd_get cs j hj, Int.toNat_natCast]
      by_cases hr : free cs < (value.size : Int) - (cs[j].f2.size : Int)
      · rw [if_pos hr]
        simp only [if_pos (show free (updAt cs j value) < 0 by omega)]
        exact Ev.now _
      · rw [if_neg hr]
        simp only [if_neg (show ¬ free (updAt cs j value) < 0 by omega)]
        exact Ev.now _
  · refine Ev.bind (a := mayB key value) (Ev.now _) ?_
    simp only [hm]
    unfold upd; rw [if_neg hm]
    exact Ev.now _
end Go.Proofs.Ytidgfigfebkieaa
end
section
namespace Go.Proofs.Ytidgfigfebkieaa
open Go.RowKit Go.Proofs.YtidgfigfebkieaaW.PrintWords Go.Proofs.YtidgfigfebkieaaW.PrintLast Go.Proofs.YtidgfigfebkieaaW.PrintMore
open Rf
set_option linter.unusedVariables false
set_option linter.unusedSimpArgs false

theorem dtrim_ev (id lsn : Int) (cs0 : List SGCell) (d : Nat) : ∀ l : List SGCell, l.length = d → l.length ≤ 1000 → Ev (fun k => flotillaref06_Delete.l0 k l id lsn cs0) (id, lsn, trimN d l, 0) := by
  induction d with
  | zero =>
    intro l hl _
    refine Ev.step (f := fun _ => some (id, lsn, l, 0)) (fun k => ?_) (Ev.now _)
    simp only [flotillaref06_Delete.l0]; rw [if_neg (by omega)]
  | succ d ih =>
    intro l hl hm
    have e1 : wrap64 ((l.length : Int) - 1) = (d : Int) := by rw [w64 (by omega) (by omega)]; omega
    by_cases hu : (rd_TGCell l d).f0 = true
    · rw [trimN_used _ l d hl hu]
      refine Ev.step (f := fun _ => some (id, lsn, l, 0)) (fun k => ?_) (Ev.now _)
      simp only [flotillaref06_Delete.l0]; rw [if_pos (by omega), e1, if_pos (by omega), if_pos (by omega), if_pos hu]
    · rw [trimN_free d l d hl (by simpa using hu)]
      refine Ev.step (fun k => ?_) (ih (l.take d) (by rw [List.length_take]; omega) (by rw [List.length_take]; omega))
      simp only [flotillaref06_Delete.l0]; rw [if_pos (by omega), e1, if_pos (by omega), if_pos (by omega), if_neg hu, if_pos (by omega)]; rfl
theorem delete_ev (cs : List SGCell) (hl : cs.length ≤ 100) (id lsn : Int) (key : ByteArray) : Ev (fun k => flotillaref06_Delete.f k id lsn cs key) (id, lsn, (del cs key).1, (del cs key).2) := by
  unfold flotillaref06_Delete.f
  refine Ev.bind (find_ev cs (by omega) id lsn key) ?_
  unfold del
  by_cases hf : fnd cs key < 0
  · simp only [if_pos hf]
    exact Ev.now _
  · simp only [if_neg hf]
    obtain ⟨j, hj, e, _, _⟩ := fnd_hit cs key (by omega)
    have e1 : wrap64 ((j : Int) + 1) = ((j + 1 : Nat) : Int) := by rw [w64 (by omega) (by omega)]; omega
    have h1 : (cs.take j).length ≤ 100 := by rw [List.length_take]; omega
    have h2 : (cs.drop (j + 1)).length ≤ 100 := by rw [List.length_drop]; omega
    rw [e]
    simp only [if_pos (show (0 : Int) ≤ j by omega), if_pos (show (j : Int) ≤ cs.length by omega), Int.toNat_natCast, Option.bind_some, List.nil_append, List.length_nil, e1, if_pos (show 0 + (cs.take j).length < 3518437208883 by omega), if_pos (show (0 : Int) ≤ ((j + 1 : Nat) : Int) by omega), if_pos (show ((j + 1 : Nat) : Int) ≤ cs.length by omega), if_pos (show (cs.take j).length + (cs.drop (j + 1)).length < 3518437208883 by omega)]
    exact dtrim_ev id lsn cs _ (cs.take j ++ cs.drop (j + 1)) rfl (by rw [List.length_append]; omega)
end Go.Proofs.Ytidgfigfebkieaa
end
section
namespace Go.Proofs.Ytidgfigfebkieaa
open Go.RowKit Go.Proofs.YtidgfigfebkieaaW.PrintWords Go.Proofs.YtidgfigfebkieaaW.PrintLast Go.Proofs.YtidgfigfebkieaaW.PrintMore
open Rf
set_option linter.unusedVariables false
set_option linter.unusedSimpArgs false
section
variable {w0 w : World} {P : Nat → Prop} {v : Value} {cs : List SGCell}
theorem rfind_calls (A : Option Addr) (c : Nat) (hC : Kd.C kGCell w A cs.length cs) (hc : cs.length ≤ c) (hl : cs.length ≤ 1000) (id lsn : Int) (key : ByteArray) :
    Calls Try.prog 36 #[.agg #[.int .i64 id, .int .u64 lsn, .slice A cs.length c], .string key] w fun e w' => e = .returned (.int .i64 (fnd cs key)) ∧ Below w.heap.size w w' := by
  obtain ⟨k, hk⟩ := find_ev cs hl id lsn key
  exact flotillaref06_Find.calls k id lsn A c cs key _ w hC hc (hk k (Nat.le_refl _))
theorem rins_calls (hB : Below w0.heap.size w0 w) (hR : Kd.R kGCell 86 w w0.heap.size P v cs) (hv : Valid cs) (id lsn : Int) (key value : ByteArray) :
    Calls Try.prog 31 #[.agg #[.int .i64 id, .int .u64 lsn, v], .string key, .string value] w fun e w' => ∃ v', e = .returned (.tuple #[.agg #[.int .i64 id, .int .u64 lsn, v'], .int .i64 (ins cs key value).2]) ∧
      Kd.R kGCell 86 w' w0.heap.size (fun k => P k ∨ w.heap.size ≤ k) v' (ins cs key value).1 ∧ Below w0.heap.size w0 w' ∧ Kept w w' P := by
  obtain ⟨k, hk⟩ := insert_ev cs hv id lsn key value
  exact flotillaref06_Insert.calls k id lsn P v cs key value _ _ _ _ w0 w hB hR (hk k (Nat.le_refl _))
theorem rupd_calls (hB : Below w0.heap.size w0 w) (hR : Kd.R kGCell 86 w w0.heap.size P v cs) (hv : Valid cs) (id lsn : Int) (key value : ByteArray) :
    Calls Try.prog 37 #[.agg #[.int .i64 id, .int .u64 lsn, v], .string key, .string value] w fun e w' => ∃ v', e = .returned (.tuple #[.agg #[.int .i64 id, .int .u64 lsn, v'], .int .i64 (upd cs key value).2]) ∧
      Kd.R kGCell 86 w' w0.heap.size (fun k => P k ∨ w.heap.size ≤ k) v' (upd cs key value).1 ∧ Below w0.heap.size w0 w' ∧ Kept w w' P := by
  obtain ⟨k, hk⟩ := update_ev cs hv id lsn key value
  exact flotillaref06_Update.calls k id lsn P v cs key value _ _ _ _ w0 w hB hR (hk k (Nat.le_refl _))
theorem rdel_calls (hB : Below w0.heap.size w0 w) (hR : Kd.R kGCell 86 w w0.heap.size P v cs) (hl : cs.length ≤ 100) (id lsn : Int) (key : ByteArray) :
    Calls Try.prog 38 #[.agg #[.int .i64 id, .int .u64 lsn, v], .string key] w fun e w' => ∃ v', e = .returned (.tuple #[.agg #[.int .i64 id, .int .u64 lsn, v'], .int .i64 (del cs key).2]) ∧
      Kd.R kGCell 86 w' w0.heap.size (fun k => P k ∨ w.heap.size ≤ k) v' (del cs key).1 ∧ Below w0.heap.size w0 w' ∧ Kept w w' P := by
  obtain ⟨k, hk⟩ := delete_ev cs hl id lsn key
  exact flotillaref06_Delete.calls k id lsn P v cs key _ _ _ _ w0 w hB hR (hk k (Nat.le_refl _))
end
end Go.Proofs.Ytidgfigfebkieaa
end
section
namespace Go.Proofs.Ytidgfigfebkieaa
open Go.RowKit Go.Proofs.YtidgfigfebkieaaW.PrintWords Go.Proofs.YtidgfigfebkieaaW.PrintLast Go.Proofs.YtidgfigfebkieaaW.PrintMore
open Rf Go.ChangeMaps
set_option linter.unusedVariables false
set_option linter.unusedSimpArgs false
section
variable {w0 w : World} {P : Nat → Prop} {v : Value} {cs : List SGCell}
set_option maxRecDepth 100000 in
set_option maxHeartbeats 4000000 in
theorem rdo_calls (hB : Below w0.heap.size w0 w) (hR : Kd.R kGCell 86 w w0.heap.size P v cs) (hv : Valid cs) (id lsn k : Int) (a b c : ByteArray) (ha : a.size ≤ 140737488351232) (hb : b.size ≤ 140737488351232) (hc : c.size ≤ 140737488351232) :
    Calls Try.prog 20 #[.agg #[.int .i64 id, .int .u64 lsn, v], .agg #[.int .i64 k, .string a, .string b, .string c]] w fun e w' => ∃ v', e = .returned (.tuple #[.agg #[.int .i64 id, .int .u64 lsn, v'], .int .i64 (actDo cs k a b c).2]) ∧
      Kd.R kGCell 86 w' w0.heap.size (fun k => P k ∨ w.heap.size ≤ k) v' (actDo cs k a b c).1 ∧ Below w0.heap.size w0 w' ∧ Kept w w' P := by
  have HB := Aside0.mk hB
  have HR := Aside0.mk (show Kd.R kGCell 86 w w0.heap.size (fun k => P k ∧ k < w.heap.size) v cs from Kd.R_mono (Kd.R_bound hR) (fun k hk => ⟨hk.1, hk.2.2.1⟩))
  have HV := Aside0.mk hv
  obtain ⟨A, ca, rfl⟩ := Kd.R_slice hR
  clear hB hR hv
  go_enter Try.func20, Try.ntmps20
  go_wp2_with fail
  have hb0 : Below w.heap.size w (((w.alloc (.cells #[.int .i64 id, .int .u64 lsn, .slice A cs.length ca] 46)).alloc (.cells #[.int .i64 k, .string a, .string b, .string c] 24)).alloc (.cells #[.int .i64 0, .int .u64 0, .slice none 0 0] 46)) := below_alloc (below_alloc (below_alloc (Below.refl _ _) _) _) _
  have hdx : (((w.alloc (.cells #[.int .i64 id, .int .u64 lsn, .slice A cs.length ca] 46)).alloc (.cells #[.int .i64 k, .string a, .string b, .string c] 24)).alloc (.cells #[.int .i64 0, .int .u64 0, .slice none 0 0] 46)).heap[w.heap.size]? = some (.cells #[.int .i64 id, .int .u64 lsn, .slice A cs.length ca] 46) := blk_alloc (blk_alloc (heap_alloc_new w _) _) _
  have hax : (((w.alloc (.cells #[.int .i64 id, .int .u64 lsn, .slice A cs.length ca] 46)).alloc (.cells #[.int .i64 k, .string a, .string b, .string c] 24)).alloc (.cells #[.int .i64 0, .int .u64 0, .slice none 0 0] 46)).heap[w.heap.size + 1]? = some (.cells #[.int .i64 k, .string a, .string b, .string c] 24) := by
    have := blk_alloc (heap_alloc_new (w.alloc (.cells #[.int .i64 id, .int .u64 lsn, .slice A cs.length ca] 46)) (.cells #[.int .i64 k, .string a, .string b, .string c] 24)) (.cells #[.int .i64 0, .int .u64 0, .slice none 0 0] 46)
    simpa using this
  have hrx : (((w.alloc (.cells #[.int .i64 id, .int .u64 lsn, .slice A cs.length ca] 46)).alloc (.cells #[.int .i64 k, .string a, .string b, .string c] 24)).alloc (.cells #[.int .i64 0, .int .u64 0, .slice none 0 0] 46)).heap[w.heap.size + 1 + 1]? = some (.cells #[.int .i64 0, .int .u64 0, .slice none 0 0] 46) := by
    have := heap_alloc_new ((w.alloc (.cells #[.int .i64 id, .int .u64 lsn, .slice A cs.length ca] 46)).alloc (.cells #[.int .i64 k, .string a, .string b, .string c] 24)) (.cells #[.int .i64 0, .int .u64 0, .slice none 0 0] 46)
    simpa using this
  generalize ((w.alloc (.cells #[.int .i64 id, .int .u64 lsn, .slice A cs.length ca] 46)).alloc (.cells #[.int .i64 k, .string a, .string b, .string c] 24)).alloc (.cells #[.int .i64 0, .int .u64 0, .slice none 0 0] 46) = w1 at hb0 hdx hax hrx ⊢
  obtain ⟨B2, hB2⟩ : ∃ x, x = w.heap.size + 1 + 1 := ⟨_, rfl⟩
  rw [← hB2] at hrx ⊢
  have HB2 := Aside0.mk hB2
  clear hB2
  refine (flotillaref05_ActMay.calls k a b c (actMay k a b c) w1 (refMay k a b c)).mono ?_
  rintro e w2 ⟨rfl, hb2⟩
  have HS := Aside0.mk (below_then hb0 hb0.size hb2)
  have HBW := Aside0.mk (below_then HB.out HB.out.size HS.out)
  have HDX := Aside0.mk (blk_below hdx hb2)
  have HAX := Aside0.mk (blk_below hax hb2)
  have HRX := Aside0.mk (blk_below hrx hb2)
  have HR2 := Aside0.mk (Kd.R_below HR.out HS.out)
  have HL := Aside0.mk (show w0.heap.size ≤ B2 from by have := HB.out.size; have := HB2.out; omega)
  have HL2 := Aside0.mk (show w.heap.size ≤ B2 from by have := HB2.out; omega)
  have HL3 := Aside0.mk (blk_lt HRX.out)
  clear hb0 hdx hax hrx hb2
  have d0 := blk_cell HDX.out 0
  have d1 := blk_cell HDX.out 1
  have d2 := blk_cell HDX.out 2
  have x0 := blk_cell HAX.out 0
  have x1 := blk_cell HAX.out 1
  have x2 := blk_cell HAX.out 2
  have x3 := blk_cell HAX.out 3
  have r0 := blk_cell HRX.out 0
  have r1 := blk_cell HRX.out 1
  have r2 := blk_cell HRX.out 2
  have g0 := blk_frozen HRX.out 0
  have g1 := blk_frozen HRX.out 1
  have g2 := blk_frozen HRX.out 2
  cases hm : actMay k a b c with
  | false =>
    have HD := Aside0.mk (show actDo cs k a b c = (cs, 1) from by unfold actDo; rw [hm]; rfl)
    have HF := Aside0.mk (show ∀ q, (P q ∧ q < w.heap.size) → q ≠ B2 from fun q hq => by have := HL2.out; omega)
    have HO := Aside0.mk (show ∀ q, (P q ∧ q < w.heap.size) → (P q ∨ w.heap.size ≤ q) from fun q hq => .inl hq.1)
    clear hm
    go_wp2_with fail
    refine bodyPost_ret (results_ct rfl _ _ B2 46 #[.int .i64 id, .int .u64 lsn, .slice A cs.length ca] (0, 0) _ rfl (blk_put (cs' := #[.int .i64 id, .int .u64 lsn, .slice A cs.length ca]) (blk_put (cs' := #[.int .i64 id, .int .u64 lsn, .slice none 0 0]) (blk_put (cs' := #[.int .i64 id, .int .u64 0, .slice none 0 0]) HRX.out 0 (.int .i64 id) rfl) 1 (.int .u64 lsn) rfl) 2 (.slice A cs.length ca) rfl) Try.underlying46 rfl (by kernel_rfl)) rfl ?_
    refine ⟨.slice A cs.length ca, by rw [HD.out]; rfl, ?_, (below_set (g := B2) (j := 2) (below_set (g := B2) (j := 1) (below_set (g := B2) (j := 0) HBW.out HL.out) HL.out) HL.out), (Kept.setCell (Kept.setCell (Kept.setCell (Kept.of_below HS.out P) (p := ⟨B2, 0, none⟩) (.inr HL2.out) (.int .i64 id)) (p := ⟨B2, 1, none⟩) (.inr HL2.out) (.int .u64 lsn)) (p := ⟨B2, 2, none⟩) (.inr HL2.out) (.slice A cs.length ca))⟩
    rw [HD.out]
    exact Kd.R_mono (Kd.R_far (p := ⟨B2, 2, none⟩) (Kd.R_far (p := ⟨B2, 1, none⟩) (Kd.R_far (p := ⟨B2, 0, none⟩) HR2.out (fun q hq => HF.out q hq) (.int .i64 id)) (fun q hq => HF.out q hq) (.int .u64 lsn)) (fun q hq => HF.out q hq) (.slice A cs.length ca)) (fun q hq => HO.out q hq)
  | true =>
    have HM := Aside0.mk hm
    by_cases k1 : k = 1
    · subst k1
      have HD := Aside0.mk (show actDo cs 1 a b c = ins cs a c from by unfold actDo; rw [hm]; rfl)
      clear hm
      go_wp2_with fail
      refine (rins_calls HBW.out HR2.out HV.out id lsn a c).mono ?_
      rintro e w9 ⟨v9, rfl, hR9, hb9, hk9⟩
      obtain ⟨A9, c9, rfl⟩ := Kd.R_slice hR9
      have HRX9 := Aside0.mk (blk_kept HRX.out hk9 (fun h => by have := h.2; have := HL2.out; omega))
      have HR9 := Aside0.mk hR9
      have HB9 := Aside0.mk hb9
      have HK9 := Aside0.mk ((Kept.of_below HS.out P).then_ hk9 (fun q hq => .inl hq.1))
      have HF := Aside0.mk (show ∀ q, ((P q ∧ q < w.heap.size) ∨ w2.heap.size ≤ q) → q ≠ B2 from fun q hq => by have := HL2.out; have := HL3.out; rcases hq with h | h <;> omega)
      have HO := Aside0.mk (show ∀ q, ((P q ∧ q < w.heap.size) ∨ w2.heap.size ≤ q) → (P q ∨ w.heap.size ≤ q) from fun q hq => by have := HS.out.size; exact hq.elim (fun h => .inl h.1) (fun h => .inr (by omega)))
      have r0 := blk_cell HRX9.out 0
      have r1 := blk_cell HRX9.out 1
      have r2 := blk_cell HRX9.out 2
      have g0 := blk_frozen HRX9.out 0
      have g1 := blk_frozen HRX9.out 1
      have g2 := blk_frozen HRX9.out 2
      clear hR9 hb9 hk9
      go_wp2_with fail
      refine bodyPost_ret (results_ct rfl _ _ B2 46 #[.int .i64 id, .int .u64 lsn, .slice A9 (ins cs a c).1.length c9] (0, 0) _ rfl (blk_put (cs' := #[.int .i64 id, .int .u64 lsn, .slice A9 (ins cs a c).1.length c9]) (blk_put (cs' := #[.int .i64 id, .int .u64 lsn, .slice none 0 0]) (blk_put (cs' := #[.int .i64 id, .int .u64 0, .slice none 0 0]) HRX9.out 0 (.int .i64 id) rfl) 1 (.int .u64 lsn) rfl) 2 (.slice A9 (ins cs a c).1.length c9) rfl) Try.underlying46 rfl (by kernel_rfl)) rfl ?_
      refine ⟨.slice A9 (ins cs a c).1.length c9, by rw [HD.out]; rfl, ?_, (below_set (g := B2) (j := 2) (below_set (g := B2) (j := 1) (below_set (g := B2) (j := 0) HB9.out HL.out) HL.out) HL.out), (Kept.setCell (Kept.setCell (Kept.setCell HK9.out (p := ⟨B2, 0, none⟩) (.inr HL2.out) (.int .i64 id)) (p := ⟨B2, 1, none⟩) (.inr HL2.out) (.int .u64 lsn)) (p := ⟨B2, 2, none⟩) (.inr HL2.out) (.slice A9 (ins cs a c).1.length c9))⟩
      rw [HD.out]
      exact Kd.R_mono (Kd.R_far (p := ⟨B2, 2, none⟩) (Kd.R_far (p := ⟨B2, 1, none⟩) (Kd.R_far (p := ⟨B2, 0, none⟩) HR9.out (fun q hq => HF.out q hq) (.int .i64 id)) (fun q hq => HF.out q hq) (.int .u64 lsn)) (fun q hq => HF.out q hq) (.slice A9 (ins cs a c).1.length c9)) (fun q hq => HO.out q hq)
    · have hA := Kd.R_reads' HR2.out
      have HSM := Aside0.mk HV.out.small.big
      go_wp2_with fail
      refine (rfind_calls A ca hA.2.2 hA.2.1 HSM.out id lsn a).mono ?_
      rintro e w3 ⟨rfl, hb3⟩
      have HS3 := Aside0.mk (below_then HS.out HS.out.size hb3)
      have HBW3 := Aside0.mk (below_then HBW.out HBW.out.size hb3)
      have HDX3 := Aside0.mk (blk_below HDX.out hb3)
      have HAX3 := Aside0.mk (blk_below HAX.out hb3)
      have HRX3 := Aside0.mk (blk_below HRX.out hb3)
      have HR3 := Aside0.mk (Kd.R_below HR2.out hb3)
      have HL33 := Aside0.mk (blk_lt HRX3.out)
      clear hA hb3 d0 d1 d2 x0 x1 x2 x3 r0 r1 r2 g0 g1 g2
      have d0 := blk_cell HDX3.out 0
      have d1 := blk_cell HDX3.out 1
      have d2 := blk_cell HDX3.out 2
      have x0 := blk_cell HAX3.out 0
      have x1 := blk_cell HAX3.out 1
      have x2 := blk_cell HAX3.out 2
      have x3 := blk_cell HAX3.out 3
      have r0 := blk_cell HRX3.out 0
      have r1 := blk_cell HRX3.out 1
      have r2 := blk_cell HRX3.out 2
      have g0 := blk_frozen HRX3.out 0
      have g1 := blk_frozen HRX3.out 1
      have g2 := blk_frozen HRX3.out 2
      by_cases hf : fnd cs a < 0
      · have HD := Aside0.mk (show actDo cs k a b c = (cs, 8) from by unfold actDo; rw [hm, if_pos rfl, if_neg k1, show wasN cs a b = 8 from by unfold wasN; rw [if_pos hf]]; rfl)
        have HF := Aside0.mk (show ∀ q, (P q ∧ q < w.heap.size) → q ≠ B2 from fun q hq => by have := HL2.out; omega)
        have HO := Aside0.mk (show ∀ q, (P q ∧ q < w.heap.size) → (P q ∨ w.heap.size ≤ q) from fun q hq => .inl hq.1)
        go_wp2_with fail
        refine bodyPost_ret (results_ct rfl _ _ B2 46 #[.int .i64 id, .int .u64 lsn, .slice A cs.length ca] (0, 0) _ rfl (blk_put (cs' := #[.int .i64 id, .int .u64 lsn, .slice A cs.length ca]) (blk_put (cs' := #[.int .i64 id, .int .u64 lsn, .slice none 0 0]) (blk_put (cs' := #[.int .i64 id, .int .u64 0, .slice none 0 0]) HRX3.out 0 (.int .i64 id) rfl) 1 (.int .u64 lsn) rfl) 2 (.slice A cs.length ca) rfl) Try.underlying46 rfl (by kernel_rfl)) rfl ?_
        refine ⟨.slice A cs.length ca, by rw [HD.out]; rfl, ?_, (below_set (g := B2) (j := 2) (below_set (g := B2) (j := 1) (below_set (g := B2) (j := 0) HBW3.out HL.out) HL.out) HL.out), (Kept.setCell (Kept.setCell (Kept.setCell (Kept.of_below HS3.out P) (p := ⟨B2, 0, none⟩) (.inr HL2.out) (.int .i64 id)) (p := ⟨B2, 1, none⟩) (.inr HL2.out) (.int .u64 lsn)) (p := ⟨B2, 2, none⟩) (.inr HL2.out) (.slice A cs.length ca))⟩
        rw [HD.out]
        exact Kd.R_mono (Kd.R_far (p := ⟨B2, 2, none⟩) (Kd.R_far (p := ⟨B2, 1, none⟩) (Kd.R_far (p := ⟨B2, 0, none⟩) HR3.out (fun q hq => HF.out q hq) (.int .i64 id)) (fun q hq => HF.out q hq) (.int .u64 lsn)) (fun q hq => HF.out q hq) (.slice A cs.length ca)) (fun q hq => HO.out q hq)
      · obtain ⟨j, hj⟩ := Int.eq_ofNat_of_zero_le (show 0 ≤ fnd cs a by omega)
        have hjl : j < cs.length := by have := fnd_lt cs a; omega
        obtain ⟨ad, ea, hq0, hq1, hq2⟩ := cell_at (Kd.R_reads' HR3.out).2.2 j hjl
        subst ea
        rw [hj]
        cases he : (rd_TGCell cs j).f2.toList == b.toList with
        | false =>
          have HD := Aside0.mk (show actDo cs k a b c = (cs, 10) from by unfold actDo; rw [hm, if_pos rfl, if_neg k1, show wasN cs a b = 10 from by unfold wasN; rw [if_neg hf, hj, if_neg (by rw [he]; simp)]]; rfl)
          have HF := Aside0.mk (show ∀ q, (P q ∧ q < w.heap.size) → q ≠ B2 from fun q hq => by have := HL2.out; omega)
          have HO := Aside0.mk (show ∀ q, (P q ∧ q < w.heap.size) → (P q ∨ w.heap.size ≤ q) from fun q hq => .inl hq.1)
          clear hm hf hj
          go_wp2_with fail
          go_region_held3 (fun wx => wx.cell? ⟨w.heap.size, 2, none⟩ = some (.slice (some ad) cs.length ca) ∧ wx.cell? ⟨(ad.add (j * 3)).block, (ad.add (j * 3)).off + 2, none⟩ = some (.string (rd_TGCell cs j).f2) ∧ wx.cell? ⟨w.heap.size + 1, 2, none⟩ = some (.string b)) (go_keep) (fail)
          all_goals
            have d0 := blk_cell (blk_drew HDX3.out) 0
            have d1 := blk_cell (blk_drew HDX3.out) 1
            have d2 := blk_cell (blk_drew HDX3.out) 2
            have x0 := blk_cell (blk_drew HAX3.out) 0
            have x1 := blk_cell (blk_drew HAX3.out) 1
            have x2 := blk_cell (blk_drew HAX3.out) 2
            have x3 := blk_cell (blk_drew HAX3.out) 3
            have r0 := blk_cell (blk_drew HRX3.out) 0
            have r1 := blk_cell (blk_drew HRX3.out) 1
            have r2 := blk_cell (blk_drew HRX3.out) 2
            have g0 := blk_frozen (blk_drew HRX3.out) 0
            have g1 := blk_frozen (blk_drew HRX3.out) 1
            have g2 := blk_frozen (blk_drew HRX3.out) 2
            go_wp2_with fail
            refine bodyPost_ret (results_ct rfl _ _ B2 46 #[.int .i64 id, .int .u64 lsn, .slice (some ad) cs.length ca] (0, 0) _ rfl (blk_put (cs' := #[.int .i64 id, .int .u64 lsn, .slice (some ad) cs.length ca]) (blk_put (cs' := #[.int .i64 id, .int .u64 lsn, .slice none 0 0]) (blk_put (cs' := #[.int .i64 id, .int .u64 0, .slice none 0 0]) (blk_drew HRX3.out) 0 (.int .i64 id) rfl) 1 (.int .u64 lsn) rfl) 2 (.slice (some ad) cs.length ca) rfl) Try.underlying46 rfl (by kernel_rfl)) rfl ?_
            refine ⟨.slice (some ad) cs.length ca, by rw [HD.out]; rfl, ?_, (below_set (g := B2) (j := 2) (below_set (g := B2) (j := 1) (below_set (g := B2) (j := 0) (below_drew HBW3.out) HL.out) HL.out) HL.out), (Kept.setCell (Kept.setCell (Kept.setCell (Kept.of_below HS3.out P).drew (p := ⟨B2, 0, none⟩) (.inr HL2.out) (.int .i64 id)) (p := ⟨B2, 1, none⟩) (.inr HL2.out) (.int .u64 lsn)) (p := ⟨B2, 2, none⟩) (.inr HL2.out) (.slice (some ad) cs.length ca))⟩
            rw [HD.out]
            exact Kd.R_mono (Kd.R_far (p := ⟨B2, 2, none⟩) (Kd.R_far (p := ⟨B2, 1, none⟩) (Kd.R_far (p := ⟨B2, 0, none⟩) (Kd.R_drew HR3.out) (fun q hq => HF.out q hq) (.int .i64 id)) (fun q hq => HF.out q hq) (.int .u64 lsn)) (fun q hq => HF.out q hq) (.slice (some ad) cs.length ca)) (fun q hq => HO.out q hq)
        | true =>
          have hW : wasN cs a b = 0 := by unfold wasN; rw [if_neg hf, hj, if_pos he]
          by_cases k2 : k = 2
          · subst k2
            have HD := Aside0.mk (show actDo cs 2 a b c = upd cs a c from by unfold actDo; rw [hm, if_pos rfl, if_neg k1, if_pos hW, if_pos rfl])
            clear hm hf hj hW
            go_wp2_with fail
            go_region_held3 (fun wx => wx.cell? ⟨w.heap.size, 2, none⟩ = some (.slice (some ad) cs.length ca) ∧ wx.cell? ⟨(ad.add (j * 3)).block, (ad.add (j * 3)).off + 2, none⟩ = some (.string (rd_TGCell cs j).f2) ∧ wx.cell? ⟨w.heap.size + 1, 2, none⟩ = some (.string b)) (go_keep) (fail)
            all_goals
              have d0 := blk_cell (blk_drew HDX3.out) 0
              have d1 := blk_cell (blk_drew HDX3.out) 1
              have d2 := blk_cell (blk_drew HDX3.out) 2
              have x0 := blk_cell (blk_drew HAX3.out) 0
              have x1 := blk_cell (blk_drew HAX3.out) 1
              have x2 := blk_cell (blk_drew HAX3.out) 2
              have x3 := blk_cell (blk_drew HAX3.out) 3
              have r0 := blk_cell (blk_drew HRX3.out) 0
              have r1 := blk_cell (blk_drew HRX3.out) 1
              have r2 := blk_cell (blk_drew HRX3.out) 2
              have g0 := blk_frozen (blk_drew HRX3.out) 0
              have g1 := blk_frozen (blk_drew HRX3.out) 1
              have g2 := blk_frozen (blk_drew HRX3.out) 2
              go_wp2_with fail
              refine (rupd_calls (below_drew HBW3.out) (Kd.R_drew HR3.out) HV.out id lsn a c).mono ?_
              rintro e w9 ⟨v9, rfl, hR9, hb9, hk9⟩
              obtain ⟨A9, c9, rfl⟩ := Kd.R_slice hR9
              have HRX9 := Aside0.mk (blk_kept (blk_drew HRX3.out) hk9 (fun h => by have := h.2; have := HL2.out; omega))
              have HR9 := Aside0.mk hR9
              have HB9 := Aside0.mk hb9
              have HK9 := Aside0.mk ((Kept.of_below HS3.out P).drew.then_ hk9 (fun q hq => .inl hq.1))
              have HF := Aside0.mk (show ∀ q, ((P q ∧ q < w.heap.size) ∨ w3.heap.size ≤ q) → q ≠ B2 from fun q hq => by have := HL2.out; have := HL33.out; rcases hq with h | h <;> omega)
              have HO := Aside0.mk (show ∀ q, ((P q ∧ q < w.heap.size) ∨ w3.heap.size ≤ q) → (P q ∨ w.heap.size ≤ q) from fun q hq => by have := HS3.out.size; exact hq.elim (fun h => .inl h.1) (fun h => .inr (by omega)))
              have r0 := blk_cell HRX9.out 0
              have r1 := blk_cell HRX9.out 1
              have r2 := blk_cell HRX9.out 2
              have g0 := blk_frozen HRX9.out 0
              have g1 := blk_frozen HRX9.out 1
              have g2 := blk_frozen HRX9.out 2
              clear hR9 hb9 hk9
              go_wp2_with fail
              refine bodyPost_ret (results_ct rfl _ _ B2 46 #[.int .i64 id, .int .u64 lsn, .slice A9 (upd cs a c).1.length c9] (0, 0) _ rfl (blk_put (cs' := #[.int .i64 id, .int .u64 lsn, .slice A9 (upd cs a c).1.length c9]) (blk_put (cs' := #[.int .i64 id, .int .u64 lsn, .slice none 0 0]) (blk_put (cs' := #[.int .i64 id, .int .u64 0, .slice none 0 0]) HRX9.out 0 (.int .i64 id) rfl) 1 (.int .u64 lsn) rfl) 2 (.slice A9 (upd cs a c).1.length c9) rfl) Try.underlying46 rfl (by kernel_rfl)) rfl ?_
              refine ⟨.slice A9 (upd cs a c).1.length c9, by rw [HD.out]; rfl, ?_, (below_set (g := B2) (j := 2) (below_set (g := B2) (j := 1) (below_set (g := B2) (j := 0) HB9.out HL.out) HL.out) HL.out), (Kept.setCell (Kept.setCell (Kept.setCell HK9.out (p := ⟨B2, 0, none⟩) (.inr HL2.out) (.int .i64 id)) (p := ⟨B2, 1, none⟩) (.inr HL2.out) (.int .u64 lsn)) (p := ⟨B2, 2, none⟩) (.inr HL2.out) (.slice A9 (upd cs a c).1.length c9))⟩
              rw [HD.out]
              exact Kd.R_mono (Kd.R_far (p := ⟨B2, 2, none⟩) (Kd.R_far (p := ⟨B2, 1, none⟩) (Kd.R_far (p := ⟨B2, 0, none⟩) HR9.out (fun q hq => HF.out q hq) (.int .i64 id)) (fun q hq => HF.out q hq) (.int .u64 lsn)) (fun q hq => HF.out q hq) (.slice A9 (upd cs a c).1.length c9)) (fun q hq => HO.out q hq)
          · have HD := Aside0.mk (show actDo cs k a b c = del cs a from by unfold actDo; rw [hm, if_pos rfl, if_neg k1, if_pos hW, if_neg k2])
            have HV100 := Aside0.mk (show cs.length ≤ 100 from by have := HV.out.len; omega)
            clear hm hf hj hW
            go_wp2_with fail
            go_region_held3 (fun wx => wx.cell? ⟨w.heap.size, 2, none⟩ = some (.slice (some ad) cs.length ca) ∧ wx.cell? ⟨(ad.add (j * 3)).block, (ad.add (j * 3)).off + 2, none⟩ = some (.string (rd_TGCell cs j).f2) ∧ wx.cell? ⟨w.heap.size + 1, 2, none⟩ = some (.string b)) (go_keep) (fail)
            all_goals
              have d0 := blk_cell (blk_drew HDX3.out) 0
              have d1 := blk_cell (blk_drew HDX3.out) 1
              have d2 := blk_cell (blk_drew HDX3.out) 2
              have x0 := blk_cell (blk_drew HAX3.out) 0
              have x1 := blk_cell (blk_drew HAX3.out) 1
              have x2 := blk_cell (blk_drew HAX3.out) 2
              have x3 := blk_cell (blk_drew HAX3.out) 3
              have r0 := blk_cell (blk_drew HRX3.out) 0
              have r1 := blk_cell (blk_drew HRX3.out) 1
              have r2 := blk_cell (blk_drew HRX3.out) 2
              have g0 := blk_frozen (blk_drew HRX3.out) 0
              have g1 := blk_frozen (blk_drew HRX3.out) 1
              have g2 := blk_frozen (blk_drew HRX3.out) 2
              go_wp2_with fail
              refine (rdel_calls (below_drew HBW3.out) (Kd.R_drew HR3.out) HV100.out id lsn a).mono ?_
              rintro e w9 ⟨v9, rfl, hR9, hb9, hk9⟩
              obtain ⟨A9, c9, rfl⟩ := Kd.R_slice hR9
              have HRX9 := Aside0.mk (blk_kept (blk_drew HRX3.out) hk9 (fun h => by have := h.2; have := HL2.out; omega))
              have HR9 := Aside0.mk hR9
              have HB9 := Aside0.mk hb9
              have HK9 := Aside0.mk ((Kept.of_below HS3.out P).drew.then_ hk9 (fun q hq => .inl hq.1))
              have HF := Aside0.mk (show ∀ q, ((P q ∧ q < w.heap.size) ∨ w3.heap.size ≤ q) → q ≠ B2 from fun q hq => by have := HL2.out; have := HL33.out; rcases hq with h | h <;> omega)
              have HO := Aside0.mk (show ∀ q, ((P q ∧ q < w.heap.size) ∨ w3.heap.size ≤ q) → (P q ∨ w.heap.size ≤ q) from fun q hq => by have := HS3.out.size; exact hq.elim (fun h => .inl h.1) (fun h => .inr (by omega)))
              have r0 := blk_cell HRX9.out 0
              have r1 := blk_cell HRX9.out 1
              have r2 := blk_cell HRX9.out 2
              have g0 := blk_frozen HRX9.out 0
              have g1 := blk_frozen HRX9.out 1
              have g2 := blk_frozen HRX9.out 2
              clear hR9 hb9 hk9
              go_wp2_with fail
              refine bodyPost_ret (results_ct rfl _ _ B2 46 #[.int .i64 id, .int .u64 lsn, .slice A9 (del cs a).1.length c9] (0, 0) _ rfl (blk_put (cs' := #[.int .i64 id, .int .u64 lsn, .slice A9 (del cs a).1.length c9]) (blk_put (cs' := #[.int .i64 id, .int .u64 lsn, .slice none 0 0]) (blk_put (cs' := #[.int .i64 id, .int .u64 0, .slice none 0 0]) HRX9.out 0 (.int .i64 id) rfl) 1 (.int .u64 lsn) rfl) 2 (.slice A9 (del cs a).1.length c9) rfl) Try.underlying46 rfl (by kernel_rfl)) rfl ?_
              refine ⟨.slice A9 (del cs a).1.length c9, by rw [HD.out]; rfl, ?_, (below_set (g := B2) (j := 2) (below_set (g := B2) (j := 1) (below_set (g := B2) (j := 0) HB9.out HL.out) HL.out) HL.out), (Kept.setCell (Kept.setCell (Kept.setCell HK9.out (p := ⟨B2, 0, none⟩) (.inr HL2.out) (.int .i64 id)) (p := ⟨B2, 1, none⟩) (.inr HL2.out) (.int .u64 lsn)) (p := ⟨B2, 2, none⟩) (.inr HL2.out) (.slice A9 (del cs a).1.length c9))⟩
              rw [HD.out]
              exact Kd.R_mono (Kd.R_far (p := ⟨B2, 2, none⟩) (Kd.R_far (p := ⟨B2, 1, none⟩) (Kd.R_far (p := ⟨B2, 0, none⟩) HR9.out (fun q hq => HF.out q hq) (.int .i64 id)) (fun q hq => HF.out q hq) (.int .u64 lsn)) (fun q hq => HF.out q hq) (.slice A9 (del cs a).1.length c9)) (fun q hq => HO.out q hq)
end
end Go.Proofs.Ytidgfigfebkieaa
end
section
namespace Go.Proofs.Ytidgfigfebkieaa
open Go.RowKit Go.Proofs.YtidgfigfebkieaaW.PrintWords Go.Proofs.YtidgfigfebkieaaW.PrintLast Go.Proofs.YtidgfigfebkieaaW.PrintMore
open Rf Go.ChangeMaps
set_option linter.unusedVariables false
set_option linter.unusedSimpArgs false
section
variable {w0 w : World} {ok : Nat → Prop} {g id lsn : Nat} {cs : List SGCell}
theorem Here.cloned (h : Here w0 w ok g id lsn cs) : Calls Try.prog 35 #[.pointer (some ⟨g, 0, none⟩)] w fun e w' => ∃ g', e = .returned (.pointer (some ⟨g', 0, none⟩)) ∧ Here w w' (fun k => w.heap.size ≤ k) g' id lsn cs := by
  obtain ⟨h1, h2, v, h3, h4⟩ := h.pg
  obtain ⟨A, c, rfl, hlc, hC⟩ := Kd.R_reads h4
  refine (clone_calls w w g id lsn A c cs (Below.refl _ _) h3 hC h.val.small.big).mono ?_
  rintro e w' ⟨g', rfl, hp, hb⟩
  exact ⟨g', rfl, hp, hb, h.val, h.id16, h.lsn64⟩
set_option maxHeartbeats 1000000 in
theorem plan_calls (h : Here w0 w ok g id lsn cs) (k : Int) (a b c : ByteArray) (ha : a.size ≤ 140737488351232) (hb : b.size ≤ 140737488351232) (hc : c.size ≤ 140737488351232) :
    Calls Try.prog 19 #[.pointer (some ⟨g, 0, none⟩), .agg #[.int .i64 k, .string a, .string b, .string c]] w fun e w' => e = .returned (.int .i64 (actDo cs k a b c).2) ∧ Below w.heap.size w w' := by
  have H := Aside0.mk h
  clear h
  go_enter Try.func19, Try.ntmps19
  go_wp2_with fail
  have hb0 : Below w.heap.size w (w.alloc (.cells #[.int .i64 k, .string a, .string b, .string c] 24)) := below_alloc (Below.refl _ _) _
  have hbx := heap_alloc_new w (.cells #[.int .i64 k, .string a, .string b, .string c] 24)
  generalize w.alloc (.cells #[.int .i64 k, .string a, .string b, .string c] 24) = w1 at hb0 hbx ⊢
  have H1 := Aside0.mk (H.out.next hb0)
  have HB0 := Aside0.mk hb0
  have HX := Aside0.mk hbx
  have HLT := Aside0.mk (blk_lt hbx)
  have x0 := blk_cell hbx 0
  have x1 := blk_cell hbx 1
  have x2 := blk_cell hbx 2
  have x3 := blk_cell hbx 3
  clear hb0 hbx
  go_region_held3 (fun wx => wx.cell? ⟨w.heap.size, 0, none⟩ = some (.int .i64 k) ∧ wx.cell? ⟨w.heap.size, 1, none⟩ = some (.string a) ∧ wx.cell? ⟨w.heap.size, 2, none⟩ = some (.string b) ∧ wx.cell? ⟨w.heap.size, 3, none⟩ = some (.string c)) (go_keep) ((first | (go_at_call 35; refine H1.out.drew.cloned.mono ?_; rintro e w2 ⟨gq, rfl, hq⟩; have hz := blk_below (blk_drew HX.out) hq.bel; have y0 := blk_cell hz 0; have y1 := blk_cell hz 1; have y2 := blk_cell hz 2; have y3 := blk_cell hz 3; have HX2 := Aside0.mk hz; have HQ := Aside0.mk hq; clear hz hq) | (go_at_call 21; refine (do_calls HQ.out k a b c ha hb hc).mono ?_; rintro e w3 ⟨rfl, hA⟩; have hz := blk_kept HX2.out hA.kept (fun h => Nat.not_le_of_lt HLT.out h); have z0 := blk_cell hz 0; have z1 := blk_cell hz 1; have z2 := blk_cell hz 2; have z3 := blk_cell hz 3; have HB3 := Aside0.mk (below_then (below_drew HB0.out) (below_drew HB0.out).size hA.here.bel); clear hz hA)))
  all_goals
    go_wp2
    go_ret
    exact ⟨rfl, HB3.out⟩
set_option maxRecDepth 100000 in
set_option maxHeartbeats 1000000 in
theorem alike_calls (h : Here w0 w ok g id lsn cs) (A : Option Addr) (c : Nat) (hC : Kd.C kGCell w A cs.length cs) :
    Calls Try.prog 23 #[.pointer (some ⟨g, 0, none⟩), .agg #[.int .i64 id, .int .u64 lsn, .slice A cs.length c]] w fun e w' => e = .returned (.bool true) ∧ Below w.heap.size w w' := by
  have H := Aside0.mk h
  have HC := Aside0.mk hC
  clear h hC
  go_enter Try.func23, Try.ntmps23
  go_wp2_with fail
  have hb0 : Below w.heap.size w (w.alloc (.cells #[.int .i64 id, .int .u64 lsn, .slice A cs.length c] 46)) := below_alloc (Below.refl _ _) _
  have hbx := heap_alloc_new w (.cells #[.int .i64 id, .int .u64 lsn, .slice A cs.length c] 46)
  generalize w.alloc (.cells #[.int .i64 id, .int .u64 lsn, .slice A cs.length c] 46) = w1 at hb0 hbx ⊢
  have H1 := Aside0.mk (H.out.next hb0)
  have HB0 := Aside0.mk hb0
  have HX := Aside0.mk hbx
  have HC1 := Aside0.mk (Kd.C_below HC.out (below_drew hb0))
  have x0 := blk_cell hbx 0
  have x1 := blk_cell hbx 1
  have x2 := blk_cell hbx 2
  clear hb0 hbx
  go_region_with ((first | (go_at_call 18; refine H1.out.drew.bytes.mono ?_; rintro e w2 ⟨rfl, hbuf, hh, hb⟩; have hbuf : BufAt w2 w1.heap.size (pgB id lsn cs) := hbuf; have hcv := pg_string hbuf H1.out.val; have hz := blk_below (blk_drew HX.out) hb; have y0 := blk_cell hz 0; have y1 := blk_cell hz 1; have y2 := blk_cell hz 2; have HBUF := Aside0.mk hbuf; have HC2 := Aside0.mk (Kd.C_below HC1.out hb); have HB2 := Aside0.mk (below_then (below_drew HB0.out) (below_drew HB0.out).size hb); have HX2 := Aside0.mk hz; clear hz hbuf hh hb) | (go_at_call 39; refine (rbytes_calls _ id lsn A c cs HC2.out H1.out.val.small H1.out.val.room4 (by have := H1.out.id16; omega) H1.out.lsn64).mono ?_; rintro e w3 ⟨rfl, hb⟩; have hcv3 := pg_string (HBUF.out.below hb) H1.out.val; have hz := blk_below HX2.out hb; have z0 := blk_cell hz 0; have z1 := blk_cell hz 1; have z2 := blk_cell hz 2; have HB3 := Aside0.mk (below_then HB2.out HB2.out.size hb); clear hz hb)))
  all_goals
    go_wp2
    go_ret
    exact ⟨rfl, HB3.out⟩
end
end Go.Proofs.Ytidgfigfebkieaa
end
section
namespace Go.Proofs.Ytidgfigfebkieaa.Rf
open Go.RowKit Go.Proofs.YtidgfigfebkieaaW.PrintWords Go.Proofs.YtidgfigfebkieaaW.PrintLast Go.Proofs.YtidgfigfebkieaaW.PrintMore
set_option linter.unusedVariables false
structure SGPair where
  f0 : ByteArray
  f1 : ByteArray
def zGPair : SGPair := ⟨(⟨#[]⟩ : ByteArray), (⟨#[]⟩ : ByteArray)⟩
def kGPair : Kd SGPair := Kd.iso (Kd.pair Kd.string Kd.string) (fun x : SGPair => (x.f0, x.f1))
theorem kGPair_open {w : World} {x : SGPair} {cs : List Value} (h : kGPair.K w x cs) : cs = [.string x.f0, .string x.f1] := by
  obtain ⟨_, _, rfl, rfl, rfl⟩ := h
  exact rfl
theorem kGPair_openM {w : World} {base : Nat} {ok : Nat → Prop} {x : SGPair} {cs : List Value} (h : kGPair.M w base ok x cs) : cs = [.string x.f0, .string x.f1] := by
  obtain ⟨_, _, rfl, rfl, rfl⟩ := h
  exact rfl
theorem kGPair_mk (w : World) (x : SGPair)  : kGPair.K w x [.string x.f0, .string x.f1] := ⟨[.string x.f0], [.string x.f1], rfl, rfl, rfl⟩
theorem kGPair_mkM (w : World) (base : Nat) (ok : Nat → Prop) (x : SGPair)  : kGPair.M w base ok x [.string x.f0, .string x.f1] := ⟨[.string x.f0], [.string x.f1], rfl, rfl, rfl⟩
def rd_TGPair (xs : List SGPair) (i : Int) : SGPair := xs.getD i.toNat zGPair
theorem at_TGPair {w : World} {A : Option Addr} {n : Nat} {xs : List SGPair} (h : Kd.C kGPair w A n xs) (i : Int) (h0 : 0 ≤ i) (h1 : i < n) : ∃ ad , A = some ad ∧ w.cell? (ad.add (i.toNat * 2)) = some (.string (rd_TGPair xs i).f0) ∧ w.cell? ⟨(ad.add (i.toNat * 2)).block, (ad.add (i.toNat * 2)).off + 1, none⟩ = some (.string (rd_TGPair xs i).f1) := by
  obtain ⟨ad, c, e, _, hK, hc0⟩ := Kd.C_get h zGPair i h0 h1
  have hc : ∀ j u, c[j]? = some u → w.cell? (ad.add (i.toNat * 2 + j)) = some u := hc0
  obtain rfl := kGPair_open hK
  exact ⟨ad, e, hc 0 _ rfl, by rw [← add_field _ _ 1 (by omega)]; exact hc 1 _ rfl⟩
structure SGAct where
  f0 : Int
  f1 : ByteArray
  f2 : ByteArray
  f3 : ByteArray
def zGAct : SGAct := ⟨0, (⟨#[]⟩ : ByteArray), (⟨#[]⟩ : ByteArray), (⟨#[]⟩ : ByteArray)⟩
def kGAct : Kd SGAct := Kd.iso (Kd.pair (Kd.int .i64) (Kd.pair Kd.string (Kd.pair Kd.string Kd.string))) (fun x : SGAct => (x.f0, x.f1, x.f2, x.f3))
theorem kGAct_open {w : World} {x : SGAct} {cs : List Value} (h : kGAct.K w x cs) : cs = [.int .i64 x.f0, .string x.f1, .string x.f2, .string x.f3] := by
  obtain ⟨_, _, rfl, rfl, ⟨_, _, rfl, rfl, ⟨_, _, rfl, rfl, rfl⟩⟩⟩ := h
  exact rfl
theorem kGAct_mk (w : World) (x : SGAct) : kGAct.K w x [.int .i64 x.f0, .string x.f1, .string x.f2, .string x.f3] := ⟨[.int .i64 x.f0], [.string x.f1, .string x.f2, .string x.f3], rfl, rfl, ⟨[.string x.f1], [.string x.f2, .string x.f3], rfl, rfl, ⟨[.string x.f2], [.string x.f3], rfl, rfl, rfl⟩⟩⟩
def rd_TGAct (xs : List SGAct) (i : Int) : SGAct := xs.getD i.toNat zGAct
theorem at_TGAct {w : World} {A : Option Addr} {n : Nat} {xs : List SGAct} (h : Kd.C kGAct w A n xs) (i : Int) (h0 : 0 ≤ i) (h1 : i < n) : ∃ ad , A = some ad ∧ w.cell? (ad.add (i.toNat * 4)) = some (.int .i64 (rd_TGAct xs i).f0) ∧ w.cell? ⟨(ad.add (i.toNat * 4)).block, (ad.add (i.toNat * 4)).off + 1, none⟩ = some (.string (rd_TGAct xs i).f1) ∧ w.cell? ⟨(ad.add (i.toNat * 4)).block, (ad.add (i.toNat * 4)).off + 2, none⟩ = some (.string (rd_TGAct xs i).f2) ∧ w.cell? ⟨(ad.add (i.toNat * 4)).block, (ad.add (i.toNat * 4)).off + 3, none⟩ = some (.string (rd_TGAct xs i).f3) := by
  obtain ⟨ad, c, e, _, hK, hc0⟩ := Kd.C_get h zGAct i h0 h1
  have hc : ∀ j u, c[j]? = some u → w.cell? (ad.add (i.toNat * 4 + j)) = some u := hc0
  obtain rfl := kGAct_open hK
  exact ⟨ad, e, hc 0 _ rfl, by rw [← add_field _ _ 1 (by omega)]; exact hc 1 _ rfl, by rw [← add_field _ _ 2 (by omega)]; exact hc 2 _ rfl, by rw [← add_field _ _ 3 (by omega)]; exact hc 3 _ rfl⟩
end Go.Proofs.Ytidgfigfebkieaa.Rf
end
section
namespace Go.Proofs.Ytidgfigfebkieaa
open Go.RowKit Go.Proofs.YtidgfigfebkieaaW.PrintWords Go.Proofs.YtidgfigfebkieaaW.PrintLast Go.Proofs.YtidgfigfebkieaaW.PrintMore
open Rf
set_option linter.unusedVariables false
set_option linter.unusedSimpArgs false
theorem pair_at {w : World} {A : Option Addr} {n : Nat} {xs : List SGPair} (h : Kd.C kGPair w A n xs) (k : Nat) (h1 : k < n) : ∃ ad, A = some ad ∧ w.cell? (ad.add (k * 2)) = some (.string (rd_TGPair xs k).f0) ∧ w.cell? ⟨(ad.add (k * 2)).block, (ad.add (k * 2)).off + 1, none⟩ = some (.string (rd_TGPair xs k).f1) := by
  have := at_TGPair h (k : Int) (by omega) (by omega)
  rwa [Int.toNat_natCast] at this
/-- The page has cs, the document cs'. -/
structure Twin (w0 w : World) (B : Nat → Prop) (g id lsn : Nat) (cs cs' : List SGCell) (v : Value) : Prop where
  both : ∃ ok, Here w0 w ok g id lsn cs ∧ (∀ k, ok k → k < w.heap.size ∧ ¬ B k) ∧ Kd.R kGCell 86 w w0.heap.size (fun k => ¬ ok k ∧ k < w.heap.size ∧ ¬ B k) v cs'
  fix : ∀ k, B k → k < w.heap.size
section
variable {w0 w : World} {B : Nat → Prop} {g id lsn : Nat} {cs cs' : List SGCell} {v : Value}
theorem Twin.next {w' : World} (h : Twin w0 w B g id lsn cs cs' v) (hb : Below w.heap.size w w') : Twin w0 w' B g id lsn cs cs' v := by
  obtain ⟨⟨ok, h1, h2, h3⟩, h4⟩ := h
  have hs := hb.size
  exact ⟨⟨ok, h1.next hb, fun k hk => ⟨by have := (h2 k hk).1; omega, (h2 k hk).2⟩, Kd.R_mono (Kd.R_below h3 hb) (fun k hk => ⟨hk.1, by have := hk.2.1; omega, hk.2.2⟩)⟩, fun k hk => by have := h4 k hk; omega⟩
/-- New blocks are set apart. -/
theorem Twin.apart {w' : World} {B' : Nat → Prop} (h : Twin w0 w B g id lsn cs cs' v) (hb : Below w.heap.size w w') (hB : ∀ k, B' k → B k ∨ (w.heap.size ≤ k ∧ k < w'.heap.size)) : Twin w0 w' B' g id lsn cs cs' v := by
  obtain ⟨⟨ok, h1, h2, h3⟩, h4⟩ := h
  have hs := hb.size
  refine ⟨⟨ok, h1.next hb, fun k hk => ⟨by have := (h2 k hk).1; omega, fun h => ?_⟩, Kd.R_mono (Kd.R_below h3 hb) (fun k hk => ⟨hk.1, by have := hk.2.1; omega, fun h => ?_⟩)⟩, fun k hk => ?_⟩
  · rcases hB k h with h | h
    · exact (h2 k hk).2 h
    · have := (h2 k hk).1; omega
  · rcases hB k h with h | h
    · exact hk.2.2 h
    · have := hk.2.1; omega
  · rcases hB k hk with h | h
    · have := h4 k h; omega
    · exact h.2
theorem Twin.bel (h : Twin w0 w B g id lsn cs cs' v) : Below w0.heap.size w0 w := by
  obtain ⟨⟨ok, h1, _⟩, _⟩ := h
  exact h1.bel
theorem Twin.val (h : Twin w0 w B g id lsn cs cs' v) : Valid cs := by
  obtain ⟨⟨ok, h1, _⟩, _⟩ := h
  exact h1.val
theorem Twin.row (h : Twin w0 w B g id lsn cs cs' v) : ∃ A c, v = .slice A cs'.length c ∧ cs'.length ≤ c ∧ Kd.C kGCell w A cs'.length cs' := by
  obtain ⟨⟨ok, h1, h2, h3⟩, _⟩ := h
  exact Kd.R_reads h3
/-- The page has changed. -/
theorem twin_page {ok : Nat → Prop} {w' : World} {lsn' : Nat} {cs2 : List SGCell} (h2 : ∀ k, ok k → k < w.heap.size ∧ ¬ B k) (h3 : Kd.R kGCell 86 w w0.heap.size (fun k => ¬ ok k ∧ k < w.heap.size ∧ ¬ B k) v cs') (h4 : ∀ k, B k → k < w.heap.size)
    (hh : Here w0 w' (fun k => ok k ∨ w.heap.size ≤ k) g id lsn' cs2) (hk : Kept w w' ok) : Twin w0 w' B g id lsn' cs2 cs' v ∧ ∀ k, B k → w'.heap[k]? = w.heap[k]? := by
  have hs := hk.1
  refine ⟨⟨⟨_, hh.bound, fun k hk => ⟨hk.2, fun h => ?_⟩, Kd.R_mono (Kd.R_kept h3 hk (fun k h => h.1)) (fun k h => ⟨fun h' => ?_, by omega, h.2.2⟩)⟩, fun k hk => by have := h4 k hk; omega⟩, fun k h => hk.2 k (h4 k h) (fun ho => (h2 k ho).2 h)⟩
  · rcases hk.1 with ho | ho
    · exact (h2 k ho).2 h
    · have := h4 k h; omega
  · rcases h'.1 with h' | h'
    · exact h.1 h'
    · omega
/-- The document has changed. -/
theorem twin_doc {ok : Nat → Prop} {w' : World} {v' : Value} {ds : List SGCell} (h1 : Here w0 w ok g id lsn cs) (h2 : ∀ k, ok k → k < w.heap.size ∧ ¬ B k) (h4 : ∀ k, B k → k < w.heap.size)
    (r1 : Kd.R kGCell 86 w' w0.heap.size (fun k => (¬ ok k ∧ k < w.heap.size ∧ ¬ B k) ∨ w.heap.size ≤ k) v' ds) (r2 : Below w0.heap.size w0 w') (r3 : Kept w w' (fun k => ¬ ok k ∧ k < w.heap.size ∧ ¬ B k)) : Twin w0 w' B g id lsn cs ds v' ∧ ∀ k, B k → w'.heap[k]? = w.heap[k]? := by
  have hs := r3.1
  refine ⟨⟨⟨ok, h1.kept r3 (fun k hk h => h.1 hk) r2, fun k hk => ⟨by have := (h2 k hk).1; omega, (h2 k hk).2⟩, Kd.R_mono (Kd.R_bound r1) (fun k hk => ⟨fun ho => ?_, hk.2.2.1, fun hb => ?_⟩)⟩, fun k hk => by have := h4 k hk; omega⟩, fun k h => r3.2 k (h4 k h) (fun hn => hn.2.2 h)⟩
  · rcases hk.1 with h | h
    · exact h.1 ho
    · have := (h2 k ho).1; omega
  · rcases hk.1 with h | h
    · exact h.2.2 hb
    · have := h4 k hb; omega
theorem Twin.insert (h : Twin w0 w B g id lsn cs cs' v) (key value : ByteArray) : Calls Try.prog 30 #[.pointer (some ⟨g, 0, none⟩), .string key, .string value] w fun e w' => e = .returned (.int .i64 (ins cs key value).2) ∧ Twin w0 w' B g id lsn (ins cs key value).1 cs' v ∧ ∀ k, B k → w'.heap[k]? = w.heap[k]? := by
  obtain ⟨⟨ok, h1, h2, h3⟩, h4⟩ := h
  refine (h1.insert key value).mono ?_
  rintro e w' ⟨rfl, hh, hk⟩
  exact ⟨rfl, twin_page h2 h3 h4 hh hk⟩
theorem Twin.do_ (h : Twin w0 w B g id lsn cs cs' v) (k : Int) (a b c : ByteArray) (ha : a.size ≤ 140737488351232) (hb : b.size ≤ 140737488351232) (hc : c.size ≤ 140737488351232) : Calls Try.prog 21 #[.pointer (some ⟨g, 0, none⟩), .agg #[.int .i64 k, .string a, .string b, .string c]] w fun e w' => e = .returned (.int .i64 (actDo cs k a b c).2) ∧ Twin w0 w' B g id lsn (actDo cs k a b c).1 cs' v ∧ ∀ k, B k → w'.heap[k]? = w.heap[k]? := by
  obtain ⟨⟨ok, h1, h2, h3⟩, h4⟩ := h
  refine (do_calls h1 k a b c ha hb hc).mono ?_
  rintro e w' ⟨rfl, hA⟩
  exact ⟨rfl, twin_page h2 h3 h4 hA.here hA.kept⟩
theorem Twin.rins (h : Twin w0 w B g id lsn cs cs' v) (hv : Valid cs') (key value : ByteArray) : Calls Try.prog 31 #[.agg #[.int .i64 id, .int .u64 lsn, v], .string key, .string value] w fun e w' => ∃ v', e = .returned (.tuple #[.agg #[.int .i64 id, .int .u64 lsn, v'], .int .i64 (ins cs' key value).2]) ∧ Twin w0 w' B g id lsn cs (ins cs' key value).1 v' ∧ ∀ k, B k → w'.heap[k]? = w.heap[k]? := by
  obtain ⟨⟨ok, h1, h2, h3⟩, h4⟩ := h
  refine (rins_calls h1.bel h3 hv id lsn key value).mono ?_
  rintro e w' ⟨v', rfl, r1, r2, r3⟩
  exact ⟨v', rfl, twin_doc h1 h2 h4 r1 r2 r3⟩
theorem Twin.rdo (h : Twin w0 w B g id lsn cs cs' v) (hv : Valid cs') (k : Int) (a b c : ByteArray) (ha : a.size ≤ 140737488351232) (hb : b.size ≤ 140737488351232) (hc : c.size ≤ 140737488351232) : Calls Try.prog 20 #[.agg #[.int .i64 id, .int .u64 lsn, v], .agg #[.int .i64 k, .string a, .string b, .string c]] w fun e w' => ∃ v', e = .returned (.tuple #[.agg #[.int .i64 id, .int .u64 lsn, v'], .int .i64 (actDo cs' k a b c).2]) ∧ Twin w0 w' B g id lsn cs (actDo cs' k a b c).1 v' ∧ ∀ k, B k → w'.heap[k]? = w.heap[k]? := by
  obtain ⟨⟨ok, h1, h2, h3⟩, h4⟩ := h
  refine (rdo_calls h1.bel h3 hv id lsn k a b c ha hb hc).mono ?_
  rintro e w' ⟨v', rfl, r1, r2, r3⟩
  exact ⟨v', rfl, twin_doc h1 h2 h4 r1 r2 r3⟩
end
end Go.Proofs.Ytidgfigfebkieaa
end
