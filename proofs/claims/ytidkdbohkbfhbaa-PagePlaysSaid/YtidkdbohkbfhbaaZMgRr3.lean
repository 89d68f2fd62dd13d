/- Layer 6: alike: the page and the document's page have the same. 
PLAIN: a page's bytes read back: numbers, slots, cells. 
Bytes in a block that may be longer and may bear a mark: what is only read. 
The calls of page's noughts and take. 
A map of texts to bools: what was seen (page's right). 
The call of page's right. -/
import Derived.Test.YtidkdbohkbfhbaaZMgRr2
import Derived.Test.YtidkdbohkbfhbaaZMgRr1
import Derived.Test.YtidkdbohkbfhbaaZRf2
import Derived.WalkMore
import Derived.ProofKit
import Derived.MapKept
import Derived.Maps.Keyed
import Derived.ChangeMaps5
section
namespace Go.Proofs.Ytidkdbohkbfhbaa
open Go.RowKit Go.Proofs.YtidkdbohkbfhbaaW.PrintWords Go.Proofs.YtidkdbohkbfhbaaW.PrintLast Go.Proofs.YtidkdbohkbfhbaaW.PrintMore
open Rf
set_option linter.unusedVariables false
set_option linter.unusedSimpArgs false

theorem same_loop (cs : List SGCell) (hl : cs.length ≤ 1000) (d : Nat) : ∀ i : Nat, i + d = cs.length → Ev (fun k => flotillaref06_SameCells.l0 k cs cs i) true := by
  induction d with
  | zero =>
    intro i hi
    refine Ev.step (f := fun _ => some true) (fun k => ?_) (Ev.now _)
    simp only [flotillaref06_SameCells.l0]
    rw [if_neg (by omega)]
  | succ d ih =>
    intro i hi
    refine Ev.step (fun k => ?_) (ih (i + 1) (by omega))
    simp only [flotillaref06_SameCells.l0]
    rw [if_pos (by omega), if_pos (by omega), if_pos (by omega), if_neg (by simp), w64 (by omega) (by omega)]
    rfl
theorem rsame_calls (w : World) (A B : Option Addr) (c d : Nat) (cs : List SGCell) (hA : Kd.C kGCell w A cs.length cs) (hc : cs.length ≤ c) (hB : Kd.C kGCell w B cs.length cs) (hd : cs.length ≤ d) (hl : cs.length ≤ 1000) :
    Calls Try.prog 23 #[.slice A cs.length c, .slice B cs.length d] w fun e w' => e = .returned (.bool true) ∧ Below w.heap.size w w' := by
  obtain ⟨k, h⟩ := (same_loop cs hl cs.length 0 (by omega)).rounds
  exact (flotillaref06_SameCells.calls k A c cs B d cs true w hA hc hB hd (by unfold flotillaref06_SameCells.f; rw [if_pos rfl]; exact h)).mono (by rintro e w' ⟨rfl, hd⟩; exact ⟨rfl, hd.below⟩)

theorem more_ {P : Program} {ops : Array Oper} {Q : Exit → Act → World → Prop} {md : Region.Mode} {S S' : World → Prop} (hS : ∀ w, S' w → S w) : ∀ (fuel : Nat) (l : Array Bool) (a : Act) (w : World), S' w → wpAnyLast P md ops Q S' [] fuel l a w → wpAnyLast P md ops Q S [] fuel l a w
  | 0, _, _, _, _, h => h
  | f + 1, l, a, w, hw, h => ⟨h.1, fun i hi => wpOp_mono (fun a' w' h' => ⟨fun hd _ => hS _ (h'.1 hd hw), more_ hS f _ _ _ (h'.1 (by simp) hw) h'.2⟩) (h.2 i hi)⟩
/-- The document's page as a parameter's box. -/
def DocAt (w : World) (g : Nat) (id lsn : Nat) (A : Option Addr) (n c : Nat) : Prop := w.heap[g]? = some (.cells #[.int .i64 id, .int .u64 lsn, .slice A n c] 33)
theorem DocAt.below {w w' : World} {g id lsn : Nat} {A : Option Addr} {n c : Nat} (h : DocAt w g id lsn A n c) (hb : Below w.heap.size w w') : DocAt w' g id lsn A n c := (hb.block g (blk_lt h)).trans h
theorem DocAt.cells {w : World} {g id lsn : Nat} {A : Option Addr} {n c : Nat} (h : DocAt w g id lsn A n c) : w.cell? ⟨g, 0, none⟩ = some (.int .i64 id) ∧ w.cell? ⟨g, 1, none⟩ = some (.int .u64 lsn) ∧ w.cell? ⟨g, 2, none⟩ = some (.slice A n c) := ⟨blk_cell h 0, blk_cell h 1, blk_cell h 2⟩

set_option maxRecDepth 100000 in
set_option maxHeartbeats 4000000 in
theorem alike_calls (w0 w : World) (ok : Nat → Prop) (g id lsn : Nat) (cs : List SGCell) (A : Option Addr) (c : Nat) (h : Here w0 w ok g id lsn cs) (hC : Kd.C kGCell w A cs.length cs) (hc : cs.length ≤ c) :
    Calls Try.prog 13 #[.pointer (some ⟨g, 0, none⟩), .agg #[.int .i64 id, .int .u64 lsn, .slice A cs.length c]] w fun e w' => e = .returned (.bool true) ∧ Here w0 w' ok g id lsn cs ∧ Below w.heap.size w w' := by
  have HH := Aside0.mk h
  have HD := Aside0.mk hC
  have HV := Aside0.mk h.val
  have HI := Aside0.mk h.id16
  have HL := Aside0.mk h.lsn64
  clear h hC
  go_enter Try.func13, Try.ntmps13
  go_wp2_with fail
  have hb0 : Below w.heap.size w (w.alloc (.cells #[.int .i64 id, .int .u64 lsn, .slice A cs.length c] 33)) := below_alloc (Below.refl _ _) _
  have hx : DocAt (w.alloc (.cells #[.int .i64 id, .int .u64 lsn, .slice A cs.length c] 33)) w.heap.size id lsn A cs.length c := heap_alloc_new w _
  generalize w.alloc (.cells #[.int .i64 id, .int .u64 lsn, .slice A cs.length c] 33) = wb at hb0 hx ⊢
  have HX := Aside0.mk hx
  have HB := Aside0.mk hb0
  have HH := Aside0.mk (HH.out.next hb0)
  have HD := Aside0.mk (Kd.C_below HD.out hb0)
  obtain ⟨q0, q1, q2⟩ := hx.cells
  clear hb0 hx
  have HH := Aside0.mk HH.out.drew
  have HD := Aside0.mk (Kd.C_below HD.out (below_drew (Below.refl _ _)))
  have HX := Aside0.mk (show DocAt wb.drew w.heap.size id lsn A cs.length c from HX.out)
  have HB := Aside0.mk (below_drew HB.out)
  clear q0 q1 q2
  obtain ⟨q0, q1, q2⟩ := HX.out.cells
  refine start_ (n := 35) (S := fun wx => wx.cell? ⟨w.heap.size, 0, none⟩ = some (.int .i64 id) ∧ wx.cell? ⟨w.heap.size, 1, none⟩ = some (.int .u64 lsn) ∧ wx.cell? ⟨w.heap.size, 2, none⟩ = some (.slice A cs.length c)) (ds := []) #[false, false, false, false, false, false, false, false, false, false, false, false, false, false, false, false, false, false, false, false, false, false, false, false, false, false, false, false, false, false, false, false, false, false, false] (by kernel_rfl) rfl rfl (⟨q0, q1, q2⟩) (fun hHeld => ?_)
  refine pure_ (i := 0) (N := some 5) (v := ?_) (a' := ?_) #[true, false, false, false, false, false, false, false, false, false, false, false, false, false, false, false, false, false, false, false, false, false, false, false, false, false, false, false, false, false, false, false, false, false, false] rfl rfl (by kernel_rfl) (fun _ _ _ h => h) (Or.inl ⟨by rfl, ?_⟩) ?_ ?_
  rotate_left
  · intro w'
    go_simp
    all_goals (with_reducible rfl)
  rotate_left
  · simp only [Act.put, List.setIfInBounds_toArray, List.set_cons_zero, List.set_cons_succ, i64_w, i32_w]
    rfl
  refine pure_ (i := 2) (N := some 7) (v := ?_) (a' := ?_) #[true, false, true, false, false, false, false, false, false, false, false, false, false, false, false, false, false, false, false, false, false, false, false, false, false, false, false, false, false, false, false, false, false, false, false] rfl rfl (by kernel_rfl) (fun _ _ _ h => h) (Or.inl ⟨by rfl, ?_⟩) ?_ ?_
  rotate_left
  · intro w'
    go_simp
    all_goals (with_reducible rfl)
  rotate_left
  · simp only [Act.put, List.setIfInBounds_toArray, List.set_cons_zero, List.set_cons_succ, i64_w, i32_w]
    rfl
  refine take_ (i := 3) (N := some 8) (v := ?_) (a' := ?_) #[true, false, true, true, false, false, false, false, false, false, false, false, false, false, false, false, false, false, false, false, false, false, false, false, false, false, false, false, false, false, false, false, false, false, false] rfl rfl (by kernel_rfl) (fun _ _ _ h => h) (Or.inl ⟨by rfl, ?_⟩) hHeld ?_ ?_
  rotate_left
  · intro w' hSw
    (try dsimp only at hSw)
    go_simp
    all_goals (with_reducible rfl)
  rotate_left
  · simp only [Act.put, List.setIfInBounds_toArray, List.set_cons_zero, List.set_cons_succ, i64_w, i32_w]
    rfl
  refine one_ (i := 1) (N := some 6) #[true, true, true, true, false, false, false, false, false, false, false, false, false, false, false, false, false, false, false, false, false, false, false, false, false, false, false, false, false, false, false, false, false, false, false] rfl rfl (by kernel_rfl) (by decide) (fun K hK => ?_)
  go_simp
  go_at_call 25
  refine (id_pg _ _ ok g id lsn cs HH.out.pg).mono ?_
  rintro e wq ⟨rfl, rfl⟩
  (try go_wp2_with fail)
  refine hK.out _ _ (⟨q0, q1, q2⟩) (fun hHeld => ?_)
  clear hK K
  (try simp only [Act.put, List.setIfInBounds_toArray, List.set_cons_zero, List.set_cons_succ])
  refine pure_ (i := 4) (N := some 9) (v := ?_) (a' := ?_) #[true, true, true, true, true, false, false, false, false, false, false, false, false, false, false, false, false, false, false, false, false, false, false, false, false, false, false, false, false, false, false, false, false, false, false] rfl rfl (by kernel_rfl) (fun _ _ _ h => h) (Or.inl ⟨by rfl, ?_⟩) ?_ ?_
  rotate_left
  · intro w'
    go_simp
    all_goals (with_reducible rfl)
  rotate_left
  · simp only [Act.put, List.setIfInBounds_toArray, List.set_cons_zero, List.set_cons_succ, i64_w, i32_w]
    rfl
  refine pure_ (i := 5) (N := some 10) (v := ?_) (a' := ?_) #[true, true, true, true, true, true, false, false, false, false, false, false, false, false, false, false, false, false, false, false, false, false, false, false, false, false, false, false, false, false, false, false, false, false, false] rfl rfl (by kernel_rfl) (fun _ _ _ h => h) (Or.inl ⟨by rfl, ?_⟩) ?_ ?_
  rotate_left
  · intro w'
    go_simp
    all_goals (with_reducible rfl)
  rotate_left
  · simp only [Act.put, List.setIfInBounds_toArray, List.set_cons_zero, List.set_cons_succ, i64_w, i32_w]
    rfl
  refine pure_ (i := 6) (N := some 11) (v := ?_) (a' := ?_) #[true, true, true, true, true, true, true, false, false, false, false, false, false, false, false, false, false, false, false, false, false, false, false, false, false, false, false, false, false, false, false, false, false, false, false] rfl rfl (by kernel_rfl) (fun _ _ _ h => h) (Or.inl ⟨by rfl, ?_⟩) ?_ ?_
  rotate_left
  · intro w'
    go_simp
    all_goals (with_reducible rfl)
  rotate_left
  · simp only [Act.put, List.setIfInBounds_toArray, List.set_cons_zero, List.set_cons_succ, i64_w, i32_w]
    rfl
  refine pure_ (i := 8) (N := some 13) (v := ?_) (a' := ?_) #[true, true, true, true, true, true, true, false, true, false, false, false, false, false, false, false, false, false, false, false, false, false, false, false, false, false, false, false, false, false, false, false, false, false, false] rfl rfl (by kernel_rfl) (fun _ _ _ h => h) (Or.inl ⟨by rfl, ?_⟩) ?_ ?_
  rotate_left
  · intro w'
    go_simp
    all_goals (with_reducible rfl)
  rotate_left
  · simp only [Act.put, List.setIfInBounds_toArray, List.set_cons_zero, List.set_cons_succ, i64_w, i32_w]
    rfl
  refine take_ (i := 9) (N := some 14) (v := ?_) (a' := ?_) #[true, true, true, true, true, true, true, false, true, true, false, false, false, false, false, false, false, false, false, false, false, false, false, false, false, false, false, false, false, false, false, false, false, false, false] rfl rfl (by kernel_rfl) (fun _ _ _ h => h) (Or.inl ⟨by rfl, ?_⟩) hHeld ?_ ?_
  rotate_left
  · intro w' hSw
    (try dsimp only at hSw)
    go_simp
    all_goals (with_reducible rfl)
  rotate_left
  · simp only [Act.put, List.setIfInBounds_toArray, List.set_cons_zero, List.set_cons_succ, i64_w, i32_w]
    rfl
  refine one_ (i := 7) (N := some 12) #[true, true, true, true, true, true, true, true, true, true, false, false, false, false, false, false, false, false, false, false, false, false, false, false, false, false, false, false, false, false, false, false, false, false, false] rfl rfl (by kernel_rfl) (by decide) (fun K hK => ?_)
  go_simp
  go_at_call 24
  refine (lsn_pg _ _ ok g id lsn cs HH.out.pg).mono ?_
  rintro e wq ⟨rfl, rfl⟩
  (try go_wp2_with fail)
  refine hK.out _ _ (⟨q0, q1, q2⟩) (fun hHeld => ?_)
  clear hK K
  (try simp only [Act.put, List.setIfInBounds_toArray, List.set_cons_zero, List.set_cons_succ])
  refine pure_ (i := 10) (N := some 15) (v := ?_) (a' := ?_) #[true, true, true, true, true, true, true, true, true, true, true, false, false, false, false, false, false, false, false, false, false, false, false, false, false, false, false, false, false, false, false, false, false, false, false] rfl rfl (by kernel_rfl) (fun _ _ _ h => h) (Or.inl ⟨by rfl, ?_⟩) ?_ ?_
  rotate_left
  · intro w'
    go_simp
    all_goals (with_reducible rfl)
  rotate_left
  · simp only [Act.put, List.setIfInBounds_toArray, List.set_cons_zero, List.set_cons_succ, i64_w, i32_w]
    rfl
  refine pure_ (i := 11) (N := some 16) (v := ?_) (a' := ?_) #[true, true, true, true, true, true, true, true, true, true, true, true, false, false, false, false, false, false, false, false, false, false, false, false, false, false, false, false, false, false, false, false, false, false, false] rfl rfl (by kernel_rfl) (fun _ _ _ h => h) (Or.inl ⟨by rfl, ?_⟩) ?_ ?_
  rotate_left
  · intro w'
    go_simp
    all_goals (with_reducible rfl)
  rotate_left
  · simp only [Act.put, List.setIfInBounds_toArray, List.set_cons_zero, List.set_cons_succ, i64_w, i32_w]
    rfl
  refine pure_ (i := 12) (N := some 17) (v := ?_) (a' := ?_) #[true, true, true, true, true, true, true, true, true, true, true, true, true, false, false, false, false, false, false, false, false, false, false, false, false, false, false, false, false, false, false, false, false, false, false] rfl rfl (by kernel_rfl) (fun _ _ _ h => h) (Or.inl ⟨by rfl, ?_⟩) ?_ ?_
  rotate_left
  · intro w'
    go_simp
    all_goals (with_reducible rfl)
  rotate_left
  · simp only [Act.put, List.setIfInBounds_toArray, List.set_cons_zero, List.set_cons_succ, i64_w, i32_w]
    rfl
  refine pure_ (i := 13) (N := some 18) (v := ?_) (a' := ?_) #[true, true, true, true, true, true, true, true, true, true, true, true, true, true, false, false, false, false, false, false, false, false, false, false, false, false, false, false, false, false, false, false, false, false, false] rfl rfl (by kernel_rfl) (fun _ _ _ h => h) (Or.inl ⟨by rfl, ?_⟩) ?_ ?_
  rotate_left
  · intro w'
    go_simp
    all_goals (with_reducible rfl)
  rotate_left
  · simp only [Act.put, List.setIfInBounds_toArray, List.set_cons_zero, List.set_cons_succ, i64_w, i32_w]
    rfl
  refine take_ (i := 15) (N := some 20) (v := ?_) (a' := ?_) #[true, true, true, true, true, true, true, true, true, true, true, true, true, true, false, true, false, false, false, false, false, false, false, false, false, false, false, false, false, false, false, false, false, false, false] rfl rfl (by kernel_rfl) (fun _ _ _ h => h) (Or.inl ⟨by rfl, ?_⟩) hHeld ?_ ?_
  rotate_left
  · intro w' hSw
    (try dsimp only at hSw)
    go_simp
    all_goals (with_reducible rfl)
  rotate_left
  · simp only [Act.put, List.setIfInBounds_toArray, List.set_cons_zero, List.set_cons_succ, i64_w, i32_w]
    rfl
  refine one_ (i := 14) (N := some 19) #[true, true, true, true, true, true, true, true, true, true, true, true, true, true, true, true, false, false, false, false, false, false, false, false, false, false, false, false, false, false, false, false, false, false, false] rfl rfl (by kernel_rfl) (by decide) (fun K hK => ?_)
  go_simp
  go_at_call 16
  refine HH.out.free.mono ?_
  rintro e wq ⟨rfl, hh, hb⟩
  have HH := Aside0.mk hh
  have HB := Aside0.mk (below_then HB.out HB.out.size hb)
  have HD := Aside0.mk (Kd.C_below HD.out hb)
  have HX := Aside0.mk (HX.out.below hb)
  obtain ⟨q0, q1, q2⟩ := HX.out.cells
  clear hh hb
  (try go_wp2_with fail)
  refine hK.out _ _ (⟨q0, q1, q2⟩) (fun hHeld => ?_)
  clear hK K
  (try simp only [Act.put, List.setIfInBounds_toArray, List.set_cons_zero, List.set_cons_succ])
  refine one_ (i := 16) (N := some 21) #[true, true, true, true, true, true, true, true, true, true, true, true, true, true, true, true, true, false, false, false, false, false, false, false, false, false, false, false, false, false, false, false, false, false, false] rfl rfl (by kernel_rfl) (by decide) (fun K hK => ?_)
  go_simp
  go_at_call 34
  refine (rfree_calls _ id lsn A c cs HD.out hc HV.out.small).mono ?_
  rintro e wq ⟨rfl, hb⟩
  have HH := Aside0.mk (HH.out.next hb)
  have HB := Aside0.mk (below_then HB.out HB.out.size hb)
  have HD := Aside0.mk (Kd.C_below HD.out hb)
  have HX := Aside0.mk (HX.out.below hb)
  obtain ⟨q0, q1, q2⟩ := HX.out.cells
  clear hb
  (try go_wp2_with fail)
  refine hK.out _ _ (⟨q0, q1, q2⟩) (fun hHeld => ?_)
  clear hK K
  (try simp only [Act.put, List.setIfInBounds_toArray, List.set_cons_zero, List.set_cons_succ])
  refine pure_ (i := 17) (N := some 22) (v := ?_) (a' := ?_) #[true, true, true, true, true, true, true, true, true, true, true, true, true, true, true, true, true, true, false, false, false, false, false, false, false, false, false, false, false, false, false, false, false, false, false] rfl rfl (by kernel_rfl) (fun _ _ _ h => h) (Or.inl ⟨by rfl, ?_⟩) ?_ ?_
  rotate_left
  · intro w'
    go_simp
    all_goals (with_reducible rfl)
  rotate_left
  · simp only [Act.put, List.setIfInBounds_toArray, List.set_cons_zero, List.set_cons_succ, i64_w, i32_w]
    rfl
  refine pure_ (i := 18) (N := some 23) (v := ?_) (a' := ?_) #[true, true, true, true, true, true, true, true, true, true, true, true, true, true, true, true, true, true, true, false, false, false, false, false, false, false, false, false, false, false, false, false, false, false, false] rfl rfl (by kernel_rfl) (fun _ _ _ h => h) (Or.inl ⟨by rfl, ?_⟩) ?_ ?_
  rotate_left
  · intro w'
    go_simp
    all_goals (with_reducible rfl)
  rotate_left
  · simp only [Act.put, List.setIfInBounds_toArray, List.set_cons_zero, List.set_cons_succ, i64_w, i32_w]
    rfl
  refine pure_ (i := 19) (N := some 24) (v := ?_) (a' := ?_) #[true, true, true, true, true, true, true, true, true, true, true, true, true, true, true, true, true, true, true, true, false, false, false, false, false, false, false, false, false, false, false, false, false, false, false] rfl rfl (by kernel_rfl) (fun _ _ _ h => h) (Or.inl ⟨by rfl, ?_⟩) ?_ ?_
  rotate_left
  · intro w'
    go_simp
    all_goals (with_reducible rfl)
  rotate_left
  · simp only [Act.put, List.setIfInBounds_toArray, List.set_cons_zero, List.set_cons_succ, i64_w, i32_w]
    rfl
  refine pure_ (i := 20) (N := some 25) (v := ?_) (a' := ?_) #[true, true, true, true, true, true, true, true, true, true, true, true, true, true, true, true, true, true, true, true, true, false, false, false, false, false, false, false, false, false, false, false, false, false, false] rfl rfl (by kernel_rfl) (fun _ _ _ h => h) (Or.inl ⟨by rfl, ?_⟩) ?_ ?_
  rotate_left
  · intro w'
    go_simp
    all_goals (with_reducible rfl)
  rotate_left
  · simp only [Act.put, List.setIfInBounds_toArray, List.set_cons_zero, List.set_cons_succ, i64_w, i32_w]
    rfl
  refine pure_ (i := 22) (N := some 27) (v := ?_) (a' := ?_) #[true, true, true, true, true, true, true, true, true, true, true, true, true, true, true, true, true, true, true, true, true, false, true, false, false, false, false, false, false, false, false, false, false, false, false] rfl rfl (by kernel_rfl) (fun _ _ _ h => h) (Or.inl ⟨by rfl, ?_⟩) ?_ ?_
  rotate_left
  · intro w'
    go_simp
    all_goals (with_reducible rfl)
  rotate_left
  · simp only [Act.put, List.setIfInBounds_toArray, List.set_cons_zero, List.set_cons_succ, i64_w, i32_w]
    rfl
  refine take_ (i := 23) (N := some 28) (v := ?_) (a' := ?_) #[true, true, true, true, true, true, true, true, true, true, true, true, true, true, true, true, true, true, true, true, true, false, true, true, false, false, false, false, false, false, false, false, false, false, false] rfl rfl (by kernel_rfl) (fun _ _ _ h => h) (Or.inl ⟨by rfl, ?_⟩) hHeld ?_ ?_
  rotate_left
  · intro w' hSw
    (try dsimp only at hSw)
    go_simp
    all_goals (with_reducible rfl)
  rotate_left
  · simp only [Act.put, List.setIfInBounds_toArray, List.set_cons_zero, List.set_cons_succ, i64_w, i32_w]
    rfl
  refine one_ (i := 21) (N := some 26) #[true, true, true, true, true, true, true, true, true, true, true, true, true, true, true, true, true, true, true, true, true, true, true, true, false, false, false, false, false, false, false, false, false, false, false] rfl rfl (by kernel_rfl) (by decide) (fun K hK => ?_)
  go_simp
  go_at_call 17
  refine HH.out.cells.mono ?_
  rintro e wq ⟨As, csz, rfl, hR, hh, hb⟩
  have HH := Aside0.mk hh
  have HP := Aside0.mk (Kd.R_reads' hR)
  have HB := Aside0.mk (below_then HB.out HB.out.size hb)
  have HD := Aside0.mk (Kd.C_below HD.out hb)
  have HX := Aside0.mk (HX.out.below hb)
  obtain ⟨q0, q1, q2⟩ := HX.out.cells
  clear hh hb hR
  (try go_wp2_with fail)
  refine hK.out _ _ (⟨q0, q1, q2⟩) (fun hHeld => ?_)
  clear hK K
  (try simp only [Act.put, List.setIfInBounds_toArray, List.set_cons_zero, List.set_cons_succ])
  refine one_ (i := 24) (N := some 29) #[true, true, true, true, true, true, true, true, true, true, true, true, true, true, true, true, true, true, true, true, true, true, true, true, true, false, false, false, false, false, false, false, false, false, false] rfl rfl (by kernel_rfl) (by decide) (fun K hK => ?_)
  go_simp
  go_at_call 23
  refine (rsame_calls _ As A csz c cs HP.out.2.2 HP.out.2.1 HD.out hc HV.out.small.big).mono ?_
  rintro e wq ⟨rfl, hb⟩
  have HH := Aside0.mk (HH.out.next hb)
  have HB := Aside0.mk (below_then HB.out HB.out.size hb)
  have HD := Aside0.mk (Kd.C_below HD.out hb)
  have HX := Aside0.mk (HX.out.below hb)
  obtain ⟨q0, q1, q2⟩ := HX.out.cells
  clear hb
  (try go_wp2_with fail)
  refine hK.out _ _ (⟨q0, q1, q2⟩) (fun hHeld => ?_)
  clear hK K
  (try simp only [Act.put, List.setIfInBounds_toArray, List.set_cons_zero, List.set_cons_succ])
  refine pure_ (i := 25) (N := some 30) (v := ?_) (a' := ?_) #[true, true, true, true, true, true, true, true, true, true, true, true, true, true, true, true, true, true, true, true, true, true, true, true, true, true, false, false, false, false, false, false, false, false, false] rfl rfl (by kernel_rfl) (fun _ _ _ h => h) (Or.inl ⟨by rfl, ?_⟩) ?_ ?_
  rotate_left
  · intro w'
    go_simp
    all_goals (with_reducible rfl)
  rotate_left
  · simp only [Act.put, List.setIfInBounds_toArray, List.set_cons_zero, List.set_cons_succ, i64_w, i32_w]
    rfl
  refine pure_ (i := 26) (N := some 31) (v := ?_) (a' := ?_) #[true, true, true, true, true, true, true, true, true, true, true, true, true, true, true, true, true, true, true, true, true, true, true, true, true, true, true, false, false, false, false, false, false, false, false] rfl rfl (by kernel_rfl) (fun _ _ _ h => h) (Or.inl ⟨by rfl, ?_⟩) ?_ ?_
  rotate_left
  · intro w'
    go_simp
    all_goals (with_reducible rfl)
  rotate_left
  · simp only [Act.put, List.setIfInBounds_toArray, List.set_cons_zero, List.set_cons_succ, i64_w, i32_w]
    rfl
  refine pure_ (i := 27) (N := some 32) (v := ?_) (a' := ?_) #[true, true, true, true, true, true, true, true, true, true, true, true, true, true, true, true, true, true, true, true, true, true, true, true, true, true, true, true, false, false, false, false, false, false, false] rfl rfl (by kernel_rfl) (fun _ _ _ h => h) (Or.inl ⟨by rfl, ?_⟩) ?_ ?_
  rotate_left
  · intro w'
    go_simp
    all_goals (with_reducible rfl)
  rotate_left
  · simp only [Act.put, List.setIfInBounds_toArray, List.set_cons_zero, List.set_cons_succ, i64_w, i32_w]
    rfl
  refine take_ (i := 30) (N := some 35) (v := ?_) (a' := ?_) #[true, true, true, true, true, true, true, true, true, true, true, true, true, true, true, true, true, true, true, true, true, true, true, true, true, true, true, true, false, false, true, false, false, false, false] rfl rfl (by kernel_rfl) (fun _ _ _ h => h) (Or.inl ⟨by rfl, ?_⟩) hHeld ?_ ?_
  rotate_left
  · intro w' hSw
    (try dsimp only at hSw)
    go_simp
    all_goals (with_reducible rfl)
  rotate_left
  · simp only [Act.put, List.setIfInBounds_toArray, List.set_cons_zero, List.set_cons_succ, i64_w, i32_w]
    rfl
  refine one_ (i := 28) (N := some 33) #[true, true, true, true, true, true, true, true, true, true, true, true, true, true, true, true, true, true, true, true, true, true, true, true, true, true, true, true, true, false, true, false, false, false, false] rfl rfl (by kernel_rfl) (by decide) (fun K hK => ?_)
  go_simp
  go_at_call 15
  refine HH.out.bytes.mono ?_
  rintro e wz ⟨rfl, hbuf, hh, hb⟩
  have HH := Aside0.mk hh
  have HU := Aside0.mk hbuf
  have hcv := pg_string hbuf HV.out
  have HB := Aside0.mk (below_then HB.out HB.out.size hb)
  have HD := Aside0.mk (Kd.C_below HD.out hb)
  have HX := Aside0.mk (HX.out.below hb)
  obtain ⟨q0, q1, q2⟩ := HX.out.cells
  clear hh hb hbuf
  (try go_wp2_with fail)
  refine hK.out _ _ (⟨q0, q1, q2⟩) (fun hHeld => ?_)
  clear hK K
  (try simp only [Act.put, List.setIfInBounds_toArray, List.set_cons_zero, List.set_cons_succ])
  refine more_ (S' := fun wx => (convert 38 9 (.slice (some ⟨_, 0, none⟩) 512 512)).run Try.prog wx = .ok (.string (mkS (pgB id lsn cs))) wx ∧ (wx.cell? ⟨w.heap.size, 0, none⟩ = some (.int .i64 id) ∧ wx.cell? ⟨w.heap.size, 1, none⟩ = some (.int .u64 lsn) ∧ wx.cell? ⟨w.heap.size, 2, none⟩ = some (.slice A cs.length c))) (fun _ h => h.2) _ _ _ _ (⟨hcv, q0, q1, q2⟩) ?_
  have hHeld : (fun wx => (convert 38 9 (.slice (some ⟨_, 0, none⟩) 512 512)).run Try.prog wx = .ok (.string (mkS (pgB id lsn cs))) wx ∧ (wx.cell? ⟨w.heap.size, 0, none⟩ = some (.int .i64 id) ∧ wx.cell? ⟨w.heap.size, 1, none⟩ = some (.int .u64 lsn) ∧ wx.cell? ⟨w.heap.size, 2, none⟩ = some (.slice A cs.length c))) _ := ⟨hcv, q0, q1, q2⟩
  refine take_ (i := 29) (N := some 34) (v := ?_) (a' := ?_) #[true, true, true, true, true, true, true, true, true, true, true, true, true, true, true, true, true, true, true, true, true, true, true, true, true, true, true, true, true, true, true, false, false, false, false] rfl rfl (by kernel_rfl) (fun _ _ _ h => h) (Or.inl ⟨by rfl, ?_⟩) hHeld ?_ ?_
  rotate_left
  · intro w' hSw
    (try dsimp only at hSw)
    go_simp
    all_goals (with_reducible rfl)
  rotate_left
  · simp only [Act.put, List.setIfInBounds_toArray, List.set_cons_zero, List.set_cons_succ, i64_w, i32_w]
    rfl
  refine one_ (i := 31) (N := some 36) #[true, true, true, true, true, true, true, true, true, true, true, true, true, true, true, true, true, true, true, true, true, true, true, true, true, true, true, true, true, true, true, true, false, false, false] rfl rfl (by kernel_rfl) (by decide) (fun K hK => ?_)
  go_simp
  go_at_call 35
  refine (rbytes_calls _ id lsn A c cs HD.out HV.out.small HV.out.room4 (by have := HI.out; omega) HL.out).mono ?_
  rintro e wq ⟨rfl, hb⟩
  have HH := Aside0.mk (HH.out.next hb)
  have HB := Aside0.mk (below_then HB.out HB.out.size hb)
  have HD := Aside0.mk (Kd.C_below HD.out hb)
  have HX := Aside0.mk (HX.out.below hb)
  obtain ⟨q0, q1, q2⟩ := HX.out.cells
  have hcv := pg_string (HU.out.below hb) HV.out
  clear hb
  (try go_wp2_with fail)
  refine hK.out _ _ (⟨hcv, q0, q1, q2⟩) (fun hHeld => ?_)
  clear hK K
  (try simp only [Act.put, List.setIfInBounds_toArray, List.set_cons_zero, List.set_cons_succ])
  refine pure_ (i := 32) (N := some 37) (v := ?_) (a' := ?_) #[true, true, true, true, true, true, true, true, true, true, true, true, true, true, true, true, true, true, true, true, true, true, true, true, true, true, true, true, true, true, true, true, true, false, false] rfl rfl (by kernel_rfl) (fun _ _ _ h => h) (Or.inl ⟨by rfl, ?_⟩) ?_ ?_
  rotate_left
  · intro w'
    go_simp
    all_goals (with_reducible rfl)
  rotate_left
  · simp only [Act.put, List.setIfInBounds_toArray, List.set_cons_zero, List.set_cons_succ, i64_w, i32_w]
    rfl
  refine pure_ (i := 33) (N := some 38) (v := ?_) (a' := ?_) #[true, true, true, true, true, true, true, true, true, true, true, true, true, true, true, true, true, true, true, true, true, true, true, true, true, true, true, true, true, true, true, true, true, true, false] rfl rfl (by kernel_rfl) (fun _ _ _ h => h) (Or.inl ⟨by rfl, ?_⟩) ?_ ?_
  rotate_left
  · intro w'
    go_simp
    all_goals (with_reducible rfl)
  rotate_left
  · simp only [Act.put, List.setIfInBounds_toArray, List.set_cons_zero, List.set_cons_succ, i64_w, i32_w]
    rfl
  refine pure_ (i := 34) (N := some 4) (v := ?_) (a' := ?_) #[true, true, true, true, true, true, true, true, true, true, true, true, true, true, true, true, true, true, true, true, true, true, true, true, true, true, true, true, true, true, true, true, true, true, true] rfl rfl (by kernel_rfl) (fun _ _ _ h => h) (Or.inl ⟨by rfl, ?_⟩) ?_ ?_
  rotate_left
  · intro w'
    go_simp
    all_goals (with_reducible rfl)
  rotate_left
  · simp only [Act.put, List.setIfInBounds_toArray, List.set_cons_zero, List.set_cons_succ, i64_w, i32_w]
    rfl
  refine done_ (by kernel_rfl) ?_
  go_wp2_with fail
  go_ret
  exact ⟨rfl, HH.out, HB.out⟩
end Go.Proofs.Ytidkdbohkbfhbaa
end
section
namespace Go.Proofs.Ytidkdbohkbfhbaa
open Go.RowKit Go.Proofs.YtidkdbohkbfhbaaW.PrintWords Go.Proofs.YtidkdbohkbfhbaaW.PrintLast Go.Proofs.YtidkdbohkbfhbaaW.PrintMore
open Rf
set_option linter.unusedVariables false
set_option linter.unusedSimpArgs false

/-- The number that bytes are, the lowest first. -/
def val : List UInt8 → Nat
  | [] => 0
  | x :: r => x.toNat + 256 * val r
def rdN (b : List UInt8) (o m : Nat) : Nat := val ((b.drop o).take m)
theorem le_cons (x m : Nat) : le x (m + 1) = UInt8.ofNat x :: le (x / 256) m := by
  unfold le
  rw [List.range_succ_eq_map, List.map_cons, List.map_map]
  congr 1
  · simp
  · apply List.map_congr_left
    intro i _
    show UInt8.ofNat (x / 2 ^ (8 * (i + 1))) = UInt8.ofNat (x / 256 / 2 ^ (8 * i))
    rw [Nat.div_div_eq_div_mul, show 2 ^ (8 * (i + 1)) = 256 * 2 ^ (8 * i) from by rw [Nat.mul_add, Nat.pow_add]; omega]
theorem val_le (m x : Nat) (h : x < 256 ^ m) : val (le x m) = x := by
  induction m generalizing x with
  | zero => simp [le, val]; simp at h; omega
  | succ m ih =>
    rw [le_cons, val, ih (x / 256) (by rw [Nat.div_lt_iff_lt_mul (by omega)]; rwa [Nat.pow_succ] at h)]
    have : (UInt8.ofNat x).toNat = x % 256 := rfl
    omega
theorem val_lt (l : List UInt8) : val l < 256 ^ l.length := by
  induction l with
  | nil => simp [val]
  | cons x r ih =>
    rw [val, List.length_cons, Nat.pow_succ]
    have := x.toNat_lt
    omega
theorem val_append (a b : List UInt8) : val (a ++ b) = val a + 256 ^ a.length * val b := by
  induction a with
  | nil => simp [val]
  | cons x r ih =>
    rw [List.cons_append, val, ih, val, List.length_cons, Nat.pow_succ, Nat.mul_comm (256 ^ r.length) 256, Nat.mul_add, Nat.mul_assoc, Nat.add_assoc]
theorem le_val' (l : List UInt8) : le (val l) l.length = l := by
  induction l with
  | nil => rfl
  | cons x r ih =>
    rw [List.length_cons, le_cons, val]
    have hx := x.toNat_lt
    rw [show (x.toNat + 256 * val r) / 256 = val r from by omega, ih]
    congr 1
    apply UInt8.toNat_inj.1
    show (x.toNat + 256 * val r) % 256 = x.toNat
    omega
/-- What stands at a place of a row of parts. -/
theorem rdN_at (a c r : List UInt8) (o m : Nat) (ho : a.length = o) (hm : c.length = m) : rdN (a ++ (c ++ r)) o m = val c := by
  unfold rdN
  rw [List.drop_left' ho, List.take_left' hm]
theorem slotsB_split (a : List SGCell) (c : SGCell) (r : List SGCell) (e : Nat) : slotsB (a ++ c :: r) e = slotsB a e ++ (slotB c (e - tot a - csz c) ++ slotsB r (e - tot a - csz c)) := by
  induction a generalizing e with
  | nil => simp [slotsB, tot_nil]
  | cons d s ih =>
    simp only [List.cons_append, slotsB, ih, tot_cons, List.append_assoc]
    rw [show e - csz d - tot s = e - (csz d + tot s) from by omega]
theorem cellsB_split (a : List SGCell) (c : SGCell) (r : List SGCell) : cellsB (a ++ c :: r) = cellsB r ++ (cellB c ++ cellsB a) := by
  induction a with
  | nil => simp [cellsB]
  | cons d s ih => simp only [List.cons_append, cellsB, ih, List.append_assoc]
/-- The parts of a page's bytes about one cell. -/
theorem pgB_slot (id lsn : Nat) (a : List SGCell) (c : SGCell) (r : List SGCell) : pgB id lsn (a ++ c :: r) =
    (le (Crc.sum (bodyB id lsn (a ++ c :: r))) 4 ++ hdB id lsn (a ++ c :: r).length ++ slotsB a 512) ++ (slotB c (512 - tot a - csz c) ++
      (slotsB r (512 - tot a - csz c) ++ List.replicate (496 - 4 * (a ++ c :: r).length - tot (a ++ c :: r)) 0 ++ cellsB (a ++ c :: r))) := by
  unfold pgB
  conv => lhs; rhs; unfold bodyB layB; rw [slotsB_split]
  simp only [List.append_assoc]
theorem pgB_cell (id lsn : Nat) (a : List SGCell) (c : SGCell) (r : List SGCell) : pgB id lsn (a ++ c :: r) =
    (le (Crc.sum (bodyB id lsn (a ++ c :: r))) 4 ++ hdB id lsn (a ++ c :: r).length ++ slotsB (a ++ c :: r) 512 ++ List.replicate (496 - 4 * (a ++ c :: r).length - tot (a ++ c :: r)) 0 ++ cellsB r) ++ (cellB c ++ cellsB a) := by
  unfold pgB
  conv => lhs; rhs; unfold bodyB layB; rw [cellsB_split]
  simp only [List.append_assoc]
theorem pgB_lsn (id lsn : Nat) (cs : List SGCell) (h : lsn < 18446744073709551616) : rdN (pgB id lsn cs) 4 8 = lsn := by
  have e : pgB id lsn cs = le (Crc.sum (bodyB id lsn cs)) 4 ++ (le lsn 8 ++ (le id 2 ++ le cs.length 2 ++ layB cs)) := by
    unfold pgB bodyB hdB; simp only [List.append_assoc]
  rw [e, rdN_at _ _ _ 4 8 (le_length _ _) (le_length _ _), val_le 8 lsn (by simpa using h)]
theorem pgB_id (id lsn : Nat) (cs : List SGCell) (h : id < 65536) : rdN (pgB id lsn cs) 12 2 = id := by
  have e : pgB id lsn cs = (le (Crc.sum (bodyB id lsn cs)) 4 ++ le lsn 8) ++ (le id 2 ++ (le cs.length 2 ++ layB cs)) := by
    unfold pgB bodyB hdB; simp only [List.append_assoc]
  rw [e, rdN_at _ _ _ 12 2 (by rw [List.length_append, le_length, le_length]) (le_length _ _), val_le 2 id (by simpa using h)]
theorem pgB_n (id lsn : Nat) (cs : List SGCell) (h : cs.length < 65536) : rdN (pgB id lsn cs) 14 2 = cs.length := by
  have e : pgB id lsn cs = (le (Crc.sum (bodyB id lsn cs)) 4 ++ le lsn 8 ++ le id 2) ++ (le cs.length 2 ++ layB cs) := by
    unfold pgB bodyB hdB; simp only [List.append_assoc]
  rw [e, rdN_at _ _ _ 14 2 (by rw [List.length_append, List.length_append, le_length, le_length, le_length]) (le_length _ _), val_le 2 _ (by simpa using h)]
/-- A cell read out of bytes: where it begins, how long it is. -/
def cellAt (b : List UInt8) (o long : Nat) : SGCell :=
  if long = 0 then zGCell else
    let k := 1 + (b.getD o 0).toNat
    ⟨true, ⟨((b.drop (o + 1)).take (k - 1)).toArray⟩, ⟨((b.drop (o + k)).take (long - k)).toArray⟩⟩
def slotAt (b : List UInt8) (i : Nat) : SGCell := cellAt b (rdN b (16 + 4 * i) 2) (rdN b (16 + 4 * i + 2) 2)
/-- May a cell be read there? -/
def cellOk (b : List UInt8) (o long : Nat) : Prop := long = 0 ∨ (o + long ≤ b.length ∧ 1 + (b.getD o 0).toNat ≤ long)
theorem slot_used (id lsn : Nat) (a : List SGCell) (c : SGCell) (r : List SGCell) (hc : c.f0 = true) (hs : csz c < 65536) :
    rdN (pgB id lsn (a ++ c :: r)) (16 + 4 * a.length) 2 = 512 - tot a - csz c ∧ rdN (pgB id lsn (a ++ c :: r)) (16 + 4 * a.length + 2) 2 = csz c := by
  have hsl : slotB c (512 - tot a - csz c) = le (512 - tot a - csz c) 2 ++ le (csz c) 2 := by unfold slotB; rw [if_pos hc]
  have hA : (le (Crc.sum (bodyB id lsn (a ++ c :: r))) 4 ++ hdB id lsn (a ++ c :: r).length ++ slotsB a 512).length = 16 + 4 * a.length := by
    simp only [List.length_append, le_length, hdB_length, slotsB_length]
  rw [pgB_slot, hsl]
  constructor
  · rw [List.append_assoc (le (512 - tot a - csz c) 2), rdN_at _ _ _ _ 2 hA (le_length _ _), val_le 2 _ (by omega)]
  · rw [List.append_assoc (le (512 - tot a - csz c) 2), ← List.append_assoc _ (le (512 - tot a - csz c) 2), rdN_at _ _ _ _ 2 (by rw [List.length_append, hA, le_length]) (le_length _ _), val_le 2 _ (by omega)]
theorem slot_free (id lsn : Nat) (a : List SGCell) (c : SGCell) (r : List SGCell) (hc : c.f0 = false) :
    rdN (pgB id lsn (a ++ c :: r)) (16 + 4 * a.length) 2 = 0 ∧ rdN (pgB id lsn (a ++ c :: r)) (16 + 4 * a.length + 2) 2 = 0 := by
  have hsl : slotB c (512 - tot a - csz c) = [0, 0] ++ [0, 0] := by unfold slotB; rw [if_neg (by rw [hc]; simp)]; rfl
  have hA : (le (Crc.sum (bodyB id lsn (a ++ c :: r))) 4 ++ hdB id lsn (a ++ c :: r).length ++ slotsB a 512).length = 16 + 4 * a.length := by
    simp only [List.length_append, le_length, hdB_length, slotsB_length]
  rw [pgB_slot, hsl]
  constructor
  · rw [List.append_assoc [0, 0], rdN_at _ _ _ _ 2 hA rfl]; rfl
  · rw [List.append_assoc [0, 0], ← List.append_assoc _ [0, 0], rdN_at _ _ _ _ 2 (by rw [List.length_append, hA]; rfl) rfl]; rfl
theorem cell_back (A R : List UInt8) (c : SGCell) (hc : c.f0 = true) (hk : c.f1.size < 256) : cellAt (A ++ (cellB c ++ R)) A.length (csz c) = c ∧ cellOk (A ++ (cellB c ++ R)) A.length (csz c) := by
  have hcz : csz c = 1 + c.f1.size + c.f2.size := by unfold csz; rw [if_pos hc]
  have hcb : cellB c = UInt8.ofNat c.f1.size :: (c.f1.data.toList ++ c.f2.data.toList) := by unfold cellB; rw [if_pos hc]
  have hl1 : c.f1.data.toList.length = c.f1.size := data_length _
  have hl2 : c.f2.data.toList.length = c.f2.size := data_length _
  have hg : ((A ++ (cellB c ++ R)).getD A.length 0).toNat = c.f1.size := by
    rw [hcb, List.getD_eq_getElem?_getD, List.getElem?_append_right (Nat.le_refl _), Nat.sub_self, List.cons_append, List.getElem?_cons_zero]
    show c.f1.size % 256 = c.f1.size
    omega
  constructor
  · unfold cellAt
    rw [if_neg (by omega), hg, hcb]
    dsimp only
    have e1 : A ++ (UInt8.ofNat c.f1.size :: (c.f1.data.toList ++ c.f2.data.toList) ++ R) = (A ++ [UInt8.ofNat c.f1.size]) ++ (c.f1.data.toList ++ (c.f2.data.toList ++ R)) := by simp
    have e2 : A ++ (UInt8.ofNat c.f1.size :: (c.f1.data.toList ++ c.f2.data.toList) ++ R) = (A ++ [UInt8.ofNat c.f1.size] ++ c.f1.data.toList) ++ (c.f2.data.toList ++ R) := by simp
    have h1 : ((A ++ (UInt8.ofNat c.f1.size :: (c.f1.data.toList ++ c.f2.data.toList) ++ R)).drop (A.length + 1)).take (1 + c.f1.size - 1) = c.f1.data.toList := by
      rw [e1, List.drop_left' (by simp), List.take_left' (by omega)]
    have h2 : ((A ++ (UInt8.ofNat c.f1.size :: (c.f1.data.toList ++ c.f2.data.toList) ++ R)).drop (A.length + (1 + c.f1.size))).take (csz c - (1 + c.f1.size)) = c.f2.data.toList := by
      rw [e2, List.drop_left' (by simp [hl1]; omega), List.take_left' (by omega)]
    rw [h1, h2]
    obtain ⟨u, k, v⟩ := c
    dsimp only at hc
    subst hc
    rfl
  · right
    rw [hg, List.length_append, List.length_append, cellB_length]
    omega
/-- A page's slots and cells, read back. -/
theorem slotAt_pgB (id lsn : Nat) {cs : List SGCell} (hv : Valid cs) (i : Nat) (hi : i < cs.length) :
    slotAt (pgB id lsn cs) i = cs[i] ∧ cellOk (pgB id lsn cs) (rdN (pgB id lsn cs) (16 + 4 * i) 2) (rdN (pgB id lsn cs) (16 + 4 * i + 2) 2) := by
  have hr4 := hv.room4
  have hmem : cs[i] ∈ cs := List.getElem_mem hi
  have hmay := hv.may _ hmem
  have hzero := hv.zero _ hmem
  have hcs : cs = cs.take i ++ cs[i] :: cs.drop (i + 1) := by rw [← List.drop_eq_getElem_cons hi, List.take_append_drop]
  have hil : (cs.take i).length = i := by rw [List.length_take]; omega
  generalize cs[i] = c at *
  generalize ha : cs.take i = a at *
  generalize cs.drop (i + 1) = r at *
  subst hil
  unfold slotAt
  cases hc : c.f0 with
  | false =>
    obtain ⟨s1, s2⟩ := slot_free id lsn a c r hc
    rw [← hcs] at s1 s2
    rw [s1, s2]
    exact ⟨by rw [hzero hc]; rfl, .inl rfl⟩
  | true =>
    have hm := (mayB_iff _ _).1 (hmay hc)
    have hcz : csz c = 1 + c.f1.size + c.f2.size := by unfold csz; rw [if_pos hc]
    obtain ⟨s1, s2⟩ := slot_used id lsn a c r hc (by omega)
    have htot : tot cs = tot a + (csz c + tot r) := by rw [hcs, tot_append, tot_cons]
    have hlen : (le (Crc.sum (bodyB id lsn (a ++ c :: r))) 4 ++ hdB id lsn (a ++ c :: r).length ++ slotsB (a ++ c :: r) 512 ++ List.replicate (496 - 4 * (a ++ c :: r).length - tot (a ++ c :: r)) 0 ++ cellsB r).length = 512 - tot a - csz c := by
      rw [← hcs]
      simp only [List.length_append, le_length, hdB_length, slotsB_length, List.length_replicate, cellsB_length]
      omega
    have hb := cell_back (R := cellsB a) (c := c) (hc := hc) (hk := by omega) (A := le (Crc.sum (bodyB id lsn (a ++ c :: r))) 4 ++ hdB id lsn (a ++ c :: r).length ++ slotsB (a ++ c :: r) 512 ++ List.replicate (496 - 4 * (a ++ c :: r).length - tot (a ++ c :: r)) 0 ++ cellsB r)
    rw [← pgB_cell, hlen] at hb
    rw [← hcs] at s1 s2 hb
    rw [s1, s2]
    exact hb
/-- The first n slots' cells. -/
def dec (b : List UInt8) (n : Nat) : List SGCell := (List.range n).map (slotAt b)
theorem dec_length (b : List UInt8) (n : Nat) : (dec b n).length = n := by simp [dec]
theorem dec_succ (b : List UInt8) (n : Nat) : dec b (n + 1) = dec b n ++ [slotAt b n] := by simp [dec, List.range_succ]
theorem dec_pgB (id lsn : Nat) {cs : List SGCell} (hv : Valid cs) : dec (pgB id lsn cs) cs.length = cs := by
  apply List.ext_getElem (by rw [dec_length])
  intro i h1 h2
  simp only [dec, List.getElem_map, List.getElem_range]
  exact (slotAt_pgB id lsn hv i h2).1
/-- A page's bytes tell what it has. -/
theorem pgB_inj {id lsn id' lsn' : Nat} {cs cs' : List SGCell} (hv : Valid cs) (hv' : Valid cs') (hi : id < 65536) (hi' : id' < 65536) (hl : lsn < 18446744073709551616) (hl' : lsn' < 18446744073709551616) (h : pgB id lsn cs = pgB id' lsn' cs') : id = id' ∧ lsn = lsn' ∧ cs = cs' := by
  have h1 := pgB_id id lsn cs hi
  have h2 := pgB_lsn id lsn cs hl
  have h3 := pgB_n id lsn cs (by have := hv.len; omega)
  rw [h, pgB_id id' lsn' cs' hi'] at h1
  rw [h, pgB_lsn id' lsn' cs' hl'] at h2
  rw [h, pgB_n id' lsn' cs' (by have := hv'.len; omega)] at h3
  refine ⟨h1.symm, h2.symm, ?_⟩
  have h4 := dec_pgB id lsn hv
  rw [h, ← h3, dec_pgB id' lsn' hv'] at h4
  exact h4.symm
theorem slotAt_free (b : List UInt8) (i : Nat) (h : (slotAt b i).f0 = false) : slotAt b i = zGCell := by
  unfold slotAt cellAt at h ⊢
  split
  · rfl
  · rename_i hn
    rw [if_neg hn] at h
    exact absurd h (by simp)
/-- Cells that were read are a page's, where the program's own test says so. -/
theorem dec_valid (b : List UInt8) (n : Nat) (hn : n ≤ 64) (hm : ∀ c ∈ dec b n, c.f0 = true → mayB c.f1 c.f2 = true) (ho : (dec b n).Pairwise fun a b => a.f0 = true → b.f0 = true → a.f1 ≠ b.f1)
    (hl : ∀ c, (dec b n).getLast? = some c → c.f0 = true) (hr : 0 ≤ free (dec b n)) : Valid (dec b n) := by
  refine ⟨by rw [dec_length]; exact hn, hm, fun c hc hf => ?_, ho, hl, hr⟩
  obtain ⟨i, _, rfl⟩ := List.mem_map.1 hc
  exact slotAt_free b i hf
theorem pgB_sum (id lsn : Nat) (cs : List SGCell) (h : 4 * cs.length + tot cs ≤ 496) : (pgB id lsn cs).drop 4 = bodyB id lsn cs ∧ (pgB id lsn cs).take 4 = le (Crc.sum ((pgB id lsn cs).drop 4)) 4 := by
  have e : (pgB id lsn cs).drop 4 = bodyB id lsn cs := by unfold pgB; rw [List.drop_left' (le_length _ _)]
  refine ⟨e, ?_⟩
  rw [e]
  unfold pgB
  rw [List.take_left' (le_length _ _)]
end Go.Proofs.Ytidkdbohkbfhbaa
end
section
namespace Go.Proofs.Ytidkdbohkbfhbaa
open Go.RowKit Go.Proofs.YtidkdbohkbfhbaaW.PrintWords Go.Proofs.YtidkdbohkbfhbaaW.PrintLast Go.Proofs.YtidkdbohkbfhbaaW.PrintMore
open Rf
set_option linter.unusedVariables false
set_option linter.unusedSimpArgs false
/-- The block's first cells are these bytes. -/
def RdAt (w : World) (g : Nat) (L : List UInt8) : Prop := ∃ (D : List Value) (m : Nat × Nat), w.heap[g]? = some (.cells (bv L ++ D).toArray 5 m)
theorem BufAt.rd {w : World} {g : Nat} {L : List UInt8} (h : BufAt w g L) : RdAt w g L := ⟨[], (0, 0), by rw [List.append_nil]; exact h⟩
theorem RdAt.lt {w : World} {g : Nat} {L : List UInt8} (h : RdAt w g L) : g < w.heap.size := by
  obtain ⟨D, m, h⟩ := h
  exact blk_lt h
theorem RdAt.cell {w : World} {g : Nat} {L : List UInt8} (h : RdAt w g L) (i : Nat) (hi : i < L.length) : w.cell? ⟨g, i, none⟩ = some (.int .u8 ((L[i].toNat : Nat) : Int)) := by
  obtain ⟨D, m, h⟩ := h
  rw [cell_of_row w g i _ _ m h]
  simp [bv, hi, List.getElem?_append]
theorem RdAt.drew {w : World} {g : Nat} {L : List UInt8} (h : RdAt w g L) : RdAt w.drew g L := h
theorem RdAt.there {w : World} {g : Nat} {L : List UInt8} (h : RdAt w g L) (i : Nat) (hi : i < L.length) : ∃ b, w.cell? ⟨g, i, none⟩ = some (.int .u8 b) := ⟨_, h.cell i hi⟩
theorem RdAt.reads {w : World} {g : Nat} {L : List UInt8} (h : RdAt w g L) (off : Nat) (ho : off ≤ L.length) (hl : L.length ≤ 1000000) : ReadsInt w .u8 (some ⟨g, off, none⟩) (L.length - off) (ints (L.drop off)) := by
  refine ⟨by rw [ints_length, List.length_drop], by omega, fun _ => ⟨_, rfl, fun j hj => ?_⟩⟩
  have ha : (⟨g, off, none⟩ : Addr).add j = ⟨g, off + j, none⟩ := by unfold Addr.add; split <;> simp_all
  rw [ha, h.cell (off + j) (by omega), ints_get _ j (by rw [List.length_drop]; omega), List.getElem_drop]
theorem RdAt.below {w w' : World} {g : Nat} {L : List UInt8} (h : RdAt w g L) (hb : Below w.heap.size w w') : RdAt w' g L := by
  have hlt := h.lt
  obtain ⟨D, m, h⟩ := h
  exact ⟨D, m, (hb.block g hlt).trans h⟩
theorem RdAt.far {w : World} {g : Nat} {L : List UInt8} {p : Addr} (h : RdAt w g L) (hne : g ≠ p.block) (v : Value) : RdAt (w.setCell p v) g L := by
  obtain ⟨D, m, h⟩ := h
  exact ⟨D, m, (Below.heap_setCell w p v g hne).trans h⟩
theorem RdAt.grown {w w' : World} {g : Nat} {L : List UInt8} {row : Option Nat} (h : RdAt w g L) (hg : w.grownBy w' row) (hne : some g ≠ row) : RdAt w' g L := by
  obtain ⟨D, m, h⟩ := h
  exact ⟨D, m, blk_grown h hg hne⟩
end Go.Proofs.Ytidkdbohkbfhbaa
end
section
namespace Go.Proofs.Ytidkdbohkbfhbaa
open Go.RowKit Go.Proofs.YtidkdbohkbfhbaaW.PrintWords Go.Proofs.YtidkdbohkbfhbaaW.PrintLast Go.Proofs.YtidkdbohkbfhbaaW.PrintMore
open Rf
set_option linter.unusedVariables false
set_option linter.unusedSimpArgs false
theorem val_snoc (l : List UInt8) (x : UInt8) : val (l ++ [x]) = val l + 256 ^ l.length * x.toNat := by
  rw [val_append]; simp [val]
/-- take's loop adds up the bytes. -/
theorem take_l0 (L : List UInt8) (m : Nat) (hm : m ≤ 8) (hmL : m ≤ L.length) : ∀ (k i : Nat), i ≤ m → m - i < k → page_take.l0 k (ints L) (val (L.take i)) m i = some (val (L.take m) : Int) := by
  intro k
  induction k with
  | zero => intro i _ h; omega
  | succ k ih =>
    intro i hi hk
    unfold page_take.l0
    by_cases hlt : i < m
    · have hil : i < L.length := by omega
      have hx := (L[i]'hil).toNat_lt
      have hv := val_lt (L.take i)
      rw [List.length_take, Nat.min_eq_left (by omega)] at hv
      have hp : (256 : Nat) ^ i ≤ 256 ^ 7 := Nat.pow_le_pow_right (by omega) (by omega)
      have e0 : (i : Int) < (m : Int) := by omega
      have e1 : (0 : Int) ≤ (i : Int) := by omega
      have e2 : (i : Int) < ((ints L).length : Int) := by rw [ints_length]; omega
      have e3 : wrap64 (8 * (i : Int)) = 8 * (i : Int) := w64 (by omega) (by omega)
      rw [if_pos e0, if_pos e1, if_pos e2, e3, if_pos (by omega)]
      have e4 : rd (ints L) (i : Int) = (((L[i]'hil).toNat : Nat) : Int) := by
        unfold rd
        rw [Int.toNat_natCast]
        exact ints_get L i hil
      have hlen : (L.take i).length = i := by rw [List.length_take, Nat.min_eq_left (by omega)]
      have hnext : val (L.take (i + 1)) = val (L.take i) + 256 ^ i * (L[i]'hil).toNat := by
        rw [List.take_succ_eq_append_getElem hil, val_snoc, hlen]
      have hb : 256 ^ i * (L[i]'hil).toNat ≤ 256 ^ i * 255 := Nat.mul_le_mul_left _ (by omega)
      have hb2 : val (L.take (i + 1)) < 18446744073709551616 := by
        have h1 : 256 ^ i * 256 ≤ 256 ^ 7 * 256 := Nat.mul_le_mul_right _ hp
        have h2 : (256 : Nat) ^ 7 * 256 = 18446744073709551616 := by decide
        omega
      have e5 : shl .u64 (IntKind.u64.wrap (rd (ints L) (i : Int))) (8 * (i : Int)) = ((256 ^ i * (L[i]'hil).toNat : Nat) : Int) := by
        rw [e4, u64w (by omega) (by omega)]
        unfold shl
        rw [show min (8 * (i : Int)).toNat IntKind.u64.bits = 8 * i from by show min _ 64 = _; omega]
        have hq : (((L[i]'hil).toNat : Nat) : Int) * 2 ^ (8 * i) = ((256 ^ i * (L[i]'hil).toNat : Nat) : Int) := by
          rw [Int.natCast_mul, Int.natCast_pow, Int.mul_comm, Int.pow_mul]
          rfl
        rw [hq, u64w (by omega) (by omega)]
      rw [e5, show ((val (L.take i) : Nat) : Int) + ((256 ^ i * (L[i]'hil).toNat : Nat) : Int) = ((val (L.take (i + 1)) : Nat) : Int) from by rw [hnext, Int.natCast_add], u64w (by omega) (by omega),
        show wrap64 ((i : Int) + 1) = ((i + 1 : Nat) : Int) from by rw [w64 (by omega) (by omega)]; omega]
      exact ih (i + 1) (by omega) (by omega)
    · have : i = m := by omega
      subst this
      rw [if_neg (by omega)]
set_option maxRecDepth 100000 in
set_option maxHeartbeats 2000000 in
theorem take_calls (w : World) (g o m n c : Nat) (L : List UInt8) (hb : RdAt w g L) (ho : o + n = L.length) (hm : m ≤ n) (hm8 : m ≤ 8) (hl : L.length ≤ 1000000) (hc : n ≤ c) :
    Calls Try.prog 42 #[.slice (some ⟨g, o, none⟩) n c, .int .i64 m] w fun e w' => e = .returned (.int .u64 ((rdN L o m : Nat) : Int)) ∧ Below w.heap.size w w' := by
  have hr := hb.reads o (by omega) hl
  have hn : (ints (L.drop o)).length = n := by rw [ints_length, List.length_drop]; omega
  have ht := take_l0 (L.drop o) m hm8 (by rw [List.length_drop]; omega) (m + 1) 0 (by omega) (by omega)
  have hC : Kd.C (Kd.int .u8) w (some ⟨g, o, none⟩) (ints (L.drop o)).length (ints (L.drop o)) := by
    obtain ⟨h1, h2, h3⟩ := hr
    refine ⟨rfl, by omega, fun hpos => ⟨_, rfl, fun j v hj => ⟨[.int .u8 v], rfl, rfl, fun s u hs => ?_⟩⟩⟩
    have hjl : j < (ints (L.drop o)).length := (List.getElem?_eq_some_iff.1 hj).1
    obtain ⟨ad, ea, hcell⟩ := h3 (by omega)
    cases ea
    cases s with
    | zero =>
      have hu : u = .int .u8 v := by simpa using hs.symm
      have := hcell j (by omega)
      rw [List.getD_eq_getElem?_getD, hj] at this
      rw [hu, show j * (Kd.int .u8).sz + 0 = j from by show j * 1 + 0 = j; omega]
      exact this
    | succ s => simp at hs
  have := page_take.calls (m + 1) (some ⟨g, o, none⟩) c (ints (L.drop o)) m _ w hC (by omega) ht
  rw [hn] at this
  exact this.mono (by rintro e w' ⟨rfl, hd⟩; exact ⟨rfl, hd.below⟩)
set_option maxRecDepth 100000 in
set_option maxHeartbeats 2000000 in
theorem noughts_calls (w : World) (g c : Nat) (L : List UInt8) (hb : RdAt w g L) (hl : L.length ≤ 100000) :
    Calls Try.prog 41 #[.slice (some ⟨g, 0, none⟩) L.length c] w fun e w' => e = .returned (.bool (L.all (· == 0))) ∧ Below w.heap.size w w' := by
  go_enter Try.func41, Try.ntmps41
  go_wp2_with fail
  go_step3
  go_wp2_with fail
  go_step3
  go_wp2_with fail
  go_loopg [3, 5, 8] L.length (fun gk v3 v5 v8 wr => ∃ k : Nat, Aside0 (k + gk = L.length) ∧ v3 = .bool true ∧ v8 = .int .i64 k ∧ k ≤ L.length ∧ Aside0 ((L.take k).all (· == 0) = true) ∧ wr = w)
  case atStart => exact ⟨0, ⟨by omega⟩, rfl, rfl, by omega, ⟨by simp⟩, rfl⟩
  case round =>
    obtain ⟨k, Hk, rfl, rfl, hkl, HA, rfl⟩ := hrel
    by_cases hlt : k < L.length
    · have hx := hb.cell k hlt
      have HT := Aside0.mk (List.take_succ_eq_append_getElem hlt)
      have HM := Aside0.mk (List.getElem_mem hlt)
      generalize L[k] = x at hx HT HM
      cases hz : (((x.toNat : Nat) : Int) != 0) with
      | true =>
        have HZ := Aside0.mk hz
        go_wp2_with fail
        all_goals
          (try simp only [Exit.noGoto_ret])
          go_ret
          refine ⟨?_, Below.refl _ _⟩
          have h := HZ.out
          have hne : ¬ x = 0 := fun e => by rw [e] at h; exact absurd h (by decide)
          have hf : L.all (· == 0) = false := by
            rw [List.all_eq_false]
            exact ⟨x, HM.out, by simpa using hne⟩
          rw [hf]
          rfl
      | false =>
        have HZ := Aside0.mk hz
        go_wp2_with fail
        go_roundg (gk - 1)
        case measure => have := Hk.out; omega
        case rel =>
          refine ⟨k + 1, ⟨by have := Hk.out; omega⟩, rfl, by simp, by omega, ⟨?_⟩, rfl⟩
          rw [HT.out, List.all_append, HA.out]
          have h := HZ.out
          have h0 : x = 0 := by
            apply UInt8.toNat_inj.1
            have : ((x.toNat : Nat) : Int) = 0 := by simpa using h
            show x.toNat = 0
            omega
          rw [h0]; rfl
    · have hke : k = L.length := by omega
      subst hke
      go_wp2_with fail
      (try simp only [Exit.noGoto_ret])
      go_ret
      refine ⟨?_, Below.refl _ _⟩
      have h := HA.out
      rw [List.take_of_length_le (Nat.le_refl _)] at h
      rw [h]
      rfl
end Go.Proofs.Ytidkdbohkbfhbaa
end
section
namespace Go.Proofs.Ytidkdbohkbfhbaa
open Go.RowKit Go.Proofs.YtidkdbohkbfhbaaW.PrintWords Go.Proofs.YtidkdbohkbfhbaaW.PrintLast Go.Proofs.YtidkdbohkbfhbaaW.PrintMore
open Rf Go.ChangeMaps
set_option linter.unusedVariables false
set_option linter.unusedSimpArgs false
theorem isKey_str (s : ByteArray) : MapKept.IsKey .string (.string s) := by simp [MapKept.IsKey]
/-- The map in block b tells of each key whether a used cell of cs has it. -/
structure SeenM (es : Array MapEntry) (cs : List SGCell) : Prop where
  keys : ∀ x ∈ es.toList, ∃ s v, x.key = .string s ∧ x.val = .bool v ∧ (v = true ↔ ∃ c ∈ cs, c.f0 = true ∧ c.f1 = s)
  all : ∀ c ∈ cs, c.f0 = true → ∃ x ∈ es.toList, x.key = .string c.f1
  uniq : es.toList.Pairwise fun x y => x.key ≠ y.key
theorem SeenM.nil : SeenM #[] [] := ⟨by simp, by simp, by simp⟩
section
variable {P : Program} {w : World} {b : Nat} {es : Array MapEntry} {clock : Nat} {t k e : TypeId} {cs : List SGCell}
theorem SeenM.isKey (h : SeenM es cs) : ∀ x ∈ es.toList, MapKept.IsKey .string x.key := fun x hx => by
  obtain ⟨s, v, h1, _⟩ := h.keys x hx
  rw [h1]; exact isKey_str s
theorem SeenM.look (h : SeenM es cs) (ht : P.underlying t = some (.map k e)) (hk : P.underlying k = some .string) (hb : w.heap[b]? = some (.map es clock)) (hz : (zeroValue e).run P w = .ok (.bool false) w) (s : ByteArray) :
    ∃ v, (Instr.lookup t (.map (some b)) (.string s) false).run P w = .ok (.bool v) w ∧ (v = true ↔ ∃ c ∈ cs, c.f0 = true ∧ c.f1 = s) := by
  rcases MapKept.findNow_spec (isKey_str s) es.toList 0 h.isKey with ⟨h1, h2⟩ | ⟨j, x, h1, h2, h3⟩
  · refine ⟨false, ?_, ⟨fun hf => absurd hf (by decide), fun ⟨c, hc, hu, he⟩ => ?_⟩⟩
    · simp [Instr.lookup, run_underlying ht, MapKept.run_getObj_map hb, MapKept.run_checkKey hk (isKey_str s), MapKept.run_findKey hk h1, Result.andThen, hz]
    · obtain ⟨x, hx, hxk⟩ := h.all c hc hu
      exact absurd (by rw [hxk, he]) (h2 x hx)
  · obtain ⟨s', v, e1, e2, e3⟩ := h.keys x (List.mem_iff_getElem?.2 ⟨j, h2⟩)
    rw [e1] at h3
    have hs : s' = s := by injection h3
    subst hs
    rw [e2] at h1
    refine ⟨v, ?_, e3⟩
    simp [Instr.lookup, run_underlying ht, MapKept.run_getObj_map hb, MapKept.run_checkKey hk (isKey_str _), MapKept.run_findKey hk h1, Result.andThen]
theorem SeenM.put (h : SeenM es cs) (ht : P.underlying t = some (.map k e)) (hk : P.underlying k = some .string) (hb : w.heap[b]? = some (.map es clock)) (c : SGCell) (hnew : ∀ d ∈ cs, d.f0 = true → d.f1 ≠ c.f1) :
    ∃ es' clock', (Instr.mapUpdate t (.map (some b)) (.string c.f1) (.bool c.f0)).run P w = .ok () (setBlock w b (.map es' clock')) ∧ SeenM es' (cs ++ [c]) := by
  have hother : ∀ s, s ≠ c.f1 → ((∃ d ∈ cs, d.f0 = true ∧ d.f1 = s) ↔ ∃ d ∈ cs ++ [c], d.f0 = true ∧ d.f1 = s) := fun s hs => by
    constructor
    · rintro ⟨d, hd, hu, he⟩
      exact ⟨d, List.mem_append_left _ hd, hu, he⟩
    · rintro ⟨d, hd, hu, he⟩
      rcases List.mem_append.1 hd with hd | hd
      · exact ⟨d, hd, hu, he⟩
      · rw [List.mem_singleton.1 hd] at he
        exact absurd he.symm hs
  have hself : c.f0 = true ↔ ∃ d ∈ cs ++ [c], d.f0 = true ∧ d.f1 = c.f1 := by
    constructor
    · intro hu
      exact ⟨c, by simp, hu, rfl⟩
    · rintro ⟨d, hd, hu, he⟩
      rcases List.mem_append.1 hd with hd | hd
      · exact absurd he (hnew d hd hu)
      · rw [List.mem_singleton.1 hd] at hu
        exact hu
  rcases MapKept.findNow_spec (isKey_str c.f1) es.toList 0 h.isKey with ⟨h1, h2⟩ | ⟨j, x, h1, h2, h3⟩
  · refine ⟨es.push ⟨.string c.f1, .bool c.f0, clock⟩, clock + 1, ?_, ?_, ?_, ?_⟩
    · simp [setBlock, Instr.mapUpdate, run_underlying ht, MapKept.run_getObj_map hb, MapKept.run_checkKey hk (isKey_str c.f1), MapKept.run_findKey hk h1, MapKept.run_setObj_map _ hb, Result.andThen]
    · intro y hy
      rw [Array.toList_push] at hy
      rcases List.mem_append.1 hy with hy | hy
      · obtain ⟨s, v, e1, e2, e3⟩ := h.keys y hy
        exact ⟨s, v, e1, e2, e3.trans (hother s (fun hs => h2 y hy (by rw [e1, hs])))⟩
      · rw [List.mem_singleton.1 hy]
        exact ⟨c.f1, c.f0, rfl, rfl, hself⟩
    · intro d hd hu
      rw [Array.toList_push]
      rcases List.mem_append.1 hd with hd | hd
      · obtain ⟨y, hy, hyk⟩ := h.all d hd hu
        exact ⟨y, List.mem_append_left _ hy, hyk⟩
      · rw [List.mem_singleton.1 hd]
        exact ⟨_, List.mem_append_right _ (List.mem_singleton.2 rfl), rfl⟩
    · rw [Array.toList_push, List.pairwise_append]
      exact ⟨h.uniq, by simp, fun y hy z hz => by rw [List.mem_singleton.1 hz]; exact h2 y hy⟩
  · have hj : es[j]? = some x := by simpa using h2
    obtain ⟨s', v, e1, e2, e3⟩ := h.keys x (List.mem_iff_getElem?.2 ⟨j, h2⟩)
    have hsets : ∀ (i : Nat) (y : MapEntry), es.toList[i]? = some y → i ≠ j → y.key ≠ .string c.f1 := fun i y hy hne he => by
      obtain ⟨hi, ei⟩ := List.getElem?_eq_some_iff.1 hy
      obtain ⟨hjl, ej⟩ := List.getElem?_eq_some_iff.1 h2
      have hu := List.pairwise_iff_getElem.1 h.uniq
      rcases Nat.lt_or_gt_of_ne hne with hlt | hlt
      · exact hu i j hi hjl hlt (by rw [ei, ej, he, h3])
      · exact hu j i hjl hi hlt (by rw [ei, ej, he, h3])
    refine ⟨es.modify j fun e' => { e' with key := .string c.f1, val := .bool c.f0 }, clock, ?_, ?_, ?_, ?_⟩
    · simp [setBlock, Instr.mapUpdate, run_underlying ht, MapKept.run_getObj_map hb, MapKept.run_checkKey hk (isKey_str c.f1), MapKept.run_findKey hk h1, hj, h3, MapKept.run_keyThatStays (isKey_str c.f1), MapKept.run_setObj_map _ hb, Result.andThen]
    · intro y hy
      obtain ⟨i, hi⟩ := List.mem_iff_getElem?.1 hy
      rw [Array.toList_modify, List.getElem?_modify] at hi
      by_cases hij : j = i
      · subst hij
        simp [h2] at hi
        subst hi
        exact ⟨c.f1, c.f0, rfl, rfl, hself⟩
      · have hi2 : es.toList[i]? = some y := by simp [hij] at hi; simpa using hi
        obtain ⟨s, v, q1, q2, q3⟩ := h.keys y (List.mem_iff_getElem?.2 ⟨i, hi2⟩)
        exact ⟨s, v, q1, q2, q3.trans (hother s (fun hs => hsets i y hi2 (fun q => hij q.symm) (by rw [q1, hs])))⟩
    · intro d hd hu
      have key : ∀ (i : Nat) (y : MapEntry), es.toList[i]? = some y → ∃ z ∈ (es.modify j fun e' => { e' with key := .string c.f1, val := .bool c.f0 }).toList, z.key = y.key := fun i y hy => by
        by_cases hij : j = i
        · subst hij
          rw [h2] at hy
          cases hy
          refine ⟨{ x with key := .string c.f1, val := .bool c.f0 }, List.mem_iff_getElem?.2 ⟨j, ?_⟩, by rw [h3]⟩
          rw [Array.toList_modify, List.getElem?_modify, h2]
          simp
        · refine ⟨y, List.mem_iff_getElem?.2 ⟨i, ?_⟩, rfl⟩
          rw [Array.toList_modify, List.getElem?_modify, hy]
          simp [hij]
      rcases List.mem_append.1 hd with hd | hd
      · obtain ⟨y, hy, hyk⟩ := h.all d hd hu
        obtain ⟨i, hi⟩ := List.mem_iff_getElem?.1 hy
        obtain ⟨z, hz, hzk⟩ := key i y hi
        exact ⟨z, hz, by rw [hzk, hyk]⟩
      · rw [List.mem_singleton.1 hd]
        obtain ⟨z, hz, hzk⟩ := key j x h2
        exact ⟨z, hz, by rw [hzk, h3]⟩
    · have hk' : (es.modify j fun e' => { e' with key := .string c.f1, val := .bool c.f0 }).toList.map (·.key) = es.toList.map (·.key) := by
        apply List.ext_getElem?
        intro i
        rw [Array.toList_modify, List.getElem?_map, List.getElem?_map, List.getElem?_modify]
        by_cases hij : j = i
        · subst hij
          simp [h2, h3]
        · simp [hij]
      have hu := List.pairwise_map.2 h.uniq
      rw [← hk'] at hu
      exact List.pairwise_map.1 hu
end
end Go.Proofs.Ytidkdbohkbfhbaa
end
section
namespace Go.Proofs.Ytidkdbohkbfhbaa
open Go.RowKit Go.Proofs.YtidkdbohkbfhbaaW.PrintWords Go.Proofs.YtidkdbohkbfhbaaW.PrintLast Go.Proofs.YtidkdbohkbfhbaaW.PrintMore
open Rf Go.ChangeMaps
set_option linter.unusedVariables false
set_option linter.unusedSimpArgs false
theorem below_block {w0 w : World} {base b : Nat} {es : Array MapEntry} {clock : Nat} (h : Below base w0 w) (hb : w.heap[b]? = some (.map es clock)) (hl : base ≤ b) (o : Obj) : Below base w0 (setBlock w b o) :=
  h.grown (row := some b) ⟨rfl, rfl, rfl, by simp [setBlock], fun k _ hk => heap_setBlock_other hb o (fun e => hk (by rw [e]))⟩ (Nat.le_trans hl (Nat.le_of_lt (Array.getElem?_eq_some_iff.1 hb).1)) (fun g hg => by injection hg with hg; omega)
theorem good_snoc {l : List SGCell} {c : SGCell} (h1 : ∀ d ∈ l, d.f0 = true → mayB d.f1 d.f2 = true) (h2 : l.Pairwise fun a b => a.f0 = true → b.f0 = true → a.f1 ≠ b.f1) (h3 : c.f0 = true → mayB c.f1 c.f2 = true) (h4 : ∀ d ∈ l, d.f0 = true → d.f1 ≠ c.f1) :
    (∀ d ∈ l ++ [c], d.f0 = true → mayB d.f1 d.f2 = true) ∧ (l ++ [c]).Pairwise fun a b => a.f0 = true → b.f0 = true → a.f1 ≠ b.f1 := by
  refine ⟨fun d hd hu => ?_, ?_⟩
  · rcases List.mem_append.1 hd with hd | hd
    · exact h1 d hd hu
    · rw [List.mem_singleton.1 hd] at hu ⊢
      exact h3 hu
  · rw [List.pairwise_append]
    exact ⟨h2, by simp, fun a ha b hb hu _ => by rw [List.mem_singleton.1 hb]; exact h4 a ha hu⟩
theorem blk_alloc' {w : World} {b : Nat} {x : Obj} (h : w.heap[b]? = some x) (o : Obj) : (w.alloc o).heap[b]? = some x := by
  have := (MapKept.heap_alloc w o).2 b (Array.getElem?_eq_some_iff.1 h).1
  rw [this]; exact h
set_option maxRecDepth 100000 in
set_option maxHeartbeats 2000000 in
theorem right_calls (w : World) (g : Nat) (id lsn : Int) (A : Option Addr) (c : Nat) (cs : List SGCell) (hp : PgAt w g id lsn (.slice A cs.length c)) (hC : Kd.C kGCell w A cs.length cs) (hs : Small cs) (hz : ∀ c ∈ cs, c.f0 = false → c = zGCell) :
    Calls Try.prog 43 #[.pointer (some ⟨g, 0, none⟩)] w fun e w' => ∃ r : Bool, e = .returned (.bool r) ∧ (r = true ↔ ((∀ c ∈ cs, c.f0 = true → mayB c.f1 c.f2 = true) ∧ (cs.Pairwise fun a b => a.f0 = true → b.f0 = true → a.f1 ≠ b.f1) ∧ (∀ c, cs.getLast? = some c → c.f0 = true) ∧ 0 ≤ free cs)) ∧ Below w.heap.size w w' := by
  have HP := Aside0.mk hp
  have HC := Aside0.mk hC
  have HS := Aside0.mk hs
  have HZ := Aside0.mk hz
  have hzb : (zeroValue 4).run Try.prog = fun w => .ok (.bool false) w := by rfl
  have p2 : ∀ o, (w.alloc o).cell? ⟨g, 2, none⟩ = some (.slice A cs.length c) := fun o => blk_cell (blk_alloc hp o) 2
  have hmk : (Instr.makeMap 95 none).run Try.prog w = .ok (.map (some w.heap.size)) (w.alloc (.map #[] 0)) := rfl
  clear hp hC hs hz
  go_enter Try.func43, Try.ntmps43
  go_wp2_with fail
  have hb0 : Below w.heap.size w (w.alloc (.map #[] 0)) := below_alloc (Below.refl _ _) _
  have hm0 : (w.alloc (.map #[] 0)).heap[w.heap.size]? = some (.map #[] 0) := heap_alloc_new w _
  obtain ⟨MB, hMB⟩ : ∃ x, x = w.heap.size := ⟨_, rfl⟩
  generalize w.alloc (.map #[] 0) = w1 at hb0 hm0 ⊢
  rw [← hMB] at hm0 ⊢
  have HMB := Aside0.mk hMB
  have HB0 := Aside0.mk hb0
  have HM0 := Aside0.mk hm0
  clear p2 hmk hb0 hm0 hMB
  go_loopg [13] cs.length (fun gk v13 wr => ∃ (k : Nat) (es : Array MapEntry) (clock : Nat), Aside0 (k + gk = cs.length) ∧ v13 = .int .i64 k ∧ k ≤ cs.length ∧ Aside0 (wr.heap[MB]? = some (.map es clock)) ∧ Aside0 (SeenM es (cs.take k)) ∧ Aside0 (Below w.heap.size w wr) ∧
    Aside0 ((∀ c ∈ cs.take k, c.f0 = true → mayB c.f1 c.f2 = true) ∧ (cs.take k).Pairwise fun a b => a.f0 = true → b.f0 = true → a.f1 ≠ b.f1))
  case atStart => exact ⟨0, #[], 0, ⟨by omega⟩, rfl, by omega, HM0, ⟨by simpa using SeenM.nil⟩, HB0, ⟨by simp⟩⟩
  case round =>
    obtain ⟨k, es, clock, Hk, rfl, hkl, HM, HE, HB, HG⟩ := hrel
    clear HM0 HB0
    have hk100 : cs.length ≤ 100 := HS.out.1
    by_cases hlt : k < cs.length
    · obtain ⟨ad, rfl, _⟩ := cell_at (Kd.C_below HC.out HB.out) k hlt
      have hx0 : ∀ o, (wr.alloc o).cell? (ad.add (k * 3)) = some (.bool (rd_TGCell cs k).f0) := fun o => by
        obtain ⟨ad', ea, y0, y1, y2⟩ := cell_at (Kd.C_below HC.out (below_alloc HB.out o)) k hlt
        cases ea; exact y0
      have hx1 : ∀ o, (wr.alloc o).cell? ⟨(ad.add (k * 3)).block, (ad.add (k * 3)).off + 1, none⟩ = some (.string (rd_TGCell cs k).f1) := fun o => by
        obtain ⟨ad', ea, y0, y1, y2⟩ := cell_at (Kd.C_below HC.out (below_alloc HB.out o)) k hlt
        cases ea; exact y1
      have hx2 : ∀ o, (wr.alloc o).cell? ⟨(ad.add (k * 3)).block, (ad.add (k * 3)).off + 2, none⟩ = some (.string (rd_TGCell cs k).f2) := fun o => by
        obtain ⟨ad', ea, y0, y1, y2⟩ := cell_at (Kd.C_below HC.out (below_alloc HB.out o)) k hlt
        cases ea; exact y2
      have HT := Aside0.mk (List.take_succ_eq_append_getElem hlt)
      have HRD := Aside0.mk (rd_get cs k hlt)
      have HCM := Aside0.mk (rd_mem cs k hlt)
      cases hu : (rd_TGCell cs k).f0 with
      | false =>
        simp only [hu] at hx0
        have HNW := Aside0.mk (show ∀ d ∈ cs.take k, d.f0 = true → d.f1 ≠ (rd_TGCell cs k).f1 from fun d hd hdu he => by
          have h1 := (mayB_iff _ _).1 (HG.out.1 d hd hdu)
          rw [HZ.out _ HCM.out hu] at he
          rw [he] at h1
          exact absurd h1.1 (by decide))
        go_wp2_with fail
        obtain ⟨es2, cl2, hput, hseen⟩ := SeenM.put HE.out Try.underlying95 Try.underlying9 (blk_alloc' HM.out (.cells #[.bool false, .string (rd_TGCell cs k).f1, .string (rd_TGCell cs k).f2] 46)) (rd_TGCell cs k) HNW.out
        rw [hu] at hput
        rw [hput]
        have hm5 := heap_setBlock_same (blk_alloc' HM.out (.cells #[.bool false, .string (rd_TGCell cs k).f1, .string (rd_TGCell cs k).f2] 46)) (.map es2 cl2)
        have hb5 := below_block (below_alloc HB.out (.cells #[.bool false, .string (rd_TGCell cs k).f1, .string (rd_TGCell cs k).f2] 46)) (blk_alloc' HM.out (.cells #[.bool false, .string (rd_TGCell cs k).f1, .string (rd_TGCell cs k).f2] 46)) (Nat.le_of_eq HMB.out.symm) (.map es2 cl2)
        generalize setBlock _ MB (.map es2 cl2) = w5 at hm5 hb5 ⊢
        have HM5 := Aside0.mk hm5
        have HB5 := Aside0.mk hb5
        have HE5 := Aside0.mk hseen
        have HG5 := Aside0.mk (good_snoc HG.out.1 HG.out.2 (c := rd_TGCell cs k) (fun h => by rw [hu] at h; exact absurd h (by decide)) HNW.out)
        clear hput hseen hm5 hb5
        go_wp2_with fail
        go_roundg (gk - 1)
        case measure => have := Hk.out; omega
        case rel => exact ⟨k + 1, es2, cl2, ⟨by have := Hk.out; omega⟩, by go_num, by omega, HM5, ⟨by rw [HT.out, ← HRD.out]; exact HE5.out⟩, HB5, ⟨by rw [HT.out, ← HRD.out]; exact HG5.out⟩⟩
      | true =>
        simp only [hu] at hx0
        go_wp2_with fail
        have hbx := heap_alloc_new wr (.cells #[.bool true, .string (rd_TGCell cs k).f1, .string (rd_TGCell cs k).f2] 46)
        have hma := blk_alloc' HM.out (.cells #[.bool true, .string (rd_TGCell cs k).f1, .string (rd_TGCell cs k).f2] 46)
        have hba := below_alloc HB.out (.cells #[.bool true, .string (rd_TGCell cs k).f1, .string (rd_TGCell cs k).f2] 46)
        obtain ⟨CB, hCB⟩ : ∃ x, x = wr.heap.size := ⟨_, rfl⟩
        generalize wr.alloc (.cells #[.bool true, .string (rd_TGCell cs k).f1, .string (rd_TGCell cs k).f2] 46) = wa at hbx hma hba ⊢
        rw [← hCB] at hbx ⊢
        clear hCB hx0 hx1 hx2
        refine (may_calls _ _ wa).mono ?_
        rintro e w3 ⟨rfl, hd3⟩
        have hb3 := hd3.below
        have HX3 := Aside0.mk (blk_below hbx hb3)
        have HM3 := Aside0.mk ((hb3.block MB (Array.getElem?_eq_some_iff.1 hma).1).trans hma)
        have HB3 := Aside0.mk (below_then hba hba.size hb3)
        have x0 := blk_cell HX3.out 0
        have x1 := blk_cell HX3.out 1
        have x2 := blk_cell HX3.out 2
        clear hbx hma hba hd3 hb3
        cases hmay : mayB (rd_TGCell cs k).f1 (rd_TGCell cs k).f2 with
        | false =>
          have HY := Aside0.mk (And.intro hu hmay)
          clear hu hmay
          go_wp2_with fail
          go_ret
          refine ⟨false, rfl, ⟨fun h => absurd h (by decide), fun h => ?_⟩, HB3.out⟩
          have := h.1 _ HCM.out HY.out.1
          rw [HY.out.2] at this
          exact absurd this (by decide)
        | true =>
          go_wp2_with fail
          obtain ⟨v, hlk, hv⟩ := HE.out.look Try.underlying95 Try.underlying9 HM3.out (congrFun hzb w3) (rd_TGCell cs k).f1
          rw [hlk]
          clear hlk
          cases v with
          | true =>
            have HY := Aside0.mk (And.intro hu (hv.1 rfl))
            clear hu hv hmay
            go_wp2_with fail
            go_ret
            refine ⟨false, rfl, ⟨fun h => absurd h (by decide), fun h => ?_⟩, HB3.out⟩
            obtain ⟨hu, d, hd, hdu, hde⟩ := HY.out
            obtain ⟨i, hi, rfl⟩ := List.mem_iff_getElem.1 hd
            rw [List.length_take] at hi
            have hne := pw_get h.2.1 i k (by omega) hlt (by omega) (by rw [← List.getElem_take (h := by rw [List.length_take]; omega)]; exact hdu) (by rw [← HRD.out]; exact hu)
            rw [List.getElem_take, HRD.out] at hde
            exact absurd hde hne
          | false =>
            have HNW := Aside0.mk (show ∀ d ∈ cs.take k, d.f0 = true → d.f1 ≠ (rd_TGCell cs k).f1 from fun d hd hdu he => absurd (hv.2 ⟨d, hd, hdu, he⟩) (by decide))
            have HMY := Aside0.mk hmay
            clear hv hmay
            go_wp2_with fail
            obtain ⟨es2, cl2, hput, hseen⟩ := SeenM.put HE.out Try.underlying95 Try.underlying9 HM3.out (rd_TGCell cs k) HNW.out
            rw [hu] at hput
            rw [hput]
            have hm5 := heap_setBlock_same HM3.out (.map es2 cl2)
            have hb5 := below_block HB3.out HM3.out (Nat.le_of_eq HMB.out.symm) (.map es2 cl2)
            generalize setBlock _ MB (.map es2 cl2) = w5 at hm5 hb5 ⊢
            have HM5 := Aside0.mk hm5
            have HB5 := Aside0.mk hb5
            have HE5 := Aside0.mk hseen
            have HG5 := Aside0.mk (good_snoc HG.out.1 HG.out.2 (c := rd_TGCell cs k) (fun _ => HMY.out) HNW.out)
            clear hput hseen hm5 hb5
            go_wp2_with fail
            go_roundg (gk - 1)
            case measure => have := Hk.out; omega
            case rel => exact ⟨k + 1, es2, cl2, ⟨by have := Hk.out; omega⟩, by go_num, by omega, HM5, ⟨by rw [HT.out, ← HRD.out]; exact HE5.out⟩, HB5, ⟨by rw [HT.out, ← HRD.out]; exact HG5.out⟩⟩
    · have hke : k = cs.length := by omega
      have HKE := Aside0.mk hke
      have hpw := HP.out.below HB.out
      have p2 := blk_cell hpw 2
      have HPW := Aside0.mk hpw
      have HGG := Aside0.mk (show (∀ c ∈ cs, c.f0 = true → mayB c.f1 c.f2 = true) ∧ cs.Pairwise fun a b => a.f0 = true → b.f0 = true → a.f1 ≠ b.f1 from by have h := HG.out; rw [hke, List.take_of_length_le (Nat.le_refl _)] at h; exact h)
      clear hpw hke
      go_wp2_with fail
      refine (free_calls wr g id lsn A c cs HPW.out (Kd.C_below HC.out HB.out) HS.out).mono ?_
      rintro e w3 ⟨rfl, hb3⟩
      have HB3 := Aside0.mk (below_then HB.out HB.out.size hb3)
      have hp3 := HPW.out.below hb3
      have p2 := blk_cell hp3 2
      clear hp3 hb3
      by_cases hf : free cs < 0
      · have e1 : decide (0 ≤ free cs) = false := by simp; omega
        have HF := Aside0.mk hf
        clear hf
        go_wp2_with fail
        go_ret
        exact ⟨false, rfl, ⟨fun h => absurd h (by decide), fun h => absurd HF.out (Int.not_lt.2 h.2.2.2)⟩, HB3.out⟩
      · have e1 : decide (0 ≤ free cs) = true := by simp; omega
        have HF := Aside0.mk hf
        clear hf
        by_cases h0 : cs.length = 0
        · have e2 : ((cs.length : Int) == 0) = true := by simp [h0]
          have H0 := Aside0.mk h0
          clear h0
          go_wp2_with fail
          go_ret
          refine ⟨true, rfl, ⟨fun _ => ⟨HGG.out.1, HGG.out.2, fun c hc => ?_, (by have := HF.out; first | exact this | omega)⟩, fun _ => rfl⟩, HB3.out⟩
          rw [List.length_eq_zero_iff.1 H0.out] at hc
          simp at hc
        · have e2 : ((cs.length : Int) == 0) = false := by rw [beq_eq_false_iff_ne]; omega
          have hlt : cs.length - 1 < cs.length := by omega
          obtain ⟨ad, rfl, y0, _, _⟩ := cell_at (Kd.C_below HC.out HB3.out) (cs.length - 1) hlt
          have hwr : IntKind.i64.wrap ((cs.length : Int) - 1) = ((cs.length - 1 : Nat) : Int) := by rw [i64w (by omega) (by omega)]; omega
          have HLAST := Aside0.mk (show ∀ c, cs.getLast? = some c → c = rd_TGCell cs ((cs.length - 1 : Nat) : Int) from fun c hc => by
            rw [List.getLast?_eq_getElem?, List.getElem?_eq_getElem hlt] at hc
            rw [rd_get cs _ hlt]
            exact (Option.some.inj hc).symm)
          have HEX := Aside0.mk (show cs.getLast? = some (rd_TGCell cs ((cs.length - 1 : Nat) : Int)) from by rw [List.getLast?_eq_getElem?, List.getElem?_eq_getElem hlt, rd_get cs _ hlt])
          have hl1 : (cs.length - 1) < cs.length := hlt
          generalize (rd_TGCell cs ((cs.length - 1 : Nat) : Int)) = lc at y0 HLAST HEX
          have HN := Aside0.mk (show ((cs.length - 1 : Nat) : Int) < (cs.length : Int) from by omega)
          go_wp2_with fail
          go_ret
          exact ⟨lc.f0, rfl, ⟨fun hl => ⟨HGG.out.1, HGG.out.2, fun c hc => by rw [HLAST.out c hc]; exact hl, (by have := HF.out; first | exact this | omega)⟩, fun h => h.2.2.1 _ HEX.out⟩, HB3.out⟩
end Go.Proofs.Ytidkdbohkbfhbaa
end
