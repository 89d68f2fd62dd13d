/- Layer 12: the calls of made, lives. -/
import Derived.Test.YtgjjfldfdkoedaaGc
namespace Go.Proofs.Ytgjjfldfdkoedaa
open Go.RowKit Go.Proofs.YtgjjfldfdkoedaaW.PrintWords Go.Proofs.YtgjjfldfdkoedaaW.PrintLast Go.Proofs.YtgjjfldfdkoedaaW.PrintMore
open Rf MapL Graph
set_option linter.unusedVariables false
set_option linter.unusedSimpArgs false
def pr (e : SGEdge) : Int × Int := (e.f0, e.f1)
/-- The edges of a list, each once, in the order in which they came first. -/
def edgesOf (l : List SGEdge) : List (Int × Int) := l.foldl (fun ks e => addK ks (pr e)) []
theorem edgesOf_snoc (l : List SGEdge) (e : SGEdge) : edgesOf (l ++ [e]) = addK (edgesOf l) (pr e) := by simp [edgesOf]
theorem mem_addK {α : Type} [DecidableEq α] {ks : List α} {e x : α} : x ∈ addK ks e ↔ x ∈ ks ∨ x = e := by
  unfold addK
  split
  · rename_i h
    exact ⟨.inl, fun q => q.elim id (fun q => by rw [q]; exact h)⟩
  · simp
theorem addK_length {α : Type} [DecidableEq α] (ks : List α) (e : α) : (addK ks e).length ≤ ks.length + 1 := by
  unfold addK
  split <;> simp
theorem mem_edgesOf (l : List SGEdge) (x : Int × Int) : x ∈ edgesOf l ↔ x ∈ l.map pr := by
  have h : ∀ (l : List SGEdge) (ks : List (Int × Int)), x ∈ l.foldl (fun ks e => addK ks (pr e)) ks ↔ x ∈ ks ∨ x ∈ l.map pr := by
    intro l
    induction l with
    | nil => simp
    | cons e l ih => intro ks; rw [List.foldl_cons, ih, mem_addK]; simp [or_assoc]
  have := h l []
  simpa [edgesOf] using this
theorem edgesOf_length (l : List SGEdge) : (edgesOf l).length ≤ l.length := by
  have h : ∀ (l : List SGEdge) (ks : List (Int × Int)), (l.foldl (fun ks e => addK ks (pr e)) ks).length ≤ ks.length + l.length := by
    intro l
    induction l with
    | nil => simp
    | cons e l ih => intro ks; rw [List.foldl_cons]; have h1 := ih (addK ks (pr e)); have h2 := addK_length ks (pr e); simp only [List.length_cons]; omega
  have := h l []
  simpa [edgesOf] using this
theorem edge_at {w : World} {A : Option Addr} {n : Nat} {xs : List SGEdge} (h : Kd.C kGEdge w A n xs) (k : Nat) (h1 : k < n) : ∃ ad, A = some ad ∧ w.cell? (ad.add (k * 2)) = some (.int .i64 (rd_TGEdge xs k).f0) ∧ w.cell? ⟨(ad.add (k * 2)).block, (ad.add (k * 2)).off + 1, none⟩ = some (.int .i64 (rd_TGEdge xs k).f1) := by
  have := at_TGEdge h (k : Int) (by omega) (by omega)
  simpa using this
theorem edge_get (xs : List SGEdge) (k : Nat) (h : k < xs.length) : rd_TGEdge xs k = xs[k] := by simp [rd_TGEdge, List.getD_eq_getElem?_getD, h]
/-- What made answers: a graph of the call's own. -/
def MadeI (w w' : World) (ks : List (Int × Int)) (e : Ending) : Prop := ∃ g b : Nat, e = .returned (.pointer (some ⟨g, 0, none⟩)) ∧ w.heap.size ≤ g ∧ w.heap.size ≤ b ∧ GrI w' g b ks ∧ Below w.heap.size w w'
set_option maxRecDepth 100000 in
set_option maxHeartbeats 2000000 in
theorem made_calls (w : World) (A : Option Addr) (c : Nat) (l : List SGEdge) (hC : Kd.C kGEdge w A l.length l) (hl : l.length ≤ 140737488351232) :
    Calls Try.prog 9 #[.slice A l.length c] w fun e w' => MadeI w w' (edgesOf (l.take 60)) e := by
  have HC := Aside0.mk hC
  clear hC
  go_enter Try.func9, Try.ntmps9
  go_wp2_with fail
  refine (newI w).mono ?_
  rintro e w1 ⟨g, b, rfl, hg, hb, hG, hB⟩
  have HGG := Aside0.mk (And.intro hg hb)
  have HG1 := Aside0.mk hG
  have HB1 := Aside0.mk hB
  clear hg hb hG hB
  go_wp2_with fail
  go_loopg [4] 60 (fun gk v4 wr => ∃ k : Nat, Aside0 (k + gk = 60) ∧ v4 = .int .i64 k ∧ k ≤ l.length ∧ Aside0 (GrI wr g b (edgesOf (l.take k))) ∧ Aside0 (Below w.heap.size w wr))
  case atStart => exact ⟨0, ⟨rfl⟩, rfl, Nat.zero_le _, HG1, HB1⟩
  case round =>
    obtain ⟨k, HK, rfl, hkl, HG, HB⟩ := hrel
    clear HG1 HB1
    have hk60 : k ≤ 60 := by have := HK.out; omega
    by_cases hlt : k < l.length ∧ k < 60
    · obtain ⟨h1, h2⟩ := hlt
      obtain ⟨ad, rfl, hx0, hx1⟩ := edge_at (Kd.C_below HC.out HB.out) k h1
      go_wp2_with fail
      -- [M
      refine start_ (n := 12) (S := fun wx => wx.cell? (ad.add (k * 2)) = some (.int .i64 (rd_TGEdge l k).f0) ∧ wx.cell? ⟨(ad.add (k * 2)).block, (ad.add (k * 2)).off + 1, none⟩ = some (.int .i64 (rd_TGEdge l k).f1)) (ds := []) #[false, false, false, false, false, false, false, false, false, false, false, false] (by kernel_rfl) rfl rfl (⟨hx0, hx1⟩) (fun hHeld => ?_)
      refine pure_ (i := 0) (N := some 20) (v := ?_) (a' := ?_) #[true, false, false, false, false, false, false, false, false, false, false, false] rfl rfl (by kernel_rfl) (fun _ _ _ h => h) (Or.inl ⟨by rfl, ?_⟩) ?_ ?_
      rotate_left
      · intro w'
        go_simp
        all_goals (with_reducible rfl)
      rotate_left
      · simp only [Act.put, List.setIfInBounds_toArray, List.set_cons_zero, List.set_cons_succ, i64_w, i32_w]
        rfl
      refine pure_ (i := 1) (N := some 21) (v := ?_) (a' := ?_) #[true, true, false, false, false, false, false, false, false, false, false, false] rfl rfl (by kernel_rfl) (fun _ _ _ h => h) (Or.inl ⟨by rfl, ?_⟩) ?_ ?_
      rotate_left
      · intro w'
        go_simp
        all_goals (with_reducible rfl)
      rotate_left
      · simp only [Act.put, List.setIfInBounds_toArray, List.set_cons_zero, List.set_cons_succ, i64_w, i32_w]
        rfl
      refine pure_ (i := 2) (N := some 22) (v := ?_) (a' := ?_) #[true, true, true, false, false, false, false, false, false, false, false, false] rfl rfl (by kernel_rfl) (fun _ _ _ h => h) (Or.inl ⟨by rfl, ?_⟩) ?_ ?_
      rotate_left
      · intro w'
        go_simp
        all_goals (with_reducible rfl)
      rotate_left
      · simp only [Act.put, List.setIfInBounds_toArray, List.set_cons_zero, List.set_cons_succ, i64_w, i32_w]
        rfl
      refine pure_ (i := 3) (N := some 23) (v := ?_) (a' := ?_) #[true, true, true, true, false, false, false, false, false, false, false, false] rfl rfl (by kernel_rfl) (fun _ _ _ h => h) (Or.inl ⟨by rfl, ?_⟩) ?_ ?_
      rotate_left
      · intro w'
        go_simp
        all_goals (with_reducible rfl)
      rotate_left
      · simp only [Act.put, List.setIfInBounds_toArray, List.set_cons_zero, List.set_cons_succ, i64_w, i32_w]
        rfl
      refine pure_ (i := 4) (N := some 24) (v := ?_) (a' := ?_) #[true, true, true, true, true, false, false, false, false, false, false, false] rfl rfl (by kernel_rfl) (fun _ _ _ h => h) (Or.inl ⟨by rfl, ?_⟩) ?_ ?_
      rotate_left
      · intro w'
        go_simp
        all_goals (with_reducible rfl)
      rotate_left
      · simp only [Act.put, List.setIfInBounds_toArray, List.set_cons_zero, List.set_cons_succ, i64_w, i32_w]
        rfl
      refine pure_ (i := 6) (N := some 26) (v := ?_) (a' := ?_) #[true, true, true, true, true, false, true, false, false, false, false, false] rfl rfl (by kernel_rfl) (fun _ _ _ h => h) (Or.inl ⟨by rfl, ?_⟩) ?_ ?_
      rotate_left
      · intro w'
        go_simp
        all_goals (with_reducible rfl)
      rotate_left
      · simp only [Act.put, List.setIfInBounds_toArray, List.set_cons_zero, List.set_cons_succ, i64_w, i32_w]
        rfl
      refine pure_ (i := 7) (N := some 27) (v := ?_) (a' := ?_) #[true, true, true, true, true, false, true, true, false, false, false, false] rfl rfl (by kernel_rfl) (fun _ _ _ h => h) (Or.inl ⟨by rfl, ?_⟩) ?_ ?_
      rotate_left
      · intro w'
        go_simp
        all_goals (with_reducible rfl)
      rotate_left
      · simp only [Act.put, List.setIfInBounds_toArray, List.set_cons_zero, List.set_cons_succ, i64_w, i32_w]
        rfl
      refine pure_ (i := 8) (N := some 28) (v := ?_) (a' := ?_) #[true, true, true, true, true, false, true, true, true, false, false, false] rfl rfl (by kernel_rfl) (fun _ _ _ h => h) (Or.inl ⟨by rfl, ?_⟩) ?_ ?_
      rotate_left
      · intro w'
        go_simp
        all_goals (with_reducible rfl)
      rotate_left
      · simp only [Act.put, List.setIfInBounds_toArray, List.set_cons_zero, List.set_cons_succ, i64_w, i32_w]
        rfl
      refine pure_ (i := 9) (N := some 29) (v := ?_) (a' := ?_) #[true, true, true, true, true, false, true, true, true, true, false, false] rfl rfl (by kernel_rfl) (fun _ _ _ h => h) (Or.inl ⟨by rfl, ?_⟩) ?_ ?_
      rotate_left
      · intro w'
        go_simp
        all_goals (with_reducible rfl)
      rotate_left
      · simp only [Act.put, List.setIfInBounds_toArray, List.set_cons_zero, List.set_cons_succ, i64_w, i32_w]
        rfl
      refine take_ (i := 5) (N := some 25) (v := ?_) (a' := ?_) #[true, true, true, true, true, true, true, true, true, true, false, false] rfl rfl (by kernel_rfl) (fun _ _ _ h => h) (Or.inl ⟨by rfl, ?_⟩) hHeld ?_ ?_
      rotate_left
      · intro w' hSw
        (try dsimp only at hSw)
        go_simp
        all_goals (with_reducible rfl)
      rotate_left
      · simp only [Act.put, List.setIfInBounds_toArray, List.set_cons_zero, List.set_cons_succ, i64_w, i32_w]
        rfl
      refine take_ (i := 10) (N := some 30) (v := ?_) (a' := ?_) #[true, true, true, true, true, true, true, true, true, true, true, false] rfl rfl (by kernel_rfl) (fun _ _ _ h => h) (Or.inl ⟨by rfl, ?_⟩) hHeld ?_ ?_
      rotate_left
      · intro w' hSw
        (try dsimp only at hSw)
        go_simp
        all_goals (with_reducible rfl)
      rotate_left
      · simp only [Act.put, List.setIfInBounds_toArray, List.set_cons_zero, List.set_cons_succ, i64_w, i32_w]
        rfl
      refine one_ (i := 11) (N := some 31) #[true, true, true, true, true, true, true, true, true, true, true, true] rfl rfl (by kernel_rfl) (by decide) (fun K hK => ?_)
      go_simp
      go_at_call 17
      refine (addI _ g b _ _ _ (HG.out.below (below_drew (Below.refl _ _)))).mono ?_
      rintro e w2 ⟨rfl, hG, hg⟩
      have HB2 := Aside0.mk ((below_drew HB.out).grown hg HB.out.size (fun j hj => by injection hj with hj; rw [← hj]; exact HGG.out.2))
      have HG2 := Aside0.mk hG
      have hy := edge_at (Kd.C_below HC.out HB2.out) k h1
      obtain ⟨ad', hae, y0, y1⟩ := hy
      obtain rfl := Option.some.inj hae
      clear hG hg
      (try go_wp2_with fail)
      refine hK.out _ _ (⟨y0, y1⟩) (fun hHeld => ?_)
      clear hK K
      (try simp only [Act.put, List.setIfInBounds_toArray, List.set_cons_zero, List.set_cons_succ])
      refine done_ (by kernel_rfl) ?_
      clear y0 y1 hx0 hx1
      go_wp2_with fail
      go_roundg (gk - 1)
      case measure => have := HK.out; omega
      case rel => exact ⟨k + 1, ⟨by have := HK.out; omega⟩, by go_num, by omega, ⟨by rw [List.take_succ_eq_append_getElem h1, edgesOf_snoc, ← edge_get l k h1]; exact HG2.out⟩, HB2⟩
      -- M]
    · have e1 : l.take k = l.take 60 := by
        by_cases h : k < l.length
        · have : k = 60 := by omega
          rw [this]
        · rw [List.take_of_length_le (by omega), List.take_of_length_le (by omega)]
      have HE := Aside0.mk e1
      clear e1
      by_cases h1 : k < l.length
      · have h2 : ¬ k < 60 := by omega
        go_wp2_with fail
        go_ret
        exact ⟨g, b, rfl, HGG.out.1, HGG.out.2, by rw [← HE.out]; exact HG.out, HB.out⟩
      · go_wp2_with fail
        go_ret
        exact ⟨g, b, rfl, HGG.out.1, HGG.out.2, by rw [← HE.out]; exact HG.out, HB.out⟩
end Go.Proofs.Ytgjjfldfdkoedaa
