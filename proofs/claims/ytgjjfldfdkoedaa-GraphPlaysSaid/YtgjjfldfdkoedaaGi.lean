/- Layer 12: the document's Ring in plain words. -/
import Derived.Test.YtgjjfldfdkoedaaGh
import Derived.Test.YtgjjfldfdkoedaaGc
namespace Go.Proofs.Ytgjjfldfdkoedaa
open Go.RowKit Go.Proofs.YtgjjfldfdkoedaaW.PrintWords Go.Proofs.YtgjjfldfdkoedaaW.PrintLast Go.Proofs.YtgjjfldfdkoedaaW.PrintMore
open Rf MapL Graph
set_option linter.unusedVariables false
set_option linter.unusedSimpArgs false
theorem rd_mid (A : List Int) (p : Int) (B : List Int) : rd (A ++ p :: B) (A.length : Int) = p := by
  rw [rd_int _ _ (by simp)]; simp
theorem rd_mid1 (A : List Int) (q p : Int) (B : List Int) : rd (A ++ q :: p :: B) ((A.length + 1 : Nat) : Int) = p := by
  rw [rd_int _ _ (by simp)]; simp [List.getElem_append_right]
theorem set_mid (A : List Int) (p v : Int) (B : List Int) : ((A ++ p :: v :: B).set (A.length + 1) p).set A.length v = A ++ v :: p :: B := by
  simp [List.set_append]
theorem ins_ev (l : List SGEdge) (a : Int) (S : List Int) (i : Nat) (v : Int) (hi : i < S.length) (hS : S.length ≤ 1000000) (hv : S[i] = v) (n : Nat) : ∀ (P Q : List Int), P.length = n → P.length + Q.length ≤ 1000000 → (P ++ Q).Pairwise (· < ·) → (∀ x ∈ P, x ≠ v) → (∀ x ∈ Q, v < x) →
    ∃ T : List Int, (∀ r, Ev (fun k => flotillaref12_Ring.l0 k l a T S (i + 1 : Nat)) r → Ev (fun k => flotillaref12_Ring.l1 k l a (P ++ v :: Q) S i (P.length : Int)) r) ∧ T.Pairwise (· < ·) ∧ (∀ x, x ∈ T ↔ x ∈ P ∨ x = v ∨ x ∈ Q) ∧ T.length = P.length + Q.length + 1 := by
  have hw : wrap64 ((i : Int) + 1) = ((i + 1 : Nat) : Int) := w64' (by omega) (by omega)
  induction n with
  | zero =>
    intro P Q hn hlen hp hP hQ
    obtain rfl := List.eq_nil_of_length_eq_zero hn
    refine ⟨v :: Q, fun r hr => Ev.step (fun k => ?_) hr, List.pairwise_cons.2 ⟨hQ, by simpa using hp⟩, by simp, by simp⟩
    simp only [flotillaref12_Ring.l1]
    rw [if_neg (by simp), hw]
    rfl
  | succ n ih =>
    intro P Q hn hlen hp hP hQ
    obtain ⟨P', p, rfl⟩ : ∃ P' p, P = P' ++ [p] := ⟨P.dropLast, P.getLast (by rintro rfl; simp at hn), (List.dropLast_concat_getLast _).symm⟩
    have hL : (P' ++ [p]).length = P'.length + 1 := by simp
    have hpv := hP p (by simp)
    have e1 : wrap64 (((P'.length + 1 : Nat) : Int) - 1) = (P'.length : Int) := by rw [w64' (by omega) (by omega)]; omega
    have e2 : rd (P' ++ p :: v :: Q) (P'.length : Int) = p := rd_mid _ _ _
    have e3 : rd (P' ++ p :: v :: Q) ((P'.length + 1 : Nat) : Int) = v := rd_mid1 _ _ _ _
    have e4 : rd S (i : Int) = v := by rw [rd_int S i hi, hv]
    have e5 : (P' ++ [p]) ++ v :: Q = P' ++ p :: v :: Q := by simp
    have hLL : (P' ++ p :: v :: Q).length = P'.length + Q.length + 2 := by simp; omega
    rw [hL] at hlen
    rw [e5, hL]
    by_cases hg : v < p
    · obtain ⟨T, h1, h2, h3, h4⟩ := ih P' (p :: Q) (by omega) (by simp; omega) (by simpa using hp) (fun x hx => hP x (by simp [hx])) (fun x hx => by
        rcases List.mem_cons.1 hx with rfl | hx
        · exact hg
        · exact hQ x hx)
      refine ⟨T, fun r hr => Ev.step (fun k => ?_) (h1 r hr), h2, fun x => ?_, by simp at h4; omega⟩
      · simp only [flotillaref12_Ring.l1]
        rw [e1, e2, e3, e4, if_pos (by omega), if_pos (by omega), if_pos (by omega), if_pos (by omega), if_pos (by omega), if_pos hg, if_pos (by omega), if_pos (by omega)]
        rw [show (((P'.length + 1 : Nat) : Int)).toNat = P'.length + 1 from by omega, show ((P'.length : Int)).toNat = P'.length from by omega, set_mid]
      · rw [h3 x]
        simp only [List.mem_append, List.mem_cons, List.not_mem_nil, or_false]
        constructor
        · rintro (h | h | h | h) <;> simp [h]
        · rintro ((h | h) | h | h) <;> simp [h]
    · refine ⟨P' ++ p :: v :: Q, fun r hr => Ev.step (fun k => ?_) hr, ?_, fun x => ?_, by omega⟩
      · simp only [flotillaref12_Ring.l1]
        rw [e1, e2, e4, if_pos (by omega), if_pos (by omega), if_pos (by omega), if_pos (by omega), if_pos (by omega), if_neg hg, hw]
      · have hp' : (P' ++ p :: Q).Pairwise (· < ·) := by simpa using hp
        rw [List.pairwise_append] at hp' ⊢
        obtain ⟨q1, q2, q3⟩ := hp'
        refine ⟨q1, ?_, ?_⟩
        · rw [List.pairwise_cons] at q2 ⊢
          refine ⟨fun x hx => ?_, List.pairwise_cons.2 ⟨hQ, q2.2⟩⟩
          rcases List.mem_cons.1 hx with rfl | hx
          · omega
          · exact q2.1 x hx
        · intro x hx y hy
          rcases List.mem_cons.1 hy with rfl | hy
          · exact q3 x hx _ (by simp)
          · rcases List.mem_cons.1 hy with rfl | hy
            · have := q3 x hx p (by simp)
              omega
            · exact q3 x hx _ (by simp [hy])
      · simp only [List.mem_append, List.mem_cons, List.not_mem_nil, or_false]
        constructor
        · rintro (h | h | h | h) <;> simp [h]
        · rintro ((h | h) | h | h) <;> simp [h]
theorem ring_ev (l : List SGEdge) (a : Int) (hl : l.length ≤ 1000) (S : List Int) (hn : S.Nodup) (hS : S.length ≤ 1000) (d : Nat) : ∀ (i : Nat) (T : List Int), i + d = S.length → T.Pairwise (· < ·) → T.length ≤ i → (∀ x, x ∈ T ↔ x ∈ S.take i ∧ Graph.Reach (l.map pr) x a) →
    ∃ r : List Int, Ev (fun k => flotillaref12_Ring.l0 k l a T S i) r ∧ r.Pairwise (· < ·) ∧ ∀ x, x ∈ r ↔ x ∈ S ∧ Graph.Reach (l.map pr) x a := by
  induction d with
  | zero =>
    intro i T hi hp hlen hT
    refine ⟨T, Ev.step (f := fun _ => some T) (fun k => ?_) (Ev.now _), hp, fun x => by rw [hT x, List.take_of_length_le (by omega)]⟩
    simp only [flotillaref12_Ring.l0]
    rw [if_neg (by omega)]
  | succ d ih =>
    intro i T hi hp hlen hT
    have h1 : i < S.length := by omega
    have hw : wrap64 ((i : Int) + 1) = ((i + 1 : Nat) : Int) := w64' (by omega) (by omega)
    obtain ⟨R, hR, hRn, hRm⟩ := reached_f l S[i] hl
    have hRl : R.length ≤ 1000 := by
      have := nodup_le (M := (l.map pr).map Prod.snd) hRn (fun x hx => by
        obtain ⟨c, hc⟩ := ((hRm x).1 hx).last
        exact List.mem_map.2 ⟨_, hc, rfl⟩)
      simp at this; omega
    have hH := has_f R a (by omega)
    have htk : S.take (i + 1) = S.take i ++ [S[i]] := by rw [List.take_add_one, List.getElem?_eq_getElem h1]; rfl
    have hni : S[i] ∉ S.take i := fun h => by
      rw [← List.take_append_drop i S, List.drop_eq_getElem_cons h1] at hn
      have := (List.nodup_append.1 hn).2.2 _ h _ (List.mem_cons_self)
      exact this rfl
    have e4 : rd S (i : Int) = S[i] := rd_int S i h1
    by_cases hr : Graph.Reach (l.map pr) S[i] a
    · obtain ⟨T', h2, h3, h4, h5⟩ := ins_ev l a S i S[i] h1 (by omega) rfl T.length T [] rfl (by simp; omega) (by simpa using hp) (fun x hx e => hni (by rw [← e]; exact ((hT x).1 hx).1)) (by simp)
      obtain ⟨r, h6, h7, h8⟩ := ih (i + 1) T' (by omega) h3 (by simp at h5; omega) (fun x => by
        rw [h4 x, hT x, htk]
        simp only [List.mem_append, List.mem_cons, List.not_mem_nil, or_false]
        constructor
        · rintro (h | rfl)
          · exact ⟨.inl h.1, h.2⟩
          · exact ⟨.inr rfl, hr⟩
        · rintro ⟨h | h, h'⟩
          · exact .inl ⟨h, h'⟩
          · exact .inr h)
      refine ⟨r, Ev.step (fun k => ?_) (Ev.bind hR (f := fun k t => (flotillaref12_Has.f k t a).bind fun t277 => if t277 = true then (if T.length < 17592186044416 then flotillaref12_Ring.l1 k l a (T ++ [S[i]]) S i (T.length : Int) else none) else flotillaref12_Ring.l0 k l a T S (i + 1 : Nat)) (Ev.bind hH (f := fun k t => if t = true then (if T.length < 17592186044416 then flotillaref12_Ring.l1 k l a (T ++ [S[i]]) S i (T.length : Int) else none) else flotillaref12_Ring.l0 k l a T S (i + 1 : Nat)) (Ev.congr (fun k => ?_) (h2 r h6)))), h7, h8⟩
      · simp only [flotillaref12_Ring.l0]
        rw [if_pos (by omega), if_pos (by omega), e4, hw]
      · rw [if_pos (decide_eq_true ((hRm a).2 hr)), if_pos (by omega)]
    · obtain ⟨r, h6, h7, h8⟩ := ih (i + 1) T (by omega) hp (by omega) (fun x => by
        rw [hT x, htk]
        simp only [List.mem_append, List.mem_cons, List.not_mem_nil, or_false]
        constructor
        · rintro ⟨h, h'⟩; exact ⟨.inl h, h'⟩
        · rintro ⟨h | rfl, h'⟩
          · exact ⟨h, h'⟩
          · exact absurd h' hr)
      refine ⟨r, Ev.step (fun k => ?_) (Ev.bind hR (f := fun k t => (flotillaref12_Has.f k t a).bind fun t277 => if t277 = true then (if T.length < 17592186044416 then flotillaref12_Ring.l1 k l a (T ++ [S[i]]) S i (T.length : Int) else none) else flotillaref12_Ring.l0 k l a T S (i + 1 : Nat)) (Ev.bind hH (f := fun k t => if t = true then (if T.length < 17592186044416 then flotillaref12_Ring.l1 k l a (T ++ [S[i]]) S i (T.length : Int) else none) else flotillaref12_Ring.l0 k l a T S (i + 1 : Nat)) (Ev.congr (fun k => ?_) h6))), h7, h8⟩
      · simp only [flotillaref12_Ring.l0]
        rw [if_pos (by omega), if_pos (by omega), e4, hw]
      · rw [if_neg (by rw [decide_eq_true_eq, hRm a]; exact hr)]
theorem ring_f (l : List SGEdge) (a : Int) (hl : l.length ≤ 1000) : ∃ r : List Int, Ev (fun k => flotillaref12_Ring.f k l a) r ∧ RingL (· < ·) (l.map pr) a r := by
  obtain ⟨S, hS, hSn, hSm⟩ := reached_f l a hl
  have hSl : S.length ≤ 1000 := by
    have := nodup_le (M := (l.map pr).map Prod.snd) hSn (fun x hx => by
      obtain ⟨c, hc⟩ := ((hSm x).1 hx).last
      exact List.mem_map.2 ⟨_, hc, rfl⟩)
    simp at this; omega
  obtain ⟨r, h1, h2, h3⟩ := ring_ev l a hl S hSn hSl S.length 0 [] (by omega) List.Pairwise.nil (by simp) (by simp)
  exact ⟨r, Ev.congr (fun k => rfl) (Ev.bind hS h1), ⟨h2, fun x => by rw [h3 x, hSm x]⟩⟩
end Go.Proofs.Ytgjjfldfdkoedaa
