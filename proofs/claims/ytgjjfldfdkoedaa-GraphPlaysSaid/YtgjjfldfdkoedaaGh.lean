/- Layer 12: the document's Add, Drop, Gone, Reached, Ring in plain words. -/
import Derived.Test.YtgjjfldfdkoedaaGe
import Derived.Test.YtgjjfldfdkoedaaGg
import Derived.Test.YtgjjfldfdkoedaaRf1
import Derived.Test.YtgjjfldfdkoedaaRf3
namespace Go.Proofs.Ytgjjfldfdkoedaa
open Go.RowKit Go.Proofs.YtgjjfldfdkoedaaW.PrintWords Go.Proofs.YtgjjfldfdkoedaaW.PrintLast Go.Proofs.YtgjjfldfdkoedaaW.PrintMore
open Rf MapL Graph
set_option linter.unusedVariables false
set_option linter.unusedSimpArgs false
theorem at_f (l : List SGEdge) (a b : Int) (hl : l.length ≤ 1000000) : ∃ r : Int, Ev (fun k => flotillaref12_At.f k l a b) r ∧ ((r < 0 ∧ (a, b) ∉ l.map pr) ∨ ∃ j : Nat, r = j ∧ ∃ h : j < l.length, pr l[j] = (a, b)) := by
  obtain ⟨r, h1, h2⟩ := at_ev l a b (by omega) l.length 0 (by omega)
  exact ⟨r, h1, by simpa using h2⟩
theorem pr_inj {a b : SGEdge} (h : pr a = pr b) : a = b := by
  obtain ⟨a1, a2⟩ := a
  obtain ⟨b1, b2⟩ := b
  obtain ⟨e1, e2⟩ := Prod.mk.inj h
  cases e1; cases e2; rfl
/-- Add. -/
theorem add_f (l : List SGEdge) (x y : Int) (hl : l.length ≤ 1000) : ∃ r : List SGEdge × Bool, Ev (fun k => flotillaref12_Add.f k l x y) r ∧ r.1.map pr = addK (l.map pr) (x, y) ∧ r.2 = !isK (l.map pr) (x, y) := by
  obtain ⟨r, h1, h2⟩ := at_f l x y (by omega)
  rcases h2 with ⟨h3, h4⟩ | ⟨j, rfl, hj, he⟩
  · refine ⟨(l ++ [⟨x, y⟩], true), Ev.congr (fun k => rfl) (Ev.bind h1 ?_), ?_, ?_⟩
    · refine Ev.congr (fun k => ?_) (Ev.now _)
      rw [if_neg (by omega), if_pos (by simp only [List.length_nil]; omega)]
      show (if (([] : List SGEdge) ++ l).length < 8796093022208 then _ else _) = _
      rw [List.nil_append, if_pos (by omega)]
    · show (l ++ [_]).map pr = _
      rw [addK_new h4, List.map_append]; rfl
    · show true = _
      rw [isK_no h4]; rfl
  · have hm : (x, y) ∈ l.map pr := List.mem_map.2 ⟨_, List.getElem_mem hj, he⟩
    refine ⟨(l, false), Ev.congr (fun k => rfl) (Ev.bind h1 ?_), ?_, ?_⟩
    · refine Ev.congr (fun k => ?_) (Ev.now _)
      rw [if_pos (by omega)]
    · show l.map pr = _
      rw [addK_in hm]
    · show false = _
      rw [isK_in hm]; rfl
theorem delK_no {α : Type} [DecidableEq α] {l : List α} {e : α} (h : e ∉ l) : delK l e = l := by
  unfold delK
  rw [List.filter_eq_self]
  intro z hz
  simp only [decide_eq_true_eq]
  rintro rfl
  exact h hz
theorem erase_nodup {α : Type} [DecidableEq α] : ∀ (l : List α) (j : Nat) (h : j < l.length), l.Nodup → l.take j ++ l.drop (j + 1) = delK l l[j]
  | [], j, h, _ => absurd h (Nat.not_lt_zero _)
  | z :: t, 0, h, hn => by
    have h1 := (List.nodup_cons.1 hn).1
    show t = delK (z :: t) z
    have e : delK (z :: t) z = delK t z := by unfold delK; rw [List.filter_cons, if_neg (by simp)]
    rw [e, delK_no h1]
  | z :: t, j + 1, h, hn => by
    have h1 := List.nodup_cons.1 hn
    have ih := erase_nodup t j (by simpa using h) h1.2
    show z :: (t.take j ++ t.drop (j + 1)) = List.filter _ (z :: t)
    have hz : z ≠ (z :: t)[j + 1] := fun e => h1.1 (by rw [e]; exact List.getElem_mem _)
    rw [List.filter_cons, if_pos (decide_eq_true hz), ih]
    rfl
/-- Drop. -/
theorem drop_f (l : List SGEdge) (x y : Int) (hl : l.length ≤ 1000) (hn : (l.map pr).Nodup) : ∃ r : List SGEdge × Bool, Ev (fun k => flotillaref12_Drop.f k l x y) r ∧ r.1.map pr = delK (l.map pr) (x, y) ∧ r.2 = isK (l.map pr) (x, y) := by
  obtain ⟨r, h1, h2⟩ := at_f l x y (by omega)
  rcases h2 with ⟨h3, h4⟩ | ⟨j, rfl, hj, he⟩
  · refine ⟨(l, false), Ev.congr (fun k => rfl) (Ev.bind h1 ?_), ?_, ?_⟩
    · refine Ev.congr (fun k => ?_) (Ev.now _)
      rw [if_pos h3]
    · show l.map pr = _
      exact (delK_no h4).symm
    · show false = _
      rw [isK_no h4]
  · have hm : (x, y) ∈ l.map pr := List.mem_map.2 ⟨_, List.getElem_mem hj, he⟩
    refine ⟨(l.take j ++ l.drop (j + 1), true), Ev.congr (fun k => rfl) (Ev.bind h1 ?_), ?_, ?_⟩
    · refine Ev.congr (fun k => ?_) (Ev.now _)
      have e1 : ((j : Int)).toNat = j := by omega
      have e2 : wrap64 ((j : Int) + 1) = ((j + 1 : Nat) : Int) := w64' (by omega) (by omega)
      have e3 : (((j + 1 : Nat) : Int)).toNat = j + 1 := by omega
      rw [if_neg (by omega), if_pos (by omega), if_pos (by omega), e2, e1, e3]
      have q1 : ([] : List SGEdge).length + (l.take j).length < 8796093022208 := by simp only [List.length_nil, List.length_take]; omega
      have q2 : (l.take j).length + (l.drop (j + 1)).length < 8796093022208 := by simp only [List.length_drop, List.length_take]; omega
      have q3 : (0 : Int) ≤ ((j + 1 : Nat) : Int) := by omega
      have q4 : ((j + 1 : Nat) : Int) ≤ (l.length : Int) := by omega
      simp only [Option.bind_some, List.nil_append]
      rw [if_pos q1, if_pos q3, if_pos q4, if_pos q2]
    · show (l.take j ++ l.drop (j + 1)).map pr = _
      have h5 := erase_nodup (l.map pr) j (by simpa using hj) hn
      rw [List.map_append, List.map_take, List.map_drop, h5, List.getElem_map, he]
    · show true = _
      rw [isK_in hm]
/-- Gone. -/
theorem gone_ev (l : List SGEdge) (x : Int) (hl : l.length ≤ 1000) (d : Nat) : ∀ (i : Nat) (P : List SGEdge), i + d = l.length → P.length ≤ i → Ev (fun k => flotillaref12_Gone.l0 k l x P i) (P ++ (l.drop i).filter fun e => keepK x (pr e)) := by
  induction d with
  | zero =>
    intro i P hi hP
    rw [List.drop_of_length_le (by omega)]
    refine Ev.step (f := fun _ => some P) (fun k => ?_) (by simpa using Ev.now P)
    simp only [flotillaref12_Gone.l0]
    rw [if_neg (by omega)]
  | succ d ih =>
    intro i P hi hP
    have h1 : i < l.length := by omega
    have hw : wrap64 ((i : Int) + 1) = ((i + 1 : Nat) : Int) := w64' (by omega) (by omega)
    rw [List.drop_eq_getElem_cons h1, List.filter_cons]
    by_cases h2 : l[i].f0 = x
    · rw [if_neg (by simp [keepK, pr, h2])]
      refine Ev.step (fun k => ?_) (ih (i + 1) P (by omega) (by omega))
      simp only [flotillaref12_Gone.l0]
      rw [if_pos (by omega), if_pos (by omega), edge_get l i h1, if_pos h2, hw]
    · by_cases h3 : l[i].f1 = x
      · rw [if_neg (by simp [keepK, pr, h3])]
        refine Ev.step (fun k => ?_) (ih (i + 1) P (by omega) (by omega))
        simp only [flotillaref12_Gone.l0]
        rw [if_pos (by omega), if_pos (by omega), edge_get l i h1, if_neg h2, if_pos h3, hw]
      · rw [if_pos (by simp [keepK, pr, h2, h3])]
        have := ih (i + 1) (P ++ [l[i]]) (by omega) (by simp; omega)
        rw [List.append_assoc] at this
        refine Ev.step (fun k => ?_) this
        simp only [flotillaref12_Gone.l0]
        rw [if_pos (by omega), if_pos (by omega), edge_get l i h1, if_neg h2, if_neg h3, if_pos (by omega), hw]
theorem gone_f (l : List SGEdge) (x : Int) (hl : l.length ≤ 1000) : ∃ r : List SGEdge, Ev (fun k => flotillaref12_Gone.f k l x) r ∧ r.map pr = goneK (l.map pr) x := by
  refine ⟨_, gone_ev l x hl l.length 0 [] (by omega) (by simp), ?_⟩
  unfold goneK
  rw [List.nil_append, List.drop_zero, List.filter_map]
  rfl
/-- One pass of Reached. -/
theorem pass_ev (l : List SGEdge) (a : Int) (hl : l.length ≤ 1000) (d : Nat) : ∀ (i : Nat) (S : List Int) (m : Bool), i + d = l.length → S.Nodup → (∀ x ∈ S, Graph.Reach (l.map pr) a x) → ∃ (S' : List Int) (m' : Bool),
    (∀ r, Ev (fun k => flotillaref12_Reached.l0 k l a S' m') r → Ev (fun k => flotillaref12_Reached.l1 k l a S m i) r) ∧ S'.Nodup ∧ (∀ x ∈ S', Graph.Reach (l.map pr) a x) ∧
    ((m' = m ∧ S' = S ∧ ∀ e ∈ l.drop i, e.f0 = a ∨ e.f0 ∈ S → e.f1 ∈ S) ∨ (m' = true ∧ fresh (l.map pr) S' + 1 ≤ fresh (l.map pr) S)) := by
  induction d with
  | zero =>
    intro i S m hi hn hs
    refine ⟨S, m, fun r hr => Ev.step (fun k => ?_) hr, hn, hs, .inl ⟨rfl, rfl, ?_⟩⟩
    · simp only [flotillaref12_Reached.l1]
      rw [if_neg (by omega)]
    · rw [List.drop_of_length_le (by omega)]; simp
  | succ d ih =>
    intro i S m hi hn hs
    have h1 : i < l.length := by omega
    have hw : wrap64 ((i : Int) + 1) = ((i + 1 : Nat) : Int) := w64' (by omega) (by omega)
    have hmem : (l[i].f0, l[i].f1) ∈ l.map pr := List.mem_map.2 ⟨_, List.getElem_mem h1, rfl⟩
    have hlen : S.length ≤ 1000 := by
      have := nodup_le (M := (l.map pr).map Prod.snd) hn (fun x hx => by
        obtain ⟨c, hc⟩ := (hs x hx).last
        exact List.mem_map.2 ⟨_, hc, rfl⟩)
      simp at this; omega
    have hh0 := has_f S l[i].f0 (by omega)
    have hh1 := has_f S l[i].f1 (by omega)
    have skip : (l[i].f0 = a ∨ l[i].f0 ∈ S → l[i].f1 ∈ S) → (∀ r, Ev (fun k => flotillaref12_Reached.l1 k l a S m (i + 1 : Nat)) r → Ev (fun k => flotillaref12_Reached.l1 k l a S m i) r) → ∃ (S' : List Int) (m' : Bool),
        (∀ r, Ev (fun k => flotillaref12_Reached.l0 k l a S' m') r → Ev (fun k => flotillaref12_Reached.l1 k l a S m i) r) ∧ S'.Nodup ∧ (∀ x ∈ S', Graph.Reach (l.map pr) a x) ∧
        ((m' = m ∧ S' = S ∧ ∀ e ∈ l.drop i, e.f0 = a ∨ e.f0 ∈ S → e.f1 ∈ S) ∨ (m' = true ∧ fresh (l.map pr) S' + 1 ≤ fresh (l.map pr) S)) := by
      intro hq hstep
      obtain ⟨S', m', h2, h3, h4, h5⟩ := ih (i + 1) S m (by omega) hn hs
      refine ⟨S', m', fun r hr => hstep r (h2 r hr), h3, h4, h5.imp (fun ⟨q1, q2, q3⟩ => ⟨q1, q2, ?_⟩) id⟩
      rw [List.drop_eq_getElem_cons h1]
      intro e he
      rcases List.mem_cons.1 he with rfl | he
      · exact hq
      · exact q3 e he
    have take : l[i].f1 ∉ S → (l[i].f0 = a ∨ l[i].f0 ∈ S) → (∀ r, Ev (fun k => flotillaref12_Reached.l1 k l a (S ++ [l[i].f1]) true (i + 1 : Nat)) r → Ev (fun k => flotillaref12_Reached.l1 k l a S m i) r) → ∃ (S' : List Int) (m' : Bool),
        (∀ r, Ev (fun k => flotillaref12_Reached.l0 k l a S' m') r → Ev (fun k => flotillaref12_Reached.l1 k l a S m i) r) ∧ S'.Nodup ∧ (∀ x ∈ S', Graph.Reach (l.map pr) a x) ∧
        ((m' = m ∧ S' = S ∧ ∀ e ∈ l.drop i, e.f0 = a ∨ e.f0 ∈ S → e.f1 ∈ S) ∨ (m' = true ∧ fresh (l.map pr) S' + 1 ≤ fresh (l.map pr) S)) := by
      intro hq hf hstep
      have hr1 : Graph.Reach (l.map pr) a l[i].f1 := by
        rcases hf with h | h
        · rw [← h]; exact .edge hmem
        · exact (hs _ h).snoc hmem
      obtain ⟨S', m', h2, h3, h4, h5⟩ := ih (i + 1) (S ++ [l[i].f1]) true (by omega) (nodup_snoc hn hq) (fun x hx => by
        rcases List.mem_append.1 hx with hx | hx
        · exact hs x hx
        · rw [List.mem_singleton.1 hx]; exact hr1)
      have hfr := fresh_find (E := l.map pr) (S := S) hmem hq
      refine ⟨S', m', fun r hr => hstep r (h2 r hr), h3, h4, .inr ?_⟩
      rcases h5 with ⟨q1, q2, q3⟩ | ⟨q1, q2⟩
      · exact ⟨q1, by rw [q2]; exact hfr⟩
      · exact ⟨q1, by omega⟩
    by_cases ha : l[i].f0 = a
    · by_cases hb : l[i].f1 ∈ S
      · refine skip (fun _ => hb) (fun r hr => Ev.step (fun k => ?_) (Ev.bind hh1 (f := fun k t => if t = true then flotillaref12_Reached.l1 k l a S m (i + 1 : Nat) else if S.length < 17592186044416 then flotillaref12_Reached.l1 k l a (S ++ [l[i].f1]) true (i + 1 : Nat) else none) (Ev.congr (fun k => ?_) hr)))
        · simp only [flotillaref12_Reached.l1]
          rw [if_pos (by omega), if_pos (by omega), edge_get l i h1, if_pos ha, hw]
        · rw [if_pos (decide_eq_true hb)]
      · refine take hb (.inl ha) (fun r hr => Ev.step (fun k => ?_) (Ev.bind hh1 (f := fun k t => if t = true then flotillaref12_Reached.l1 k l a S m (i + 1 : Nat) else if S.length < 17592186044416 then flotillaref12_Reached.l1 k l a (S ++ [l[i].f1]) true (i + 1 : Nat) else none) (Ev.congr (fun k => ?_) hr)))
        · simp only [flotillaref12_Reached.l1]
          rw [if_pos (by omega), if_pos (by omega), edge_get l i h1, if_pos ha, hw]
        · rw [if_neg (by simpa using hb), if_pos (by omega)]
    · by_cases hc : l[i].f0 ∈ S
      · by_cases hb : l[i].f1 ∈ S
        · refine skip (fun _ => hb) (fun r hr => Ev.step (fun k => ?_) (Ev.bind hh0 (f := fun k t => if t = true then ((flotillaref12_Has.f k S l[i].f1).bind fun t266 => if t266 = true then flotillaref12_Reached.l1 k l a S m (i + 1 : Nat) else if S.length < 17592186044416 then flotillaref12_Reached.l1 k l a (S ++ [l[i].f1]) true (i + 1 : Nat) else none) else flotillaref12_Reached.l1 k l a S m (i + 1 : Nat)) (Ev.congr (fun k => ?_) (Ev.bind hh1 (f := fun k t => if t = true then flotillaref12_Reached.l1 k l a S m (i + 1 : Nat) else if S.length < 17592186044416 then flotillaref12_Reached.l1 k l a (S ++ [l[i].f1]) true (i + 1 : Nat) else none) (Ev.congr (fun k => ?_) hr)))))
          · simp only [flotillaref12_Reached.l1]
            rw [if_pos (by omega), if_pos (by omega), edge_get l i h1, if_neg ha, hw]
          · rw [if_pos (decide_eq_true hc)]
          · rw [if_pos (decide_eq_true hb)]
        · refine take hb (.inr hc) (fun r hr => Ev.step (fun k => ?_) (Ev.bind hh0 (f := fun k t => if t = true then ((flotillaref12_Has.f k S l[i].f1).bind fun t266 => if t266 = true then flotillaref12_Reached.l1 k l a S m (i + 1 : Nat) else if S.length < 17592186044416 then flotillaref12_Reached.l1 k l a (S ++ [l[i].f1]) true (i + 1 : Nat) else none) else flotillaref12_Reached.l1 k l a S m (i + 1 : Nat)) (Ev.congr (fun k => ?_) (Ev.bind hh1 (f := fun k t => if t = true then flotillaref12_Reached.l1 k l a S m (i + 1 : Nat) else if S.length < 17592186044416 then flotillaref12_Reached.l1 k l a (S ++ [l[i].f1]) true (i + 1 : Nat) else none) (Ev.congr (fun k => ?_) hr)))))
          · simp only [flotillaref12_Reached.l1]
            rw [if_pos (by omega), if_pos (by omega), edge_get l i h1, if_neg ha, hw]
          · rw [if_pos (decide_eq_true hc)]
          · rw [if_neg (by simpa using hb), if_pos (by omega)]
      · refine skip (fun h => absurd h (by simp [ha, hc])) (fun r hr => Ev.step (fun k => ?_) (Ev.bind hh0 (f := fun k t => if t = true then ((flotillaref12_Has.f k S l[i].f1).bind fun t266 => if t266 = true then flotillaref12_Reached.l1 k l a S m (i + 1 : Nat) else if S.length < 17592186044416 then flotillaref12_Reached.l1 k l a (S ++ [l[i].f1]) true (i + 1 : Nat) else none) else flotillaref12_Reached.l1 k l a S m (i + 1 : Nat)) (Ev.congr (fun k => ?_) hr)))
        · simp only [flotillaref12_Reached.l1]
          rw [if_pos (by omega), if_pos (by omega), edge_get l i h1, if_neg ha, hw]
        · rw [if_neg (by simpa using hc)]
theorem reached_ev (l : List SGEdge) (a : Int) (hl : l.length ≤ 1000) (n : Nat) : ∀ S : List Int, fresh (l.map pr) S ≤ n → S.Nodup → (∀ x ∈ S, Graph.Reach (l.map pr) a x) → ∃ r : List Int, Ev (fun k => flotillaref12_Reached.l0 k l a S true) r ∧ r.Nodup ∧ ∀ x, x ∈ r ↔ Graph.Reach (l.map pr) a x := by
  induction n with
  | zero => ?_
  | succ n ih => ?_
  all_goals
    intro S hf hn hs
    obtain ⟨S', m', h2, h3, h4, h5⟩ := pass_ev l a hl l.length 0 S false (by omega) hn hs
    rcases h5 with ⟨rfl, rfl, h6⟩ | ⟨rfl, h6⟩
    · refine ⟨S', Ev.step (fun k => ?_) (h2 S' (Ev.step (f := fun _ => some S') (fun k => ?_) (Ev.now _))), h3, fun x => ⟨h4 x, fun hr => ?_⟩⟩
      · simp only [flotillaref12_Reached.l0]
        rfl
      · simp only [flotillaref12_Reached.l0]
        rfl
      · rw [List.drop_zero] at h6
        refine hr.closed (S := (· ∈ S')) (fun y hy => ?_) (fun z y hz hy => ?_)
        · obtain ⟨e, he, h⟩ := List.mem_map.1 hy
          obtain ⟨e1, e2⟩ := Prod.mk.inj h
          rw [← e2]; exact h6 e he (.inl e1)
        · obtain ⟨e, he, h⟩ := List.mem_map.1 hy
          obtain ⟨e1, e2⟩ := Prod.mk.inj h
          rw [← e2]; exact h6 e he (.inr (by rw [e1]; exact hz))
    · first
        | exact absurd h6 (by omega)
        | (obtain ⟨r, hr, h7⟩ := ih S' (by omega) h3 h4
           refine ⟨r, Ev.step (fun k => ?_) (h2 r hr), h7⟩
           simp only [flotillaref12_Reached.l0]
           rfl)
theorem reached_f (l : List SGEdge) (a : Int) (hl : l.length ≤ 1000) : ∃ r : List Int, Ev (fun k => flotillaref12_Reached.f k l a) r ∧ r.Nodup ∧ ∀ x, x ∈ r ↔ Graph.Reach (l.map pr) a x :=
  reached_ev l a hl _ [] (Nat.le_refl _) List.nodup_nil (by simp)
end Go.Proofs.Ytgjjfldfdkoedaa
