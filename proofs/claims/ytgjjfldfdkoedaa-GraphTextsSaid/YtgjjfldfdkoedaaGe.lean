/- Layer 12: the document's Same, Has, At in plain words. -/
import Derived.Test.YtgjjfldfdkoedaaGd
import Derived.Test.YtgjjfldfdkoedaaRf0
namespace Go.Proofs.Ytgjjfldfdkoedaa
open Go.RowKit Go.Proofs.YtgjjfldfdkoedaaW.PrintWords Go.Proofs.YtgjjfldfdkoedaaW.PrintLast Go.Proofs.YtgjjfldfdkoedaaW.PrintMore
open Rf MapL Graph
set_option linter.unusedVariables false
set_option linter.unusedSimpArgs false
theorem rd_int (l : List Int) (i : Nat) (h : i < l.length) : rd l (i : Int) = l[i] := by simp [rd, List.getD_eq_getElem?_getD, h]
theorem w64' {x : Int} (h0 : -9223372036854775808 ≤ x) (h1 : x < 9223372036854775808) : wrap64 x = x := by unfold wrap64; omega
theorem same_ev (l m : List Int) (hl : l.length ≤ 1000000) (hm : l.length = m.length) (d : Nat) : ∀ i : Nat, i + d = l.length → Ev (fun k => flotillaref12_Same.l0 k l m i) (decide (l.drop i = m.drop i)) := by
  induction d with
  | zero =>
    intro i hi
    rw [List.drop_of_length_le (by omega), List.drop_of_length_le (by omega)]
    refine Ev.step (f := fun _ => some true) (fun k => ?_) (by simpa using Ev.now true)
    simp only [flotillaref12_Same.l0]
    rw [if_neg (by omega)]
  | succ d ih =>
    intro i hi
    have h1 : i < l.length := by omega
    have h2 : i < m.length := by omega
    rw [List.drop_eq_getElem_cons h1, List.drop_eq_getElem_cons h2]
    by_cases he : l[i] = m[i]
    · have e : decide (l[i] :: l.drop (i + 1) = m[i] :: m.drop (i + 1)) = decide (l.drop (i + 1) = m.drop (i + 1)) := by rw [decide_eq_decide, List.cons.injEq]; exact ⟨fun q => q.2, fun q => ⟨he, q⟩⟩
      rw [e]
      refine Ev.step (fun k => ?_) (ih (i + 1) (by omega))
      simp only [flotillaref12_Same.l0]
      rw [if_pos (by omega), if_pos (by omega), if_pos (by omega), rd_int l i h1, rd_int m i h2, if_pos he, w64' (by omega) (by omega)]
      rfl
    · have e : decide (l[i] :: l.drop (i + 1) = m[i] :: m.drop (i + 1)) = false := by rw [decide_eq_false_iff_not, List.cons.injEq]; exact fun q => he q.1
      rw [e]
      refine Ev.step (f := fun _ => some false) (fun k => ?_) (Ev.now _)
      simp only [flotillaref12_Same.l0]
      rw [if_pos (by omega), if_pos (by omega), if_pos (by omega), rd_int l i h1, rd_int m i h2, if_neg he]
theorem same_calls (w : World) (A B : Option Addr) (c d : Nat) (l m : List Int) (hA : Kd.C (Kd.int .i64) w A l.length l) (hc : l.length ≤ c) (hB : Kd.C (Kd.int .i64) w B m.length m) (hd : m.length ≤ d) (hl : l.length ≤ 1000000) :
    Calls Try.prog 15 #[.slice A l.length c, .slice B m.length d] w fun e w' => e = .returned (.bool (decide (l = m))) ∧ Below w.heap.size w w' := by
  have h : ∃ k, flotillaref12_Same.f k l m = some (decide (l = m)) := by
    unfold flotillaref12_Same.f
    by_cases hm : l.length = m.length
    · obtain ⟨k, h⟩ := (same_ev l m hl hm l.length 0 (by omega)).rounds
      exact ⟨k, by rw [if_pos (by omega)]; exact h⟩
    · exact ⟨0, by rw [if_neg (by omega)]; have : ¬ l = m := fun q => hm (by rw [q]); simp [this]⟩
  obtain ⟨k, h⟩ := h
  exact (flotillaref12_Same.calls k A c l B d m _ w hA hc hB hd h).mono (by rintro e w' ⟨rfl, hd⟩; exact ⟨rfl, hd.below⟩)
theorem has_ev (l : List Int) (x : Int) (hl : l.length ≤ 1000000) (d : Nat) : ∀ i : Nat, i + d = l.length → Ev (fun k => flotillaref12_Has.l0 k l x i) (decide (x ∈ l.drop i)) := by
  induction d with
  | zero =>
    intro i hi
    rw [List.drop_of_length_le (by omega)]
    refine Ev.step (f := fun _ => some false) (fun k => ?_) (by simpa using Ev.now false)
    simp only [flotillaref12_Has.l0]
    rw [if_neg (by omega)]
  | succ d ih =>
    intro i hi
    have h1 : i < l.length := by omega
    rw [List.drop_eq_getElem_cons h1]
    by_cases he : l[i] = x
    · have e : decide (x ∈ l[i] :: l.drop (i + 1)) = true := by simp [he]
      rw [e]
      refine Ev.step (f := fun _ => some true) (fun k => ?_) (Ev.now _)
      simp only [flotillaref12_Has.l0]
      rw [if_pos (by omega), if_pos (by omega), rd_int l i h1, if_pos he]
    · have e : decide (x ∈ l[i] :: l.drop (i + 1)) = decide (x ∈ l.drop (i + 1)) := by rw [decide_eq_decide, List.mem_cons]; exact ⟨fun q => q.resolve_left (Ne.symm he), .inr⟩
      rw [e]
      refine Ev.step (fun k => ?_) (ih (i + 1) (by omega))
      simp only [flotillaref12_Has.l0]
      rw [if_pos (by omega), if_pos (by omega), rd_int l i h1, if_neg he, w64' (by omega) (by omega)]
      rfl
theorem has_f (l : List Int) (x : Int) (hl : l.length ≤ 1000000) : Ev (fun k => flotillaref12_Has.f k l x) (decide (x ∈ l)) := has_ev l x hl l.length 0 (by omega)
theorem has_calls (w : World) (A : Option Addr) (c : Nat) (l : List Int) (x : Int) (hA : Kd.C (Kd.int .i64) w A l.length l) (hc : l.length ≤ c) (hl : l.length ≤ 1000000) :
    Calls Try.prog 13 #[.slice A l.length c, .int .i64 x] w fun e w' => e = .returned (.bool (isK l x)) ∧ Below w.heap.size w w' := by
  obtain ⟨k, h⟩ := (has_f l x hl).rounds
  exact (flotillaref12_Has.calls k A c l x _ w hA hc h).mono (by rintro e w' ⟨rfl, hd⟩; exact ⟨rfl, hd.below⟩)
theorem at_ev (l : List SGEdge) (a b : Int) (hl : l.length ≤ 140737488351232) (d : Nat) : ∀ i : Nat, i + d = l.length → ∃ r : Int, Ev (fun k => flotillaref12_At.l0 k l i a b) r ∧ ((r < 0 ∧ (a, b) ∉ (l.drop i).map pr) ∨ ∃ j : Nat, r = j ∧ ∃ h : j < l.length, pr l[j] = (a, b)) := by
  induction d with
  | zero =>
    intro i hi
    rw [List.drop_of_length_le (by omega)]
    refine ⟨-1, Ev.step (f := fun _ => some (-1)) (fun k => ?_) (Ev.now _), .inl ⟨by omega, by simp⟩⟩
    simp only [flotillaref12_At.l0]
    rw [if_neg (by omega)]
  | succ d ih =>
    intro i hi
    have h1 : i < l.length := by omega
    rw [List.drop_eq_getElem_cons h1]
    by_cases he : pr l[i] = (a, b)
    · have he' : ((rd_TGEdge l (i : Int)).f0 == a && (rd_TGEdge l (i : Int)).f1 == b) = true := by
        rw [edge_get l i h1]
        unfold pr at he
        obtain ⟨e1, e2⟩ := Prod.mk.inj he
        simp [e1, e2]
      refine ⟨(i : Int), Ev.step (f := fun _ => some (i : Int)) (fun k => ?_) (Ev.now _), .inr ⟨i, rfl, h1, he⟩⟩
      simp only [flotillaref12_At.l0]
      rw [if_pos (by omega), if_pos (by omega), if_pos he']
    · have he' : ¬ ((rd_TGEdge l (i : Int)).f0 == a && (rd_TGEdge l (i : Int)).f1 == b) = true := by
        rw [edge_get l i h1]
        intro q
        simp only [Bool.and_eq_true, beq_iff_eq] at q
        exact he (by unfold pr; rw [q.1, q.2])
      obtain ⟨r, hr, hc⟩ := ih (i + 1) (by omega)
      refine ⟨r, Ev.step (fun k => ?_) hr, ?_⟩
      · simp only [flotillaref12_At.l0]
        rw [if_pos (by omega), if_pos (by omega), if_neg he', w64' (by omega) (by omega)]
        rfl
      · rcases hc with ⟨h2, h3⟩ | h2
        · exact .inl ⟨h2, by simp only [List.map_cons, List.mem_cons, not_or]; exact ⟨Ne.symm he, h3⟩⟩
        · exact .inr h2
theorem at_calls (w : World) (A : Option Addr) (c : Nat) (l : List SGEdge) (a b : Int) (hA : Kd.C kGEdge w A l.length l) (hc : l.length ≤ c) (hl : l.length ≤ 140737488351232) :
    Calls Try.prog 20 #[.slice A l.length c, .agg #[.int .i64 a, .int .i64 b]] w fun e w' => ∃ r : Int, e = .returned (.int .i64 r) ∧ (r < 0 ↔ (a, b) ∉ l.map pr) ∧ Below w.heap.size w w' := by
  obtain ⟨r, hr, h2⟩ := at_ev l a b hl l.length 0 (by omega)
  obtain ⟨k, h⟩ := hr.rounds
  refine (flotillaref12_At.calls k A c l a b r w hA hc h).mono ?_
  rintro e w' ⟨rfl, hb⟩
  refine ⟨r, rfl, ?_, hb⟩
  rcases h2 with ⟨h3, h4⟩ | ⟨j, rfl, hj, he⟩
  · exact ⟨fun _ => by simpa using h4, fun _ => h3⟩
  · exact ⟨fun q => absurd q (by omega), fun q => absurd (List.mem_map.2 ⟨_, List.getElem_mem hj, he⟩) q⟩
end Go.Proofs.Ytgjjfldfdkoedaa
