/- What the printed small, Rises and Check come to. -/
import Derived.Test.YtaahfokdgfopcaaZFa
import Derived.Test.YtaahfokdgfopcaaZRf3
namespace Go.Proofs.Ytaahfokdgfopcaa
open Go.RowKit Go.Proofs.YtaahfokdgfopcaaW.PrintWords Go.Proofs.YtaahfokdgfopcaaW.PrintLast Go.Proofs.YtaahfokdgfopcaaW.PrintMore
open Rf
set_option linter.unusedVariables false
set_option linter.unusedSimpArgs false
/-- The i-th of some records. -/
abbrev rcd (l : List SGRecord) (i : Nat) : SGRecord := l.getD i zGRecord
theorem rcd_rd (l : List SGRecord) (i : Nat) : rd_TGRecord l (i : Int) = rcd l i := by unfold rd_TGRecord; rw [Int.toNat_natCast]
theorem rcd_mem (l : List SGRecord) (i : Nat) (h : i < l.length) : rcd l i ∈ l := by
  unfold rcd
  rw [List.getD_eq_getElem?_getD, List.getElem?_eq_getElem h]; exact List.getElem_mem h
theorem mem_rcd {l : List SGRecord} {x : SGRecord} (h : x ∈ l) : ∃ i, i < l.length ∧ rcd l i = x := by
  obtain ⟨i, hi, e⟩ := List.mem_iff_getElem.1 h
  exact ⟨i, hi, by unfold rcd; rw [List.getD_eq_getElem?_getD, List.getElem?_eq_getElem hi]; exact e⟩
/-- Do records rise? -/
def Up (l : List SGRecord) : Prop := ∀ i, 0 < i → i < l.length → (rcd l (i - 1)).f1 < (rcd l i).f1
/-- Are records a log? -/
def LogP (l : List SGRecord) : Prop := Up l ∧ ∀ r ∈ l, okR r = true
theorem w64b {x : Int} (h0 : -9223372036854775808 ≤ x) (h1 : x ≤ 9223372036854775807) : wrap64 x = x := by unfold wrap64; omega
theorem rises_loop (l : List SGRecord) (hl : l.length ≤ 1000000000) : ∀ (d i : Nat), i + d = l.length → ∃ b, Ev (fun k => merge_Rises.l0 k l (l.length : Int) i) b ∧ (b = true ↔ ∀ j, i ≤ j → 0 < j → j < l.length → (rcd l (j - 1)).f1 < (rcd l j).f1)
  | 0, i, hi => by
    refine ⟨true, Ev.step (f := fun _ => some true) (fun k => ?_) (Ev.now _), ⟨fun _ j h1 h2 h3 => by omega, fun _ => rfl⟩⟩
    simp only [merge_Rises.l0]
    rw [if_neg (by omega)]
  | d + 1, i, hi => by
    obtain ⟨b, hb, hiff⟩ := rises_loop l hl d (i + 1) (by omega)
    have hn : ((i + 1 : Nat) : Int) = (i : Int) + 1 := by omega
    by_cases h0 : 0 < i
    · have e1 : wrap64 ((i : Int) - 1) = ((i - 1 : Nat) : Int) := by rw [w64b (by omega) (by omega)]; omega
      by_cases hc : (rcd l i).f1 ≤ (rcd l (i - 1)).f1
      · refine ⟨false, Ev.step (f := fun _ => some false) (fun k => ?_) (Ev.now _), ⟨fun h => (by cases h), fun h => by have := h i (Nat.le_refl _) h0 (by omega); omega⟩⟩
        simp only [merge_Rises.l0]
        rw [if_pos (by omega), if_pos (by omega), if_pos (by omega), if_pos (by omega), e1, if_pos (by omega), if_pos (by omega), rcd_rd, rcd_rd, if_pos hc]
      · refine ⟨b, Ev.step (fun k => ?_) hb, hiff.trans ⟨fun h j h1 h2 h3 => ?_, fun h j h1 h2 h3 => h j (by omega) h2 h3⟩⟩
        · simp only [merge_Rises.l0]
          rw [if_pos (by omega), if_pos (by omega), if_pos (by omega), if_pos (by omega), e1, if_pos (by omega), if_pos (by omega), rcd_rd, rcd_rd, if_neg hc, w64b (by omega) (by omega), hn]
        · rcases Nat.eq_or_lt_of_le h1 with rfl | h4
          · omega
          · exact h j h4 h2 h3
    · refine ⟨b, Ev.step (fun k => ?_) hb, hiff.trans ⟨fun h j h1 h2 h3 => h j (by omega) h2 h3, fun h j h1 h2 h3 => h j (by omega) h2 h3⟩⟩
      simp only [merge_Rises.l0]
      rw [if_pos (by omega), if_neg (by omega), w64b (by omega) (by omega), hn]
theorem rises_ev (l : List SGRecord) (hl : l.length ≤ 1000000000) : ∃ b, Ev (fun k => merge_Rises.f k l) b ∧ (b = true ↔ Up l) := by
  obtain ⟨b, h1, h2⟩ := rises_loop l hl l.length 0 (by omega)
  exact ⟨b, h1, h2.trans ⟨fun h j h1 h2 => h j (by omega) h1 h2, fun h j _ h1 h2 => h j h1 h2⟩⟩
theorem chk_ev (r : SGRecord) : Ev (fun k => rec_Check.f k r.f0 r.f1 r.f2 r.f3 r.f4 r.f5 r.f6.f0 r.f6.f1 r.f6.f2 r.f6.f3 r.f7 r.f8) (cde (okR r)) :=
  Ev.of (fun k => rec_Check.mono _ _ _ _ _ _ _ _ _ _ _ _ k) (chk_f r.f0 r.f1 r.f2 r.f3 r.f4 r.f5 r.f6.f0 r.f6.f1 r.f6.f2 r.f6.f3 r.f7 r.f8)
theorem check_loop (l : List SGRecord) (hl : l.length ≤ 1000000000) : ∀ (d i : Nat), i + d = l.length → ∃ n : Int, Ev (fun k => find_Check.l0 k l (l.length : Int) i) n ∧ ((n = 0 ∧ ∀ j, i ≤ j → j < l.length → okR (rcd l j) = true) ∨ (n = 1 ∧ ∃ j, i ≤ j ∧ j < l.length ∧ okR (rcd l j) = false))
  | 0, i, hi => by
    refine ⟨0, Ev.step (f := fun _ => some 0) (fun k => ?_) (Ev.now _), .inl ⟨rfl, fun j h1 h2 => by omega⟩⟩
    simp only [find_Check.l0]
    rw [if_neg (by omega)]
  | d + 1, i, hi => by
    have hn : ((i + 1 : Nat) : Int) = (i : Int) + 1 := by omega
    have hc := chk_ev (rcd l i)
    cases hk : okR (rcd l i) with
    | true =>
      obtain ⟨n, hb, hiff⟩ := check_loop l hl d (i + 1) (by omega)
      refine ⟨n, Ev.step (f := fun k => (rec_Check.f k (rcd l i).f0 (rcd l i).f1 (rcd l i).f2 (rcd l i).f3 (rcd l i).f4 (rcd l i).f5 (rcd l i).f6.f0 (rcd l i).f6.f1 (rcd l i).f6.f2 (rcd l i).f6.f3 (rcd l i).f7 (rcd l i).f8).bind fun t => if t = 0 then find_Check.l0 k l (l.length : Int) ((i + 1 : Nat) : Int) else some 1) (fun k => ?_) (Ev.bind hc ?_), ?_⟩
      · simp only [find_Check.l0]
        rw [if_pos (by omega), if_pos (by omega), if_pos (by omega), w64b (by omega) (by omega), rcd_rd, hn]
      · rw [hk]
        show Ev (fun k => if (0 : Int) = 0 then _ else _) n
        simp only [if_true]
        exact hb
      · rcases hiff with ⟨h1, h2⟩ | ⟨h1, j, h2, h3, h4⟩
        · refine .inl ⟨h1, fun j h3 h4 => ?_⟩
          rcases Nat.eq_or_lt_of_le h3 with rfl | h5
          · exact hk
          · exact h2 j h5 h4
        · exact .inr ⟨h1, j, by omega, h3, h4⟩
    | false =>
      refine ⟨1, Ev.step (f := fun k => (rec_Check.f k (rcd l i).f0 (rcd l i).f1 (rcd l i).f2 (rcd l i).f3 (rcd l i).f4 (rcd l i).f5 (rcd l i).f6.f0 (rcd l i).f6.f1 (rcd l i).f6.f2 (rcd l i).f6.f3 (rcd l i).f7 (rcd l i).f8).bind fun t => if t = 0 then find_Check.l0 k l (l.length : Int) ((i + 1 : Nat) : Int) else some 1) (fun k => ?_) (Ev.bind hc ?_), .inr ⟨rfl, i, Nat.le_refl _, by omega, hk⟩⟩
      · simp only [find_Check.l0]
        rw [if_pos (by omega), if_pos (by omega), if_pos (by omega), w64b (by omega) (by omega), rcd_rd, hn]
      · rw [hk]
        show Ev (fun k => if (1 : Int) = 0 then _ else _) 1
        simp only [if_neg (show ¬ (1 : Int) = 0 by omega)]
        exact Ev.now _
theorem check_ev (l : List SGRecord) (hl : l.length ≤ 1000000000) : ∃ n : Int, Ev (fun k => find_Check.f k l) n ∧ ((n = 0 ∧ LogP l) ∨ (n = 1 ∧ ¬ LogP l)) := by
  obtain ⟨b, hb, hiff⟩ := rises_ev l hl
  unfold find_Check.f
  cases b with
  | false =>
    refine ⟨1, Ev.bind hb ?_, .inr ⟨rfl, fun h => by have := hiff.2 h.1; cases this⟩⟩
    simp only [if_neg (show ¬ false = true by decide)]
    exact Ev.now _
  | true =>
    obtain ⟨n, h1, h2⟩ := check_loop l hl l.length 0 (by omega)
    refine ⟨n, Ev.bind hb ?_, ?_⟩
    · simp only [if_true]
      exact h1
    · rcases h2 with ⟨h3, h4⟩ | ⟨h3, j, h4, h5, h6⟩
      · refine .inl ⟨h3, hiff.1 rfl, fun r hr => ?_⟩
        obtain ⟨i, hi, rfl⟩ := mem_rcd hr
        exact h4 i (by omega) hi
      · refine .inr ⟨h3, fun h => ?_⟩
        have := h.2 _ (rcd_mem l j h5)
        rw [h6] at this; cases this
/-- find's Check. -/
theorem fcheck_calls (w : World) (l : List SGRecord) (A : Option Addr) (c : Nat) (hC : Kd.C kGRecord w A l.length l) (hc : l.length ≤ c) (hl : l.length ≤ 1000000000) :
    Calls Try.prog 18 #[.slice A l.length c] w fun e w' => ∃ n : Int, e = .returned (.int .i64 n) ∧ ((n = 0 ∧ LogP l) ∨ (n = 1 ∧ ¬ LogP l)) ∧ Below w.heap.size w w' := by
  obtain ⟨n, hn, hP⟩ := check_ev l hl
  obtain ⟨k, hk⟩ := hn.rounds
  refine (find_Check.calls k A c l n w hC hc hk).mono ?_
  rintro e w' ⟨rfl, hb⟩
  exact ⟨n, rfl, hP, hb⟩
theorem small_loop (l : List SGRecord) (hl : l.length ≤ 140737488351232) (hx : ∀ r ∈ l, r.f7.length ≤ 140737488351232 ∧ r.f8.length ≤ 140737488351232) : ∀ (d i : Nat) (n : Int), i + d = l.length → (i : Int) ≤ n → n ≤ 300000000000000 → ∃ b, Ev (fun k => flotillalaw18_small.l0 k l n i) b ∧ (b = true → l.length ≤ 300)
  | 0, i, n, hi, h1, h2 => by
    refine ⟨decide (n ≤ 300), Ev.step (f := fun _ => some (decide (n ≤ 300))) (fun k => ?_) (Ev.now _), fun h => by have := of_decide_eq_true h; omega⟩
    simp only [flotillalaw18_small.l0]
    rw [if_neg (by omega)]
  | d + 1, i, n, hi, h1, h2 => by
    have hn : ((i + 1 : Nat) : Int) = (i : Int) + 1 := by omega
    by_cases h3 : n ≤ 300
    · have hm := hx _ (rcd_mem l i (by omega))
      obtain ⟨b, hb, hiff⟩ := small_loop l hl hx d (i + 1) (n + 1 + ((rcd l i).f7.length : Int) + ((rcd l i).f8.length : Int)) (by omega) (by omega) (by omega)
      refine ⟨b, Ev.step (fun k => ?_) hb, hiff⟩
      simp only [flotillalaw18_small.l0]
      rw [if_pos (by omega), if_pos h3, if_pos (by omega), rcd_rd, w64b (x := n + 1) (by omega) (by omega), w64b (x := n + 1 + _) (by omega) (by omega), w64b (x := n + 1 + _ + _) (by omega) (by omega), w64b (x := (i : Int) + 1) (by omega) (by omega), hn]
    · refine ⟨decide (n ≤ 300), Ev.step (f := fun _ => some (decide (n ≤ 300))) (fun k => ?_) (Ev.now _), fun h => absurd (of_decide_eq_true h) h3⟩
      simp only [flotillalaw18_small.l0]
      rw [if_pos (by omega), if_neg h3]
/-- The law's small. -/
theorem small_calls (w : World) (l : List SGRecord) (A : Option Addr) (c : Nat) (hC : Kd.C kGRecord w A l.length l) (hc : l.length ≤ c) (hl : l.length ≤ 140737488351232) (hx : ∀ r ∈ l, Okx r) :
    Calls Try.prog 8 #[.slice A l.length c] w fun e w' => ∃ b, e = .returned (.bool b) ∧ (b = true → l.length ≤ 300) ∧ Below w.heap.size w w' := by
  obtain ⟨b, hb, hP⟩ := small_loop l hl (fun r hr => ⟨(hx r hr).nl, (hx r hr).nm⟩) l.length 0 0 (by omega) (by omega) (by omega)
  obtain ⟨k, hk⟩ := hb.rounds
  refine (flotillalaw18_small.calls k A c l b w hC hc hk).mono ?_
  rintro e w' ⟨rfl, hd⟩
  exact ⟨b, rfl, hP, hd.below⟩
end Go.Proofs.Ytaahfokdgfopcaa
