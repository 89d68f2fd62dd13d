/- PLAIN: the document's May, Log, Find, Next as they come to. -/
import Derived.Test.YtaahfokdgfopcaaZFc
import Derived.Test.YtaahfokdgfopcaaZFo
import Derived.Test.YtaahfokdgfopcaaZRf7
namespace Go.Proofs.Ytaahfokdgfopcaa
open Go.RowKit Go.Proofs.YtaahfokdgfopcaaW.PrintWords Go.Proofs.YtaahfokdgfopcaaW.PrintLast Go.Proofs.YtaahfokdgfopcaaW.PrintMore
open Rf
set_option linter.unusedVariables false
set_option linter.unusedSimpArgs false
theorem rnum_f (x : Int) : flotillaref05_Numbered.f x = some (numB x) := by
  unfold flotillaref05_Numbered.f numB
  by_cases h : x ≥ 16
  · rw [if_pos h]; congr 1; simp; omega
  · rw [if_neg h]; congr 1; simp; omega
theorem ract_f (ak : Int) (a b c : ByteArray) : flotillaref05_ActMay.f ak a b c = some (mayAB ak a b c) := by
  have e : ∀ s : ByteArray, (s.toList = ([] : List UInt8)) ↔ nilB s = true := fun s => by unfold nilB; simp
  unfold flotillaref05_ActMay.f mayAB
  by_cases h1 : (a.size : Int) < 1
  · rw [if_pos h1, decide_eq_false (show ¬ 1 ≤ a.size by omega)]; rfl
  · rw [if_neg h1, decide_eq_true (show 1 ≤ a.size by omega)]
    by_cases h2 : (a.size : Int) > 16
    · rw [if_pos h2, decide_eq_false (show ¬ a.size ≤ 16 by omega)]; rfl
    · rw [if_neg h2, decide_eq_true (show a.size ≤ 16 by omega)]
      by_cases h3 : (b.size : Int) > 32
      · rw [if_pos h3, decide_eq_false (show ¬ b.size ≤ 32 by omega)]; rfl
      · rw [if_neg h3, decide_eq_true (show b.size ≤ 32 by omega)]
        by_cases h4 : (c.size : Int) > 32
        · rw [if_pos h4, decide_eq_false (show ¬ c.size ≤ 32 by omega)]; rfl
        · rw [if_neg h4, decide_eq_true (show c.size ≤ 32 by omega)]
          by_cases k1 : ak = 1
          · subst k1
            rw [if_pos rfl, if_pos rfl]
            by_cases hb : b.toList = ([] : List UInt8)
            · rw [if_pos hb, (e b).1 hb]; rfl
            · rw [if_neg hb, if_neg (by omega), if_neg (by omega)]
              have : nilB b = false := by
                cases hn : nilB b with
                | false => rfl
                | true => exact absurd ((e b).2 hn) hb
              rw [this]; rfl
          · rw [if_neg k1, if_neg k1]
            by_cases k2 : ak = 2
            · rw [if_pos k2, if_pos k2]; rfl
            · rw [if_neg k2, if_neg k2]
              by_cases k3 : ak = 3
              · rw [if_pos k3, if_pos k3]; rfl
              · rw [if_neg k3, if_neg k3]; rfl
section
variable (a0 a1 a2 a3 a4 a5 a6 : Int) (a7 a8 a9 : ByteArray) (l : List SGTxn) (m : List SGDirty)
theorem rows_l1 (hm : m.length ≤ 1000000000) : ∀ (d i : Nat), i + d = m.length → ∃ b, Ev (fun k => flotillaref05_Rows.l1 k i a0 a1 a2 a3 a4 a5 a6 a7 a8 a9 l m) b ∧ (b = true ↔ ∀ j, i ≤ j → j < m.length → dOk m j = true)
  | 0, i, hi => by
    refine ⟨true, Ev.step (f := fun _ => some true) (fun k => ?_) (Ev.now _), ⟨fun _ j h1 h2 => by omega, fun _ => rfl⟩⟩
    simp only [flotillaref05_Rows.l1]
    rw [if_neg (by omega)]
  | d + 1, i, hi => by
    obtain ⟨b, hb, hiff⟩ := rows_l1 hm d (i + 1) (by omega)
    have hn : ((i + 1 : Nat) : Int) = (i : Int) + 1 := by omega
    have bad : dOk m i = false → (false = true ↔ ∀ j, i ≤ j → j < m.length → dOk m j = true) := fun h => ⟨fun q => (by cases q), fun q => by have := q i (Nat.le_refl _) (by omega); rw [h] at this; cases this⟩
    have hd : dOk m i = (pageB (rd_TGDirty m i).f0 && numB (rd_TGDirty m i).f1 && (decide (i = 0) || decide ((rd_TGDirty m (i - 1 : Nat)).f0 < (rd_TGDirty m i).f0))) := rfl
    have yes : Ev (fun k => flotillaref05_Rows.j4 k i true a0 a1 a2 a3 a4 a5 a6 a7 a8 a9 l m (rd_TGDirty m i).f0 (rd_TGDirty m i).f1) false := Ev.step (f := fun _ => some false) (fun k => by simp only [flotillaref05_Rows.j4]; rw [if_pos trivial]) (Ev.now _)
    by_cases h1 : (rd_TGDirty m (i : Int)).f0 < 0
    · refine ⟨false, Ev.step (fun k => ?_) yes, bad (by rw [hd]; unfold pageB; rw [decide_eq_false (by omega)]; rfl)⟩
      simp only [flotillaref05_Rows.l1]
      rw [if_pos (by omega), if_pos (by omega), if_pos h1]
    · by_cases h2 : (rd_TGDirty m (i : Int)).f0 > 15
      · refine ⟨false, Ev.step (fun k => ?_) yes, bad (by rw [hd]; unfold pageB; rw [decide_eq_false (by omega)]; rfl)⟩
        simp only [flotillaref05_Rows.l1]
        rw [if_pos (by omega), if_pos (by omega), if_neg h1, if_pos h2]
      · have hpg : pageB (rd_TGDirty m (i : Int)).f0 = true := by unfold pageB; rw [decide_eq_true (by omega)]
        cases hq : numB (rd_TGDirty m (i : Int)).f1 with
        | false =>
          refine ⟨false, Ev.step (fun k => ?_) yes, bad (by rw [hd, hq, hpg]; rfl)⟩
          simp only [flotillaref05_Rows.l1]
          rw [if_pos (by omega), if_pos (by omega), if_neg h1, if_neg h2, rnum_f, hq, Option.bind_some]
          rfl
        | true =>
          by_cases h0 : 0 < i
          · have e1 : wrap64 ((i : Int) - 1) = ((i - 1 : Nat) : Int) := by rw [w64b (by omega) (by omega)]; omega
            by_cases hc : (rd_TGDirty m ((i - 1 : Nat) : Int)).f0 ≥ (rd_TGDirty m (i : Int)).f0
            · refine ⟨false, Ev.step (f := fun k => flotillaref05_Rows.j4 k i false a0 a1 a2 a3 a4 a5 a6 a7 a8 a9 l m (rd_TGDirty m i).f0 (rd_TGDirty m i).f1) (fun k => ?_) (Ev.step (f := fun _ => some false) (fun k => ?_) (Ev.now _)), bad (by rw [hd, hq, hpg, decide_eq_false (by omega), decide_eq_false (by omega)]; rfl)⟩
              · simp only [flotillaref05_Rows.l1]
                rw [if_pos (by omega), if_pos (by omega), if_neg h1, if_neg h2, rnum_f, hq, Option.bind_some]
                rfl
              · simp only [flotillaref05_Rows.j4]
                rw [if_neg (by decide), if_pos (by omega), e1, if_pos (by omega), if_pos (by omega), if_pos hc]
            · have hdt : dOk m i = true := by rw [hd, hq, hpg, decide_eq_true (p := (rd_TGDirty m ((i - 1 : Nat) : Int)).f0 < (rd_TGDirty m (i : Int)).f0) (by omega)]; simp
              refine ⟨b, Ev.step (f := fun k => flotillaref05_Rows.j4 k i false a0 a1 a2 a3 a4 a5 a6 a7 a8 a9 l m (rd_TGDirty m i).f0 (rd_TGDirty m i).f1) (fun k => ?_) (Ev.step (fun k => ?_) hb), hiff.trans ⟨fun h j h3 h4 => ?_, fun h j h3 h4 => h j (by omega) h4⟩⟩
              · simp only [flotillaref05_Rows.l1]
                rw [if_pos (by omega), if_pos (by omega), if_neg h1, if_neg h2, rnum_f, hq, Option.bind_some]
                rfl
              · simp only [flotillaref05_Rows.j4]
                rw [if_neg (by decide), if_pos (by omega), e1, if_pos (by omega), if_pos (by omega), if_neg hc, w64b (by omega) (by omega), hn]
              · rcases Nat.eq_or_lt_of_le h3 with rfl | h5
                · exact hdt
                · exact h j h5 h4
          · have hdt : dOk m i = true := by rw [hd, hq, hpg, decide_eq_true (show i = 0 by omega)]; rfl
            refine ⟨b, Ev.step (f := fun k => flotillaref05_Rows.j4 k i false a0 a1 a2 a3 a4 a5 a6 a7 a8 a9 l m (rd_TGDirty m i).f0 (rd_TGDirty m i).f1) (fun k => ?_) (Ev.step (fun k => ?_) hb), hiff.trans ⟨fun h j h3 h4 => ?_, fun h j h3 h4 => h j (by omega) h4⟩⟩
            · simp only [flotillaref05_Rows.l1]
              rw [if_pos (by omega), if_pos (by omega), if_neg h1, if_neg h2, rnum_f, hq, Option.bind_some]
              rfl
            · simp only [flotillaref05_Rows.j4]
              rw [if_neg (by decide), if_neg (by omega), w64b (by omega) (by omega), hn]
            · rcases Nat.eq_or_lt_of_le h3 with rfl | h5
              · exact hdt
              · exact h j h5 h4
theorem rows_l0 (hl : l.length ≤ 1000000000) (hm : m.length ≤ 1000000000) : ∀ (d i : Nat), i + d = l.length → ∃ b, Ev (fun k => flotillaref05_Rows.l0 k i a0 a1 a2 a3 a4 a5 a6 a7 a8 a9 l m) b ∧ (b = true ↔ (∀ j, i ≤ j → j < l.length → tOk l j = true) ∧ ∀ j, j < m.length → dOk m j = true)
  | 0, i, hi => by
    obtain ⟨b, hb, hiff⟩ := rows_l1 a0 a1 a2 a3 a4 a5 a6 a7 a8 a9 l m hm m.length 0 (by omega)
    refine ⟨b, Ev.step (fun k => ?_) hb, hiff.trans ⟨fun h => ⟨fun j h1 h2 => by omega, fun j h1 => h j (by omega) h1⟩, fun h j _ h1 => h.2 j h1⟩⟩
    simp only [flotillaref05_Rows.l0]
    rw [if_neg (by omega)]
    rfl
  | d + 1, i, hi => by
    obtain ⟨b, hb, hiff⟩ := rows_l0 hl hm d (i + 1) (by omega)
    have hn : ((i + 1 : Nat) : Int) = (i : Int) + 1 := by omega
    have bad : tOk l i = false → (false = true ↔ (∀ j, i ≤ j → j < l.length → tOk l j = true) ∧ ∀ j, j < m.length → dOk m j = true) := fun h => ⟨fun q => (by cases q), fun q => by have := q.1 i (Nat.le_refl _) (by omega); rw [h] at this; cases this⟩
    have good : tOk l i = true → (b = true ↔ (∀ j, i ≤ j → j < l.length → tOk l j = true) ∧ ∀ j, j < m.length → dOk m j = true) := fun ht => hiff.trans ⟨fun h => ⟨fun j h3 h4 => by
      rcases Nat.eq_or_lt_of_le h3 with rfl | h5
      · exact ht
      · exact h.1 j h5 h4, h.2⟩, fun h => ⟨fun j h3 h4 => h.1 j (by omega) h4, h.2⟩⟩
    have hd : tOk l i = (txnB (rd_TGTxn l i).f0 && decide (0 ≤ (rd_TGTxn l i).f1) && decide ((rd_TGTxn l i).f1 < 3) && numB (rd_TGTxn l i).f2 && (decide (i = 0) || decide ((rd_TGTxn l (i - 1 : Nat)).f0 < (rd_TGTxn l i).f0))) := rfl
    have yes : Ev (fun k => flotillaref05_Rows.j2 k i true a0 a1 a2 a3 a4 a5 a6 a7 a8 a9 l m (rd_TGTxn l i).f0 (rd_TGTxn l i).f1 (rd_TGTxn l i).f2) false := Ev.step (f := fun _ => some false) (fun k => by simp only [flotillaref05_Rows.j2]; rw [if_pos trivial]) (Ev.now _)
    by_cases h1 : (rd_TGTxn l (i : Int)).f0 < 1
    · refine ⟨false, Ev.step (fun k => ?_) yes, bad (by rw [hd]; unfold txnB; rw [decide_eq_false (by omega)]; rfl)⟩
      simp only [flotillaref05_Rows.l0]
      rw [if_pos (by omega), if_pos (by omega), if_pos h1]
    · by_cases h2 : (rd_TGTxn l (i : Int)).f0 > 1073741824
      · refine ⟨false, Ev.step (fun k => ?_) yes, bad (by rw [hd]; unfold txnB; rw [decide_eq_false (by omega)]; rfl)⟩
        simp only [flotillaref05_Rows.l0]
        rw [if_pos (by omega), if_pos (by omega), if_neg h1, if_pos h2]
      · have htx : txnB (rd_TGTxn l (i : Int)).f0 = true := by unfold txnB; rw [decide_eq_true (by omega)]
        by_cases h3 : (rd_TGTxn l (i : Int)).f1 < 0
        · refine ⟨false, Ev.step (fun k => ?_) yes, bad (by rw [hd, htx, decide_eq_false (show ¬ 0 ≤ (rd_TGTxn l (i : Int)).f1 by omega)]; rfl)⟩
          simp only [flotillaref05_Rows.l0]
          rw [if_pos (by omega), if_pos (by omega), if_neg h1, if_neg h2, if_pos h3]
        · by_cases h4 : (rd_TGTxn l (i : Int)).f1 > 2
          · refine ⟨false, Ev.step (fun k => ?_) yes, bad (by rw [hd, htx, decide_eq_true (show 0 ≤ (rd_TGTxn l (i : Int)).f1 by omega), decide_eq_false (show ¬ (rd_TGTxn l (i : Int)).f1 < 3 by omega)]; rfl)⟩
            simp only [flotillaref05_Rows.l0]
            rw [if_pos (by omega), if_pos (by omega), if_neg h1, if_neg h2, if_neg h3, if_pos h4]
          · have hs0 : decide (0 ≤ (rd_TGTxn l (i : Int)).f1) = true := decide_eq_true (by omega)
            have hs1 : decide ((rd_TGTxn l (i : Int)).f1 < 3) = true := decide_eq_true (by omega)
            have via : ∀ q, numB (rd_TGTxn l (i : Int)).f2 = q → ∀ k, flotillaref05_Rows.l0 (k + 1) i a0 a1 a2 a3 a4 a5 a6 a7 a8 a9 l m = flotillaref05_Rows.j2 k i (!q) a0 a1 a2 a3 a4 a5 a6 a7 a8 a9 l m (rd_TGTxn l i).f0 (rd_TGTxn l i).f1 (rd_TGTxn l i).f2 := fun q hq k => by
              simp only [flotillaref05_Rows.l0]
              rw [if_pos (by omega), if_pos (by omega), if_neg h1, if_neg h2, if_neg h3, if_neg h4, rnum_f, hq, Option.bind_some]
            cases hq : numB (rd_TGTxn l (i : Int)).f2 with
            | false => exact ⟨false, Ev.step (via _ hq) yes, bad (by rw [hd, htx, hs0, hs1, hq]; rfl)⟩
            | true =>
              by_cases h0 : 0 < i
              · have e1 : wrap64 ((i : Int) - 1) = ((i - 1 : Nat) : Int) := by rw [w64b (by omega) (by omega)]; omega
                by_cases hc : (rd_TGTxn l ((i - 1 : Nat) : Int)).f0 ≥ (rd_TGTxn l (i : Int)).f0
                · refine ⟨false, Ev.step (via _ hq) (Ev.step (f := fun _ => some false) (fun k => ?_) (Ev.now _)), bad (by rw [hd, htx, hs0, hs1, hq, decide_eq_false (show ¬ i = 0 by omega), decide_eq_false (show ¬ (rd_TGTxn l ((i - 1 : Nat) : Int)).f0 < (rd_TGTxn l (i : Int)).f0 by omega)]; rfl)⟩
                  simp only [flotillaref05_Rows.j2]
                  rw [if_neg (by decide), if_pos (by omega), e1, if_pos (by omega), if_pos (by omega), if_pos hc]
                · refine ⟨b, Ev.step (via _ hq) (Ev.step (fun k => ?_) hb), good (by rw [hd, htx, hs0, hs1, hq, decide_eq_true (show (rd_TGTxn l ((i - 1 : Nat) : Int)).f0 < (rd_TGTxn l (i : Int)).f0 by omega)]; simp)⟩
                  simp only [flotillaref05_Rows.j2]
                  rw [if_neg (by decide), if_pos (by omega), e1, if_pos (by omega), if_pos (by omega), if_neg hc, w64b (by omega) (by omega), hn]
              · refine ⟨b, Ev.step (via _ hq) (Ev.step (fun k => ?_) hb), good (by rw [hd, htx, hs0, hs1, hq, decide_eq_true (show i = 0 by omega)]; rfl)⟩
                simp only [flotillaref05_Rows.j2]
                rw [if_neg (by decide), if_neg (by omega), w64b (by omega) (by omega), hn]
theorem rows_ev (hl : l.length ≤ 140737488351232) (hm : m.length ≤ 140737488351232) : Ev (fun k => flotillaref05_Rows.f k a0 a1 a2 a3 a4 a5 a6 a7 a8 a9 l m) (tabOk l m) := by
  have yes : Ev (fun k => flotillaref05_Rows.j0 k true a0 a1 a2 a3 a4 a5 a6 a7 a8 a9 l m) false := Ev.step (f := fun _ => some false) (fun k => by simp only [flotillaref05_Rows.j0]; rw [if_pos trivial]) (Ev.now _)
  unfold flotillaref05_Rows.f
  by_cases h1 : (l.length : Int) > 64
  · simp only [if_pos h1]
    rw [show tabOk l m = false from by unfold tabOk; rw [decide_eq_false (by omega)]; rfl]
    exact yes
  · simp only [if_neg h1]
    by_cases h2 : (m.length : Int) > 16
    · rw [decide_eq_true h2, show tabOk l m = false from by unfold tabOk; rw [decide_eq_true (by omega), decide_eq_false (by omega)]; rfl]
      exact yes
    · rw [decide_eq_false h2]
      obtain ⟨b, hb, hiff⟩ := rows_l0 a0 a1 a2 a3 a4 a5 a6 a7 a8 a9 l m (by omega) (by omega) l.length 0 (by omega)
      have hbt : b = tabOk l m := by
        rw [Bool.eq_iff_iff, hiff]
        unfold tabOk
        rw [decide_eq_true (by omega), decide_eq_true (by omega)]
        simp only [Bool.true_and, Bool.and_eq_true, List.all_eq_true, List.mem_range]
        exact ⟨fun h => ⟨fun x hx => h.1 x (by omega) hx, h.2⟩, fun h => ⟨fun j _ hj => h.1 j hj, h.2⟩⟩
      rw [← hbt]
      exact Ev.step (fun k => by simp only [flotillaref05_Rows.j0]; rw [if_neg (by decide)]; rfl) hb
theorem may_ev (hl : l.length ≤ 140737488351232) (hm : m.length ≤ 140737488351232) : Ev (fun k => flotillaref05_May.f k a0 a1 a2 a3 a4 a5 a6 a7 a8 a9 l m) (recOk a0 a1 a2 a3 a4 a5 a6 a7 a8 a9 l m) := by
  have yes : Ev (fun k => flotillaref05_May.j0 k true a0 a1 a2 a3 a4 a5 a6 a7 a8 a9 l m) false := Ev.step (f := fun _ => some false) (fun k => by simp only [flotillaref05_May.j0]; rw [if_pos trivial]) (Ev.now _)
  have fl : ∀ x : Int, wrap64 x = x ∨ True := fun _ => .inr trivial
  have tail : ∀ q : Bool, q = (decide (a0 = 8) || decide (l.length = 0) && decide (m.length = 0)) → Ev (fun k => if a0 = 8 then (flotillaref05_Rows.f k a0 a1 a2 a3 a4 a5 a6 a7 a8 a9 l m).bind fun t => some t else if wrap64 ((l.length : Int) + (m.length : Int)) > 0 then some false else (flotillaref05_Rows.f k a0 a1 a2 a3 a4 a5 a6 a7 a8 a9 l m).bind fun t => some t) (q && tabOk l m) := fun q hq => by
    have hr := rows_ev a0 a1 a2 a3 a4 a5 a6 a7 a8 a9 l m hl hm
    subst hq
    by_cases h8 : a0 = 8
    · simp only [if_pos h8]
      rw [decide_eq_true h8]
      exact Ev.bind hr (Ev.now _)
    · simp only [if_neg h8]
      rw [decide_eq_false h8, w64b (by omega) (by omega)]
      by_cases hz : l.length = 0 ∧ m.length = 0
      · simp only [if_neg (show ¬ (l.length : Int) + (m.length : Int) > 0 by omega)]
        rw [decide_eq_true hz.1, decide_eq_true hz.2]
        exact Ev.bind hr (Ev.now _)
      · simp only [if_pos (show (l.length : Int) + (m.length : Int) > 0 by omega)]
        have : (false || decide (l.length = 0) && decide (m.length = 0)) = false := by
          simp only [Bool.false_or, Bool.and_eq_false_iff, decide_eq_false_iff_not]
          omega
        rw [this]
        exact Ev.now _
  have t4 : ∀ z : Bool, Ev (fun k => flotillaref05_May.j4 k z a0 a1 a2 a3 a4 a5 a6 a7 a8 a9 l m) (!z && (decide (a0 = 8) || decide (l.length = 0) && decide (m.length = 0)) && tabOk l m) := fun z => by
    cases z with
    | true => exact Ev.step (f := fun _ => some false) (fun k => by simp only [flotillaref05_May.j4]; rw [if_pos trivial]) (Ev.now _)
    | false => exact Ev.step (fun k => by simp only [flotillaref05_May.j4]; rw [if_neg (by decide)]) (tail _ rfl)
  have t5 : ∀ z : Bool, Ev (fun k => flotillaref05_May.j5 k z a0 a1 a2 a3 a4 a5 a6 a7 a8 a9 l m) (!z && (decide (a0 = 8) || decide (l.length = 0) && decide (m.length = 0)) && tabOk l m) := fun z => by
    cases z with
    | true => exact Ev.step (f := fun _ => some false) (fun k => by simp only [flotillaref05_May.j5]; rw [if_pos trivial]) (Ev.now _)
    | false => exact Ev.step (fun k => by simp only [flotillaref05_May.j5]; rw [if_neg (by decide)]) (tail _ rfl)
  have t3 : Ev (fun k => flotillaref05_May.j3 k (decide (a0 = 7 ∨ a0 = 8)) a0 a1 a2 a3 a4 a5 a6 a7 a8 a9 l m) ((if a0 = 7 ∨ a0 = 8 then decide (a2 = 0) && (a3 == 0) else txnB a2) && (decide (a0 = 8) || decide (l.length = 0) && decide (m.length = 0)) && tabOk l m) := by
    by_cases hp : a0 = 7 ∨ a0 = 8
    · rw [decide_eq_true hp, if_pos hp]
      by_cases h2 : a2 = 0
      · have h := t4 (a3 != 0)
        rw [show (!(a3 != 0)) = (decide (a2 = 0) && (a3 == 0)) from by rw [decide_eq_true h2]; simp [bne]] at h
        exact Ev.step (fun k => by simp only [flotillaref05_May.j3]; rw [if_pos trivial, if_pos h2]) h
      · have h := t4 true
        rw [decide_eq_false h2]
        exact Ev.step (fun k => by simp only [flotillaref05_May.j3]; rw [if_pos trivial, if_neg h2]) h
    · rw [decide_eq_false hp, if_neg hp]
      unfold txnB
      by_cases h2 : a2 < 1
      · have h := t5 true
        rw [decide_eq_false (show ¬ (1 ≤ a2 ∧ a2 ≤ 1073741824) by omega)]
        exact Ev.step (fun k => by simp only [flotillaref05_May.j3]; rw [if_neg (by decide), if_pos h2]) h
      · have h := t5 (decide (a2 > 1073741824))
        rw [show (!decide (a2 > 1073741824)) = decide (1 ≤ a2 ∧ a2 ≤ 1073741824) from by rw [Bool.eq_iff_iff]; simp; omega] at h
        exact Ev.step (fun k => by simp only [flotillaref05_May.j3]; rw [if_neg (by decide), if_neg h2]) h
  have t2 : ∀ z : Bool, Ev (fun k => flotillaref05_May.j2 k z a0 a1 a2 a3 a4 a5 a6 a7 a8 a9 l m) (!z && ((if a0 = 7 ∨ a0 = 8 then decide (a2 = 0) && (a3 == 0) else txnB a2) && (decide (a0 = 8) || decide (l.length = 0) && decide (m.length = 0)) && tabOk l m)) := fun z => by
    cases z with
    | true => exact Ev.step (f := fun _ => some false) (fun k => by simp only [flotillaref05_May.j2]; rw [if_pos trivial]) (Ev.now _)
    | false =>
      by_cases h7 : a0 = 7
      · rw [decide_eq_true (Or.inl h7)] at t3
        exact Ev.step (fun k => by simp only [flotillaref05_May.j2]; rw [if_neg (by decide), if_pos h7]) t3
      · rw [show decide (a0 = 7 ∨ a0 = 8) = (a0 == 8) from by rw [Bool.eq_iff_iff]; simp [h7]] at t3
        exact Ev.step (fun k => by simp only [flotillaref05_May.j2]; rw [if_neg (by decide), if_neg h7]) t3
  have t1 : Ev (fun k => flotillaref05_May.j1 k a0 a1 a2 a3 a4 a5 a6 a7 a8 a9 l m) ((decide (a0 = 2) || decide (a4 = 0)) && ((if a0 = 7 ∨ a0 = 8 then decide (a2 = 0) && (a3 == 0) else txnB a2) && (decide (a0 = 8) || decide (l.length = 0) && decide (m.length = 0)) && tabOk l m)) := by
    by_cases h2 : a0 = 2
    · have h := t2 false
      rw [decide_eq_true h2]
      exact Ev.step (fun k => by simp only [flotillaref05_May.j1]; rw [if_pos h2]) h
    · have h := t2 (a4 != 0)
      rw [show (!(a4 != 0)) = (decide (a0 = 2) || decide (a4 = 0)) from by
        rw [decide_eq_false h2]
        by_cases h4 : a4 = 0
        · simp [h4]
        · simp [h4]] at h
      exact Ev.step (fun k => by simp only [flotillaref05_May.j1]; rw [if_neg h2]) h
  have t0 : ∀ z : Bool, Ev (fun k => flotillaref05_May.j0 k z a0 a1 a2 a3 a4 a5 a6 a7 a8 a9 l m) (!z && ((if a0 = 1 ∨ a0 = 2 then pageB a5 && mayAB a6 a7 a8 a9 else decide (a5 = 0) && (a6 == 0 && (nilB a7 && (nilB a8 && nilB a9)))) && ((decide (a0 = 2) || decide (a4 = 0)) && ((if a0 = 7 ∨ a0 = 8 then decide (a2 = 0) && (a3 == 0) else txnB a2) && (decide (a0 = 8) || decide (l.length = 0) && decide (m.length = 0)) && tabOk l m)))) := fun z => by
    cases z with
    | true => exact yes
    | false =>
      have hch : flotillaref05_Changes.f a0 = some (decide (a0 = 1 ∨ a0 = 2)) := by
        unfold flotillaref05_Changes.f
        by_cases h : a0 = 1
        · rw [if_pos h]; simp [h]
        · rw [if_neg h]; congr 1; rw [Bool.eq_iff_iff]; simp [h]
      by_cases hk : a0 = 1 ∨ a0 = 2
      · rw [if_pos hk]
        by_cases h5 : a5 < 0
        · rw [show pageB a5 = false from by unfold pageB; rw [decide_eq_false (by omega)]]
          exact Ev.step (f := fun _ => some false) (fun k => by simp only [flotillaref05_May.j0]; rw [if_neg (by decide), hch, decide_eq_true hk, Option.bind_some, if_pos rfl, if_pos h5]) (Ev.now _)
        · by_cases h6 : a5 > 15
          · rw [show pageB a5 = false from by unfold pageB; rw [decide_eq_false (by omega)]]
            exact Ev.step (f := fun _ => some false) (fun k => by simp only [flotillaref05_May.j0]; rw [if_neg (by decide), hch, decide_eq_true hk, Option.bind_some, if_pos rfl, if_neg h5, if_pos h6]) (Ev.now _)
          · rw [show pageB a5 = true from by unfold pageB; rw [decide_eq_true (by omega)]]
            cases hq : mayAB a6 a7 a8 a9 with
            | false => exact Ev.step (f := fun _ => some false) (fun k => by simp only [flotillaref05_May.j0]; rw [if_neg (by decide), hch, decide_eq_true hk, Option.bind_some, if_pos rfl, if_neg h5, if_neg h6, ract_f, hq, Option.bind_some, if_neg (by decide)]) (Ev.now _)
            | true => exact Ev.step (fun k => by simp only [flotillaref05_May.j0]; rw [if_neg (by decide), hch, decide_eq_true hk, Option.bind_some, if_pos rfl, if_neg h5, if_neg h6, ract_f, hq, Option.bind_some, if_pos rfl]) t1
      · rw [if_neg hk]
        by_cases h5 : a5 = 0
        · rw [decide_eq_true h5]
          have hx : (!(a6 == 0) || (!(a7.toList == ([] : List UInt8)) || (!(a8.toList == ([] : List UInt8)) || (!(a9.toList == ([] : List UInt8)))))) = !(a6 == 0 && (nilB a7 && (nilB a8 && nilB a9))) := by unfold nilB; simp only [Bool.not_and]
          cases hq : (a6 == 0 && (nilB a7 && (nilB a8 && nilB a9))) with
          | false => exact Ev.step (f := fun _ => some false) (fun k => by simp only [flotillaref05_May.j0]; rw [if_neg (by decide), hch, decide_eq_false hk, Option.bind_some, if_neg (by decide), if_pos h5, hx, hq, if_pos (by decide)]) (Ev.now _)
          | true => exact Ev.step (fun k => by simp only [flotillaref05_May.j0]; rw [if_neg (by decide), hch, decide_eq_false hk, Option.bind_some, if_neg (by decide), if_pos h5, hx, hq, if_neg (by decide)]) t1
        · rw [decide_eq_false h5]
          exact Ev.step (f := fun _ => some false) (fun k => by simp only [flotillaref05_May.j0]; rw [if_neg (by decide), hch, decide_eq_false hk, Option.bind_some, if_neg (by decide), if_neg h5]) (Ev.now _)
  have key : ∀ z : Bool, z = !(decide (0 < a0) && decide (a0 < 9) && numB a1 && decide (a3 < a1) && decide (a4 < a1)) → recOk a0 a1 a2 a3 a4 a5 a6 a7 a8 a9 l m = (!z && ((if a0 = 1 ∨ a0 = 2 then pageB a5 && mayAB a6 a7 a8 a9 else decide (a5 = 0) && (a6 == 0 && (nilB a7 && (nilB a8 && nilB a9)))) && ((decide (a0 = 2) || decide (a4 = 0)) && ((if a0 = 7 ∨ a0 = 8 then decide (a2 = 0) && (a3 == 0) else txnB a2) && (decide (a0 = 8) || decide (l.length = 0) && decide (m.length = 0)) && tabOk l m)))) := fun z hz => by
    subst hz
    unfold recOk
    rw [Bool.not_not]
    simp only [Bool.and_assoc, Bool.and_comm, Bool.and_left_comm]
  unfold flotillaref05_May.f
  by_cases h1 : a0 < 1
  · simp only [if_pos h1]
    rw [key true (by rw [decide_eq_false (show ¬ 0 < a0 by omega)]; rfl)]
    exact t0 true
  · simp only [if_neg h1]
    by_cases h2 : a0 > 8
    · simp only [if_pos h2]
      rw [key true (by rw [decide_eq_true (show 0 < a0 by omega), decide_eq_false (show ¬ a0 < 9 by omega)]; rfl)]
      exact t0 true
    · simp only [if_neg h2]
      refine Ev.bind (g := fun _ => flotillaref05_Numbered.f a1) (a := numB a1) ⟨0, fun _ _ => rnum_f a1⟩ ?_
      cases hq : numB a1 with
      | false =>
        simp only [if_neg (show ¬ false = true by decide)]
        rw [key true (by rw [hq]; simp)]
        exact t0 true
      | true =>
        simp only [if_true]
        by_cases h3 : a3 ≥ a1
        · simp only [if_pos h3]
          rw [key true (by rw [decide_eq_false (show ¬ a3 < a1 by omega)]; simp)]
          exact t0 true
        · simp only [if_neg h3]
          rw [key (decide (a4 ≥ a1)) (by rw [hq, decide_eq_true (show 0 < a0 by omega), decide_eq_true (show a0 < 9 by omega), decide_eq_true (show a3 < a1 by omega), Bool.eq_iff_iff]; simp)]
          exact t0 _
end
end Go.Proofs.Ytaahfokdgfopcaa
