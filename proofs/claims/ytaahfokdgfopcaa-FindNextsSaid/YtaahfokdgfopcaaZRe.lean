/- PLAIN: what rec's Check comes to. -/
import Derived.Test.YtaahfokdgfopcaaZRf2
namespace Go.Proofs.Ytaahfokdgfopcaa
open Go.RowKit Go.Proofs.YtaahfokdgfopcaaW.PrintWords Go.Proofs.YtaahfokdgfopcaaW.PrintLast Go.Proofs.YtaahfokdgfopcaaW.PrintMore
open Rf
set_option linter.unusedVariables false
set_option linter.unusedSimpArgs false
def nilB (s : ByteArray) : Bool := s.toList == ([] : List UInt8)
def mayAB (ak : Int) (a b c : ByteArray) : Bool := decide (1 ≤ a.size) && decide (a.size ≤ 16) && decide (b.size ≤ 32) && decide (c.size ≤ 32) && (if ak = 1 then nilB b else if ak = 2 then true else if ak = 3 then nilB c else false)
theorem mayA_f (ak : Int) (a b c : ByteArray) : rec_mayAct.f 2 ak a b c = some (mayAB ak a b c) := by
  unfold rec_mayAct.f mayAB nilB
  simp only [rec_mayAct.j0]
  by_cases h1 : 1 ≤ a.size
  · rw [if_neg (by omega), decide_eq_true h1]
    by_cases h2 : a.size ≤ 16
    · rw [if_neg (by omega), decide_eq_true h2]
      by_cases h3 : b.size ≤ 32
      · rw [if_neg (by omega), decide_eq_true h3]
        by_cases h4 : c.size ≤ 32
        · rw [decide_eq_true h4, decide_eq_false (show ¬ (c.size : Int) > 32 by omega), if_neg (by simp)]
          simp only [Bool.true_and]
          split
          · rfl
          · split
            · rfl
            · split <;> rfl
        · rw [decide_eq_false h4, decide_eq_true (show (c.size : Int) > 32 by omega)]; simp
      · rw [if_pos (by omega), decide_eq_false h3]; simp
    · rw [if_pos (by omega), decide_eq_false h2]; simp
  · rw [if_pos (by omega), decide_eq_false h1]; simp
/-- A record that may be. -/
def recOk (k ls tx pv un pg ak : Int) (a b c : ByteArray) (l : List SGTxn) (m : List SGDirty) : Bool :=
  decide (0 < k) && decide (k < 9) && numB ls && decide (pv < ls) && decide (un < ls) &&
  (if k = 1 ∨ k = 2 then pageB pg && mayAB ak a b c else decide (pg = 0) && (ak == 0 && (nilB a && (nilB b && nilB c)))) &&
  (if k = 7 ∨ k = 8 then decide (tx = 0) && (pv == 0) else txnB tx) &&
  (decide (k = 8) || decide (l.length = 0) && decide (m.length = 0)) && (decide (k = 2) || decide (un = 0)) && tabOk l m
def cde (b : Bool) : Int := if b = true then 0 else 1
theorem chk2 (n : Nat) (x : Bool) (k ls tx pv un pg ak : Int) (a b c : ByteArray) (l : List SGTxn) (m : List SGDirty) :
    rec_Check.j2 (n + 1) x k ls tx pv un pg ak a b c l m = some (cde (x && (decide (k = 8) || decide (l.length = 0) && decide (m.length = 0)) && (decide (k = 2) || decide (un = 0)) && tabOk l m)) := by
  have e1 : ((l.length : Int) = 0) = (l.length = 0) := propext ⟨fun h => by omega, fun h => by omega⟩
  have e2 : ((m.length : Int) = 0) = (m.length = 0) := propext ⟨fun h => by omega, fun h => by omega⟩
  simp only [rec_Check.j2, rec_tables.f, Option.bind_some, e1, e2]
  unfold cde
  cases tabOk l m <;> cases x <;> by_cases h1 : k = 8 <;> by_cases h2 : k = 2 <;> by_cases h3 : un = 0 <;> by_cases h4 : l.length = 0 <;> by_cases h5 : m.length = 0 <;> simp [h1, h2, h3, h4, h5] <;> omega
theorem pts_f (k : Int) : rec_points.f k = some (decide (k = 7 ∨ k = 8)) := by
  unfold rec_points.f
  by_cases h : k = 7
  · rw [if_pos h]; simp [h]
  · rw [if_neg h]; by_cases h8 : k = 8 <;> simp [h, h8]
theorem chg_f (k : Int) : rec_changes.f k = some (decide (k = 1 ∨ k = 2)) := by
  unfold rec_changes.f
  by_cases h : k = 1
  · rw [if_pos h]; simp [h]
  · rw [if_neg h]; by_cases h8 : k = 2 <;> simp [h, h8]
theorem chk1 (n : Nat) (x : Bool) (k ls tx pv un pg ak : Int) (a b c : ByteArray) (l : List SGTxn) (m : List SGDirty) :
    rec_Check.j1 (n + 2) x k ls tx pv un pg ak a b c l m = some (cde (x && (if k = 7 ∨ k = 8 then decide (tx = 0) && (pv == 0) else txnB tx) && (decide (k = 8) || decide (l.length = 0) && decide (m.length = 0)) && (decide (k = 2) || decide (un = 0)) && tabOk l m)) := by
  simp only [rec_Check.j1, pts_f, Option.bind_some, txn_f, chk2]
  by_cases h : k = 7 ∨ k = 8
  · rw [if_pos (by simpa using h), if_pos h]
    cases x with
    | false => simp
    | true =>
      by_cases h2 : tx = 0
      · rw [if_pos rfl, if_pos h2]; simp [h2]
      · rw [if_pos rfl, if_neg h2]; simp [h2]
  · rw [if_neg (by simpa using h), if_neg h]
    cases x <;> simp
theorem chk0 (n : Nat) (x : Bool) (k ls tx pv un pg ak : Int) (a b c : ByteArray) (l : List SGTxn) (m : List SGDirty) :
    rec_Check.j0 (n + 3) x k ls tx pv un pg ak a b c l m = some (cde (x && (if k = 1 ∨ k = 2 then pageB pg && mayAB ak a b c else decide (pg = 0) && (ak == 0 && (nilB a && (nilB b && nilB c)))) && (if k = 7 ∨ k = 8 then decide (tx = 0) && (pv == 0) else txnB tx) && (decide (k = 8) || decide (l.length = 0) && decide (m.length = 0)) && (decide (k = 2) || decide (un = 0)) && tabOk l m)) := by
  have hm : ∀ n, rec_mayAct.f (n + 2) ak a b c = some (mayAB ak a b c) := fun n => by
    induction n with
    | zero => exact mayA_f ak a b c
    | succ n ih => exact rec_mayAct.mono ak a b c (n + 2) _ ih
  simp only [rec_Check.j0, chg_f, Option.bind_some, page_f, hm, chk1]
  by_cases h : k = 1 ∨ k = 2
  · rw [if_pos (by simpa using h), if_pos h]
    cases x with
    | false => simp
    | true =>
      cases hp : pageB pg <;> simp
  · rw [if_neg (by simpa using h), if_neg h]
    cases x with
    | false => simp
    | true =>
      by_cases h2 : pg = 0
      · rw [if_pos rfl, if_pos h2, decide_eq_true h2]
        unfold nilB
        simp only [Bool.true_and]
      · rw [if_pos rfl, if_neg h2, decide_eq_false h2]; simp
theorem chk_f (k ls tx pv un pg ak : Int) (a b c : ByteArray) (l : List SGTxn) (m : List SGDirty) :
    rec_Check.f 3 k ls tx pv un pg ak a b c l m = some (cde (recOk k ls tx pv un pg ak a b c l m)) := by
  have hc := fun x => chk0 0 x k ls tx pv un pg ak a b c l m
  simp only [Nat.zero_add] at hc
  simp only [rec_Check.f, num_f, Option.bind_some, hc]
  unfold recOk
  by_cases h1 : 0 < k
  · rw [if_pos h1, decide_eq_true h1]
    by_cases h2 : k < 9
    · rw [if_pos h2, decide_eq_true h2]
      cases hn : numB ls with
      | false => simp
      | true =>
        by_cases h3 : pv < ls
        · rw [if_pos rfl, if_pos h3, decide_eq_true h3]; simp
        · rw [if_pos rfl, if_neg h3, decide_eq_false h3]; simp
    · rw [if_neg h2, decide_eq_false h2]; simp
  · rw [if_neg h1, decide_eq_false h1]; simp
end Go.Proofs.Ytaahfokdgfopcaa
