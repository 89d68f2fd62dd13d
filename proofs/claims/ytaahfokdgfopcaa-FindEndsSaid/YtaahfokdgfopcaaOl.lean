/- A slice of elements of one shape that came in, laid open as a list. -/
import Derived.Test.YtaahfokdgfopcaaRfT
import Derived.Deep.Slices
import Derived.Deep.Fields
import Derived.ChangeSame
import Derived.SizedLaws
import Derived.Lib.SmallJoins
import Derived.ProofKit
import Derived.OpenShut
namespace Go.Proofs.Ytaahfokdgfopcaa
open Go.RowKit Go.Proofs.YtaahfokdgfopcaaW.PrintWords Go.Proofs.YtaahfokdgfopcaaW.PrintLast Go.Proofs.YtaahfokdgfopcaaW.PrintMore
open Go.ChangeShapes Go.WideShapes Go.ChangeAt Go.Deep Go.Joins
open Rf
set_option linter.unusedVariables false
set_option linter.unusedSimpArgs false
theorem list_of {α : Type} (P : Nat → α → Prop) (n : Nat) (h : ∀ i, i < n → ∃ o, P i o) : ∃ l : List α, l.length = n ∧ ∀ i o, l[i]? = some o → P i o := by
  induction n with
  | zero => exact ⟨[], rfl, by simp⟩
  | succ n ih =>
    obtain ⟨l, hl, hp⟩ := ih (fun i hi => h i (by omega))
    obtain ⟨o, ho⟩ := h n (by omega)
    refine ⟨l ++ [o], by simp [hl], fun i x hx => ?_⟩
    rcases Nat.lt_or_ge i l.length with hi | hi
    · rw [List.getElem?_append_left hi] at hx; exact hp i x hx
    · have : i = n := by
        have := (List.getElem?_eq_some_iff.1 hx).1
        simp at this; omega
      subst this
      rw [List.getElem?_append_right (by omega)] at hx
      simp [hl] at hx
      rw [← hx]; exact ho
section
variable {H : Type} {enc : TypeId × Value → H} {W : World} {P : Program}
/-- K: the elements' kind; out: an element's cells; one: an element's cells are some element's. Good: what is known of each. -/
theorem open_list {α : Type} (K : Kd α) (out : α → List Value) (Good : α → Prop) {t e : TypeId} (U : P.underlying t = some (.slice e)) (hC : P.cellsOf e = K.sz) (hK : ∀ x, K.K W x (out x)) (hout : ∀ x, (out x).length = K.sz)
    {fuel : Nat} {cs : List Value} {d : DataW H} {p : List MemPlace} (hf : DataW.trod enc P W 0 (fun _ => true) true fuel t cs = some (d, p))
    (one : ∀ n cs' d' p', cs'.length = K.sz → DataW.trod enc P W 0 (fun _ => true) true n e cs' = some (d', p') → ∃ x, cs' = out x ∧ Good x) :
    ∃ A c, ∃ l : List α, cs = [.slice A l.length c] ∧ Kd.C K W A l.length l ∧ l.length ≤ c ∧ ∀ x ∈ l, Good x := by
  rcases open_slice U hf with ⟨hcs, _⟩ | ⟨a, len, cap, m, n, D, Pl, hcs, hb, hl, hm, hmm, hx, hi⟩
  · exact ⟨none, 0, [], hcs, ⟨rfl, by simp, fun h => by simp at h⟩, by simp, by simp⟩
  · obtain ⟨l, hll, hp⟩ := list_of (fun i (o : α) => Good o ∧ ∀ j u, (out o)[j]? = some u → W.cell? (a.add (i * K.sz + j)) = some u) len (fun i hil => by
      obtain ⟨cs', hc, ht'⟩ := hi i (by rw [hmm]; split <;> omega)
      rw [hC] at hc
      obtain ⟨_, hcl, hat⟩ := World.cells?_some hc
      obtain ⟨o, rfl, hg⟩ := one n cs' _ _ hcl ht'
      refine ⟨o, hg, fun j u hj => ?_⟩
      have hjl : j < K.sz := by have := (List.getElem?_eq_some_iff.1 hj).1; rw [hout] at this; exact this
      rw [← Go.Deep.add_add, hat j hjl, hj])
    have hml : cap ≤ 9223372036854775807 := by have : maxLen ≤ 9223372036854775807 := by decide
                                               omega
    refine ⟨some a, cap, l, by rw [hll]; exact hcs, ⟨rfl, by omega, fun _ => ⟨a, rfl, fun j o hj => ⟨out o, hout o, hK o, (hp j o hj).2⟩⟩⟩, by omega, fun o ho => ?_⟩
    obtain ⟨i, hi2⟩ := List.mem_iff_getElem?.1 ho
    exact (hp i o hi2).1
end
end Go.Proofs.Ytaahfokdgfopcaa
