/- Layer 17: ChainNeeds' walk. -/
import Derived.Test.YteaklmafjmnmiaaYMgBk17
import Derived.Test.YteaklmafjmnmiaaYMgBk18
import Derived.Test.YteaklmafjmnmiaaYRf3
import Derived.Test.YteaklmafjmnmiaaYMgApc
section
namespace Go.Proofs.Yteaklmafjmnmiaa
open Go.RowKit Go.Proofs.YteaklmafjmnmiaaW.PrintWords Go.Proofs.YteaklmafjmnmiaaW.PrintLast Go.Proofs.YteaklmafjmnmiaaW.PrintMore
open Rf MapL MapV
set_option linter.unusedVariables false
set_option linter.unusedSimpArgs false
theorem light_ex' (o : SOp) : ∃ r, flotillalaw17_light.f o.k o.ls o.tx o.pv o.un o.pg o.ak o.a o.b o.c o.l o.m = some r := by
  unfold flotillalaw17_light.f
  by_cases h1 : (o.l.length : Int) ≤ 100
  · rw [if_pos h1]
    by_cases h2 : (o.m.length : Int) ≤ 100
    · rw [if_pos h2]; exact ⟨_, rfl⟩
    · rw [if_neg h2]; exact ⟨_, rfl⟩
  · rw [if_neg h1]; exact ⟨_, rfl⟩
section
variable {w0 : Wb} {w w' : World} {t mb : Nat} {bx bx' : Int → Nat} {ks ks' : List Int} {X X' : Int → TX}
theorem Tab.not_own (h : Tab w0 w t mb bx ks X) {q : Nat} (hq : w.heap.size ≤ q) : ¬ own t mb bx ks q := by
  rintro (rfl | rfl | ⟨id, hi, rfl⟩)
  · have := blk_lt h.box; omega
  · have := h.map.lt; omega
  · have := h.lt id hi; omega
/-- A block that is not the table's stays. -/
theorem Tab.keep (h : Tab ⟨w, own t mb bx ks⟩ w' t mb bx' ks' X') {q : Nat} {o : Obj} (hq : w.heap[q]? = some o) (hn : ¬ own t mb bx ks q) : w'.heap[q]? = some o :=
  (h.bel.block q (blk_lt hq) hn).trans hq
end
/-- What the rounds keep of the needs. -/
def NB (ks : List Int) (X : Int → TX) (k : Nat) : Prop := ∀ id ∈ ks, 0 ≤ (X id).need ∧ (X id).need ≤ 3000 * (k : Int) ∧ 0 ≤ (X id).last
end Go.Proofs.Yteaklmafjmnmiaa
end
