/- Layer 7: a law's arguments, laid open: an Act. -/
import Derived.Test.YtidgfigfebkieaaRfT
import Derived.Deep.Slices
import Derived.Deep.Fields
import Derived.ChangeSame
import Derived.SizedLaws
import Derived.Lib.SmallJoins
import Derived.ProofKit
import Derived.OpenShut
namespace Go.Proofs.Ytidgfigfebkieaa
open Go.RowKit Go.Proofs.YtidgfigfebkieaaW.PrintWords Go.Proofs.YtidgfigfebkieaaW.PrintLast Go.Proofs.YtidgfigfebkieaaW.PrintMore
open Go.ChangeShapes Go.WideShapes Go.ChangeAt Go.Deep Go.Joins
open Rf
set_option linter.unusedVariables false
set_option linter.unusedSimpArgs false
section
variable {H : Type} {enc : TypeId × Value → H} {W : World}
set_option maxRecDepth 100000 in
/-- An Act by value. -/
theorem open_act {r : Reach} {b0 : Nat} {v : Value} {d : DataW H} {p : List MemPlace} (hv : Value.okWide Try.prog W r b0 24 v) (h : DataW.Trod enc Try.prog W 0 (fun _ => true) true 24 v d p)
    (hw : ∀ x ∈ d.weights Try.prog 24, x ≤ reachBytes) :
    ∃ (k : Int) (a b c : ByteArray), v = .agg #[.int .i64 k, .string a, .string b, .string c] ∧ a.size ≤ reachBytes ∧ b.size ≤ reachBytes ∧ c.size ≤ reachBytes ∧ (Lit.int .i64 k).wf = true := by
  obtain ⟨v0, v1, v2, v3, y0, y1, y2, y3, n, rfl, rfl, rfl, h0, h1, h2, h3⟩ := open_agg4 Try.underlying24 (by kernel_rfl) (by kernel_rfl) hv h
  obtain ⟨n0, e0, x0, w0⟩ := DataW.trod_int Try.underlying22 h0
  obtain ⟨s1, e1, x1, w1⟩ := DataW.trod_string Try.underlying9 h1
  obtain ⟨s2, e2, x2, w2⟩ := DataW.trod_string Try.underlying9 h2
  obtain ⟨s3, e3, x3, w3⟩ := DataW.trod_string Try.underlying9 h3
  cases e0; cases e1; cases e2; cases e3
  cases x0; cases x1; cases x2; cases x3
  refine ⟨n0, s1, s2, s3, rfl, hw _ ?_, hw _ ?_, hw _ ?_, w0⟩
  all_goals
    rw [DataW.weights, Try.underlying24]
    simp [DataW.weightsEach, DataW.weights]
end
end Go.Proofs.Ytidgfigfebkieaa
