/-
  No cell of these rows narrows 'for every input' (looked for: loops, veiled, ifaces, maps, wideKeys, modest, calm, conditions, laid).
  DERIVED. THE GIVEN ROWS OF THIS SEAT. 6 by the template 'for every input the law returns true; each argument reads behind the call as it read before'; 0 by the template 'total and deterministic' (their statements: YtgjjfldfdkoedaaTotals.lean).
  GIVEN WITH THE SEED: the statements are not yours to turn. If you find one false, say at which input.
  Laid BY PROGRAM, IN A SANDBOX (cutbox-rows.mjs): the forced cells as the released guide's own fill.sh prints them over the translation 421d0e13ac04d94b… (all of the seat's roots in one cut). By AI agents, Wed Nov 11 2026. No macro, syntax, notation, axiom, sorry.
-/
import Derived.Test.YtgjjfldfdkoedaaChecked
import GoSem.Claim
import GoSem.ClaimJoined
import GoSem.ClaimMapViews
import Derived.JoinedTies
import Derived.KernelRfl
namespace Go.Proofs.Ytgjjfldfdkoedaa
/- THE CELL 'sum', in the pinned program and in every row, IS THE sha256 OF THE DUMP (.gsa) THAT YtgjjfldfdkoedaaProg.lean LOADS. Nothing in Lean hashes anything: it is a label: what it is worth is what the hold of that sum in a sandbox is worth. -/
noncomputable def Try.pinned : Pinned := { name := "ytgjjfldfdkoedaa", sum := "421d0e13ac04d94ba22f97ac9ebd78d754661152c1a8b5e63d079abce6081175", checked := Try.checked }
namespace Rows
def none {H : Type} : Left H := { results := [], args := [] }

/-- 'flotillalaw12.GraphLeads': WHATEVER THE INPUT: true; the input reads as it did. -/
def graphLeadsSpec : ChangeSpec := { name := "graphLeads", fn := fun _ => fun
  | [d1, d2] => { results := [.lit (.bool true)], args := [d1, d2] }
  | _ => none }
def graphLeadsRow : OpenClaim := { program := "ytgjjfldfdkoedaa", sum := "421d0e13ac04d94ba22f97ac9ebd78d754661152c1a8b5e63d079abce6081175", func := "flotilla/flotillalaw12.GraphLeads", spec := "graphLeads", recurses := true, plainKeys := false, apart := false }
def GraphLeadsSaid : Prop := graphLeadsRow.holds Try.pinned (OpenSpec.ofChange graphLeadsSpec)

/-- ITS FALSE NEIGHBOUR: 'it returns false'. Refute it at one input. -/
def graphLeadsWrong : ChangeSpec := { name := "graphLeads", fn := fun _ => fun
  | [d1, d2] => { results := [.lit (.bool false)], args := [d1, d2] }
  | _ => none }
def GraphLeadsWrongFalsely : Prop := graphLeadsRow.holds Try.pinned (OpenSpec.ofChange graphLeadsWrong)

/-- 'flotillalaw12.GraphRings': WHATEVER THE INPUT: true; the input reads as it did. -/
def graphRingsSpec : ChangeSpec := { name := "graphRings", fn := fun _ => fun
  | [d1, d2] => { results := [.lit (.bool true)], args := [d1, d2] }
  | _ => none }
def graphRingsRow : OpenClaim := { program := "ytgjjfldfdkoedaa", sum := "421d0e13ac04d94ba22f97ac9ebd78d754661152c1a8b5e63d079abce6081175", func := "flotilla/flotillalaw12.GraphRings", spec := "graphRings", recurses := true, plainKeys := false, apart := false }
def GraphRingsSaid : Prop := graphRingsRow.holds Try.pinned (OpenSpec.ofChange graphRingsSpec)

/-- ITS FALSE NEIGHBOUR: 'it returns false'. Refute it at one input. -/
def graphRingsWrong : ChangeSpec := { name := "graphRings", fn := fun _ => fun
  | [d1, d2] => { results := [.lit (.bool false)], args := [d1, d2] }
  | _ => none }
def GraphRingsWrongFalsely : Prop := graphRingsRow.holds Try.pinned (OpenSpec.ofChange graphRingsWrong)

/-- 'flotillalaw12.GraphOrder': WHATEVER THE INPUT: true; the input reads as it did. -/
def graphOrderSpec : ChangeSpec := { name := "graphOrder", fn := fun _ => fun
  | [d1, d2, d3] => { results := [.lit (.bool true)], args := [d1, d2, d3] }
  | _ => none }
def graphOrderRow : OpenClaim := { program := "ytgjjfldfdkoedaa", sum := "421d0e13ac04d94ba22f97ac9ebd78d754661152c1a8b5e63d079abce6081175", func := "flotilla/flotillalaw12.GraphOrder", spec := "graphOrder", recurses := true, plainKeys := false, apart := false }
def GraphOrderSaid : Prop := graphOrderRow.holds Try.pinned (OpenSpec.ofChange graphOrderSpec)

/-- ITS FALSE NEIGHBOUR: 'it returns false'. Refute it at one input. -/
def graphOrderWrong : ChangeSpec := { name := "graphOrder", fn := fun _ => fun
  | [d1, d2, d3] => { results := [.lit (.bool false)], args := [d1, d2, d3] }
  | _ => none }
def GraphOrderWrongFalsely : Prop := graphOrderRow.holds Try.pinned (OpenSpec.ofChange graphOrderWrong)

/-- 'flotillalaw12.GraphBreaks': WHATEVER THE INPUT: true; the input reads as it did. -/
def graphBreaksSpec : ChangeSpec := { name := "graphBreaks", fn := fun _ => fun
  | [d] => { results := [.lit (.bool true)], args := [d] }
  | _ => none }
def graphBreaksRow : OpenClaim := { program := "ytgjjfldfdkoedaa", sum := "421d0e13ac04d94ba22f97ac9ebd78d754661152c1a8b5e63d079abce6081175", func := "flotilla/flotillalaw12.GraphBreaks", spec := "graphBreaks", recurses := true, plainKeys := false, apart := false }
def GraphBreaksSaid : Prop := graphBreaksRow.holds Try.pinned (OpenSpec.ofChange graphBreaksSpec)

/-- ITS FALSE NEIGHBOUR: 'it returns false'. Refute it at one input. -/
def graphBreaksWrong : ChangeSpec := { name := "graphBreaks", fn := fun _ => fun
  | [d] => { results := [.lit (.bool false)], args := [d] }
  | _ => none }
def GraphBreaksWrongFalsely : Prop := graphBreaksRow.holds Try.pinned (OpenSpec.ofChange graphBreaksWrong)

/-- 'flotillalaw12.GraphPlays': WHATEVER THE INPUT: true; the input reads as it did. -/
def graphPlaysSpec : ChangeSpec := { name := "graphPlays", fn := fun _ => fun
  | [d] => { results := [.lit (.bool true)], args := [d] }
  | _ => none }
def graphPlaysRow : OpenClaim := { program := "ytgjjfldfdkoedaa", sum := "421d0e13ac04d94ba22f97ac9ebd78d754661152c1a8b5e63d079abce6081175", func := "flotilla/flotillalaw12.GraphPlays", spec := "graphPlays", recurses := true, plainKeys := false, apart := false }
def GraphPlaysSaid : Prop := graphPlaysRow.holds Try.pinned (OpenSpec.ofChange graphPlaysSpec)

/-- ITS FALSE NEIGHBOUR: 'it returns false'. Refute it at one input. -/
def graphPlaysWrong : ChangeSpec := { name := "graphPlays", fn := fun _ => fun
  | [d] => { results := [.lit (.bool false)], args := [d] }
  | _ => none }
def GraphPlaysWrongFalsely : Prop := graphPlaysRow.holds Try.pinned (OpenSpec.ofChange graphPlaysWrong)

/-- 'flotillalaw12.GraphTexts': WHATEVER THE INPUT: true; the input reads as it did. -/
def graphTextsSpec : ChangeSpec := { name := "graphTexts", fn := fun _ => fun
  | [d1, d2] => { results := [.lit (.bool true)], args := [d1, d2] }
  | _ => none }
def graphTextsRow : OpenClaim := { program := "ytgjjfldfdkoedaa", sum := "421d0e13ac04d94ba22f97ac9ebd78d754661152c1a8b5e63d079abce6081175", func := "flotilla/flotillalaw12.GraphTexts", spec := "graphTexts", recurses := true, plainKeys := false, apart := false }
def GraphTextsSaid : Prop := graphTextsRow.holds Try.pinned (OpenSpec.ofChange graphTextsSpec)

/-- ITS FALSE NEIGHBOUR: 'it returns false'. Refute it at one input. -/
def graphTextsWrong : ChangeSpec := { name := "graphTexts", fn := fun _ => fun
  | [d1, d2] => { results := [.lit (.bool false)], args := [d1, d2] }
  | _ => none }
def GraphTextsWrongFalsely : Prop := graphTextsRow.holds Try.pinned (OpenSpec.ofChange graphTextsWrong)

/- THE SECOND FORM. 'bulk': how many values and letters a reading holds, each counted each time it is reached (what is shared counts as often as it is met; a slice's spare places count too). A statement '..UptoSaid' is the law's where the arguments, and the package variables that the reading takes, are together of bulk at most 1048576: NARROWER than '..Said'. Prove '..Said' where nothing that the law and all that it calls make is longer than what came in: it says more and counts as full. Else prove '..UptoSaid'. A law counts once. -/
mutual
def uptoBulk {H : Type} : DataW H → Nat
  | .lit (.string bytes) => bytes.length + 1
  | .lit _ => 1
  | .nil => 1
  | .ptr d => uptoBulk d + 1
  | .slice elems spare => uptoBulkAll elems + uptoBulkAll spare + 1
  | .agg parts => uptoBulkAll parts + 1
  | .iface _ d => uptoBulk d + 1
  | .map entries => uptoBulkEntries entries + 1
  | .held _ => 1
def uptoBulkAll {H : Type} : List (DataW H) → Nat
  | [] => 0
  | d :: r => uptoBulk d + uptoBulkAll r
def uptoBulkEntries {H : Type} : List (Lit × DataW H) → Nat
  | [] => 0
  | x :: r => uptoBulkEntry x + uptoBulkEntries r
def uptoBulkEntry {H : Type} : Lit × DataW H → Nat
  | (.string bytes, d) => bytes.length + uptoBulk d + 1
  | (_, d) => uptoBulk d + 1
 end
def uptoSmall : (H : Type) → List (DataW H) → Bool := fun _ ds => decide (uptoBulkAll ds ≤ 1048576)
def OpenSpec.upto (s : _root_.Go.ChangeSpec) : _root_.Go.OpenSpec := { _root_.Go.OpenSpec.ofChange s with cond := some uptoSmall }

/-- 'flotillalaw12.GraphLeads', WHERE WHAT IT READS IS OF BULK AT MOST 1048576: true; the input reads as it did. -/
def graphLeadsUptoRow : OpenClaim := { program := "ytgjjfldfdkoedaa", sum := "421d0e13ac04d94ba22f97ac9ebd78d754661152c1a8b5e63d079abce6081175", func := "flotilla/flotillalaw12.GraphLeads", spec := "graphLeads", recurses := true, plainKeys := false, apart := false, narrowed := true }
def GraphLeadsUptoSaid : Prop := graphLeadsUptoRow.holds Try.pinned (OpenSpec.upto graphLeadsSpec)

/-- 'flotillalaw12.GraphRings', WHERE WHAT IT READS IS OF BULK AT MOST 1048576: true; the input reads as it did. -/
def graphRingsUptoRow : OpenClaim := { program := "ytgjjfldfdkoedaa", sum := "421d0e13ac04d94ba22f97ac9ebd78d754661152c1a8b5e63d079abce6081175", func := "flotilla/flotillalaw12.GraphRings", spec := "graphRings", recurses := true, plainKeys := false, apart := false, narrowed := true }
def GraphRingsUptoSaid : Prop := graphRingsUptoRow.holds Try.pinned (OpenSpec.upto graphRingsSpec)

/-- 'flotillalaw12.GraphOrder', WHERE WHAT IT READS IS OF BULK AT MOST 1048576: true; the input reads as it did. -/
def graphOrderUptoRow : OpenClaim := { program := "ytgjjfldfdkoedaa", sum := "421d0e13ac04d94ba22f97ac9ebd78d754661152c1a8b5e63d079abce6081175", func := "flotilla/flotillalaw12.GraphOrder", spec := "graphOrder", recurses := true, plainKeys := false, apart := false, narrowed := true }
def GraphOrderUptoSaid : Prop := graphOrderUptoRow.holds Try.pinned (OpenSpec.upto graphOrderSpec)

/-- 'flotillalaw12.GraphBreaks', WHERE WHAT IT READS IS OF BULK AT MOST 1048576: true; the input reads as it did. -/
def graphBreaksUptoRow : OpenClaim := { program := "ytgjjfldfdkoedaa", sum := "421d0e13ac04d94ba22f97ac9ebd78d754661152c1a8b5e63d079abce6081175", func := "flotilla/flotillalaw12.GraphBreaks", spec := "graphBreaks", recurses := true, plainKeys := false, apart := false, narrowed := true }
def GraphBreaksUptoSaid : Prop := graphBreaksUptoRow.holds Try.pinned (OpenSpec.upto graphBreaksSpec)

/-- 'flotillalaw12.GraphPlays', WHERE WHAT IT READS IS OF BULK AT MOST 1048576: true; the input reads as it did. -/
def graphPlaysUptoRow : OpenClaim := { program := "ytgjjfldfdkoedaa", sum := "421d0e13ac04d94ba22f97ac9ebd78d754661152c1a8b5e63d079abce6081175", func := "flotilla/flotillalaw12.GraphPlays", spec := "graphPlays", recurses := true, plainKeys := false, apart := false, narrowed := true }
def GraphPlaysUptoSaid : Prop := graphPlaysUptoRow.holds Try.pinned (OpenSpec.upto graphPlaysSpec)

/-- 'flotillalaw12.GraphTexts', WHERE WHAT IT READS IS OF BULK AT MOST 1048576: true; the input reads as it did. -/
def graphTextsUptoRow : OpenClaim := { program := "ytgjjfldfdkoedaa", sum := "421d0e13ac04d94ba22f97ac9ebd78d754661152c1a8b5e63d079abce6081175", func := "flotilla/flotillalaw12.GraphTexts", spec := "graphTexts", recurses := true, plainKeys := false, apart := false, narrowed := true }
def GraphTextsUptoSaid : Prop := graphTextsUptoRow.holds Try.pinned (OpenSpec.upto graphTextsSpec)

end Rows
end Go.Proofs.Ytgjjfldfdkoedaa
