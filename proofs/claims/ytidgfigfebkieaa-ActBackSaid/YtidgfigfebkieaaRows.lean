/-
  No cell of these rows narrows 'for every input' (looked for: loops, veiled, ifaces, maps, wideKeys, modest, calm, conditions, laid).
  DERIVED. THE GIVEN ROWS OF THIS SEAT. 6 by the template 'for every input the law returns true; each argument reads behind the call as it read before'; 0 by the template 'total and deterministic' (their statements: YtidgfigfebkieaaTotals.lean).
  GIVEN WITH THE SEED: the statements are not yours to turn. If you find one false, say at which input.
  Laid BY PROGRAM, IN A SANDBOX (cutbox-rows.mjs): the forced cells as the released guide's own fill.sh prints them over the translation 63750f36a133a5e2… (all of the seat's roots in one cut). By AI agents, Wed Nov 11 2026. No macro, syntax, notation, axiom, sorry.
-/
import Derived.Test.YtidgfigfebkieaaChecked
import GoSem.Claim
import GoSem.ClaimJoined
import GoSem.ClaimMapViews
import Derived.JoinedTies
import Derived.KernelRfl
namespace Go.Proofs.Ytidgfigfebkieaa
/- THE CELL 'sum', in the pinned program and in every row, IS THE sha256 OF THE DUMP (.gsa) THAT YtidgfigfebkieaaProg.lean LOADS. Nothing in Lean hashes anything: it is a label: what it is worth is what the hold of that sum in a sandbox is worth. -/
noncomputable def Try.pinned : Pinned := { name := "ytidgfigfebkieaa", sum := "63750f36a133a5e2e06ed72582540f4ab3e2efbd45fad2a7402b94ec4882d176", checked := Try.checked }
namespace Rows
def none {H : Type} : Left H := { results := [], args := [] }

/-- 'flotillalaw07.ActTurns': WHATEVER THE INPUT: true; the input reads as it did. -/
def actTurnsSpec : ChangeSpec := { name := "actTurns", fn := fun _ => fun
  | [d] => { results := [.lit (.bool true)], args := [d] }
  | _ => none }
def actTurnsRow : OpenClaim := { program := "ytidgfigfebkieaa", sum := "63750f36a133a5e2e06ed72582540f4ab3e2efbd45fad2a7402b94ec4882d176", func := "flotilla/flotillalaw07.ActTurns", spec := "actTurns", unfollowed := true, recurses := true, apart := false }
def ActTurnsSaid : Prop := actTurnsRow.holds Try.pinned (OpenSpec.ofChange actTurnsSpec)

/-- ITS FALSE NEIGHBOUR: 'it returns false'. Refute it at one input. -/
def actTurnsWrong : ChangeSpec := { name := "actTurns", fn := fun _ => fun
  | [d] => { results := [.lit (.bool false)], args := [d] }
  | _ => none }
def ActTurnsWrongFalsely : Prop := actTurnsRow.holds Try.pinned (OpenSpec.ofChange actTurnsWrong)

/-- 'flotillalaw07.ActBacks': WHATEVER THE INPUT: true; the input reads as it did. -/
def actBacksSpec : ChangeSpec := { name := "actBacks", fn := fun _ => fun
  | [d1, d2] => { results := [.lit (.bool true)], args := [d1, d2] }
  | _ => none }
def actBacksRow : OpenClaim := { program := "ytidgfigfebkieaa", sum := "63750f36a133a5e2e06ed72582540f4ab3e2efbd45fad2a7402b94ec4882d176", func := "flotilla/flotillalaw07.ActBacks", spec := "actBacks", unfollowed := true, recurses := true, apart := false }
def ActBacksSaid : Prop := actBacksRow.holds Try.pinned (OpenSpec.ofChange actBacksSpec)

/-- ITS FALSE NEIGHBOUR: 'it returns false'. Refute it at one input. -/
def actBacksWrong : ChangeSpec := { name := "actBacks", fn := fun _ => fun
  | [d1, d2] => { results := [.lit (.bool false)], args := [d1, d2] }
  | _ => none }
def ActBacksWrongFalsely : Prop := actBacksRow.holds Try.pinned (OpenSpec.ofChange actBacksWrong)

/-- 'flotillalaw07.ActDoes': WHATEVER THE INPUT: true; the input reads as it did. -/
def actDoesSpec : ChangeSpec := { name := "actDoes", fn := fun _ => fun
  | [d1, d2] => { results := [.lit (.bool true)], args := [d1, d2] }
  | _ => none }
def actDoesRow : OpenClaim := { program := "ytidgfigfebkieaa", sum := "63750f36a133a5e2e06ed72582540f4ab3e2efbd45fad2a7402b94ec4882d176", func := "flotilla/flotillalaw07.ActDoes", spec := "actDoes", unfollowed := true, recurses := true, apart := false }
def ActDoesSaid : Prop := actDoesRow.holds Try.pinned (OpenSpec.ofChange actDoesSpec)

/-- ITS FALSE NEIGHBOUR: 'it returns false'. Refute it at one input. -/
def actDoesWrong : ChangeSpec := { name := "actDoes", fn := fun _ => fun
  | [d1, d2] => { results := [.lit (.bool false)], args := [d1, d2] }
  | _ => none }
def ActDoesWrongFalsely : Prop := actDoesRow.holds Try.pinned (OpenSpec.ofChange actDoesWrong)

/-- 'flotillalaw07.ActRedoes': WHATEVER THE INPUT: true; the input reads as it did. -/
def actRedoesSpec : ChangeSpec := { name := "actRedoes", fn := fun _ => fun
  | [d1, d2] => { results := [.lit (.bool true)], args := [d1, d2] }
  | _ => none }
def actRedoesRow : OpenClaim := { program := "ytidgfigfebkieaa", sum := "63750f36a133a5e2e06ed72582540f4ab3e2efbd45fad2a7402b94ec4882d176", func := "flotilla/flotillalaw07.ActRedoes", spec := "actRedoes", unfollowed := true, recurses := true, apart := false }
def ActRedoesSaid : Prop := actRedoesRow.holds Try.pinned (OpenSpec.ofChange actRedoesSpec)

/-- ITS FALSE NEIGHBOUR: 'it returns false'. Refute it at one input. -/
def actRedoesWrong : ChangeSpec := { name := "actRedoes", fn := fun _ => fun
  | [d1, d2] => { results := [.lit (.bool false)], args := [d1, d2] }
  | _ => none }
def ActRedoesWrongFalsely : Prop := actRedoesRow.holds Try.pinned (OpenSpec.ofChange actRedoesWrong)

/-- 'flotillalaw07.ActAgain': WHATEVER THE INPUT: true; the input reads as it did. -/
def actAgainSpec : ChangeSpec := { name := "actAgain", fn := fun _ => fun
  | [d1, d2, d3] => { results := [.lit (.bool true)], args := [d1, d2, d3] }
  | _ => none }
def actAgainRow : OpenClaim := { program := "ytidgfigfebkieaa", sum := "63750f36a133a5e2e06ed72582540f4ab3e2efbd45fad2a7402b94ec4882d176", func := "flotilla/flotillalaw07.ActAgain", spec := "actAgain", unfollowed := true, recurses := true, apart := false }
def ActAgainSaid : Prop := actAgainRow.holds Try.pinned (OpenSpec.ofChange actAgainSpec)

/-- ITS FALSE NEIGHBOUR: 'it returns false'. Refute it at one input. -/
def actAgainWrong : ChangeSpec := { name := "actAgain", fn := fun _ => fun
  | [d1, d2, d3] => { results := [.lit (.bool false)], args := [d1, d2, d3] }
  | _ => none }
def ActAgainWrongFalsely : Prop := actAgainRow.holds Try.pinned (OpenSpec.ofChange actAgainWrong)

/-- 'flotillalaw07.ActBack': WHATEVER THE INPUT: true; the input reads as it did. -/
def actBackSpec : ChangeSpec := { name := "actBack", fn := fun _ => fun
  | [d1, d2, d3] => { results := [.lit (.bool true)], args := [d1, d2, d3] }
  | _ => none }
def actBackRow : OpenClaim := { program := "ytidgfigfebkieaa", sum := "63750f36a133a5e2e06ed72582540f4ab3e2efbd45fad2a7402b94ec4882d176", func := "flotilla/flotillalaw07.ActBack", spec := "actBack", inPlace := ["internal/reflectlite.ValueOf", "internal/reflectlite.Swapper", "(internal/reflectlite.Value).Len"], unfollowed := true, recurses := true, apart := false }
def ActBackSaid : Prop := actBackRow.holds Try.pinned (OpenSpec.ofChange actBackSpec)

/-- ITS FALSE NEIGHBOUR: 'it returns false'. Refute it at one input. -/
def actBackWrong : ChangeSpec := { name := "actBack", fn := fun _ => fun
  | [d1, d2, d3] => { results := [.lit (.bool false)], args := [d1, d2, d3] }
  | _ => none }
def ActBackWrongFalsely : Prop := actBackRow.holds Try.pinned (OpenSpec.ofChange actBackWrong)

/- THE SECOND FORM. 'bulk': how many values and letters a reading holds, each counted each time it is reached (what is shared counts as often as it is met; a slice's spare places count too). A statement '..UptoSaid' is the law's where the arguments, and the package variables that the reading takes, are together of bulk at most 1048576: NARROWER than '..Said'. Prove '..Said' where nothing that the law and all that it calls make is longer than what came in: it says more and counts as full. Else prove '..UptoSaid'. A law counts once. -/
mutual
def uptoBulk {H : Type} : DataW H → Nat
  | .lit (.string bytes) => bytes.length + 1
  | .lit _ => 1
  | .nil => 1
  | .ptr d => uptoBulk d + 1
  | .slice elems spare => uptoBulkAll elems + uptoBulkAll spare + 1
  | .agg parts => uptoBulkAll parts + 1
  | .iface _ d => uptoBulk d + 1
  | .map entries => uptoBulkEntries entries + 1
  | .held _ => 1
def uptoBulkAll {H : Type} : List (DataW H) → Nat
  | [] => 0
  | d :: r => uptoBulk d + uptoBulkAll r
def uptoBulkEntries {H : Type} : List (Lit × DataW H) → Nat
  | [] => 0
  | x :: r => uptoBulkEntry x + uptoBulkEntries r
def uptoBulkEntry {H : Type} : Lit × DataW H → Nat
  | (.string bytes, d) => bytes.length + uptoBulk d + 1
  | (_, d) => uptoBulk d + 1
 end
def uptoSmall : (H : Type) → List (DataW H) → Bool := fun _ ds => decide (uptoBulkAll ds ≤ 1048576)
def OpenSpec.upto (s : _root_.Go.ChangeSpec) : _root_.Go.OpenSpec := { _root_.Go.OpenSpec.ofChange s with cond := some uptoSmall }

/-- 'flotillalaw07.ActTurns', WHERE WHAT IT READS IS OF BULK AT MOST 1048576: true; the input reads as it did. -/
def actTurnsUptoRow : OpenClaim := { program := "ytidgfigfebkieaa", sum := "63750f36a133a5e2e06ed72582540f4ab3e2efbd45fad2a7402b94ec4882d176", func := "flotilla/flotillalaw07.ActTurns", spec := "actTurns", unfollowed := true, recurses := true, apart := false, narrowed := true }
def ActTurnsUptoSaid : Prop := actTurnsUptoRow.holds Try.pinned (OpenSpec.upto actTurnsSpec)

/-- 'flotillalaw07.ActBacks', WHERE WHAT IT READS IS OF BULK AT MOST 1048576: true; the input reads as it did. -/
def actBacksUptoRow : OpenClaim := { program := "ytidgfigfebkieaa", sum := "63750f36a133a5e2e06ed72582540f4ab3e2efbd45fad2a7402b94ec4882d176", func := "flotilla/flotillalaw07.ActBacks", spec := "actBacks", unfollowed := true, recurses := true, apart := false, narrowed := true }
def ActBacksUptoSaid : Prop := actBacksUptoRow.holds Try.pinned (OpenSpec.upto actBacksSpec)

/-- 'flotillalaw07.ActDoes', WHERE WHAT IT READS IS OF BULK AT MOST 1048576: true; the input reads as it did. -/
def actDoesUptoRow : OpenClaim := { program := "ytidgfigfebkieaa", sum := "63750f36a133a5e2e06ed72582540f4ab3e2efbd45fad2a7402b94ec4882d176", func := "flotilla/flotillalaw07.ActDoes", spec := "actDoes", unfollowed := true, recurses := true, apart := false, narrowed := true }
def ActDoesUptoSaid : Prop := actDoesUptoRow.holds Try.pinned (OpenSpec.upto actDoesSpec)

/-- 'flotillalaw07.ActRedoes', WHERE WHAT IT READS IS OF BULK AT MOST 1048576: true; the input reads as it did. -/
def actRedoesUptoRow : OpenClaim := { program := "ytidgfigfebkieaa", sum := "63750f36a133a5e2e06ed72582540f4ab3e2efbd45fad2a7402b94ec4882d176", func := "flotilla/flotillalaw07.ActRedoes", spec := "actRedoes", unfollowed := true, recurses := true, apart := false, narrowed := true }
def ActRedoesUptoSaid : Prop := actRedoesUptoRow.holds Try.pinned (OpenSpec.upto actRedoesSpec)

/-- 'flotillalaw07.ActAgain', WHERE WHAT IT READS IS OF BULK AT MOST 1048576: true; the input reads as it did. -/
def actAgainUptoRow : OpenClaim := { program := "ytidgfigfebkieaa", sum := "63750f36a133a5e2e06ed72582540f4ab3e2efbd45fad2a7402b94ec4882d176", func := "flotilla/flotillalaw07.ActAgain", spec := "actAgain", unfollowed := true, recurses := true, apart := false, narrowed := true }
def ActAgainUptoSaid : Prop := actAgainUptoRow.holds Try.pinned (OpenSpec.upto actAgainSpec)

/-- 'flotillalaw07.ActBack', WHERE WHAT IT READS IS OF BULK AT MOST 1048576: true; the input reads as it did. -/
def actBackUptoRow : OpenClaim := { program := "ytidgfigfebkieaa", sum := "63750f36a133a5e2e06ed72582540f4ab3e2efbd45fad2a7402b94ec4882d176", func := "flotilla/flotillalaw07.ActBack", spec := "actBack", inPlace := ["internal/reflectlite.ValueOf", "internal/reflectlite.Swapper", "(internal/reflectlite.Value).Len"], unfollowed := true, recurses := true, apart := false, narrowed := true }
def ActBackUptoSaid : Prop := actBackUptoRow.holds Try.pinned (OpenSpec.upto actBackSpec)

end Rows
end Go.Proofs.Ytidgfigfebkieaa
