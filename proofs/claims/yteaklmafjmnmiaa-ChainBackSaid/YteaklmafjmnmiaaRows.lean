/-
  No cell of these rows narrows 'for every input' (looked for: loops, veiled, ifaces, maps, wideKeys, modest, calm, conditions, laid).
  DERIVED. THE GIVEN ROWS OF THIS SEAT. 5 by the template 'for every input the law returns true; each argument reads behind the call as it read before'; 0 by the template 'total and deterministic' (their statements: YteaklmafjmnmiaaTotals.lean).
  GIVEN WITH THE SEED: the statements are not yours to turn. If you find one false, say at which input.
  Laid BY PROGRAM, IN A SANDBOX (cutbox-rows.mjs): the forced cells as the released guide's own fill.sh prints them over the translation c22752aa7eca0e0f… (all of the seat's roots in one cut). By AI agents, Wed Nov 11 2026. No macro, syntax, notation, axiom, sorry.
-/
import Derived.Test.YteaklmafjmnmiaaChecked
import GoSem.Claim
import GoSem.ClaimJoined
import GoSem.ClaimMapViews
import Derived.JoinedTies
import Derived.KernelRfl
namespace Go.Proofs.Yteaklmafjmnmiaa
/- THE CELL 'sum', in the pinned program and in every row, IS THE sha256 OF THE DUMP (.gsa) THAT YteaklmafjmnmiaaProg.lean LOADS. Nothing in Lean hashes anything: it is a label: what it is worth is what the hold of that sum in a sandbox is worth. -/
noncomputable def Try.pinned : Pinned := { name := "yteaklmafjmnmiaa", sum := "c22752aa7eca0e0f8bd7eec879f63a1077fa0e65085e7960b8f31eefcf645740", checked := Try.checked }
namespace Rows
def none {H : Type} : Left H := { results := [], args := [] }

/-- 'flotillalaw17.ChainBack': WHATEVER THE INPUT: true; the input reads as it did. -/
def chainBackSpec : ChangeSpec := { name := "chainBack", fn := fun _ => fun
  | [d1, d2, d3] => { results := [.lit (.bool true)], args := [d1, d2, d3] }
  | _ => none }
def chainBackRow : OpenClaim := { program := "yteaklmafjmnmiaa", sum := "c22752aa7eca0e0f8bd7eec879f63a1077fa0e65085e7960b8f31eefcf645740", func := "flotilla/flotillalaw17.ChainBack", spec := "chainBack", unfollowed := true, recurses := true, apart := false }
def ChainBackSaid : Prop := chainBackRow.holds Try.pinned (OpenSpec.ofChange chainBackSpec)

/-- ITS FALSE NEIGHBOUR: 'it returns false'. Refute it at one input. -/
def chainBackWrong : ChangeSpec := { name := "chainBack", fn := fun _ => fun
  | [d1, d2, d3] => { results := [.lit (.bool false)], args := [d1, d2, d3] }
  | _ => none }
def ChainBackWrongFalsely : Prop := chainBackRow.holds Try.pinned (OpenSpec.ofChange chainBackWrong)

/-- 'flotillalaw17.ChainNeeds': WHATEVER THE INPUT: true; the input reads as it did. -/
def chainNeedsSpec : ChangeSpec := { name := "chainNeeds", fn := fun _ => fun
  | [d] => { results := [.lit (.bool true)], args := [d] }
  | _ => none }
def chainNeedsRow : OpenClaim := { program := "yteaklmafjmnmiaa", sum := "c22752aa7eca0e0f8bd7eec879f63a1077fa0e65085e7960b8f31eefcf645740", func := "flotilla/flotillalaw17.ChainNeeds", spec := "chainNeeds", unfollowed := true, recurses := true, apart := false }
def ChainNeedsSaid : Prop := chainNeedsRow.holds Try.pinned (OpenSpec.ofChange chainNeedsSpec)

/-- ITS FALSE NEIGHBOUR: 'it returns false'. Refute it at one input. -/
def chainNeedsWrong : ChangeSpec := { name := "chainNeeds", fn := fun _ => fun
  | [d] => { results := [.lit (.bool false)], args := [d] }
  | _ => none }
def ChainNeedsWrongFalsely : Prop := chainNeedsRow.holds Try.pinned (OpenSpec.ofChange chainNeedsWrong)

/-- 'flotillalaw17.ChainSaves': WHATEVER THE INPUT: true; the input reads as it did. -/
def chainSavesSpec : ChangeSpec := { name := "chainSaves", fn := fun _ => fun
  | [d] => { results := [.lit (.bool true)], args := [d] }
  | _ => none }
def chainSavesRow : OpenClaim := { program := "yteaklmafjmnmiaa", sum := "c22752aa7eca0e0f8bd7eec879f63a1077fa0e65085e7960b8f31eefcf645740", func := "flotilla/flotillalaw17.ChainSaves", spec := "chainSaves", unfollowed := true, recurses := true, apart := false }
def ChainSavesSaid : Prop := chainSavesRow.holds Try.pinned (OpenSpec.ofChange chainSavesSpec)

/-- ITS FALSE NEIGHBOUR: 'it returns false'. Refute it at one input. -/
def chainSavesWrong : ChangeSpec := { name := "chainSaves", fn := fun _ => fun
  | [d] => { results := [.lit (.bool false)], args := [d] }
  | _ => none }
def ChainSavesWrongFalsely : Prop := chainSavesRow.holds Try.pinned (OpenSpec.ofChange chainSavesWrong)

/-- 'flotillalaw17.ChainNils': WHATEVER THE INPUT: true; the input reads as it did. -/
def chainNilsSpec : ChangeSpec := { name := "chainNils", fn := fun _ => fun
  | [d1, d2] => { results := [.lit (.bool true)], args := [d1, d2] }
  | _ => none }
def chainNilsRow : OpenClaim := { program := "yteaklmafjmnmiaa", sum := "c22752aa7eca0e0f8bd7eec879f63a1077fa0e65085e7960b8f31eefcf645740", func := "flotilla/flotillalaw17.ChainNils", spec := "chainNils", unfollowed := true, recurses := true, apart := false }
def ChainNilsSaid : Prop := chainNilsRow.holds Try.pinned (OpenSpec.ofChange chainNilsSpec)

/-- ITS FALSE NEIGHBOUR: 'it returns false'. Refute it at one input. -/
def chainNilsWrong : ChangeSpec := { name := "chainNils", fn := fun _ => fun
  | [d1, d2] => { results := [.lit (.bool false)], args := [d1, d2] }
  | _ => none }
def ChainNilsWrongFalsely : Prop := chainNilsRow.holds Try.pinned (OpenSpec.ofChange chainNilsWrong)

/-- 'flotillalaw17.ChainApart': WHATEVER THE INPUT: true; the input reads as it did. -/
def chainApartSpec : ChangeSpec := { name := "chainApart", fn := fun _ => fun
  | [d1, d2] => { results := [.lit (.bool true)], args := [d1, d2] }
  | _ => none }
def chainApartRow : OpenClaim := { program := "yteaklmafjmnmiaa", sum := "c22752aa7eca0e0f8bd7eec879f63a1077fa0e65085e7960b8f31eefcf645740", func := "flotilla/flotillalaw17.ChainApart", spec := "chainApart", unfollowed := true, recurses := true, apart := false }
def ChainApartSaid : Prop := chainApartRow.holds Try.pinned (OpenSpec.ofChange chainApartSpec)

/-- ITS FALSE NEIGHBOUR: 'it returns false'. Refute it at one input. -/
def chainApartWrong : ChangeSpec := { name := "chainApart", fn := fun _ => fun
  | [d1, d2] => { results := [.lit (.bool false)], args := [d1, d2] }
  | _ => none }
def ChainApartWrongFalsely : Prop := chainApartRow.holds Try.pinned (OpenSpec.ofChange chainApartWrong)

/- THE SECOND FORM. 'bulk': how many values and letters a reading holds, each counted each time it is reached (what is shared counts as often as it is met; a slice's spare places count too). A statement '..UptoSaid' is the law's where the arguments, and the package variables that the reading takes, are together of bulk at most 1048576: NARROWER than '..Said'. Prove '..Said' where nothing that the law and all that it calls make is longer than what came in: it says more and counts as full. Else prove '..UptoSaid'. A law counts once. -/
mutual
def uptoBulk {H : Type} : DataW H → Nat
  | .lit (.string bytes) => bytes.length + 1
  | .lit _ => 1
  | .nil => 1
  | .ptr d => uptoBulk d + 1
  | .slice elems spare => uptoBulkAll elems + uptoBulkAll spare + 1
  | .agg parts => uptoBulkAll parts + 1
  | .iface _ d => uptoBulk d + 1
  | .map entries => uptoBulkEntries entries + 1
  | .held _ => 1
def uptoBulkAll {H : Type} : List (DataW H) → Nat
  | [] => 0
  | d :: r => uptoBulk d + uptoBulkAll r
def uptoBulkEntries {H : Type} : List (Lit × DataW H) → Nat
  | [] => 0
  | x :: r => uptoBulkEntry x + uptoBulkEntries r
def uptoBulkEntry {H : Type} : Lit × DataW H → Nat
  | (.string bytes, d) => bytes.length + uptoBulk d + 1
  | (_, d) => uptoBulk d + 1
 end
def uptoSmall : (H : Type) → List (DataW H) → Bool := fun _ ds => decide (uptoBulkAll ds ≤ 1048576)
def OpenSpec.upto (s : _root_.Go.ChangeSpec) : _root_.Go.OpenSpec := { _root_.Go.OpenSpec.ofChange s with cond := some uptoSmall }

/-- 'flotillalaw17.ChainBack', WHERE WHAT IT READS IS OF BULK AT MOST 1048576: true; the input reads as it did. -/
def chainBackUptoRow : OpenClaim := { program := "yteaklmafjmnmiaa", sum := "c22752aa7eca0e0f8bd7eec879f63a1077fa0e65085e7960b8f31eefcf645740", func := "flotilla/flotillalaw17.ChainBack", spec := "chainBack", unfollowed := true, recurses := true, apart := false, narrowed := true }
def ChainBackUptoSaid : Prop := chainBackUptoRow.holds Try.pinned (OpenSpec.upto chainBackSpec)

/-- 'flotillalaw17.ChainNeeds', WHERE WHAT IT READS IS OF BULK AT MOST 1048576: true; the input reads as it did. -/
def chainNeedsUptoRow : OpenClaim := { program := "yteaklmafjmnmiaa", sum := "c22752aa7eca0e0f8bd7eec879f63a1077fa0e65085e7960b8f31eefcf645740", func := "flotilla/flotillalaw17.ChainNeeds", spec := "chainNeeds", unfollowed := true, recurses := true, apart := false, narrowed := true }
def ChainNeedsUptoSaid : Prop := chainNeedsUptoRow.holds Try.pinned (OpenSpec.upto chainNeedsSpec)

/-- 'flotillalaw17.ChainSaves', WHERE WHAT IT READS IS OF BULK AT MOST 1048576: true; the input reads as it did. -/
def chainSavesUptoRow : OpenClaim := { program := "yteaklmafjmnmiaa", sum := "c22752aa7eca0e0f8bd7eec879f63a1077fa0e65085e7960b8f31eefcf645740", func := "flotilla/flotillalaw17.ChainSaves", spec := "chainSaves", unfollowed := true, recurses := true, apart := false, narrowed := true }
def ChainSavesUptoSaid : Prop := chainSavesUptoRow.holds Try.pinned (OpenSpec.upto chainSavesSpec)

/-- 'flotillalaw17.ChainNils', WHERE WHAT IT READS IS OF BULK AT MOST 1048576: true; the input reads as it did. -/
def chainNilsUptoRow : OpenClaim := { program := "yteaklmafjmnmiaa", sum := "c22752aa7eca0e0f8bd7eec879f63a1077fa0e65085e7960b8f31eefcf645740", func := "flotilla/flotillalaw17.ChainNils", spec := "chainNils", unfollowed := true, recurses := true, apart := false, narrowed := true }
def ChainNilsUptoSaid : Prop := chainNilsUptoRow.holds Try.pinned (OpenSpec.upto chainNilsSpec)

/-- 'flotillalaw17.ChainApart', WHERE WHAT IT READS IS OF BULK AT MOST 1048576: true; the input reads as it did. -/
def chainApartUptoRow : OpenClaim := { program := "yteaklmafjmnmiaa", sum := "c22752aa7eca0e0f8bd7eec879f63a1077fa0e65085e7960b8f31eefcf645740", func := "flotilla/flotillalaw17.ChainApart", spec := "chainApart", unfollowed := true, recurses := true, apart := false, narrowed := true }
def ChainApartUptoSaid : Prop := chainApartUptoRow.holds Try.pinned (OpenSpec.upto chainApartSpec)

end Rows
end Go.Proofs.Yteaklmafjmnmiaa
