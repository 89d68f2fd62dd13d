/-
  No cell of these rows narrows 'for every input' (looked for: loops, veiled, ifaces, maps, wideKeys, modest, calm, conditions, laid).
  DERIVED. THE GIVEN ROWS OF THIS SEAT. 5 by the template 'for every input the law returns true; each argument reads behind the call as it read before'; 0 by the template 'total and deterministic' (their statements: YtaahfokdgfopcaaTotals.lean).
  GIVEN WITH THE SEED: the statements are not yours to turn. If you find one false, say at which input.
  Laid BY PROGRAM, IN A SANDBOX (cutbox-rows.mjs): the forced cells as the released guide's own fill.sh prints them over the translation ec921db5c4214143… (all of the seat's roots in one cut). By AI agents, Wed Nov 11 2026. No macro, syntax, notation, axiom, sorry.
-/
import Derived.Test.YtaahfokdgfopcaaChecked
import GoSem.Claim
import GoSem.ClaimJoined
import GoSem.ClaimMapViews
import Derived.JoinedTies
import Derived.KernelRfl
namespace Go.Proofs.Ytaahfokdgfopcaa
/- THE CELL 'sum', in the pinned program and in every row, IS THE sha256 OF THE DUMP (.gsa) THAT YtaahfokdgfopcaaProg.lean LOADS. Nothing in Lean hashes anything: it is a label: what it is worth is what the hold of that sum in a sandbox is worth. -/
noncomputable def Try.pinned : Pinned := { name := "ytaahfokdgfopcaa", sum := "ec921db5c4214143a4f2d1bb74997504f6e14ecd8bf2c4f26d1283f6724fee47", checked := Try.checked }
namespace Rows
def none {H : Type} : Left H := { results := [], args := [] }

/-- 'flotillalaw18.FindNexts': WHATEVER THE INPUT: true; the input reads as it did. -/
def findNextsSpec : ChangeSpec := { name := "findNexts", fn := fun _ => fun
  | [d1, d2] => { results := [.lit (.bool true)], args := [d1, d2] }
  | _ => none }
def findNextsRow : OpenClaim := { program := "ytaahfokdgfopcaa", sum := "ec921db5c4214143a4f2d1bb74997504f6e14ecd8bf2c4f26d1283f6724fee47", func := "flotilla/flotillalaw18.FindNexts", spec := "findNexts", unfollowed := true, recurses := true, apart := false }
def FindNextsSaid : Prop := findNextsRow.holds Try.pinned (OpenSpec.ofChange findNextsSpec)

/-- ITS FALSE NEIGHBOUR: 'it returns false'. Refute it at one input. -/
def findNextsWrong : ChangeSpec := { name := "findNexts", fn := fun _ => fun
  | [d1, d2] => { results := [.lit (.bool false)], args := [d1, d2] }
  | _ => none }
def FindNextsWrongFalsely : Prop := findNextsRow.holds Try.pinned (OpenSpec.ofChange findNextsWrong)

/-- 'flotillalaw18.FindEnds': WHATEVER THE INPUT: true; the input reads as it did. -/
def findEndsSpec : ChangeSpec := { name := "findEnds", fn := fun _ => fun
  | [d1, d2] => { results := [.lit (.bool true)], args := [d1, d2] }
  | _ => none }
def findEndsRow : OpenClaim := { program := "ytaahfokdgfopcaa", sum := "ec921db5c4214143a4f2d1bb74997504f6e14ecd8bf2c4f26d1283f6724fee47", func := "flotilla/flotillalaw18.FindEnds", spec := "findEnds", unfollowed := true, recurses := true, apart := false }
def FindEndsSaid : Prop := findEndsRow.holds Try.pinned (OpenSpec.ofChange findEndsSpec)

/-- ITS FALSE NEIGHBOUR: 'it returns false'. Refute it at one input. -/
def findEndsWrong : ChangeSpec := { name := "findEnds", fn := fun _ => fun
  | [d1, d2] => { results := [.lit (.bool false)], args := [d1, d2] }
  | _ => none }
def FindEndsWrongFalsely : Prop := findEndsRow.holds Try.pinned (OpenSpec.ofChange findEndsWrong)

/-- 'flotillalaw18.FindDirty': WHATEVER THE INPUT: true; the input reads as it did. -/
def findDirtySpec : ChangeSpec := { name := "findDirty", fn := fun _ => fun
  | [d] => { results := [.lit (.bool true)], args := [d] }
  | _ => none }
def findDirtyRow : OpenClaim := { program := "ytaahfokdgfopcaa", sum := "ec921db5c4214143a4f2d1bb74997504f6e14ecd8bf2c4f26d1283f6724fee47", func := "flotilla/flotillalaw18.FindDirty", spec := "findDirty", unfollowed := true, recurses := true, apart := false }
def FindDirtySaid : Prop := findDirtyRow.holds Try.pinned (OpenSpec.ofChange findDirtySpec)

/-- ITS FALSE NEIGHBOUR: 'it returns false'. Refute it at one input. -/
def findDirtyWrong : ChangeSpec := { name := "findDirty", fn := fun _ => fun
  | [d] => { results := [.lit (.bool false)], args := [d] }
  | _ => none }
def FindDirtyWrongFalsely : Prop := findDirtyRow.holds Try.pinned (OpenSpec.ofChange findDirtyWrong)

/-- 'flotillalaw18.FindAll': WHATEVER THE INPUT: true; the input reads as it did. -/
def findAllSpec : ChangeSpec := { name := "findAll", fn := fun _ => fun
  | [d] => { results := [.lit (.bool true)], args := [d] }
  | _ => none }
def findAllRow : OpenClaim := { program := "ytaahfokdgfopcaa", sum := "ec921db5c4214143a4f2d1bb74997504f6e14ecd8bf2c4f26d1283f6724fee47", func := "flotilla/flotillalaw18.FindAll", spec := "findAll", unfollowed := true, recurses := true, apart := false }
def FindAllSaid : Prop := findAllRow.holds Try.pinned (OpenSpec.ofChange findAllSpec)

/-- ITS FALSE NEIGHBOUR: 'it returns false'. Refute it at one input. -/
def findAllWrong : ChangeSpec := { name := "findAll", fn := fun _ => fun
  | [d] => { results := [.lit (.bool false)], args := [d] }
  | _ => none }
def FindAllWrongFalsely : Prop := findAllRow.holds Try.pinned (OpenSpec.ofChange findAllWrong)

/-- 'flotillalaw18.FindBits': WHATEVER THE INPUT: true; the input reads as it did. -/
def findBitsSpec : ChangeSpec := { name := "findBits", fn := fun _ => fun
  | [d1, d2] => { results := [.lit (.bool true)], args := [d1, d2] }
  | _ => none }
def findBitsRow : OpenClaim := { program := "ytaahfokdgfopcaa", sum := "ec921db5c4214143a4f2d1bb74997504f6e14ecd8bf2c4f26d1283f6724fee47", func := "flotilla/flotillalaw18.FindBits", spec := "findBits", unfollowed := true, recurses := true, apart := false }
def FindBitsSaid : Prop := findBitsRow.holds Try.pinned (OpenSpec.ofChange findBitsSpec)

/-- ITS FALSE NEIGHBOUR: 'it returns false'. Refute it at one input. -/
def findBitsWrong : ChangeSpec := { name := "findBits", fn := fun _ => fun
  | [d1, d2] => { results := [.lit (.bool false)], args := [d1, d2] }
  | _ => none }
def FindBitsWrongFalsely : Prop := findBitsRow.holds Try.pinned (OpenSpec.ofChange findBitsWrong)

/- THE SECOND FORM. 'bulk': how many values and letters a reading holds, each counted each time it is reached (what is shared counts as often as it is met; a slice's spare places count too). A statement '..UptoSaid' is the law's where the arguments, and the package variables that the reading takes, are together of bulk at most 1048576: NARROWER than '..Said'. Prove '..Said' where nothing that the law and all that it calls make is longer than what came in: it says more and counts as full. Else prove '..UptoSaid'. A law counts once. -/
mutual
def uptoBulk {H : Type} : DataW H → Nat
  | .lit (.string bytes) => bytes.length + 1
  | .lit _ => 1
  | .nil => 1
  | .ptr d => uptoBulk d + 1
  | .slice elems spare => uptoBulkAll elems + uptoBulkAll spare + 1
  | .agg parts => uptoBulkAll parts + 1
  | .iface _ d => uptoBulk d + 1
  | .map entries => uptoBulkEntries entries + 1
  | .held _ => 1
def uptoBulkAll {H : Type} : List (DataW H) → Nat
  | [] => 0
  | d :: r => uptoBulk d + uptoBulkAll r
def uptoBulkEntries {H : Type} : List (Lit × DataW H) → Nat
  | [] => 0
  | x :: r => uptoBulkEntry x + uptoBulkEntries r
def uptoBulkEntry {H : Type} : Lit × DataW H → Nat
  | (.string bytes, d) => bytes.length + uptoBulk d + 1
  | (_, d) => uptoBulk d + 1
 end
def uptoSmall : (H : Type) → List (DataW H) → Bool := fun _ ds => decide (uptoBulkAll ds ≤ 1048576)
def OpenSpec.upto (s : _root_.Go.ChangeSpec) : _root_.Go.OpenSpec := { _root_.Go.OpenSpec.ofChange s with cond := some uptoSmall }

/-- 'flotillalaw18.FindNexts', WHERE WHAT IT READS IS OF BULK AT MOST 1048576: true; the input reads as it did. -/
def findNextsUptoRow : OpenClaim := { program := "ytaahfokdgfopcaa", sum := "ec921db5c4214143a4f2d1bb74997504f6e14ecd8bf2c4f26d1283f6724fee47", func := "flotilla/flotillalaw18.FindNexts", spec := "findNexts", unfollowed := true, recurses := true, apart := false, narrowed := true }
def FindNextsUptoSaid : Prop := findNextsUptoRow.holds Try.pinned (OpenSpec.upto findNextsSpec)

/-- 'flotillalaw18.FindEnds', WHERE WHAT IT READS IS OF BULK AT MOST 1048576: true; the input reads as it did. -/
def findEndsUptoRow : OpenClaim := { program := "ytaahfokdgfopcaa", sum := "ec921db5c4214143a4f2d1bb74997504f6e14ecd8bf2c4f26d1283f6724fee47", func := "flotilla/flotillalaw18.FindEnds", spec := "findEnds", unfollowed := true, recurses := true, apart := false, narrowed := true }
def FindEndsUptoSaid : Prop := findEndsUptoRow.holds Try.pinned (OpenSpec.upto findEndsSpec)

/-- 'flotillalaw18.FindDirty', WHERE WHAT IT READS IS OF BULK AT MOST 1048576: true; the input reads as it did. -/
def findDirtyUptoRow : OpenClaim := { program := "ytaahfokdgfopcaa", sum := "ec921db5c4214143a4f2d1bb74997504f6e14ecd8bf2c4f26d1283f6724fee47", func := "flotilla/flotillalaw18.FindDirty", spec := "findDirty", unfollowed := true, recurses := true, apart := false, narrowed := true }
def FindDirtyUptoSaid : Prop := findDirtyUptoRow.holds Try.pinned (OpenSpec.upto findDirtySpec)

/-- 'flotillalaw18.FindAll', WHERE WHAT IT READS IS OF BULK AT MOST 1048576: true; the input reads as it did. -/
def findAllUptoRow : OpenClaim := { program := "ytaahfokdgfopcaa", sum := "ec921db5c4214143a4f2d1bb74997504f6e14ecd8bf2c4f26d1283f6724fee47", func := "flotilla/flotillalaw18.FindAll", spec := "findAll", unfollowed := true, recurses := true, apart := false, narrowed := true }
def FindAllUptoSaid : Prop := findAllUptoRow.holds Try.pinned (OpenSpec.upto findAllSpec)

/-- 'flotillalaw18.FindBits', WHERE WHAT IT READS IS OF BULK AT MOST 1048576: true; the input reads as it did. -/
def findBitsUptoRow : OpenClaim := { program := "ytaahfokdgfopcaa", sum := "ec921db5c4214143a4f2d1bb74997504f6e14ecd8bf2c4f26d1283f6724fee47", func := "flotilla/flotillalaw18.FindBits", spec := "findBits", unfollowed := true, recurses := true, apart := false, narrowed := true }
def FindBitsUptoSaid : Prop := findBitsUptoRow.holds Try.pinned (OpenSpec.upto findBitsSpec)

end Rows
end Go.Proofs.Ytaahfokdgfopcaa
