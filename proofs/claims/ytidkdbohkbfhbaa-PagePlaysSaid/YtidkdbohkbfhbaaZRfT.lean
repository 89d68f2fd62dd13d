/- Types of the Go text as Lean structures, and their readings: out of the print's text for this seat. -/
import Derived.Test.YtidkdbohkbfhbaaProg
import Derived.Below
import Derived.Deep.Draws
import Derived.Deep.AppendLies
import Derived.Maps.AppendAt
import Derived.OwnWalk
import Derived.Laws.BytesArg
import Derived.Laws.MakeOwn
import Derived.Laws.OwnMore
import Derived.Deep.OwnRows
import Derived.Tactics
import Derived.Lib.ConvBytes
import Derived.Laws.Slices
import Derived.WalkKit
import Derived.KernelRfl
import Derived.RowKit3
import Derived.Deep.LoopGhost
import Derived.Deep.QuietTactic
import Derived.BigQuiet
import Derived.WideLaws
import Derived.Deep.DeepCutAuto
import Derived.Deep.CutBlock
import Derived.Deep.RegionHeld3
import Derived.Laws.Rows
import Derived.Lib.AppendStr
import Derived.ArgAppend
import Derived.Laws.IdiomCopy
import Derived.OrdersHeld
import Derived.Laws.BitsLemmas
import Derived.RowKit
import Derived.Test.YtidkdbohkbfhbaaZWWords
import Derived.Test.YtidkdbohkbfhbaaZWLast
import Derived.Test.YtidkdbohkbfhbaaZWTab
import Derived.Test.YtidkdbohkbfhbaaZWFour
import Derived.Test.YtidkdbohkbfhbaaZWQPut
import Derived.Test.YtidkdbohkbfhbaaZWApart
import Derived.Test.YtidkdbohkbfhbaaZWArr
import Derived.Test.YtidkdbohkbfhbaaZWZeros
import Derived.Test.YtidkdbohkbfhbaaZWFoot
import Derived.Test.YtidkdbohkbfhbaaZWKept
import Derived.Test.YtidkdbohkbfhbaaZWShare
import Derived.Test.YtidkdbohkbfhbaaZWN
import Derived.Test.YtidkdbohkbfhbaaZWFootNe
import Derived.Test.YtidkdbohkbfhbaaZWAt
import Derived.Test.YtidkdbohkbfhbaaZWEqStruct
import Derived.Test.YtidkdbohkbfhbaaZWRepsOne
import Derived.Test.YtidkdbohkbfhbaaZWInv
import Derived.Test.YtidkdbohkbfhbaaZWInvWords
import Derived.Test.YtidkdbohkbfhbaaZWGuard
import Derived.Test.YtidkdbohkbfhbaaZWNEv
import Derived.Test.YtidkdbohkbfhbaaZWMore
import Derived.WalkSpells
import Derived.WalkLawsBesides
namespace Go.Proofs.Ytidkdbohkbfhbaa.Rf
open Go.RowKit Go.Proofs.YtidkdbohkbfhbaaW.PrintWords Go.Proofs.YtidkdbohkbfhbaaW.PrintLast Go.Proofs.YtidkdbohkbfhbaaW.PrintMore
attribute [local go_sem] max2_int min2_int max_two min_two max_three min_three max_four min_four
set_option linter.unusedVariables false
set_option linter.unusedSimpArgs false

theorem info5 : (Try.prog.info? 5).map (fun i => (i.zero, i.size, i.bytes)) = some (some (.int .u8 0), 1, 1) := by kernel_rfl
theorem info36 : (Try.prog.info? 36).map (fun i => (i.zero, i.size, i.bytes)) = some (some (.agg #[(.string ⟨#[]⟩), (.string ⟨#[]⟩)]), 2, 32) := by kernel_rfl
theorem info46 : (Try.prog.info? 46).map (fun i => (i.zero, i.size, i.bytes)) = some (some (.agg #[(.bool false), (.string ⟨#[]⟩), (.string ⟨#[]⟩)]), 3, 40) := by kernel_rfl
/-! struct type 36: api.Pair -/
structure SGPair where
  f0 : ByteArray
  f1 : ByteArray
def zGPair : SGPair := ⟨(⟨#[]⟩ : ByteArray), (⟨#[]⟩ : ByteArray)⟩
def kGPair : Kd SGPair := Kd.iso (Kd.pair Kd.string Kd.string) (fun x : SGPair => (x.f0, x.f1))
theorem kGPair_open {w : World} {x : SGPair} {cs : List Value} (h : kGPair.K w x cs) : cs = [.string x.f0, .string x.f1] := by
  obtain ⟨_, _, rfl, rfl, rfl⟩ := h
  exact rfl
theorem kGPair_openM {w : World} {base : Nat} {ok : Nat → Prop} {x : SGPair} {cs : List Value} (h : kGPair.M w base ok x cs) : cs = [.string x.f0, .string x.f1] := by
  obtain ⟨_, _, rfl, rfl, rfl⟩ := h
  exact rfl
theorem kGPair_mkM (w : World) (base : Nat) (ok : Nat → Prop) (x : SGPair)  : kGPair.M w base ok x [.string x.f0, .string x.f1] := ⟨[.string x.f0], [.string x.f1], rfl, rfl, rfl⟩
def rd_TGPair (xs : List SGPair) (i : Int) : SGPair := xs.getD i.toNat zGPair
theorem at_TGPair {w : World} {A : Option Addr} {n : Nat} {xs : List SGPair} (h : Kd.C kGPair w A n xs) (i : Int) (h0 : 0 ≤ i) (h1 : i < n) : ∃ ad , A = some ad ∧ w.cell? (ad.add (i.toNat * 2)) = some (.string (rd_TGPair xs i).f0) ∧ w.cell? ⟨(ad.add (i.toNat * 2)).block, (ad.add (i.toNat * 2)).off + 1, none⟩ = some (.string (rd_TGPair xs i).f1) := by
  obtain ⟨ad, c, e, _, hK, hc0⟩ := Kd.C_get h zGPair i h0 h1
  have hc : ∀ j u, c[j]? = some u → w.cell? (ad.add (i.toNat * 2 + j)) = some u := hc0
  obtain rfl := kGPair_open hK
  exact ⟨ad, e, hc 0 _ rfl, by rw [← add_field _ _ 1 (by omega)]; exact hc 1 _ rfl⟩


/-! struct type 46: api.Cell -/
structure SGCell where
  f0 : Bool
  f1 : ByteArray
  f2 : ByteArray
def zGCell : SGCell := ⟨false, (⟨#[]⟩ : ByteArray), (⟨#[]⟩ : ByteArray)⟩
def kGCell : Kd SGCell := Kd.iso (Kd.pair Kd.bool (Kd.pair Kd.string Kd.string)) (fun x : SGCell => (x.f0, x.f1, x.f2))
theorem kGCell_open {w : World} {x : SGCell} {cs : List Value} (h : kGCell.K w x cs) : cs = [.bool x.f0, .string x.f1, .string x.f2] := by
  obtain ⟨_, _, rfl, rfl, ⟨_, _, rfl, rfl, rfl⟩⟩ := h
  exact rfl
theorem kGCell_openM {w : World} {base : Nat} {ok : Nat → Prop} {x : SGCell} {cs : List Value} (h : kGCell.M w base ok x cs) : cs = [.bool x.f0, .string x.f1, .string x.f2] := by
  obtain ⟨_, _, rfl, rfl, ⟨_, _, rfl, rfl, rfl⟩⟩ := h
  exact rfl
theorem kGCell_mkM (w : World) (base : Nat) (ok : Nat → Prop) (x : SGCell)  : kGCell.M w base ok x [.bool x.f0, .string x.f1, .string x.f2] := ⟨[.bool x.f0], [.string x.f1, .string x.f2], rfl, rfl, ⟨[.string x.f1], [.string x.f2], rfl, rfl, rfl⟩⟩
def rd_TGCell (xs : List SGCell) (i : Int) : SGCell := xs.getD i.toNat zGCell
theorem at_TGCell {w : World} {A : Option Addr} {n : Nat} {xs : List SGCell} (h : Kd.C kGCell w A n xs) (i : Int) (h0 : 0 ≤ i) (h1 : i < n) : ∃ ad , A = some ad ∧ w.cell? (ad.add (i.toNat * 3)) = some (.bool (rd_TGCell xs i).f0) ∧ w.cell? ⟨(ad.add (i.toNat * 3)).block, (ad.add (i.toNat * 3)).off + 1, none⟩ = some (.string (rd_TGCell xs i).f1) ∧ w.cell? ⟨(ad.add (i.toNat * 3)).block, (ad.add (i.toNat * 3)).off + 2, none⟩ = some (.string (rd_TGCell xs i).f2) := by
  obtain ⟨ad, c, e, _, hK, hc0⟩ := Kd.C_get h zGCell i h0 h1
  have hc : ∀ j u, c[j]? = some u → w.cell? (ad.add (i.toNat * 3 + j)) = some u := hc0
  obtain rfl := kGCell_open hK
  exact ⟨ad, e, hc 0 _ rfl, by rw [← add_field _ _ 1 (by omega)]; exact hc 1 _ rfl, by rw [← add_field _ _ 2 (by omega)]; exact hc 2 _ rfl⟩


theorem eqAGPair (d : Nat) (w : World) (x0 y0 : ByteArray) (x1 y1 : ByteArray) :
    (Op.equalIn (d + 2) 36 (.agg #[.string x0, .string x1]) (.agg #[.string y0, .string y1])).run Try.prog w = .ok (x0.toList == y0.toList && (x1.toList == y1.toList)) w := by
  refine eqA_of Try.underlying36 (by kernel_rfl) ?_
  refine eqf_cons (by rfl) (by go_simp; rfl) (by go_simp; rfl) (by go_simp) ?_
  exact eqf_last (by rfl) (by go_simp; rfl) (by go_simp; rfl) (by go_simp)

theorem eqAGCell (d : Nat) (w : World) (x0 y0 : Bool) (x1 y1 : ByteArray) (x2 y2 : ByteArray) :
    (Op.equalIn (d + 2) 46 (.agg #[.bool x0, .string x1, .string x2]) (.agg #[.bool y0, .string y1, .string y2])).run Try.prog w = .ok (x0 == y0 && (x1.toList == y1.toList && (x2.toList == y2.toList))) w := by
  refine eqA_of Try.underlying46 (by kernel_rfl) ?_
  refine eqf_cons (by rfl) (by go_simp; rfl) (by go_simp; rfl) (by go_simp) ?_
  refine eqf_cons (by rfl) (by go_simp; rfl) (by go_simp; rfl) (by go_simp) ?_
  exact eqf_last (by rfl) (by go_simp; rfl) (by go_simp; rfl) (by go_simp)

end Go.Proofs.Ytidkdbohkbfhbaa.Rf
