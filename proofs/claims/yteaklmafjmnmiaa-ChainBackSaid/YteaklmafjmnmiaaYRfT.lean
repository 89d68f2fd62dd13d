/- Types of the Go text as Lean structures, and their readings: out of the print's text for this seat. -/
import Derived.Test.YteaklmafjmnmiaaProg
import Derived.Below
import Derived.Deep.Draws
import Derived.Deep.AppendLies
import Derived.Maps.AppendAt
import Derived.OwnWalk
import Derived.Laws.BytesArg
import Derived.Laws.MakeOwn
import Derived.Laws.OwnMore
import Derived.Deep.OwnRows
import Derived.Tactics
import Derived.Lib.ConvBytes
import Derived.Laws.Slices
import Derived.WalkKit
import Derived.KernelRfl
import Derived.RowKit3
import Derived.Deep.LoopGhost
import Derived.Deep.QuietTactic
import Derived.BigQuiet
import Derived.WideLaws
import Derived.Deep.DeepCutAuto
import Derived.Deep.CutBlock
import Derived.Deep.RegionHeld3
import Derived.Laws.Rows
import Derived.Lib.AppendStr
import Derived.ArgAppend
import Derived.Laws.IdiomCopy
import Derived.OrdersHeld
import Derived.Laws.BitsLemmas
import Derived.RowKit
import Derived.Test.YteaklmafjmnmiaaYWWords
import Derived.Test.YteaklmafjmnmiaaYWLast
import Derived.Test.YteaklmafjmnmiaaYWTab
import Derived.Test.YteaklmafjmnmiaaYWFour
import Derived.Test.YteaklmafjmnmiaaYWQPut
import Derived.Test.YteaklmafjmnmiaaYWApart
import Derived.Test.YteaklmafjmnmiaaYWArr
import Derived.Test.YteaklmafjmnmiaaYWZeros
import Derived.Test.YteaklmafjmnmiaaYWFoot
import Derived.Test.YteaklmafjmnmiaaYWKept
import Derived.Test.YteaklmafjmnmiaaYWShare
import Derived.Test.YteaklmafjmnmiaaYWN
import Derived.Test.YteaklmafjmnmiaaYWFootNe
import Derived.Test.YteaklmafjmnmiaaYWAt
import Derived.Test.YteaklmafjmnmiaaYWEqStruct
import Derived.Test.YteaklmafjmnmiaaYWRepsOne
import Derived.Test.YteaklmafjmnmiaaYWInv
import Derived.Test.YteaklmafjmnmiaaYWInvWords
import Derived.Test.YteaklmafjmnmiaaYWGuard
import Derived.Test.YteaklmafjmnmiaaYWNEv
import Derived.Test.YteaklmafjmnmiaaYWMore
import Derived.WalkSpells
import Derived.WalkLawsBesides
namespace Go.Proofs.Yteaklmafjmnmiaa.Rf
open Go.RowKit Go.Proofs.YteaklmafjmnmiaaW.PrintWords Go.Proofs.YteaklmafjmnmiaaW.PrintLast Go.Proofs.YteaklmafjmnmiaaW.PrintMore
attribute [local go_sem] max2_int min2_int max_two min_two max_three min_three max_four min_four
set_option linter.unusedVariables false
set_option linter.unusedSimpArgs false

/-! struct type 54: api.Txn -/
structure SGTxn where
  f0 : Int
  f1 : Int
  f2 : Int
def zGTxn : SGTxn := ⟨(0 : Int), (0 : Int), (0 : Int)⟩
def kGTxn : Kd SGTxn := Kd.iso (Kd.pair (Kd.int .i64) (Kd.pair (Kd.int .i64) (Kd.int .u64))) (fun x : SGTxn => (x.f0, x.f1, x.f2))
theorem kGTxn_open {w : World} {x : SGTxn} {cs : List Value} (h : kGTxn.K w x cs) : cs = [.int .i64 x.f0, .int .i64 x.f1, .int .u64 x.f2] := by
  obtain ⟨_, _, rfl, rfl, ⟨_, _, rfl, rfl, rfl⟩⟩ := h
  exact rfl
def rd_TGTxn (xs : List SGTxn) (i : Int) : SGTxn := xs.getD i.toNat zGTxn
theorem at_TGTxn {w : World} {A : Option Addr} {n : Nat} {xs : List SGTxn} (h : Kd.C kGTxn w A n xs) (i : Int) (h0 : 0 ≤ i) (h1 : i < n) : ∃ ad , A = some ad ∧ w.cell? (ad.add (i.toNat * 3)) = some (.int .i64 (rd_TGTxn xs i).f0) ∧ w.cell? ⟨(ad.add (i.toNat * 3)).block, (ad.add (i.toNat * 3)).off + 1, none⟩ = some (.int .i64 (rd_TGTxn xs i).f1) ∧ w.cell? ⟨(ad.add (i.toNat * 3)).block, (ad.add (i.toNat * 3)).off + 2, none⟩ = some (.int .u64 (rd_TGTxn xs i).f2) := by
  obtain ⟨ad, c, e, _, hK, hc0⟩ := Kd.C_get h zGTxn i h0 h1
  have hc : ∀ j u, c[j]? = some u → w.cell? (ad.add (i.toNat * 3 + j)) = some u := hc0
  obtain rfl := kGTxn_open hK
  exact ⟨ad, e, hc 0 _ rfl, by rw [← add_field _ _ 1 (by omega)]; exact hc 1 _ rfl, by rw [← add_field _ _ 2 (by omega)]; exact hc 2 _ rfl⟩


/-! struct type 100: api.Dirty -/
structure SGDirty where
  f0 : Int
  f1 : Int
def zGDirty : SGDirty := ⟨(0 : Int), (0 : Int)⟩
def kGDirty : Kd SGDirty := Kd.iso (Kd.pair (Kd.int .i64) (Kd.int .u64)) (fun x : SGDirty => (x.f0, x.f1))
theorem kGDirty_open {w : World} {x : SGDirty} {cs : List Value} (h : kGDirty.K w x cs) : cs = [.int .i64 x.f0, .int .u64 x.f1] := by
  obtain ⟨_, _, rfl, rfl, rfl⟩ := h
  exact rfl
def rd_TGDirty (xs : List SGDirty) (i : Int) : SGDirty := xs.getD i.toNat zGDirty
theorem at_TGDirty {w : World} {A : Option Addr} {n : Nat} {xs : List SGDirty} (h : Kd.C kGDirty w A n xs) (i : Int) (h0 : 0 ≤ i) (h1 : i < n) : ∃ ad , A = some ad ∧ w.cell? (ad.add (i.toNat * 2)) = some (.int .i64 (rd_TGDirty xs i).f0) ∧ w.cell? ⟨(ad.add (i.toNat * 2)).block, (ad.add (i.toNat * 2)).off + 1, none⟩ = some (.int .u64 (rd_TGDirty xs i).f1) := by
  obtain ⟨ad, c, e, _, hK, hc0⟩ := Kd.C_get h zGDirty i h0 h1
  have hc : ∀ j u, c[j]? = some u → w.cell? (ad.add (i.toNat * 2 + j)) = some u := hc0
  obtain rfl := kGDirty_open hK
  exact ⟨ad, e, hc 0 _ rfl, by rw [← add_field _ _ 1 (by omega)]; exact hc 1 _ rfl⟩


theorem eqA35 (d : Nat) (w : World) (x0 y0 : Int) (x1 y1 : ByteArray) (x2 y2 : ByteArray) (x3 y3 : ByteArray) :
    (Op.equalIn (d + 2) 35 (.agg #[.int .i64 x0, .string x1, .string x2, .string x3]) (.agg #[.int .i64 y0, .string y1, .string y2, .string y3])).run Try.prog w = .ok (x0 == y0 && (x1.toList == y1.toList && (x2.toList == y2.toList && (x3.toList == y3.toList)))) w := by
  refine eqA_of Try.underlying35 (by kernel_rfl) ?_
  refine eqf_cons (by rfl) (by go_simp; rfl) (by go_simp; rfl) (by go_simp) ?_
  refine eqf_cons (by rfl) (by go_simp; rfl) (by go_simp; rfl) (by go_simp) ?_
  refine eqf_cons (by rfl) (by go_simp; rfl) (by go_simp; rfl) (by go_simp) ?_
  exact eqf_last (by rfl) (by go_simp; rfl) (by go_simp; rfl) (by go_simp)

end Go.Proofs.Yteaklmafjmnmiaa.Rf
