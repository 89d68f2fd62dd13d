/- Types of the Go text as Lean structures, and their readings: out of the print's text for this seat. -/
import Derived.Test.YtaahfokdgfopcaaProg
import Derived.Below
import Derived.Deep.Draws
import Derived.Deep.AppendLies
import Derived.Maps.AppendAt
import Derived.OwnWalk
import Derived.Laws.BytesArg
import Derived.Laws.MakeOwn
import Derived.Laws.OwnMore
import Derived.Deep.OwnRows
import Derived.Tactics
import Derived.Lib.ConvBytes
import Derived.Laws.Slices
import Derived.WalkKit
import Derived.KernelRfl
import Derived.RowKit3
import Derived.Deep.LoopGhost
import Derived.Deep.QuietTactic
import Derived.BigQuiet
import Derived.WideLaws
import Derived.Deep.DeepCutAuto
import Derived.Deep.CutBlock
import Derived.Deep.RegionHeld3
import Derived.Laws.Rows
import Derived.Lib.AppendStr
import Derived.ArgAppend
import Derived.Laws.IdiomCopy
import Derived.OrdersHeld
import Derived.Laws.BitsLemmas
import Derived.RowKit
import Derived.Test.YtaahfokdgfopcaaZWWords
import Derived.Test.YtaahfokdgfopcaaZWLast
import Derived.Test.YtaahfokdgfopcaaZWTab
import Derived.Test.YtaahfokdgfopcaaZWFour
import Derived.Test.YtaahfokdgfopcaaZWQPut
import Derived.Test.YtaahfokdgfopcaaZWApart
import Derived.Test.YtaahfokdgfopcaaZWArr
import Derived.Test.YtaahfokdgfopcaaZWZeros
import Derived.Test.YtaahfokdgfopcaaZWFoot
import Derived.Test.YtaahfokdgfopcaaZWKept
import Derived.Test.YtaahfokdgfopcaaZWShare
import Derived.Test.YtaahfokdgfopcaaZWN
import Derived.Test.YtaahfokdgfopcaaZWFootNe
import Derived.Test.YtaahfokdgfopcaaZWAt
import Derived.Test.YtaahfokdgfopcaaZWEqStruct
import Derived.Test.YtaahfokdgfopcaaZWRepsOne
import Derived.Test.YtaahfokdgfopcaaZWInv
import Derived.Test.YtaahfokdgfopcaaZWInvWords
import Derived.Test.YtaahfokdgfopcaaZWGuard
import Derived.Test.YtaahfokdgfopcaaZWNEv
import Derived.Test.YtaahfokdgfopcaaZWMore
import Derived.WalkSpells
import Derived.WalkLawsBesides
namespace Go.Proofs.Ytaahfokdgfopcaa.Rf
open Go.RowKit Go.Proofs.YtaahfokdgfopcaaW.PrintWords Go.Proofs.YtaahfokdgfopcaaW.PrintLast Go.Proofs.YtaahfokdgfopcaaW.PrintMore
attribute [local go_sem] max2_int min2_int max_two min_two max_three min_three max_four min_four
set_option linter.unusedVariables false
set_option linter.unusedSimpArgs false

theorem info43 : (Try.prog.info? 43).map (fun i => (i.zero, i.size, i.bytes)) = some (some (.agg #[(.int .i64 0), (.int .u64 0), (.int .i64 0), (.int .u64 0), (.int .u64 0), (.int .i64 0), (.int .i64 0), (.string ⟨#[]⟩), (.string ⟨#[]⟩), (.string ⟨#[]⟩), (.slice none 0 0), (.slice none 0 0)]), 12, 152) := by kernel_rfl
/-! struct type 41: api.Act -/
structure SGAct where
  f0 : Int
  f1 : ByteArray
  f2 : ByteArray
  f3 : ByteArray
def zGAct : SGAct := ⟨(0 : Int), (⟨#[]⟩ : ByteArray), (⟨#[]⟩ : ByteArray), (⟨#[]⟩ : ByteArray)⟩
def kGAct : Kd SGAct := Kd.iso (Kd.pair (Kd.int .i64) (Kd.pair Kd.string (Kd.pair Kd.string Kd.string))) (fun x : SGAct => (x.f0, x.f1, x.f2, x.f3))
theorem k41_heap : Kd.Heap kGAct := Kd.heap_iso _ (Kd.heap_pair (Kd.heap_int .i64) (Kd.heap_pair Kd.heap_string (Kd.heap_pair Kd.heap_string Kd.heap_string)))
theorem kGAct_open {w : World} {x : SGAct} {cs : List Value} (h : kGAct.K w x cs) : cs = [.int .i64 x.f0, .string x.f1, .string x.f2, .string x.f3] := by
  obtain ⟨_, _, rfl, rfl, ⟨_, _, rfl, rfl, ⟨_, _, rfl, rfl, rfl⟩⟩⟩ := h
  exact rfl
theorem kGAct_mk (w : World) (x : SGAct)  : kGAct.K w x [.int .i64 x.f0, .string x.f1, .string x.f2, .string x.f3] := ⟨[.int .i64 x.f0], [.string x.f1, .string x.f2, .string x.f3], rfl, rfl, ⟨[.string x.f1], [.string x.f2, .string x.f3], rfl, rfl, ⟨[.string x.f2], [.string x.f3], rfl, rfl, rfl⟩⟩⟩
def rd_TGAct (xs : List SGAct) (i : Int) : SGAct := xs.getD i.toNat zGAct
/-! struct type 46: api.Txn -/
structure SGTxn where
  f0 : Int
  f1 : Int
  f2 : Int
def zGTxn : SGTxn := ⟨(0 : Int), (0 : Int), (0 : Int)⟩
def kGTxn : Kd SGTxn := Kd.iso (Kd.pair (Kd.int .i64) (Kd.pair (Kd.int .i64) (Kd.int .u64))) (fun x : SGTxn => (x.f0, x.f1, x.f2))
theorem k46_heap : Kd.Heap kGTxn := Kd.heap_iso _ (Kd.heap_pair (Kd.heap_int .i64) (Kd.heap_pair (Kd.heap_int .i64) (Kd.heap_int .u64)))
theorem kGTxn_open {w : World} {x : SGTxn} {cs : List Value} (h : kGTxn.K w x cs) : cs = [.int .i64 x.f0, .int .i64 x.f1, .int .u64 x.f2] := by
  obtain ⟨_, _, rfl, rfl, ⟨_, _, rfl, rfl, rfl⟩⟩ := h
  exact rfl
theorem kGTxn_mk (w : World) (x : SGTxn)  : kGTxn.K w x [.int .i64 x.f0, .int .i64 x.f1, .int .u64 x.f2] := ⟨[.int .i64 x.f0], [.int .i64 x.f1, .int .u64 x.f2], rfl, rfl, ⟨[.int .i64 x.f1], [.int .u64 x.f2], rfl, rfl, rfl⟩⟩
theorem kGTxn_mkM (w : World) (base : Nat) (ok : Nat → Prop) (x : SGTxn)  : kGTxn.M w base ok x [.int .i64 x.f0, .int .i64 x.f1, .int .u64 x.f2] := ⟨[.int .i64 x.f0], [.int .i64 x.f1, .int .u64 x.f2], rfl, rfl, ⟨[.int .i64 x.f1], [.int .u64 x.f2], rfl, rfl, rfl⟩⟩
def rd_TGTxn (xs : List SGTxn) (i : Int) : SGTxn := xs.getD i.toNat zGTxn
theorem at_TGTxn {w : World} {A : Option Addr} {n : Nat} {xs : List SGTxn} (h : Kd.C kGTxn w A n xs) (i : Int) (h0 : 0 ≤ i) (h1 : i < n) : ∃ ad , A = some ad ∧ w.cell? (ad.add (i.toNat * 3)) = some (.int .i64 (rd_TGTxn xs i).f0) ∧ w.cell? ⟨(ad.add (i.toNat * 3)).block, (ad.add (i.toNat * 3)).off + 1, none⟩ = some (.int .i64 (rd_TGTxn xs i).f1) ∧ w.cell? ⟨(ad.add (i.toNat * 3)).block, (ad.add (i.toNat * 3)).off + 2, none⟩ = some (.int .u64 (rd_TGTxn xs i).f2) := by
  obtain ⟨ad, c, e, _, hK, hc0⟩ := Kd.C_get h zGTxn i h0 h1
  have hc : ∀ j u, c[j]? = some u → w.cell? (ad.add (i.toNat * 3 + j)) = some u := hc0
  obtain rfl := kGTxn_open hK
  exact ⟨ad, e, hc 0 _ rfl, by rw [← add_field _ _ 1 (by omega)]; exact hc 1 _ rfl, by rw [← add_field _ _ 2 (by omega)]; exact hc 2 _ rfl⟩

def rd_L5 (xs : List (List SGTxn)) (i : Int) : (List SGTxn) := xs.getD i.toNat ([] : List SGTxn)
/-! struct type 49: api.Dirty -/
structure SGDirty where
  f0 : Int
  f1 : Int
def zGDirty : SGDirty := ⟨(0 : Int), (0 : Int)⟩
def kGDirty : Kd SGDirty := Kd.iso (Kd.pair (Kd.int .i64) (Kd.int .u64)) (fun x : SGDirty => (x.f0, x.f1))
theorem k49_heap : Kd.Heap kGDirty := Kd.heap_iso _ (Kd.heap_pair (Kd.heap_int .i64) (Kd.heap_int .u64))
theorem kGDirty_open {w : World} {x : SGDirty} {cs : List Value} (h : kGDirty.K w x cs) : cs = [.int .i64 x.f0, .int .u64 x.f1] := by
  obtain ⟨_, _, rfl, rfl, rfl⟩ := h
  exact rfl
theorem kGDirty_mk (w : World) (x : SGDirty)  : kGDirty.K w x [.int .i64 x.f0, .int .u64 x.f1] := ⟨[.int .i64 x.f0], [.int .u64 x.f1], rfl, rfl, rfl⟩
theorem kGDirty_mkM (w : World) (base : Nat) (ok : Nat → Prop) (x : SGDirty)  : kGDirty.M w base ok x [.int .i64 x.f0, .int .u64 x.f1] := ⟨[.int .i64 x.f0], [.int .u64 x.f1], rfl, rfl, rfl⟩
def rd_TGDirty (xs : List SGDirty) (i : Int) : SGDirty := xs.getD i.toNat zGDirty
theorem at_TGDirty {w : World} {A : Option Addr} {n : Nat} {xs : List SGDirty} (h : Kd.C kGDirty w A n xs) (i : Int) (h0 : 0 ≤ i) (h1 : i < n) : ∃ ad , A = some ad ∧ w.cell? (ad.add (i.toNat * 2)) = some (.int .i64 (rd_TGDirty xs i).f0) ∧ w.cell? ⟨(ad.add (i.toNat * 2)).block, (ad.add (i.toNat * 2)).off + 1, none⟩ = some (.int .u64 (rd_TGDirty xs i).f1) := by
  obtain ⟨ad, c, e, _, hK, hc0⟩ := Kd.C_get h zGDirty i h0 h1
  have hc : ∀ j u, c[j]? = some u → w.cell? (ad.add (i.toNat * 2 + j)) = some u := hc0
  obtain rfl := kGDirty_open hK
  exact ⟨ad, e, hc 0 _ rfl, by rw [← add_field _ _ 1 (by omega)]; exact hc 1 _ rfl⟩

def rd_L7 (xs : List (List SGDirty)) (i : Int) : (List SGDirty) := xs.getD i.toNat ([] : List SGDirty)
/-! struct type 43: api.Record -/
structure SGRecord where
  f0 : Int
  f1 : Int
  f2 : Int
  f3 : Int
  f4 : Int
  f5 : Int
  f6 : SGAct
  f7 : (List SGTxn)
  f8 : (List SGDirty)
def zGRecord : SGRecord := ⟨(0 : Int), (0 : Int), (0 : Int), (0 : Int), (0 : Int), (0 : Int), zGAct, ([] : List SGTxn), ([] : List SGDirty)⟩
def kGRecord : Kd SGRecord := Kd.iso (Kd.pair (Kd.int .i64) (Kd.pair (Kd.int .u64) (Kd.pair (Kd.int .i64) (Kd.pair (Kd.int .u64) (Kd.pair (Kd.int .u64) (Kd.pair (Kd.int .i64) (Kd.pair kGAct (Kd.pair (Kd.slice 46 kGTxn) (Kd.slice 49 kGDirty))))))))) (fun x : SGRecord => (x.f0, x.f1, x.f2, x.f3, x.f4, x.f5, x.f6, x.f7, x.f8))
theorem k43_heap : Kd.Heap kGRecord := Kd.heap_iso _ (Kd.heap_pair (Kd.heap_int .i64) (Kd.heap_pair (Kd.heap_int .u64) (Kd.heap_pair (Kd.heap_int .i64) (Kd.heap_pair (Kd.heap_int .u64) (Kd.heap_pair (Kd.heap_int .u64) (Kd.heap_pair (Kd.heap_int .i64) (Kd.heap_pair k41_heap (Kd.heap_pair (Kd.heap_slice 46 k46_heap) (Kd.heap_slice 49 k49_heap)))))))))
theorem kGRecord_open {w : World} {x : SGRecord} {cs : List Value} (h : kGRecord.K w x cs) : ∃ A10 c10 A11 c11, cs = [.int .i64 x.f0, .int .u64 x.f1, .int .i64 x.f2, .int .u64 x.f3, .int .u64 x.f4, .int .i64 x.f5, .int .i64 x.f6.f0, .string x.f6.f1, .string x.f6.f2, .string x.f6.f3, .slice A10 x.f7.length c10, .slice A11 x.f8.length c11] ∧ x.f7.length ≤ c10 ∧ kGTxn.C w A10 x.f7.length x.f7 ∧ x.f8.length ≤ c11 ∧ kGDirty.C w A11 x.f8.length x.f8 := by
  obtain ⟨_, _, rfl, rfl, ⟨_, _, rfl, rfl, ⟨_, _, rfl, rfl, ⟨_, _, rfl, rfl, ⟨_, _, rfl, rfl, ⟨_, _, rfl, rfl, ⟨_, _, rfl, s6, ⟨_, _, rfl, ⟨A10, c10, rfl, l10, g10⟩, ⟨A11, c11, rfl, l11, g11⟩⟩⟩⟩⟩⟩⟩⟩⟩ := h
  obtain rfl := kGAct_open s6
  exact ⟨A10, c10, A11, c11, rfl, l10, g10, l11, g11⟩
theorem kGRecord_mk (w : World) (x : SGRecord) {A10 : Option Addr} {c10 : Nat} (l10 : x.f7.length ≤ c10) (g10 : kGTxn.C w A10 x.f7.length x.f7) {A11 : Option Addr} {c11 : Nat} (l11 : x.f8.length ≤ c11) (g11 : kGDirty.C w A11 x.f8.length x.f8) : kGRecord.K w x [.int .i64 x.f0, .int .u64 x.f1, .int .i64 x.f2, .int .u64 x.f3, .int .u64 x.f4, .int .i64 x.f5, .int .i64 x.f6.f0, .string x.f6.f1, .string x.f6.f2, .string x.f6.f3, .slice A10 x.f7.length c10, .slice A11 x.f8.length c11] := ⟨[.int .i64 x.f0], [.int .u64 x.f1, .int .i64 x.f2, .int .u64 x.f3, .int .u64 x.f4, .int .i64 x.f5, .int .i64 x.f6.f0, .string x.f6.f1, .string x.f6.f2, .string x.f6.f3, .slice A10 x.f7.length c10, .slice A11 x.f8.length c11], rfl, rfl, ⟨[.int .u64 x.f1], [.int .i64 x.f2, .int .u64 x.f3, .int .u64 x.f4, .int .i64 x.f5, .int .i64 x.f6.f0, .string x.f6.f1, .string x.f6.f2, .string x.f6.f3, .slice A10 x.f7.length c10, .slice A11 x.f8.length c11], rfl, rfl, ⟨[.int .i64 x.f2], [.int .u64 x.f3, .int .u64 x.f4, .int .i64 x.f5, .int .i64 x.f6.f0, .string x.f6.f1, .string x.f6.f2, .string x.f6.f3, .slice A10 x.f7.length c10, .slice A11 x.f8.length c11], rfl, rfl, ⟨[.int .u64 x.f3], [.int .u64 x.f4, .int .i64 x.f5, .int .i64 x.f6.f0, .string x.f6.f1, .string x.f6.f2, .string x.f6.f3, .slice A10 x.f7.length c10, .slice A11 x.f8.length c11], rfl, rfl, ⟨[.int .u64 x.f4], [.int .i64 x.f5, .int .i64 x.f6.f0, .string x.f6.f1, .string x.f6.f2, .string x.f6.f3, .slice A10 x.f7.length c10, .slice A11 x.f8.length c11], rfl, rfl, ⟨[.int .i64 x.f5], [.int .i64 x.f6.f0, .string x.f6.f1, .string x.f6.f2, .string x.f6.f3, .slice A10 x.f7.length c10, .slice A11 x.f8.length c11], rfl, rfl, ⟨[.int .i64 x.f6.f0, .string x.f6.f1, .string x.f6.f2, .string x.f6.f3], [.slice A10 x.f7.length c10, .slice A11 x.f8.length c11], rfl, (kGAct_mk w x.f6 ), ⟨[.slice A10 x.f7.length c10], [.slice A11 x.f8.length c11], rfl, ⟨A10, c10, rfl, l10, g10⟩, ⟨A11, c11, rfl, l11, g11⟩⟩⟩⟩⟩⟩⟩⟩⟩
theorem k43_openF {W : World} {ok : Nat → Prop} {x : SGRecord} {cs : List Value} (h : Kd.FK kGRecord W ok x cs) : ∃ A10 c10 A11 c11, cs = [.int .i64 x.f0, .int .u64 x.f1, .int .i64 x.f2, .int .u64 x.f3, .int .u64 x.f4, .int .i64 x.f5, .int .i64 x.f6.f0, .string x.f6.f1, .string x.f6.f2, .string x.f6.f3, .slice A10 x.f7.length c10, .slice A11 x.f8.length c11] ∧ x.f7.length ≤ c10 ∧ Kd.F kGTxn W ok A10 x.f7.length x.f7 ∧ x.f8.length ≤ c11 ∧ Kd.F kGDirty W ok A11 x.f8.length x.f8 := by
  obtain ⟨A10, c10, A11, c11, rfl, l10, _, l11, _⟩ := kGRecord_open (Kd.FK_now h)
  exact ⟨A10, c10, A11, c11, rfl, l10, (fun W' hW => by obtain ⟨A10_, c10_, A11_, c11_, he, l10_, g10_, l11_, g11_⟩ := kGRecord_open (h W' hW); injection (Option.some.inj (show some (Value.slice A10 x.f7.length c10) = some (Value.slice A10_ x.f7.length c10_) from congrArg (fun l => l[10]?) he)) with ha_ _ _; rw [ha_]; exact g10_), l11, (fun W' hW => by obtain ⟨A10_, c10_, A11_, c11_, he, l10_, g10_, l11_, g11_⟩ := kGRecord_open (h W' hW); injection (Option.some.inj (show some (Value.slice A11 x.f8.length c11) = some (Value.slice A11_ x.f8.length c11_) from congrArg (fun l => l[11]?) he)) with ha_ _ _; rw [ha_]; exact g11_)⟩
def rd_TGRecord (xs : List SGRecord) (i : Int) : SGRecord := xs.getD i.toNat zGRecord
theorem at_TGRecord {w : World} {A : Option Addr} {n : Nat} {xs : List SGRecord} (h : Kd.C kGRecord w A n xs) (i : Int) (h0 : 0 ≤ i) (h1 : i < n) : ∃ ad A10 c10 A11 c11, A = some ad ∧ w.cell? (ad.add (i.toNat * 12)) = some (.int .i64 (rd_TGRecord xs i).f0) ∧ w.cell? ⟨(ad.add (i.toNat * 12)).block, (ad.add (i.toNat * 12)).off + 1, none⟩ = some (.int .u64 (rd_TGRecord xs i).f1) ∧ w.cell? ⟨(ad.add (i.toNat * 12)).block, (ad.add (i.toNat * 12)).off + 2, none⟩ = some (.int .i64 (rd_TGRecord xs i).f2) ∧ w.cell? ⟨(ad.add (i.toNat * 12)).block, (ad.add (i.toNat * 12)).off + 3, none⟩ = some (.int .u64 (rd_TGRecord xs i).f3) ∧ w.cell? ⟨(ad.add (i.toNat * 12)).block, (ad.add (i.toNat * 12)).off + 4, none⟩ = some (.int .u64 (rd_TGRecord xs i).f4) ∧ w.cell? ⟨(ad.add (i.toNat * 12)).block, (ad.add (i.toNat * 12)).off + 5, none⟩ = some (.int .i64 (rd_TGRecord xs i).f5) ∧ w.cell? ⟨(ad.add (i.toNat * 12)).block, (ad.add (i.toNat * 12)).off + 6, none⟩ = some (.int .i64 (rd_TGRecord xs i).f6.f0) ∧ w.cell? ⟨(ad.add (i.toNat * 12)).block, (ad.add (i.toNat * 12)).off + 7, none⟩ = some (.string (rd_TGRecord xs i).f6.f1) ∧ w.cell? ⟨(ad.add (i.toNat * 12)).block, (ad.add (i.toNat * 12)).off + 8, none⟩ = some (.string (rd_TGRecord xs i).f6.f2) ∧ w.cell? ⟨(ad.add (i.toNat * 12)).block, (ad.add (i.toNat * 12)).off + 9, none⟩ = some (.string (rd_TGRecord xs i).f6.f3) ∧ w.cell? ⟨(ad.add (i.toNat * 12)).block, (ad.add (i.toNat * 12)).off + 10, none⟩ = some (.slice A10 (rd_TGRecord xs i).f7.length c10) ∧ w.cell? ⟨(ad.add (i.toNat * 12)).block, (ad.add (i.toNat * 12)).off + 11, none⟩ = some (.slice A11 (rd_TGRecord xs i).f8.length c11) ∧ (rd_TGRecord xs i).f7.length ≤ c10 ∧ kGTxn.C w A10 (rd_TGRecord xs i).f7.length (rd_TGRecord xs i).f7 ∧ (rd_TGRecord xs i).f8.length ≤ c11 ∧ kGDirty.C w A11 (rd_TGRecord xs i).f8.length (rd_TGRecord xs i).f8 := by
  obtain ⟨ad, c, e, _, hK, hc0⟩ := Kd.C_get h zGRecord i h0 h1
  have hc : ∀ j u, c[j]? = some u → w.cell? (ad.add (i.toNat * 12 + j)) = some u := hc0
  obtain ⟨A10, c10, A11, c11, rfl, l10, g10, l11, g11⟩ := kGRecord_open hK
  exact ⟨ad, A10, c10, A11, c11, e, hc 0 _ rfl, by rw [← add_field _ _ 1 (by omega)]; exact hc 1 _ rfl, by rw [← add_field _ _ 2 (by omega)]; exact hc 2 _ rfl, by rw [← add_field _ _ 3 (by omega)]; exact hc 3 _ rfl, by rw [← add_field _ _ 4 (by omega)]; exact hc 4 _ rfl, by rw [← add_field _ _ 5 (by omega)]; exact hc 5 _ rfl, by rw [← add_field _ _ 6 (by omega)]; exact hc 6 _ rfl, by rw [← add_field _ _ 7 (by omega)]; exact hc 7 _ rfl, by rw [← add_field _ _ 8 (by omega)]; exact hc 8 _ rfl, by rw [← add_field _ _ 9 (by omega)]; exact hc 9 _ rfl, by rw [← add_field _ _ 10 (by omega)]; exact hc 10 _ rfl, by rw [← add_field _ _ 11 (by omega)]; exact hc 11 _ rfl, l10, g10, l11, g11⟩


theorem eqAGAct (d : Nat) (w : World) (x0 y0 : Int) (x1 y1 : ByteArray) (x2 y2 : ByteArray) (x3 y3 : ByteArray) :
    (Op.equalIn (d + 2) 41 (.agg #[.int .i64 x0, .string x1, .string x2, .string x3]) (.agg #[.int .i64 y0, .string y1, .string y2, .string y3])).run Try.prog w = .ok (x0 == y0 && (x1.toList == y1.toList && (x2.toList == y2.toList && (x3.toList == y3.toList)))) w := by
  refine eqA_of Try.underlying41 (by kernel_rfl) ?_
  refine eqf_cons (by rfl) (by go_simp; rfl) (by go_simp; rfl) (by go_simp) ?_
  refine eqf_cons (by rfl) (by go_simp; rfl) (by go_simp; rfl) (by go_simp) ?_
  refine eqf_cons (by rfl) (by go_simp; rfl) (by go_simp; rfl) (by go_simp) ?_
  exact eqf_last (by rfl) (by go_simp; rfl) (by go_simp; rfl) (by go_simp)

theorem eqAGTxn (d : Nat) (w : World) (x0 y0 : Int) (x1 y1 : Int) (x2 y2 : Int) :
    (Op.equalIn (d + 2) 46 (.agg #[.int .i64 x0, .int .i64 x1, .int .u64 x2]) (.agg #[.int .i64 y0, .int .i64 y1, .int .u64 y2])).run Try.prog w = .ok (x0 == y0 && (x1 == y1 && (x2 == y2))) w := by
  refine eqA_of Try.underlying46 (by kernel_rfl) ?_
  refine eqf_cons (by rfl) (by go_simp; rfl) (by go_simp; rfl) (by go_simp) ?_
  refine eqf_cons (by rfl) (by go_simp; rfl) (by go_simp; rfl) (by go_simp) ?_
  exact eqf_last (by rfl) (by go_simp; rfl) (by go_simp; rfl) (by go_simp)

theorem eqAGDirty (d : Nat) (w : World) (x0 y0 : Int) (x1 y1 : Int) :
    (Op.equalIn (d + 2) 49 (.agg #[.int .i64 x0, .int .u64 x1]) (.agg #[.int .i64 y0, .int .u64 y1])).run Try.prog w = .ok (x0 == y0 && (x1 == y1)) w := by
  refine eqA_of Try.underlying49 (by kernel_rfl) ?_
  refine eqf_cons (by rfl) (by go_simp; rfl) (by go_simp; rfl) (by go_simp) ?_
  exact eqf_last (by rfl) (by go_simp; rfl) (by go_simp; rfl) (by go_simp)

end Go.Proofs.Ytaahfokdgfopcaa.Rf
