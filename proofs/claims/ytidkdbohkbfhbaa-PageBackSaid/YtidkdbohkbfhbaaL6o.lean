/- The type Op as a Lean structure, and its readings (out of the kit's kinds.py). -/
import Derived.Test.YtidkdbohkbfhbaaRfT
namespace Go.Proofs.Ytidkdbohkbfhbaa.Rf
open Go.RowKit Go.Proofs.YtidkdbohkbfhbaaW.PrintWords Go.Proofs.YtidkdbohkbfhbaaW.PrintLast Go.Proofs.YtidkdbohkbfhbaaW.PrintMore
set_option linter.unusedVariables false

/-! #### Op -/
structure SGOp where
  f0 : Int
  f1 : ByteArray
  f2 : ByteArray
  f3 : Int
def zGOp : SGOp := ⟨(0 : Int), (⟨#[]⟩ : ByteArray), (⟨#[]⟩ : ByteArray), (0 : Int)⟩
def kGOp : Kd SGOp := Kd.iso (Kd.pair (Kd.int .i64) (Kd.pair Kd.string (Kd.pair Kd.string (Kd.int .u64)))) (fun x : SGOp => (x.f0, x.f1, x.f2, x.f3))
theorem kGOp_open {w : World} {x : SGOp} {cs : List Value} (h : kGOp.K w x cs) : cs = [.int .i64 x.f0, .string x.f1, .string x.f2, .int .u64 x.f3] := by
  obtain ⟨_, _, rfl, rfl, ⟨_, _, rfl, rfl, ⟨_, _, rfl, rfl, rfl⟩⟩⟩ := h
  exact rfl
theorem kGOp_openM {w : World} {base : Nat} {ok : Nat → Prop} {x : SGOp} {cs : List Value} (h : kGOp.M w base ok x cs) : cs = [.int .i64 x.f0, .string x.f1, .string x.f2, .int .u64 x.f3] := by
  obtain ⟨_, _, rfl, rfl, ⟨_, _, rfl, rfl, ⟨_, _, rfl, rfl, rfl⟩⟩⟩ := h
  exact rfl
theorem kGOp_mk (w : World) (x : SGOp)  : kGOp.K w x [.int .i64 x.f0, .string x.f1, .string x.f2, .int .u64 x.f3] := ⟨[.int .i64 x.f0], [.string x.f1, .string x.f2, .int .u64 x.f3], rfl, rfl, ⟨[.string x.f1], [.string x.f2, .int .u64 x.f3], rfl, rfl, ⟨[.string x.f2], [.int .u64 x.f3], rfl, rfl, rfl⟩⟩⟩
theorem kGOp_mkM (w : World) (base : Nat) (ok : Nat → Prop) (x : SGOp)  : kGOp.M w base ok x [.int .i64 x.f0, .string x.f1, .string x.f2, .int .u64 x.f3] := ⟨[.int .i64 x.f0], [.string x.f1, .string x.f2, .int .u64 x.f3], rfl, rfl, ⟨[.string x.f1], [.string x.f2, .int .u64 x.f3], rfl, rfl, ⟨[.string x.f2], [.int .u64 x.f3], rfl, rfl, rfl⟩⟩⟩
def rd_TGOp (xs : List SGOp) (i : Int) : SGOp := xs.getD i.toNat zGOp
theorem at_TGOp {w : World} {A : Option Addr} {n : Nat} {xs : List SGOp} (h : Kd.C kGOp w A n xs) (i : Int) (h0 : 0 ≤ i) (h1 : i < n) : ∃ ad , A = some ad ∧ w.cell? (ad.add (i.toNat * 4)) = some (.int .i64 (rd_TGOp xs i).f0) ∧ w.cell? ⟨(ad.add (i.toNat * 4)).block, (ad.add (i.toNat * 4)).off + 1, none⟩ = some (.string (rd_TGOp xs i).f1) ∧ w.cell? ⟨(ad.add (i.toNat * 4)).block, (ad.add (i.toNat * 4)).off + 2, none⟩ = some (.string (rd_TGOp xs i).f2) ∧ w.cell? ⟨(ad.add (i.toNat * 4)).block, (ad.add (i.toNat * 4)).off + 3, none⟩ = some (.int .u64 (rd_TGOp xs i).f3) := by
  obtain ⟨ad, c, e, _, hK, hc0⟩ := Kd.C_get h zGOp i h0 h1
  have hc : ∀ j u, c[j]? = some u → w.cell? (ad.add (i.toNat * 4 + j)) = some u := hc0
  obtain rfl := kGOp_open hK
  exact ⟨ad, e, hc 0 _ rfl, by rw [← add_field _ _ 1 (by omega)]; exact hc 1 _ rfl, by rw [← add_field _ _ 2 (by omega)]; exact hc 2 _ rfl, by rw [← add_field _ _ 3 (by omega)]; exact hc 3 _ rfl⟩

end Go.Proofs.Ytidkdbohkbfhbaa.Rf
