/- Types of the Go text as Lean structures, and their readings: out of the print's text for this seat. -/
import Derived.Test.YtgjjfldfdkoedaaProg
import Derived.Below
import Derived.Deep.Draws
import Derived.Deep.AppendLies
import Derived.Maps.AppendAt
import Derived.OwnWalk
import Derived.Laws.BytesArg
import Derived.Laws.MakeOwn
import Derived.Laws.OwnMore
import Derived.Deep.OwnRows
import Derived.Tactics
import Derived.Lib.ConvBytes
import Derived.Laws.Slices
import Derived.WalkKit
import Derived.KernelRfl
import Derived.RowKit3
import Derived.Deep.LoopGhost
import Derived.Deep.QuietTactic
import Derived.BigQuiet
import Derived.WideLaws
import Derived.Deep.DeepCutAuto
import Derived.Deep.CutBlock
import Derived.Deep.RegionHeld3
import Derived.Laws.Rows
import Derived.Lib.AppendStr
import Derived.ArgAppend
import Derived.Laws.IdiomCopy
import Derived.OrdersHeld
import Derived.Laws.BitsLemmas
import Derived.RowKit
import Derived.Test.YtgjjfldfdkoedaaWWords
import Derived.Test.YtgjjfldfdkoedaaWLast
import Derived.Test.YtgjjfldfdkoedaaWTab
import Derived.Test.YtgjjfldfdkoedaaWFour
import Derived.Test.YtgjjfldfdkoedaaWQPut
import Derived.Test.YtgjjfldfdkoedaaWApart
import Derived.Test.YtgjjfldfdkoedaaWArr
import Derived.Test.YtgjjfldfdkoedaaWZeros
import Derived.Test.YtgjjfldfdkoedaaWFoot
import Derived.Test.YtgjjfldfdkoedaaWKept
import Derived.Test.YtgjjfldfdkoedaaWShare
import Derived.Test.YtgjjfldfdkoedaaWN
import Derived.Test.YtgjjfldfdkoedaaWFootNe
import Derived.Test.YtgjjfldfdkoedaaWAt
import Derived.Test.YtgjjfldfdkoedaaWEqStruct
import Derived.Test.YtgjjfldfdkoedaaWRepsOne
import Derived.Test.YtgjjfldfdkoedaaWInv
import Derived.Test.YtgjjfldfdkoedaaWInvWords
import Derived.Test.YtgjjfldfdkoedaaWGuard
import Derived.Test.YtgjjfldfdkoedaaWNEv
import Derived.Test.YtgjjfldfdkoedaaWMore
import Derived.WalkSpells
import Derived.WalkLawsBesides
namespace Go.Proofs.Ytgjjfldfdkoedaa.Rf
open Go.RowKit Go.Proofs.YtgjjfldfdkoedaaW.PrintWords Go.Proofs.YtgjjfldfdkoedaaW.PrintLast Go.Proofs.YtgjjfldfdkoedaaW.PrintMore
attribute [local go_sem] max2_int min2_int max_two min_two max_three min_three max_four min_four
set_option linter.unusedVariables false
set_option linter.unusedSimpArgs false

theorem info3 : (Try.prog.info? 3).map (fun i => (i.zero, i.size, i.bytes)) = some (some (.int .i64 0), 1, 8) := by kernel_rfl
theorem info5 : (Try.prog.info? 5).map (fun i => (i.zero, i.size, i.bytes)) = some (some (.int .u8 0), 1, 1) := by kernel_rfl
theorem info28 : (Try.prog.info? 28).map (fun i => (i.zero, i.size, i.bytes)) = some (some (.agg #[(.int .i64 0), (.int .i64 0)]), 2, 16) := by kernel_rfl
/-! struct type 28: api.Edge -/
structure SGEdge where
  f0 : Int
  f1 : Int
def zGEdge : SGEdge := ⟨(0 : Int), (0 : Int)⟩
def kGEdge : Kd SGEdge := Kd.iso (Kd.pair (Kd.int .i64) (Kd.int .i64)) (fun x : SGEdge => (x.f0, x.f1))
theorem kGEdge_open {w : World} {x : SGEdge} {cs : List Value} (h : kGEdge.K w x cs) : cs = [.int .i64 x.f0, .int .i64 x.f1] := by
  obtain ⟨_, _, rfl, rfl, rfl⟩ := h
  exact rfl
theorem kGEdge_openM {w : World} {base : Nat} {ok : Nat → Prop} {x : SGEdge} {cs : List Value} (h : kGEdge.M w base ok x cs) : cs = [.int .i64 x.f0, .int .i64 x.f1] := by
  obtain ⟨_, _, rfl, rfl, rfl⟩ := h
  exact rfl
theorem kGEdge_mk (w : World) (x : SGEdge)  : kGEdge.K w x [.int .i64 x.f0, .int .i64 x.f1] := ⟨[.int .i64 x.f0], [.int .i64 x.f1], rfl, rfl, rfl⟩
theorem kGEdge_mkM (w : World) (base : Nat) (ok : Nat → Prop) (x : SGEdge)  : kGEdge.M w base ok x [.int .i64 x.f0, .int .i64 x.f1] := ⟨[.int .i64 x.f0], [.int .i64 x.f1], rfl, rfl, rfl⟩
def rd_TGEdge (xs : List SGEdge) (i : Int) : SGEdge := xs.getD i.toNat zGEdge
theorem at_TGEdge {w : World} {A : Option Addr} {n : Nat} {xs : List SGEdge} (h : Kd.C kGEdge w A n xs) (i : Int) (h0 : 0 ≤ i) (h1 : i < n) : ∃ ad , A = some ad ∧ w.cell? (ad.add (i.toNat * 2)) = some (.int .i64 (rd_TGEdge xs i).f0) ∧ w.cell? ⟨(ad.add (i.toNat * 2)).block, (ad.add (i.toNat * 2)).off + 1, none⟩ = some (.int .i64 (rd_TGEdge xs i).f1) := by
  obtain ⟨ad, c, e, _, hK, hc0⟩ := Kd.C_get h zGEdge i h0 h1
  have hc : ∀ j u, c[j]? = some u → w.cell? (ad.add (i.toNat * 2 + j)) = some u := hc0
  obtain rfl := kGEdge_open hK
  exact ⟨ad, e, hc 0 _ rfl, by rw [← add_field _ _ 1 (by omega)]; exact hc 1 _ rfl⟩


theorem eqAGEdge (d : Nat) (w : World) (x0 y0 : Int) (x1 y1 : Int) :
    (Op.equalIn (d + 2) 28 (.agg #[.int .i64 x0, .int .i64 x1]) (.agg #[.int .i64 y0, .int .i64 y1])).run Try.prog w = .ok (x0 == y0 && (x1 == y1)) w := by
  refine eqA_of Try.underlying28 (by kernel_rfl) ?_
  refine eqf_cons (by rfl) (by go_simp; rfl) (by go_simp; rfl) (by go_simp) ?_
  exact eqf_last (by rfl) (by go_simp; rfl) (by go_simp; rfl) (by go_simp)

end Go.Proofs.Ytgjjfldfdkoedaa.Rf
