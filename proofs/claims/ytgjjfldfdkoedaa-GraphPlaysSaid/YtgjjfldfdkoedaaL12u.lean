/- Layer 12: a slice of operations: its kind, and laid open. -/
import Derived.Test.YtgjjfldfdkoedaaL12w
namespace Go.Proofs.Ytgjjfldfdkoedaa
open Go.RowKit Go.Proofs.YtgjjfldfdkoedaaW.PrintWords Go.Proofs.YtgjjfldfdkoedaaW.PrintLast Go.Proofs.YtgjjfldfdkoedaaW.PrintMore
open Go.ChangeShapes Go.WideShapes Go.ChangeAt Go.Deep Go.Joins
open Rf
set_option linter.unusedVariables false
set_option linter.unusedSimpArgs false
/-- An operation: its kind, the edge's ends. -/
structure SOpG where
  f0 : Int
  f1 : Int
  f2 : Int
def zOpG : SOpG := ⟨0, 0, 0⟩
def kOpG : Kd SOpG := Kd.iso (Kd.pair (Kd.int .i64) (Kd.pair (Kd.int .i64) (Kd.int .i64))) (fun x : SOpG => (x.f0, x.f1, x.f2))
theorem kOpG_open {w : World} {x : SOpG} {cs : List Value} (h : kOpG.K w x cs) : cs = [.int .i64 x.f0, .int .i64 x.f1, .int .i64 x.f2] := by
  obtain ⟨_, _, rfl, rfl, _, _, rfl, rfl, rfl⟩ := h
  exact rfl
theorem kOpG_mk (w : World) (x : SOpG) : kOpG.K w x [.int .i64 x.f0, .int .i64 x.f1, .int .i64 x.f2] := ⟨[.int .i64 x.f0], [.int .i64 x.f1, .int .i64 x.f2], rfl, rfl, [.int .i64 x.f1], [.int .i64 x.f2], rfl, rfl, rfl⟩
theorem opG_at {w : World} {A : Option Addr} {n : Nat} {xs : List SOpG} (h : Kd.C kOpG w A n xs) (k : Nat) (h1 : k < n) : ∃ (ad : Addr) (o : SOpG), A = some ad ∧ w.cell? (ad.add (k * 3)) = some (.int .i64 o.f0) ∧ w.cell? ⟨(ad.add (k * 3)).block, (ad.add (k * 3)).off + 1, none⟩ = some (.int .i64 o.f1) ∧ w.cell? ⟨(ad.add (k * 3)).block, (ad.add (k * 3)).off + 2, none⟩ = some (.int .i64 o.f2) := by
  obtain ⟨ad, c, e, _, hK, hc0⟩ := Kd.C_get h zOpG (k : Int) (by omega) (by omega)
  have hc : ∀ j u, c[j]? = some u → w.cell? (ad.add (k * 3 + j)) = some u := hc0
  obtain rfl := kOpG_open hK
  exact ⟨ad, _, e, hc 0 _ rfl, by rw [← add_field _ _ 1 (by omega)]; exact hc 1 _ rfl, by rw [← add_field _ _ 2 (by omega)]; exact hc 2 _ rfl⟩
section
variable {H : Type} {enc : TypeId × Value → H} {W : World}
set_option maxRecDepth 100000 in
theorem opG_cells {held : Bool} {n : Nat} {cs : List Value} {d : DataW H} {p : List MemPlace} (hl : cs.length = 3) (h : DataW.trod enc Try.prog W 0 (fun _ => true) held n 46 cs = some (d, p)) :
    ∃ o : SOpG, cs = [.int .i64 o.f0, .int .i64 o.f1, .int .i64 o.f2] := by
  obtain ⟨c0, c1, c2, rfl⟩ : ∃ c0 c1 c2, cs = [c0, c1, c2] := by
    match cs, hl with
    | [c0, c1, c2], _ => exact ⟨c0, c1, c2, rfl⟩
  obtain ⟨ys, n', hn', hy, hlen, hyl, hf⟩ := DataW.trod_struct Try.underlying46 h
  have k3 : Try.prog.cellsOf 3 = 1 := by kernel_rfl
  have k28 : Try.prog.cellsOf 28 = 2 := by kernel_rfl
  have h0 := hf 0 ⟨"Kind", 3, 0, false, "", "", 0⟩ rfl
  have h1 := hf 1 ⟨"E", 28, 1, false, "", "", 8⟩ rfl
  simp only [k3, k28, List.drop_zero, List.drop_succ_cons, List.take_succ_cons, List.take_zero] at h0 h1
  obtain ⟨y0, y1, rfl⟩ : ∃ a b, ys = [a, b] := by
    match ys, hyl with
    | [a, b], _ => exact ⟨a, b, rfl⟩
  obtain ⟨n0, e0, x0, w0⟩ := DataW.trod_int Try.underlying3 h0
  obtain ⟨o, e1⟩ := edge_cells rfl h1
  cases e0; cases e1
  exact ⟨⟨n0, o.f0, o.f1⟩, rfl⟩
set_option maxRecDepth 100000 in
/-- A slice of operations. -/
theorem open_opsG {r : Reach} {b0 : Nat} {v : Value} {d : DataW H} {p : List MemPlace} (hv : Value.okWide Try.prog W r b0 43 v) (h : DataW.Trod enc Try.prog W 0 (fun _ => true) true 43 v d p)
    (hw : ∀ x ∈ d.weights Try.prog 43, x ≤ reachBytes) :
    ∃ A c, ∃ l : List SOpG, v = .slice A l.length c ∧ Kd.C kOpG W A l.length l ∧ l.length ≤ c ∧ l.length ≤ 140737488351232 := by
  obtain ⟨A, len, cap, rfl⟩ := okWide_slice Try.underlying43 hv
  obtain ⟨fuel, hf⟩ := h
  obtain ⟨A', c', l, hcs, hC, hc, hl, hg⟩ := open_listw kOpG (fun o => [.int .i64 o.f0, .int .i64 o.f1, .int .i64 o.f2]) (fun _ => True) Try.underlying43 (by kernel_rfl) (of_decide_eq_true (by kernel_rfl)) (fun x => kOpG_mk W x) (fun x => rfl) hf hw
    (fun n cs' d' p' hl ht hw' => by
      obtain ⟨o, rfl⟩ := opG_cells hl ht
      exact ⟨o, rfl, trivial⟩)
  simp [Value.cells] at hcs
  obtain ⟨rfl, rfl, rfl⟩ := hcs
  exact ⟨_, _, l, rfl, hC, hc, hl⟩
end
end Go.Proofs.Ytgjjfldfdkoedaa
