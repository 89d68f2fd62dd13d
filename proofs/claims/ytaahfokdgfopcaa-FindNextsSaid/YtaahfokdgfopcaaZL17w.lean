/- Layer 17: a law's arguments, laid open: a Record. -/
import Derived.Test.YtaahfokdgfopcaaZOl
import Derived.Laws.IdiomArrays
namespace Go.Proofs.Ytaahfokdgfopcaa
open Go.RowKit Go.Proofs.YtaahfokdgfopcaaW.PrintWords Go.Proofs.YtaahfokdgfopcaaW.PrintLast Go.Proofs.YtaahfokdgfopcaaW.PrintMore
open Go.ChangeShapes Go.WideShapes Go.ChangeAt Go.Deep Go.Joins
open Rf
set_option linter.unusedVariables false
set_option linter.unusedSimpArgs false
theorem list9 {α : Type} {cs : List α} (h : cs.length = 9) : ∃ c0 c1 c2 c3 c4 c5 c6 c7 c8, cs = [c0, c1, c2, c3, c4, c5, c6, c7, c8] := by
  match cs, h with
  | [c0, c1, c2, c3, c4, c5, c6, c7, c8], _ => exact ⟨c0, c1, c2, c3, c4, c5, c6, c7, c8, rfl⟩
section
variable {H : Type} {enc : TypeId × Value → H} {W : World}
set_option maxRecDepth 100000 in
theorem txn_cells {held : Bool} {n : Nat} {cs : List Value} {d : DataW H} {p : List MemPlace} (hl : cs.length = 3) (h : DataW.trod enc Try.prog W 0 (fun _ => true) held n 46 cs = some (d, p)) :
    ∃ o : SGTxn, cs = [.int .i64 o.f0, .int .i64 o.f1, .int .u64 o.f2] ∧ True := by
  obtain ⟨c0, c1, c2, rfl⟩ : ∃ c0 c1 c2, cs = [c0, c1, c2] := by
    match cs, hl with
    | [c0, c1, c2], _ => exact ⟨c0, c1, c2, rfl⟩
  obtain ⟨ys, n', hn', hy, hlen, hyl, hf⟩ := DataW.trod_struct Try.underlying46 h
  have k3 : Try.prog.cellsOf 3 = 1 := by kernel_rfl
  have k73 : Try.prog.cellsOf 44 = 1 := by kernel_rfl
  have k30 : Try.prog.cellsOf 26 = 1 := by kernel_rfl
  have h0 := hf 0 ⟨"ID", 3, 0, false, "", "", 0⟩ rfl
  have h1 := hf 1 ⟨"State", 44, 1, false, "", "", 8⟩ rfl
  have h2 := hf 2 ⟨"Last", 26, 2, false, "", "", 16⟩ rfl
  simp only [k3, k73, k30, List.drop_zero, List.drop_succ_cons, List.take_succ_cons, List.take_zero] at h0 h1 h2
  obtain ⟨y0, y1, y2, rfl⟩ : ∃ a b c, ys = [a, b, c] := by
    match ys, hyl with
    | [a, b, c], _ => exact ⟨a, b, c, rfl⟩
  obtain ⟨n0, e0, x0, w0⟩ := DataW.trod_int Try.underlying3 h0
  obtain ⟨n1, e1, x1, w1⟩ := DataW.trod_int Try.underlying44 h1
  obtain ⟨n2, e2, x2, w2⟩ := DataW.trod_int Try.underlying26 h2
  cases e0; cases e1; cases e2
  exact ⟨⟨n0, n1, n2⟩, rfl, trivial⟩
set_option maxRecDepth 100000 in
theorem dirty_cells {held : Bool} {n : Nat} {cs : List Value} {d : DataW H} {p : List MemPlace} (hl : cs.length = 2) (h : DataW.trod enc Try.prog W 0 (fun _ => true) held n 49 cs = some (d, p)) :
    ∃ o : SGDirty, cs = [.int .i64 o.f0, .int .u64 o.f1] ∧ True := by
  obtain ⟨c0, c1, rfl⟩ : ∃ c0 c1, cs = [c0, c1] := by
    match cs, hl with
    | [c0, c1], _ => exact ⟨c0, c1, rfl⟩
  obtain ⟨ys, n', hn', hy, hlen, hyl, hf⟩ := DataW.trod_struct Try.underlying49 h
  have k3 : Try.prog.cellsOf 3 = 1 := by kernel_rfl
  have k30 : Try.prog.cellsOf 26 = 1 := by kernel_rfl
  have h0 := hf 0 ⟨"Page", 3, 0, false, "", "", 0⟩ rfl
  have h1 := hf 1 ⟨"Rec", 26, 1, false, "", "", 8⟩ rfl
  simp only [k3, k30, List.drop_zero, List.drop_succ_cons, List.take_succ_cons, List.take_zero] at h0 h1
  obtain ⟨y0, y1, rfl⟩ : ∃ a b, ys = [a, b] := by
    match ys, hyl with
    | [a, b], _ => exact ⟨a, b, rfl⟩
  obtain ⟨n0, e0, x0, w0⟩ := DataW.trod_int Try.underlying3 h0
  obtain ⟨n1, e1, x1, w1⟩ := DataW.trod_int Try.underlying26 h1
  cases e0; cases e1
  exact ⟨⟨n0, n1⟩, rfl, trivial⟩
end
end Go.Proofs.Ytaahfokdgfopcaa
