/- Layer 17: a law's arguments, laid open: a Record. -/
import Derived.Test.YtaahfokdgfopcaaOl
import Derived.Laws.IdiomArrays
namespace Go.Proofs.Ytaahfokdgfopcaa
open Go.RowKit Go.Proofs.YtaahfokdgfopcaaW.PrintWords Go.Proofs.YtaahfokdgfopcaaW.PrintLast Go.Proofs.YtaahfokdgfopcaaW.PrintMore
open Go.ChangeShapes Go.WideShapes Go.ChangeAt Go.Deep Go.Joins
open Rf
set_option linter.unusedVariables false
set_option linter.unusedSimpArgs false
theorem array12 {α : Type} {cs : Array α} (h : cs.size = 12) : ∃ c0 c1 c2 c3 c4 c5 c6 c7 c8 c9 c10 c11, cs = #[c0, c1, c2, c3, c4, c5, c6, c7, c8, c9, c10, c11] := by
  obtain ⟨l⟩ := cs
  match l, h with
  | [c0, c1, c2, c3, c4, c5, c6, c7, c8, c9, c10, c11], _ => exact ⟨c0, c1, c2, c3, c4, c5, c6, c7, c8, c9, c10, c11, rfl⟩
theorem list9 {α : Type} {cs : List α} (h : cs.length = 9) : ∃ c0 c1 c2 c3 c4 c5 c6 c7 c8, cs = [c0, c1, c2, c3, c4, c5, c6, c7, c8] := by
  match cs, h with
  | [c0, c1, c2, c3, c4, c5, c6, c7, c8], _ => exact ⟨c0, c1, c2, c3, c4, c5, c6, c7, c8, rfl⟩
section
variable {H : Type} {enc : TypeId × Value → H} {W : World}
set_option maxRecDepth 100000 in
theorem txn_cells {held : Bool} {n : Nat} {cs : List Value} {d : DataW H} {p : List MemPlace} (hl : cs.length = 3) (h : DataW.trod enc Try.prog W 0 (fun _ => true) held n 46 cs = some (d, p)) :
    ∃ o : SGTxn, cs = [.int .i64 o.f0, .int .i64 o.f1, .int .u64 o.f2] ∧ True := by
  obtain ⟨c0, c1, c2, rfl⟩ : ∃ c0 c1 c2, cs = [c0, c1, c2] := by
    match cs, hl with
    | [c0, c1, c2], _ => exact ⟨c0, c1, c2, rfl⟩
  obtain ⟨ys, n', hn', hy, hlen, hyl, hf⟩ := DataW.trod_struct Try.underlying46 h
  have k3 : Try.prog.cellsOf 3 = 1 := by kernel_rfl
  have k73 : Try.prog.cellsOf 44 = 1 := by kernel_rfl
  have k30 : Try.prog.cellsOf 26 = 1 := by kernel_rfl
  have h0 := hf 0 ⟨"ID", 3, 0, false, "", "", 0⟩ rfl
  have h1 := hf 1 ⟨"State", 44, 1, false, "", "", 8⟩ rfl
  have h2 := hf 2 ⟨"Last", 26, 2, false, "", "", 16⟩ rfl
  simp only [k3, k73, k30, List.drop_zero, List.drop_succ_cons, List.take_succ_cons, List.take_zero] at h0 h1 h2
  obtain ⟨y0, y1, y2, rfl⟩ : ∃ a b c, ys = [a, b, c] := by
    match ys, hyl with
    | [a, b, c], _ => exact ⟨a, b, c, rfl⟩
  obtain ⟨n0, e0, x0, w0⟩ := DataW.trod_int Try.underlying3 h0
  obtain ⟨n1, e1, x1, w1⟩ := DataW.trod_int Try.underlying44 h1
  obtain ⟨n2, e2, x2, w2⟩ := DataW.trod_int Try.underlying26 h2
  cases e0; cases e1; cases e2
  exact ⟨⟨n0, n1, n2⟩, rfl, trivial⟩
set_option maxRecDepth 100000 in
theorem dirty_cells {held : Bool} {n : Nat} {cs : List Value} {d : DataW H} {p : List MemPlace} (hl : cs.length = 2) (h : DataW.trod enc Try.prog W 0 (fun _ => true) held n 49 cs = some (d, p)) :
    ∃ o : SGDirty, cs = [.int .i64 o.f0, .int .u64 o.f1] ∧ True := by
  obtain ⟨c0, c1, rfl⟩ : ∃ c0 c1, cs = [c0, c1] := by
    match cs, hl with
    | [c0, c1], _ => exact ⟨c0, c1, rfl⟩
  obtain ⟨ys, n', hn', hy, hlen, hyl, hf⟩ := DataW.trod_struct Try.underlying49 h
  have k3 : Try.prog.cellsOf 3 = 1 := by kernel_rfl
  have k30 : Try.prog.cellsOf 26 = 1 := by kernel_rfl
  have h0 := hf 0 ⟨"Page", 3, 0, false, "", "", 0⟩ rfl
  have h1 := hf 1 ⟨"Rec", 26, 1, false, "", "", 8⟩ rfl
  simp only [k3, k30, List.drop_zero, List.drop_succ_cons, List.take_succ_cons, List.take_zero] at h0 h1
  obtain ⟨y0, y1, rfl⟩ : ∃ a b, ys = [a, b] := by
    match ys, hyl with
    | [a, b], _ => exact ⟨a, b, rfl⟩
  obtain ⟨n0, e0, x0, w0⟩ := DataW.trod_int Try.underlying3 h0
  obtain ⟨n1, e1, x1, w1⟩ := DataW.trod_int Try.underlying26 h1
  cases e0; cases e1
  exact ⟨⟨n0, n1⟩, rfl, trivial⟩
set_option maxRecDepth 100000 in
/-- A Record. -/
theorem open_rec {r : Reach} {b0 : Nat} {v : Value} {d : DataW H} {p : List MemPlace} (hv : Value.okWide Try.prog W r b0 43 v) (h : DataW.Trod enc Try.prog W 0 (fun _ => true) true 43 v d p)
    (hw : ∀ x ∈ d.weights Try.prog 43, x ≤ reachBytes) :
    ∃ (k ls tx pv un pg ak : Int) (a b c : ByteArray) (At Ad : Option Addr) (l : List SGTxn) (m : List SGDirty) (ct cd : Nat),
      v = .agg #[.int .i64 k, .int .u64 ls, .int .i64 tx, .int .u64 pv, .int .u64 un, .int .i64 pg, .int .i64 ak, .string a, .string b, .string c, .slice At l.length ct, .slice Ad m.length cd] ∧
      a.size ≤ reachBytes ∧ b.size ≤ reachBytes ∧ c.size ≤ reachBytes ∧ Kd.C kGTxn W At l.length l ∧ l.length ≤ ct ∧ Kd.C kGDirty W Ad m.length m ∧ m.length ≤ cd := by
  obtain ⟨cs, rfl, hsz⟩ := okWide_struct Try.underlying43 hv
  obtain ⟨c0, c1, c2, c3, c4, c5, c6, c7, c8, c9, c10, c11, rfl⟩ := array12 (hsz.trans (by kernel_rfl))
  obtain ⟨fuel, hf0⟩ := h
  obtain ⟨ys, n', hn', hy, hlen, hyl, hf⟩ := DataW.trod_struct Try.underlying43 hf0
  have k3 : Try.prog.cellsOf 3 = 1 := by kernel_rfl
  have k28 : Try.prog.cellsOf 38 = 1 := by kernel_rfl
  have k30 : Try.prog.cellsOf 26 = 1 := by kernel_rfl
  have k24 : Try.prog.cellsOf 41 = 4 := by kernel_rfl
  have k31 : Try.prog.cellsOf 30 = 1 := by kernel_rfl
  have k32 : Try.prog.cellsOf 32 = 1 := by kernel_rfl
  obtain ⟨y0, y1, y2, y3, y4, y5, y6, y7, y8, rfl⟩ := list9 hyl
  have h0 := hf 0 ⟨"Kind", 38, 0, false, "", "", 0⟩ rfl
  have h1 := hf 1 ⟨"Lsn", 26, 1, false, "", "", 8⟩ rfl
  have h2 := hf 2 ⟨"Txn", 3, 2, false, "", "", 16⟩ rfl
  have h3 := hf 3 ⟨"Prev", 26, 3, false, "", "", 24⟩ rfl
  have h4 := hf 4 ⟨"Undo", 26, 4, false, "", "", 32⟩ rfl
  have h5 := hf 5 ⟨"Page", 3, 5, false, "", "", 40⟩ rfl
  have h6 := hf 6 ⟨"Act", 41, 6, false, "", "", 48⟩ rfl
  have h7 := hf 7 ⟨"Txns", 30, 10, false, "", "", 104⟩ rfl
  have h8 := hf 8 ⟨"Dirty", 32, 11, false, "", "", 128⟩ rfl
  clear hf
  simp only [Value.cells, k3, k28, k30, k24, k31, k32, List.drop_zero, List.drop_succ_cons, List.take_succ_cons, List.take_zero] at h0 h1 h2 h3 h4 h5 h6 h7 h8
  obtain ⟨n0, e0, x0, w0⟩ := DataW.trod_int Try.underlying38 h0
  obtain ⟨n1, e1, x1, w1⟩ := DataW.trod_int Try.underlying26 h1
  obtain ⟨n2, e2, x2, w2⟩ := DataW.trod_int Try.underlying3 h2
  obtain ⟨n3, e3, x3, w3⟩ := DataW.trod_int Try.underlying26 h3
  obtain ⟨n4, e4, x4, w4⟩ := DataW.trod_int Try.underlying26 h4
  obtain ⟨n5, e5, x5, w5⟩ := DataW.trod_int Try.underlying3 h5
  have h6' : DataW.trod enc Try.prog W 0 (fun _ => true) true n' 41 [c6, c7, c8, c9] = some y6 := h6
  obtain ⟨zs, n6, hn6, hz, hzl, hzn, hg⟩ := DataW.trod_struct Try.underlying41 h6'
  obtain ⟨z0, z1, z2, z3, rfl⟩ : ∃ a b c d, zs = [a, b, c, d] := by
    match zs, hzn with
    | [a, b, c, d], _ => exact ⟨a, b, c, d, rfl⟩
  have k22 : Try.prog.cellsOf 39 = 1 := by kernel_rfl
  have k9 : Try.prog.cellsOf 9 = 1 := by kernel_rfl
  have g0 := hg 0 ⟨"Kind", 39, 0, false, "", "", 0⟩ rfl
  have g1 := hg 1 ⟨"Key", 9, 1, false, "", "", 8⟩ rfl
  have g2 := hg 2 ⟨"Old", 9, 2, false, "", "", 24⟩ rfl
  have g3 := hg 3 ⟨"New", 9, 3, false, "", "", 40⟩ rfl
  simp only [k22, k9, List.drop_zero, List.drop_succ_cons, List.take_succ_cons, List.take_zero] at g0 g1 g2 g3
  obtain ⟨m0, f0, u0, v0⟩ := DataW.trod_int Try.underlying39 g0
  obtain ⟨s1, f1, u1, v1⟩ := DataW.trod_string Try.underlying9 g1
  obtain ⟨s2, f2, u2, v2⟩ := DataW.trod_string Try.underlying9 g2
  obtain ⟨s3, f3, u3, v3⟩ := DataW.trod_string Try.underlying9 g3
  have h7' : DataW.trod enc Try.prog W 0 (fun _ => true) true n' 30 [c10] = some (y7.1, y7.2) := h7
  have h8' : DataW.trod enc Try.prog W 0 (fun _ => true) true n' 32 [c11] = some (y8.1, y8.2) := h8
  obtain ⟨At, ct, l, e7, hC7, hl7, _⟩ := open_list kGTxn (fun o => [.int .i64 o.f0, .int .i64 o.f1, .int .u64 o.f2]) (fun _ => True) Try.underlying30 (by kernel_rfl) (fun x => kGTxn_mk W x) (fun x => rfl) h7' (fun n cs' d' p' hl h => txn_cells hl h)
  obtain ⟨Ad, cd, m, e8, hC8, hl8, _⟩ := open_list kGDirty (fun o => [.int .i64 o.f0, .int .u64 o.f1]) (fun _ => True) Try.underlying32 (by kernel_rfl) (fun x => kGDirty_mk W x) (fun x => rfl) h8' (fun n cs' d' p' hl h => dirty_cells hl h)
  cases e0; cases e1; cases e2; cases e3; cases e4; cases e5
  cases f0; cases f1; cases f2; cases f3; cases e7; cases e8
  cases u0; cases u1; cases u2; cases u3
  subst hz
  obtain ⟨hd, _⟩ := Prod.mk.inj hy
  subst hd
  refine ⟨n0, n1, n2, n3, n4, n5, m0, s1, s2, s3, At, Ad, l, m, ct, cd, rfl, hw _ ?_, hw _ ?_, hw _ ?_, hC7, hl7, hC8, hl8⟩
  all_goals
    rw [DataW.weights, Try.underlying43]
    simp [DataW.weightsEach]
    refine .inr (.inr (.inr (.inr (.inr (.inr (.inl ?_))))))
    rw [DataW.weights, Try.underlying41]
    simp [DataW.weightsEach, DataW.weights]
end
end Go.Proofs.Ytaahfokdgfopcaa
