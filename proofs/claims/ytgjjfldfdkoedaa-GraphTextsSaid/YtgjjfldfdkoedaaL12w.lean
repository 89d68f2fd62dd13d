/- Layer 12: a law's arguments, laid open: slices of edges, of steps, an edge, three numbers. -/
import Derived.Test.YtgjjfldfdkoedaaOl
import Derived.Laws.IdiomArrays
namespace Go.Proofs.Ytgjjfldfdkoedaa
open Go.RowKit Go.Proofs.YtgjjfldfdkoedaaW.PrintWords Go.Proofs.YtgjjfldfdkoedaaW.PrintLast Go.Proofs.YtgjjfldfdkoedaaW.PrintMore
open Go.ChangeShapes Go.WideShapes Go.ChangeAt Go.Deep Go.Joins
open Rf
set_option linter.unusedVariables false
set_option linter.unusedSimpArgs false
section
variable {H : Type} {enc : TypeId × Value → H} {W : World}
theorem mem_weightsAll {H : Type} {P : Program} {e : TypeId} : ∀ {ds : List (DataW H)} {d : DataW H}, d ∈ ds → ∀ n ∈ d.weights P e, n ∈ DataW.weightsAll P e ds
  | [], _, h, _, _ => by simp at h
  | a :: r, d, h, n, hn => by
    simp only [DataW.weightsAll, List.mem_append]
    rcases List.mem_cons.1 h with rfl | h
    · exact .inl hn
    · exact .inr (mem_weightsAll h n hn)
/-- As open_list, with each element's weights at hand. -/
theorem open_listw {α : Type} (K : Kd α) (out : α → List Value) (Good : α → Prop) {t e : TypeId} (U : Try.prog.underlying t = some (.slice e)) (hC : Try.prog.cellsOf e = K.sz) (hB : 1 ≤ Try.prog.bytesOf e) (hK : ∀ x, K.K W x (out x)) (hout : ∀ x, (out x).length = K.sz)
    {fuel : Nat} {cs : List Value} {d : DataW H} {p : List MemPlace} (hf : DataW.trod enc Try.prog W 0 (fun _ => true) true fuel t cs = some (d, p))
    (hw : ∀ x ∈ d.weights Try.prog t, x ≤ reachBytes)
    (one : ∀ n cs' d' p', cs'.length = K.sz → DataW.trod enc Try.prog W 0 (fun _ => true) true n e cs' = some (d', p') → (∀ x ∈ d'.weights Try.prog e, x ≤ reachBytes) → ∃ x, cs' = out x ∧ Good x) :
    ∃ A c, ∃ l : List α, cs = [.slice A l.length c] ∧ Kd.C K W A l.length l ∧ l.length ≤ c ∧ l.length ≤ 140737488351232 ∧ ∀ x ∈ l, Good x := by
  rcases open_slice U hf with ⟨hcs, _⟩ | ⟨a, len, cap, m, n, D, Pl, hcs, hb, hl, hm, hmm, hx, hi⟩
  · exact ⟨none, 0, [], hcs, ⟨rfl, by simp, fun h => by simp at h⟩, by simp, by simp, by simp⟩
  · obtain ⟨hd, _⟩ := Prod.mk.inj hx
    subst hd
    have hlen : len ≤ reachBytes := by
      have := hw ((((List.range len).map D).length + ((List.range (m - len)).map fun j => D (len + j)).length) * Try.prog.bytesOf e) (by rw [DataW.weights, U]; simp)
      rw [List.length_map, List.length_range] at this
      have h2 : (len + ((List.range (m - len)).map fun j => D (len + j)).length) * 1 ≤ (len + ((List.range (m - len)).map fun j => D (len + j)).length) * Try.prog.bytesOf e := Nat.mul_le_mul_left _ hB
      omega
    have hr : reachBytes = 140737488351232 := by kernel_rfl
    obtain ⟨l, hll, hp⟩ := list_of (fun i (o : α) => Good o ∧ ∀ j u, (out o)[j]? = some u → W.cell? (a.add (i * K.sz + j)) = some u) len (fun i hil => by
      obtain ⟨cs', hc, ht'⟩ := hi i (by rw [hmm]; split <;> omega)
      rw [hC] at hc
      obtain ⟨_, hcl, hat⟩ := World.cells?_some hc
      obtain ⟨o, rfl, hg⟩ := one n cs' _ _ hcl ht' (fun x hx => hw x (by
        rw [DataW.weights, U]
        simp only [List.mem_cons, List.mem_append]
        exact .inr (.inl (mem_weightsAll (List.mem_map.2 ⟨i, List.mem_range.2 hil, rfl⟩) x hx))))
      refine ⟨o, hg, fun j u hj => ?_⟩
      have hjl : j < K.sz := by have := (List.getElem?_eq_some_iff.1 hj).1; rw [hout] at this; exact this
      rw [← Go.Deep.add_add, hat j hjl, hj])
    have hml : cap ≤ 9223372036854775807 := by have : maxLen ≤ 9223372036854775807 := by decide
                                               omega
    refine ⟨some a, cap, l, by rw [hll]; exact hcs, ⟨rfl, by omega, fun _ => ⟨a, rfl, fun j o hj => ⟨out o, hout o, hK o, (hp j o hj).2⟩⟩⟩, by omega, by omega, fun o ho => ?_⟩
    obtain ⟨i, hi2⟩ := List.mem_iff_getElem?.1 ho
    exact (hp i o hi2).1
set_option maxRecDepth 100000 in
theorem edge_cells {held : Bool} {n : Nat} {cs : List Value} {d : DataW H} {p : List MemPlace} (hl : cs.length = 2) (h : DataW.trod enc Try.prog W 0 (fun _ => true) held n 28 cs = some (d, p)) :
    ∃ o : SGEdge, cs = [.int .i64 o.f0, .int .i64 o.f1] := by
  obtain ⟨c0, c1, rfl⟩ : ∃ c0 c1, cs = [c0, c1] := by
    match cs, hl with
    | [c0, c1], _ => exact ⟨c0, c1, rfl⟩
  obtain ⟨ys, n', hn', hy, hlen, hyl, hf⟩ := DataW.trod_struct Try.underlying28 h
  have k3 : Try.prog.cellsOf 3 = 1 := by kernel_rfl
  have h0 := hf 0 ⟨"From", 3, 0, false, "", "", 0⟩ rfl
  have h1 := hf 1 ⟨"To", 3, 1, false, "", "", 8⟩ rfl
  simp only [k3, List.drop_zero, List.drop_succ_cons, List.take_succ_cons, List.take_zero] at h0 h1
  obtain ⟨y0, y1, rfl⟩ : ∃ a b, ys = [a, b] := by
    match ys, hyl with
    | [a, b], _ => exact ⟨a, b, rfl⟩
  obtain ⟨n0, e0, x0, w0⟩ := DataW.trod_int Try.underlying3 h0
  obtain ⟨n1, e1, x1, w1⟩ := DataW.trod_int Try.underlying3 h1
  cases e0; cases e1
  exact ⟨⟨n0, n1⟩, rfl⟩
set_option maxRecDepth 100000 in
/-- A slice of edges. -/
theorem open_edges {r : Reach} {b0 : Nat} {v : Value} {d : DataW H} {p : List MemPlace} (hv : Value.okWide Try.prog W r b0 22 v) (h : DataW.Trod enc Try.prog W 0 (fun _ => true) true 22 v d p)
    (hw : ∀ x ∈ d.weights Try.prog 22, x ≤ reachBytes) :
    ∃ A c, ∃ l : List SGEdge, v = .slice A l.length c ∧ Kd.C kGEdge W A l.length l ∧ l.length ≤ c ∧ l.length ≤ 140737488351232 := by
  obtain ⟨A, len, cap, rfl⟩ := okWide_slice Try.underlying22 hv
  obtain ⟨fuel, hf⟩ := h
  obtain ⟨A', c', l, hcs, hC, hc, hl, hg⟩ := open_listw kGEdge (fun o => [.int .i64 o.f0, .int .i64 o.f1]) (fun _ => True) Try.underlying22 (by kernel_rfl) (of_decide_eq_true (by kernel_rfl)) (fun x => kGEdge_mk W x) (fun x => rfl) hf hw
    (fun n cs' d' p' hl ht hw' => by
      obtain ⟨o, rfl⟩ := edge_cells hl ht
      exact ⟨o, rfl, trivial⟩)
  simp [Value.cells] at hcs
  obtain ⟨rfl, rfl, rfl⟩ := hcs
  exact ⟨_, _, l, rfl, hC, hc, hl⟩
set_option maxRecDepth 100000 in
/-- An edge. -/
theorem open_edge {r : Reach} {b0 : Nat} {v : Value} {d : DataW H} {p : List MemPlace} (hv : Value.okWide Try.prog W r b0 28 v) (h : DataW.Trod enc Try.prog W 0 (fun _ => true) true 28 v d p) :
    ∃ x y : Int, v = .agg #[.int .i64 x, .int .i64 y] := by
  obtain ⟨v0, v1, y0, y1, n, rfl, rfl, rfl, h0, h1⟩ := open_agg2 Try.underlying28 (by kernel_rfl) (by kernel_rfl) hv h
  obtain ⟨n0, e0, x0, w0⟩ := DataW.trod_int Try.underlying3 h0
  obtain ⟨n1, e1, x1, w1⟩ := DataW.trod_int Try.underlying3 h1
  cases e0; cases e1
  exact ⟨n0, n1, rfl⟩
set_option maxRecDepth 100000 in
/-- Three numbers. -/
theorem open_arr3 {r : Reach} {b0 : Nat} {v : Value} {d : DataW H} {p : List MemPlace} (hv : Value.okWide Try.prog W r b0 23 v) (h : DataW.Trod enc Try.prog W 0 (fun _ => true) true 23 v d p) :
    ∃ n0 n1 n2 : Int, v = .agg #[.int .i64 n0, .int .i64 n1, .int .i64 n2] := by
  have hv2 := hv
  simp only [Value.okWide, Try.underlying23] at hv2
  obtain ⟨cs, rfl, hsz, _⟩ := hv2
  obtain ⟨c0, c1, c2, rfl⟩ := array3 (hsz.trans (by kernel_rfl))
  obtain ⟨fuel, hf⟩ := h
  obtain ⟨y0, y1, y2, n, _, h0, h1, h2⟩ := trod_array3 Try.underlying23 (by kernel_rfl) hf
  obtain ⟨n0, e0, x0, w0⟩ := DataW.trod_int Try.underlying3 h0
  obtain ⟨n1, e1, x1, w1⟩ := DataW.trod_int Try.underlying3 h1
  obtain ⟨n2, e2, x2, w2⟩ := DataW.trod_int Try.underlying3 h2
  cases e0; cases e1; cases e2
  exact ⟨n0, n1, n2, rfl⟩
end
end Go.Proofs.Ytgjjfldfdkoedaa
