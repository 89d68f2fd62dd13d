/- Layer 6: a law's arguments, laid open: slices of Op, a Pair, an Op. -/
import Derived.Test.YtidkdbohkbfhbaaL6o
import Derived.Deep.Slices
import Derived.Deep.Fields
import Derived.ChangeSame
import Derived.SizedLaws
import Derived.Lib.SmallJoins
import Derived.ProofKit
import Derived.OpenShut
namespace Go.Proofs.Ytidkdbohkbfhbaa
open Go.RowKit Go.Proofs.YtidkdbohkbfhbaaW.PrintWords Go.Proofs.YtidkdbohkbfhbaaW.PrintLast Go.Proofs.YtidkdbohkbfhbaaW.PrintMore
open Go.ChangeShapes Go.WideShapes Go.ChangeAt Go.Deep Go.Joins
open Rf
set_option linter.unusedVariables false
set_option linter.unusedSimpArgs false

abbrev RowsOf (w : World) (A : Option Addr) (l : List SGOp) : Prop := Kd.C kGOp w A l.length l
theorem list_of {α : Type} (P : Nat → α → Prop) (n : Nat) (h : ∀ i, i < n → ∃ o, P i o) : ∃ l : List α, l.length = n ∧ ∀ i o, l[i]? = some o → P i o := by
  induction n with
  | zero => exact ⟨[], rfl, by simp⟩
  | succ n ih =>
    obtain ⟨l, hl, hp⟩ := ih (fun i hi => h i (by omega))
    obtain ⟨o, ho⟩ := h n (by omega)
    refine ⟨l ++ [o], by simp [hl], fun i x hx => ?_⟩
    rcases Nat.lt_or_ge i l.length with hi | hi
    · rw [List.getElem?_append_left hi] at hx; exact hp i x hx
    · have : i = n := by
        have := (List.getElem?_eq_some_iff.1 hx).1
        simp at this; omega
      subst this
      rw [List.getElem?_append_right (by omega)] at hx
      simp [hl] at hx
      rw [← hx]; exact ho
theorem mem_weightsAll {H : Type} {P : Program} {e : TypeId} : ∀ {ds : List (DataW H)} {d : DataW H}, d ∈ ds → ∀ n ∈ d.weights P e, n ∈ DataW.weightsAll P e ds
  | [], _, h, _, _ => by simp at h
  | a :: r, d, h, n, hn => by
    simp only [DataW.weightsAll, List.mem_append]
    rcases List.mem_cons.1 h with rfl | h
    · exact .inl hn
    · exact .inr (mem_weightsAll h n hn)

/-- What an argument's Op is like. -/
structure OkOp (o : SGOp) : Prop where
  kind : (Lit.int .i64 o.f0).wf = true
  atw : (Lit.int .u64 o.f3).wf = true
  key : o.f1.size ≤ reachBytes
  val : o.f2.size ≤ reachBytes
theorem OkOp.u64 {o : SGOp} (h : OkOp o) : 0 ≤ o.f3 ∧ o.f3 < 18446744073709551616 := by
  have := h.atw
  have e0 : IntKind.u64.min = 0 := rfl
  have e1 : IntKind.u64.max = 18446744073709551615 := rfl
  simp only [Lit.wf, Bool.and_eq_true, decide_eq_true_eq, e0, e1] at this
  omega
section
variable {H : Type} {enc : TypeId × Value → H} {W : World}
/-- One Op out of its cells. -/
theorem op_cells {held : Bool} {n : Nat} {cs : List Value} {d : DataW H} {p : List MemPlace} (hl : cs.length = 4) (h : DataW.trod enc Try.prog W 0 (fun _ => true) held n 59 cs = some (d, p)) (hw : ∀ x ∈ d.weights Try.prog 59, x ≤ reachBytes) :
    ∃ o : SGOp, cs = [.int .i64 o.f0, .string o.f1, .string o.f2, .int .u64 o.f3] ∧ OkOp o := by
  obtain ⟨c0, c1, c2, c3, rfl⟩ : ∃ c0 c1 c2 c3, cs = [c0, c1, c2, c3] := by
    match cs, hl with
    | [c0, c1, c2, c3], _ => exact ⟨c0, c1, c2, c3, rfl⟩
  obtain ⟨ys, n', hn', hy, hlen, hyl, hf⟩ := DataW.trod_struct Try.underlying59 h
  have k3 : Try.prog.cellsOf 3 = 1 := by kernel_rfl
  have k9 : Try.prog.cellsOf 9 = 1 := by kernel_rfl
  have k29 : Try.prog.cellsOf 29 = 1 := by kernel_rfl
  have h0 := hf 0 ⟨"Kind", 3, 0, false, "", "", 0⟩ rfl
  have h1 := hf 1 ⟨"Key", 9, 1, false, "", "", 8⟩ rfl
  have h2 := hf 2 ⟨"Value", 9, 2, false, "", "", 24⟩ rfl
  have h3 := hf 3 ⟨"At", 29, 3, false, "", "", 40⟩ rfl
  simp only [k3, k9, k29, List.drop_zero, List.drop_succ_cons, List.take_succ_cons, List.take_zero] at h0 h1 h2 h3
  obtain ⟨y0, y1, y2, y3, rfl⟩ : ∃ a b c d, ys = [a, b, c, d] := by
    match ys, hyl with
    | [a, b, c, d], _ => exact ⟨a, b, c, d, rfl⟩
  obtain ⟨n0, e0, x0, w0⟩ := DataW.trod_int Try.underlying3 h0
  obtain ⟨s1, e1, x1, w1⟩ := DataW.trod_string Try.underlying9 h1
  obtain ⟨s2, e2, x2, w2⟩ := DataW.trod_string Try.underlying9 h2
  obtain ⟨n3, e3, x3, w3⟩ := DataW.trod_int Try.underlying29 h3
  cases e0; cases e1; cases e2; cases e3
  cases x0; cases x1; cases x2; cases x3
  obtain ⟨hd, _⟩ := Prod.mk.inj hy
  subst hd
  refine ⟨⟨n0, s1, s2, n3⟩, rfl, w0, w3, hw _ ?_, hw _ ?_⟩
  · rw [DataW.weights, Try.underlying59]
    simp [DataW.weightsEach, DataW.weights]
  · rw [DataW.weights, Try.underlying59]
    simp [DataW.weightsEach, DataW.weights]
set_option maxRecDepth 100000 in
/-- A slice of Op. -/
theorem open_ops {r : Reach} {b0 : Nat} {v : Value} {d : DataW H} {p : List MemPlace} (hv : Value.okWide Try.prog W r b0 34 v) (h : DataW.Trod enc Try.prog W 0 (fun _ => true) true 34 v d p)
    (hw : ∀ x ∈ d.weights Try.prog 34, x ≤ reachBytes) :
    ∃ A c, ∃ l : List SGOp, v = .slice A l.length c ∧ Kd.C kGOp W A l.length l ∧ l.length ≤ 140737488351232 ∧ ∀ o ∈ l, OkOp o := by
  obtain ⟨A, len, cap, rfl⟩ := okWide_slice Try.underlying34 hv
  obtain ⟨fuel, hf⟩ := h
  have hC : Try.prog.cellsOf 59 = 4 := by kernel_rfl
  rcases open_slice Try.underlying34 hf with ⟨hcs, _⟩ | ⟨a, len', cap', m, n, D, Pl, hcs, hb, hl, hm, hmm, hx, hi⟩
  · simp [Value.cells] at hcs
    obtain ⟨rfl, rfl, rfl⟩ := hcs
    exact ⟨none, 0, [], rfl, ⟨rfl, by simp, fun h => by simp at h⟩, by simp, by simp⟩
  · simp [Value.cells] at hcs
    obtain ⟨rfl, rfl, rfl⟩ := hcs
    obtain ⟨hd, _⟩ := Prod.mk.inj hx
    subst hd
    have hB : 1 ≤ Try.prog.bytesOf 59 := of_decide_eq_true (by kernel_rfl)
    have hlen : len ≤ reachBytes := by
      have := hw ((((List.range len).map D).length + ((List.range (m - len)).map fun j => D (len + j)).length) * Try.prog.bytesOf 59) (by rw [DataW.weights, Try.underlying34]; simp)
      rw [List.length_map, List.length_range] at this
      have h2 : (len + ((List.range (m - len)).map fun j => D (len + j)).length) * 1 ≤ (len + ((List.range (m - len)).map fun j => D (len + j)).length) * Try.prog.bytesOf 59 := Nat.mul_le_mul_left _ hB
      omega
    have hr : reachBytes = 140737488351232 := by kernel_rfl
    obtain ⟨l, hll, hp⟩ := list_of (fun i (o : SGOp) => OkOp o ∧ ∀ j u, ([.int .i64 o.f0, .string o.f1, .string o.f2, .int .u64 o.f3] : List Value)[j]? = some u → W.cell? (a.add (i * 4 + j)) = some u) len (fun i hil => by
      obtain ⟨cs', hc, ht'⟩ := hi i (by rw [hmm]; split <;> omega)
      rw [hC] at hc
      obtain ⟨_, hcl, hat⟩ := World.cells?_some hc
      obtain ⟨o, rfl, ho⟩ := op_cells hcl ht' (fun x hx => hw x (by
        rw [DataW.weights, Try.underlying34]
        simp only [List.mem_cons, List.mem_append]
        exact .inr (.inl (mem_weightsAll (List.mem_map.2 ⟨i, List.mem_range.2 hil, rfl⟩) x hx))))
      refine ⟨o, ho, fun j u hj => ?_⟩
      have hjl : j < 4 := by have := (List.getElem?_eq_some_iff.1 hj).1; simpa using this
      rw [← Go.Deep.add_add, hat j hjl, hj])
    refine ⟨some a, cap, l, by rw [hll], ⟨rfl, by omega, fun _ => ⟨a, rfl, fun j o hj => ⟨_, ?_, kGOp_mk W o, (hp j o hj).2⟩⟩⟩, by rw [hll]; omega, fun o ho => ?_⟩
    · rfl
    · obtain ⟨i, hi2⟩ := List.mem_iff_getElem?.1 ho
      exact (hp i o hi2).1
set_option maxRecDepth 100000 in
/-- A Pair by value. -/
theorem open_pair {r : Reach} {b0 : Nat} {v : Value} {d : DataW H} {p : List MemPlace} (hv : Value.okWide Try.prog W r b0 36 v) (h : DataW.Trod enc Try.prog W 0 (fun _ => true) true 36 v d p)
    (hw : ∀ x ∈ d.weights Try.prog 36, x ≤ reachBytes) :
    ∃ s t : ByteArray, v = .agg #[.string s, .string t] ∧ s.size ≤ reachBytes ∧ t.size ≤ reachBytes := by
  obtain ⟨v0, v1, y0, y1, n, rfl, rfl, rfl, h0, h1⟩ := open_agg2 Try.underlying36 (by kernel_rfl) (by kernel_rfl) hv h
  obtain ⟨s, e0, x0, w0⟩ := DataW.trod_string Try.underlying9 h0
  obtain ⟨t, e1, x1, w1⟩ := DataW.trod_string Try.underlying9 h1
  cases e0; cases e1; cases x0; cases x1
  refine ⟨s, t, rfl, hw _ ?_, hw _ ?_⟩
  · rw [DataW.weights, Try.underlying36]
    simp [DataW.weightsEach, DataW.weights]
  · rw [DataW.weights, Try.underlying36]
    simp [DataW.weightsEach, DataW.weights]
set_option maxRecDepth 100000 in
/-- An Op by value. -/
theorem open_op {r : Reach} {b0 : Nat} {v : Value} {d : DataW H} {p : List MemPlace} (hv : Value.okWide Try.prog W r b0 59 v) (h : DataW.Trod enc Try.prog W 0 (fun _ => true) true 59 v d p)
    (hw : ∀ x ∈ d.weights Try.prog 59, x ≤ reachBytes) :
    ∃ o : SGOp, v = .agg #[.int .i64 o.f0, .string o.f1, .string o.f2, .int .u64 o.f3] ∧ OkOp o := by
  obtain ⟨v0, v1, v2, v3, y0, y1, y2, y3, n, rfl, rfl, rfl, h0, h1, h2, h3⟩ := open_agg4 Try.underlying59 (by kernel_rfl) (by kernel_rfl) hv h
  obtain ⟨n0, e0, x0, w0⟩ := DataW.trod_int Try.underlying3 h0
  obtain ⟨s1, e1, x1, w1⟩ := DataW.trod_string Try.underlying9 h1
  obtain ⟨s2, e2, x2, w2⟩ := DataW.trod_string Try.underlying9 h2
  obtain ⟨n3, e3, x3, w3⟩ := DataW.trod_int Try.underlying29 h3
  cases e0; cases e1; cases e2; cases e3
  cases x0; cases x1; cases x2; cases x3
  refine ⟨⟨n0, s1, s2, n3⟩, rfl, w0, w3, hw _ ?_, hw _ ?_⟩
  · rw [DataW.weights, Try.underlying59]
    simp [DataW.weightsEach, DataW.weights]
  · rw [DataW.weights, Try.underlying59]
    simp [DataW.weightsEach, DataW.weights]
end
end Go.Proofs.Ytidkdbohkbfhbaa
