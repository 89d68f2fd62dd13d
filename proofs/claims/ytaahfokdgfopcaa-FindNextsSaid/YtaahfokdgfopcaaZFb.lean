/- Records that came in, laid open. -/
import Derived.Test.YtaahfokdgfopcaaZFa
import Derived.Test.YtaahfokdgfopcaaZL17w
namespace Go.Proofs.Ytaahfokdgfopcaa
open Go.RowKit Go.Proofs.YtaahfokdgfopcaaW.PrintWords Go.Proofs.YtaahfokdgfopcaaW.PrintLast Go.Proofs.YtaahfokdgfopcaaW.PrintMore
open Go.ChangeShapes Go.WideShapes Go.ChangeAt Go.Deep Go.Joins
open Rf
set_option linter.unusedVariables false
set_option linter.unusedSimpArgs false
theorem mem_weightsAll {H : Type} {P : Program} {e : TypeId} : ∀ {ds : List (DataW H)} {d : DataW H}, d ∈ ds → ∀ n ∈ d.weights P e, n ∈ DataW.weightsAll P e ds
  | [], _, h, _, _ => by simp at h
  | a :: r, d, h, n, hn => by
    simp only [DataW.weightsAll, List.mem_append]
    rcases List.mem_cons.1 h with rfl | h
    · exact .inl hn
    · exact .inr (mem_weightsAll h n hn)
section
variable {H : Type} {enc : TypeId × Value → H} {W : World}
theorem list12 {α : Type} {cs : List α} (h : cs.length = 12) : ∃ c0 c1 c2 c3 c4 c5 c6 c7 c8 c9 c10 c11, cs = [c0, c1, c2, c3, c4, c5, c6, c7, c8, c9, c10, c11] := by
  match cs, h with
  | [c0, c1, c2, c3, c4, c5, c6, c7, c8, c9, c10, c11], _ => exact ⟨c0, c1, c2, c3, c4, c5, c6, c7, c8, c9, c10, c11, rfl⟩
/-- K: the elements' kind; out: an element's cells; one: an element's cells are some element's. Good: what is known of each. -/
theorem open_listg {α : Type} (K : Kd α) (out : α → List Value) (Good : α → Prop) {t e : TypeId} (U : Try.prog.underlying t = some (.slice e)) (hC : Try.prog.cellsOf e = K.sz) (hB : 1 ≤ Try.prog.bytesOf e) (hK : ∀ x, Good x → K.K W x (out x)) (hout : ∀ x, (out x).length = K.sz)
    {fuel : Nat} {cs : List Value} {d : DataW H} {p : List MemPlace} (hf : DataW.trod enc Try.prog W 0 (fun _ => true) true fuel t cs = some (d, p))
    (hw : ∀ x ∈ d.weights Try.prog t, x ≤ reachBytes)
    (one : ∀ n cs' d' p', cs'.length = K.sz → DataW.trod enc Try.prog W 0 (fun _ => true) true n e cs' = some (d', p') → (∀ x ∈ d'.weights Try.prog e, x ≤ reachBytes) → ∃ x, cs' = out x ∧ Good x) :
    ∃ A c, ∃ l : List α, cs = [.slice A l.length c] ∧ Kd.C K W A l.length l ∧ l.length ≤ c ∧ l.length ≤ 140737488351232 ∧ ∀ x ∈ l, Good x := by
  rcases open_slice U hf with ⟨hcs, _⟩ | ⟨a, len, cap, m, n, D, Pl, hcs, hb, hl, hm, hmm, hx, hi⟩
  · exact ⟨none, 0, [], hcs, ⟨rfl, by simp, fun h => by simp at h⟩, by simp, by simp, by simp⟩
  · obtain ⟨hd, _⟩ := Prod.mk.inj hx
    subst hd
    have hlen : len ≤ reachBytes := by
      have := hw ((((List.range len).map D).length + ((List.range (m - len)).map fun j => D (len + j)).length) * Try.prog.bytesOf e) (by rw [DataW.weights, U]; simp)
      rw [List.length_map, List.length_range] at this
      have h2 : (len + ((List.range (m - len)).map fun j => D (len + j)).length) * 1 ≤ (len + ((List.range (m - len)).map fun j => D (len + j)).length) * Try.prog.bytesOf e := Nat.mul_le_mul_left _ hB
      omega
    have hr : reachBytes = 140737488351232 := by kernel_rfl
    obtain ⟨l, hll, hp⟩ := list_of (fun i (o : α) => Good o ∧ ∀ j u, (out o)[j]? = some u → W.cell? (a.add (i * K.sz + j)) = some u) len (fun i hil => by
      obtain ⟨cs', hc, ht'⟩ := hi i (by rw [hmm]; split <;> omega)
      rw [hC] at hc
      obtain ⟨_, hcl, hat⟩ := World.cells?_some hc
      obtain ⟨o, rfl, hg⟩ := one n cs' _ _ hcl ht' (fun x hx => hw x (by
        rw [DataW.weights, U]
        simp only [List.mem_cons, List.mem_append]
        exact .inr (.inl (mem_weightsAll (List.mem_map.2 ⟨i, List.mem_range.2 hil, rfl⟩) x hx))))
      refine ⟨o, hg, fun j u hj => ?_⟩
      have hjl : j < K.sz := by have := (List.getElem?_eq_some_iff.1 hj).1; rw [hout] at this; exact this
      rw [← Go.Deep.add_add, hat j hjl, hj])
    have hml : cap ≤ 9223372036854775807 := by have : maxLen ≤ 9223372036854775807 := by decide
                                               omega
    refine ⟨some a, cap, l, by rw [hll]; exact hcs, ⟨rfl, by omega, fun _ => ⟨a, rfl, fun j o hj => ⟨out o, hout o, hK o (hp j o hj).1, (hp j o hj).2⟩⟩⟩, by omega, by omega, fun o ho => ?_⟩
    obtain ⟨i, hi2⟩ := List.mem_iff_getElem?.1 ho
    exact (hp i o hi2).1
set_option maxRecDepth 100000 in
theorem rec_cells {n : Nat} {cs : List Value} {d : DataW H} {p : List MemPlace} (hl : cs.length = 12) (h : DataW.trod enc Try.prog W 0 (fun _ => true) true n 43 cs = some (d, p))
    (hw : ∀ x ∈ d.weights Try.prog 43, x ≤ reachBytes) :
    ∃ (k ls tx pv un pg ak : Int) (a b c : ByteArray) (At Ad : Option Addr) (l : List SGTxn) (m : List SGDirty) (ct cd : Nat),
      cs = [.int .i64 k, .int .u64 ls, .int .i64 tx, .int .u64 pv, .int .u64 un, .int .i64 pg, .int .i64 ak, .string a, .string b, .string c, .slice At l.length ct, .slice Ad m.length cd] ∧ (0 ≤ ls ∧ ls < 18446744073709551616) ∧ (0 ≤ pv ∧ pv < 18446744073709551616) ∧ (0 ≤ un ∧ un < 18446744073709551616) ∧
      a.size ≤ reachBytes ∧ b.size ≤ reachBytes ∧ c.size ≤ reachBytes ∧ Kd.C kGTxn W At l.length l ∧ l.length ≤ ct ∧ Kd.C kGDirty W Ad m.length m ∧ m.length ≤ cd ∧ l.length ≤ 140737488351232 ∧ m.length ≤ 140737488351232 := by
  obtain ⟨c0, c1, c2, c3, c4, c5, c6, c7, c8, c9, c10, c11, rfl⟩ := list12 hl
  clear hl
  obtain ⟨ys, n', hn', hy, hlen, hyl, hf⟩ := DataW.trod_struct Try.underlying43 h
  have k3 : Try.prog.cellsOf 3 = 1 := by kernel_rfl
  have k28 : Try.prog.cellsOf 38 = 1 := by kernel_rfl
  have k30 : Try.prog.cellsOf 26 = 1 := by kernel_rfl
  have k24 : Try.prog.cellsOf 41 = 4 := by kernel_rfl
  have k31 : Try.prog.cellsOf 30 = 1 := by kernel_rfl
  have k32 : Try.prog.cellsOf 32 = 1 := by kernel_rfl
  obtain ⟨y0, y1, y2, y3, y4, y5, y6, y7, y8, rfl⟩ := list9 hyl
  have h0 := hf 0 ⟨"Kind", 38, 0, false, "", "", 0⟩ rfl
  have h1 := hf 1 ⟨"Lsn", 26, 1, false, "", "", 8⟩ rfl
  have h2 := hf 2 ⟨"Txn", 3, 2, false, "", "", 16⟩ rfl
  have h3 := hf 3 ⟨"Prev", 26, 3, false, "", "", 24⟩ rfl
  have h4 := hf 4 ⟨"Undo", 26, 4, false, "", "", 32⟩ rfl
  have h5 := hf 5 ⟨"Page", 3, 5, false, "", "", 40⟩ rfl
  have h6 := hf 6 ⟨"Act", 41, 6, false, "", "", 48⟩ rfl
  have h7 := hf 7 ⟨"Txns", 30, 10, false, "", "", 104⟩ rfl
  have h8 := hf 8 ⟨"Dirty", 32, 11, false, "", "", 128⟩ rfl
  clear hf
  simp only [Value.cells, k3, k28, k30, k24, k31, k32, List.drop_zero, List.drop_succ_cons, List.take_succ_cons, List.take_zero] at h0 h1 h2 h3 h4 h5 h6 h7 h8
  obtain ⟨n0, e0, x0, w0⟩ := DataW.trod_int Try.underlying38 h0
  obtain ⟨n1, e1, x1, w1⟩ := DataW.trod_int Try.underlying26 h1
  obtain ⟨n2, e2, x2, w2⟩ := DataW.trod_int Try.underlying3 h2
  obtain ⟨n3, e3, x3, w3⟩ := DataW.trod_int Try.underlying26 h3
  obtain ⟨n4, e4, x4, w4⟩ := DataW.trod_int Try.underlying26 h4
  obtain ⟨n5, e5, x5, w5⟩ := DataW.trod_int Try.underlying3 h5
  have h6' : DataW.trod enc Try.prog W 0 (fun _ => true) true n' 41 [c6, c7, c8, c9] = some y6 := h6
  obtain ⟨zs, n6, hn6, hz, hzl, hzn, hg⟩ := DataW.trod_struct Try.underlying41 h6'
  obtain ⟨z0, z1, z2, z3, rfl⟩ : ∃ a b c d, zs = [a, b, c, d] := by
    match zs, hzn with
    | [a, b, c, d], _ => exact ⟨a, b, c, d, rfl⟩
  have k22 : Try.prog.cellsOf 39 = 1 := by kernel_rfl
  have k9 : Try.prog.cellsOf 9 = 1 := by kernel_rfl
  have g0 := hg 0 ⟨"Kind", 39, 0, false, "", "", 0⟩ rfl
  have g1 := hg 1 ⟨"Key", 9, 1, false, "", "", 8⟩ rfl
  have g2 := hg 2 ⟨"Old", 9, 2, false, "", "", 24⟩ rfl
  have g3 := hg 3 ⟨"New", 9, 3, false, "", "", 40⟩ rfl
  simp only [k22, k9, List.drop_zero, List.drop_succ_cons, List.take_succ_cons, List.take_zero] at g0 g1 g2 g3
  obtain ⟨m0, f0, u0, v0⟩ := DataW.trod_int Try.underlying39 g0
  obtain ⟨s1, f1, u1, v1⟩ := DataW.trod_string Try.underlying9 g1
  obtain ⟨s2, f2, u2, v2⟩ := DataW.trod_string Try.underlying9 g2
  obtain ⟨s3, f3, u3, v3⟩ := DataW.trod_string Try.underlying9 g3
  have h7' : DataW.trod enc Try.prog W 0 (fun _ => true) true n' 30 [c10] = some (y7.1, y7.2) := h7
  have h8' : DataW.trod enc Try.prog W 0 (fun _ => true) true n' 32 [c11] = some (y8.1, y8.2) := h8
  subst hz
  obtain ⟨hd, _⟩ := Prod.mk.inj hy
  obtain ⟨At, ct, l, e7, hC7, hl7, hn7, _⟩ := open_listg kGTxn (fun o => [.int .i64 o.f0, .int .i64 o.f1, .int .u64 o.f2]) (fun _ => True) Try.underlying30 (by kernel_rfl) (of_decide_eq_true (by kernel_rfl)) (fun x _ => kGTxn_mk W x) (fun x => rfl) h7' (fun x hx => hw x (by
    rw [hd, DataW.weights, Try.underlying43]
    simp [DataW.weightsEach]
    exact .inr (.inr (.inr (.inr (.inr (.inr (.inr (.inl hx))))))))) (fun n cs' d' p' hl h _ => by
      obtain ⟨o, ho, _⟩ := txn_cells hl h
      exact ⟨o, ho, trivial⟩)
  obtain ⟨Ad, cd, m, e8, hC8, hl8, hn8, _⟩ := open_listg kGDirty (fun o => [.int .i64 o.f0, .int .u64 o.f1]) (fun _ => True) Try.underlying32 (by kernel_rfl) (of_decide_eq_true (by kernel_rfl)) (fun x _ => kGDirty_mk W x) (fun x => rfl) h8' (fun x hx => hw x (by
    rw [hd, DataW.weights, Try.underlying43]
    simp [DataW.weightsEach]
    exact .inr (.inr (.inr (.inr (.inr (.inr (.inr (.inr hx))))))))) (fun n cs' d' p' hl h _ => by
      obtain ⟨o, ho, _⟩ := dirty_cells hl h
      exact ⟨o, ho, trivial⟩)
  cases e0; cases e1; cases e2; cases e3; cases e4; cases e5
  cases f0; cases f1; cases f2; cases f3; cases e7; cases e8
  cases u0; cases u1; cases u2; cases u3
  subst hd
  have hun : ∀ n : Int, (Lit.int .u64 n).wf = true → 0 ≤ n ∧ n < 18446744073709551616 := fun n w => by
    have e0 : IntKind.u64.min = 0 := rfl
    have e1 : IntKind.u64.max = 18446744073709551615 := rfl
    simp only [Lit.wf, Bool.and_eq_true, decide_eq_true_eq, e0, e1] at w
    omega
  refine ⟨n0, n1, n2, n3, n4, n5, m0, s1, s2, s3, At, Ad, l, m, ct, cd, rfl, hun _ w1, hun _ w3, hun _ w4, hw _ ?_, hw _ ?_, hw _ ?_, hC7, hl7, hC8, hl8, hn7, hn8⟩
  all_goals
    rw [DataW.weights, Try.underlying43]
    simp [DataW.weightsEach]
    refine .inr (.inr (.inr (.inr (.inr (.inr (.inl ?_))))))
    rw [DataW.weights, Try.underlying41]
    simp [DataW.weightsEach, DataW.weights]
set_option maxRecDepth 100000 in
/-- A slice of records. -/
theorem open_recs18 {r : Reach} {b0 : Nat} {v : Value} {d : DataW H} {p : List MemPlace} (hv : Value.okWide Try.prog W r b0 22 v) (h : DataW.Trod enc Try.prog W 0 (fun _ => true) true 22 v d p)
    (hw : ∀ x ∈ d.weights Try.prog 22, x ≤ reachBytes) :
    ∃ A c, ∃ l : List SGRecord, v = .slice A l.length c ∧ Kd.C kGRecord W A l.length l ∧ l.length ≤ c ∧ l.length ≤ 140737488351232 ∧ ∀ x ∈ l, Okx x := by
  obtain ⟨A, len, cap, rfl⟩ := okWide_slice Try.underlying22 hv
  obtain ⟨fuel, hf⟩ := h
  obtain ⟨A', c', l, hcs, hC, hc, hl, hg⟩ := open_listg kRc SRc.out (OkRc W) Try.underlying22 (by kernel_rfl) (of_decide_eq_true (by kernel_rfl)) (fun x hx => ⟨rfl, hx⟩) (fun x => rfl) hf hw
    (fun n cs' d' p' hl ht hw' => by
      obtain ⟨k, ls, tx, pv, un, pg, ak, a, b, c, At, Ad, l, m, ct, cd, rfl, hls, hpv, hun, sa, sb, sc, hT, hTc, hD, hDc, nl, nm⟩ := rec_cells hl ht hw'
      have hr3 : reachBytes = 140737488351232 := by kernel_rfl
      exact ⟨⟨k, ls, tx, pv, un, pg, ak, a, b, c, At, Ad, l, m, ct, cd⟩, rfl, ⟨hls, hpv, hun, hr3 ▸ sa, hr3 ▸ sb, hr3 ▸ sc, hT, hTc, hD, hDc, nl, nm⟩⟩)
  simp [Value.cells] at hcs
  obtain ⟨rfl, rfl, rfl⟩ := hcs
  refine ⟨_, _, l.map SRc.toG, by rw [List.length_map], by rw [List.length_map]; exact C_toG hC, by rw [List.length_map]; exact hc, by rw [List.length_map]; exact hl, fun x hx => ?_⟩
  obtain ⟨y, hy, rfl⟩ := List.mem_map.1 hx
  exact ok_toG (hg y hy)
end
end Go.Proofs.Ytaahfokdgfopcaa
