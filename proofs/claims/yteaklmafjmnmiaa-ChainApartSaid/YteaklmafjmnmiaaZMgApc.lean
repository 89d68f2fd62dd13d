/- Layer 17: a law's arguments, laid open: a Record. 
Layer 17: a slice of operations: its kind, and laid open. -/
import Derived.Test.YteaklmafjmnmiaaZMgAp8
import Derived.Laws.IdiomArrays
section
namespace Go.Proofs.Yteaklmafjmnmiaa
open Go.RowKit Go.Proofs.YteaklmafjmnmiaaW.PrintWords Go.Proofs.YteaklmafjmnmiaaW.PrintLast Go.Proofs.YteaklmafjmnmiaaW.PrintMore
open Go.ChangeShapes Go.WideShapes Go.ChangeAt Go.Deep Go.Joins
open Rf
set_option linter.unusedVariables false
set_option linter.unusedSimpArgs false
theorem list9 {α : Type} {cs : List α} (h : cs.length = 9) : ∃ c0 c1 c2 c3 c4 c5 c6 c7 c8, cs = [c0, c1, c2, c3, c4, c5, c6, c7, c8] := by
  match cs, h with
  | [c0, c1, c2, c3, c4, c5, c6, c7, c8], _ => exact ⟨c0, c1, c2, c3, c4, c5, c6, c7, c8, rfl⟩
section
variable {H : Type} {enc : TypeId × Value → H} {W : World}
set_option maxRecDepth 100000 in
theorem txn_cells {held : Bool} {n : Nat} {cs : List Value} {d : DataW H} {p : List MemPlace} (hl : cs.length = 3) (h : DataW.trod enc Try.prog W 0 (fun _ => true) held n 54 cs = some (d, p)) :
    ∃ o : SGTxn, cs = [.int .i64 o.f0, .int .i64 o.f1, .int .u64 o.f2] ∧ True := by
  obtain ⟨c0, c1, c2, rfl⟩ : ∃ c0 c1 c2, cs = [c0, c1, c2] := by
    match cs, hl with
    | [c0, c1, c2], _ => exact ⟨c0, c1, c2, rfl⟩
  obtain ⟨ys, n', hn', hy, hlen, hyl, hf⟩ := DataW.trod_struct Try.underlying54 h
  have k3 : Try.prog.cellsOf 3 = 1 := by kernel_rfl
  have k73 : Try.prog.cellsOf 52 = 1 := by kernel_rfl
  have k30 : Try.prog.cellsOf 31 = 1 := by kernel_rfl
  have h0 := hf 0 ⟨"ID", 3, 0, false, "", "", 0⟩ rfl
  have h1 := hf 1 ⟨"State", 52, 1, false, "", "", 8⟩ rfl
  have h2 := hf 2 ⟨"Last", 31, 2, false, "", "", 16⟩ rfl
  simp only [k3, k73, k30, List.drop_zero, List.drop_succ_cons, List.take_succ_cons, List.take_zero] at h0 h1 h2
  obtain ⟨y0, y1, y2, rfl⟩ : ∃ a b c, ys = [a, b, c] := by
    match ys, hyl with
    | [a, b, c], _ => exact ⟨a, b, c, rfl⟩
  obtain ⟨n0, e0, x0, w0⟩ := DataW.trod_int Try.underlying3 h0
  obtain ⟨n1, e1, x1, w1⟩ := DataW.trod_int Try.underlying52 h1
  obtain ⟨n2, e2, x2, w2⟩ := DataW.trod_int Try.underlying31 h2
  cases e0; cases e1; cases e2
  exact ⟨⟨n0, n1, n2⟩, rfl, trivial⟩
set_option maxRecDepth 100000 in
theorem dirty_cells {held : Bool} {n : Nat} {cs : List Value} {d : DataW H} {p : List MemPlace} (hl : cs.length = 2) (h : DataW.trod enc Try.prog W 0 (fun _ => true) held n 100 cs = some (d, p)) :
    ∃ o : SGDirty, cs = [.int .i64 o.f0, .int .u64 o.f1] ∧ True := by
  obtain ⟨c0, c1, rfl⟩ : ∃ c0 c1, cs = [c0, c1] := by
    match cs, hl with
    | [c0, c1], _ => exact ⟨c0, c1, rfl⟩
  obtain ⟨ys, n', hn', hy, hlen, hyl, hf⟩ := DataW.trod_struct Try.underlying100 h
  have k3 : Try.prog.cellsOf 3 = 1 := by kernel_rfl
  have k30 : Try.prog.cellsOf 31 = 1 := by kernel_rfl
  have h0 := hf 0 ⟨"Page", 3, 0, false, "", "", 0⟩ rfl
  have h1 := hf 1 ⟨"Rec", 31, 1, false, "", "", 8⟩ rfl
  simp only [k3, k30, List.drop_zero, List.drop_succ_cons, List.take_succ_cons, List.take_zero] at h0 h1
  obtain ⟨y0, y1, rfl⟩ : ∃ a b, ys = [a, b] := by
    match ys, hyl with
    | [a, b], _ => exact ⟨a, b, rfl⟩
  obtain ⟨n0, e0, x0, w0⟩ := DataW.trod_int Try.underlying3 h0
  obtain ⟨n1, e1, x1, w1⟩ := DataW.trod_int Try.underlying31 h1
  cases e0; cases e1
  exact ⟨⟨n0, n1⟩, rfl, trivial⟩
end
end Go.Proofs.Yteaklmafjmnmiaa
end
section
namespace Go.Proofs.Yteaklmafjmnmiaa
open Go.RowKit Go.Proofs.YteaklmafjmnmiaaW.PrintWords Go.Proofs.YteaklmafjmnmiaaW.PrintLast Go.Proofs.YteaklmafjmnmiaaW.PrintMore
open Go.ChangeShapes Go.WideShapes Go.ChangeAt Go.Deep Go.Joins
open Rf
set_option linter.unusedVariables false
set_option linter.unusedSimpArgs false
/-- An operation: its kind, its transaction, its number; its record's fields. -/
structure SOp where
  kd : Int
  tn : Int
  nn : Int
  k : Int
  ls : Int
  tx : Int
  pv : Int
  un : Int
  pg : Int
  ak : Int
  a : ByteArray
  b : ByteArray
  c : ByteArray
  At : Option Addr
  Ad : Option Addr
  l : List SGTxn
  m : List SGDirty
  ct : Nat
  cd : Nat
def SOp.out (x : SOp) : List Value := [.int .i64 x.kd, .int .i64 x.tn, .int .i64 x.nn, .int .i64 x.k, .int .u64 x.ls, .int .i64 x.tx, .int .u64 x.pv, .int .u64 x.un, .int .i64 x.pg, .int .i64 x.ak, .string x.a, .string x.b, .string x.c, .slice x.At x.l.length x.ct, .slice x.Ad x.m.length x.cd]
/-- What is known of one. -/
structure OkOp (w : World) (x : SOp) : Prop where
  pv : 0 ≤ x.pv
  un : 0 ≤ x.un
  sa : x.a.size ≤ 140737488351232
  sb : x.b.size ≤ 140737488351232
  sc : x.c.size ≤ 140737488351232
  hT : Kd.C kGTxn w x.At x.l.length x.l
  hTc : x.l.length ≤ x.ct
  hD : Kd.C kGDirty w x.Ad x.m.length x.m
  hDc : x.m.length ≤ x.cd
theorem OkOp.below {w w' : World} {x : SOp} (h : OkOp w x) (hb : Below w.heap.size w w') : OkOp w' x :=
  ⟨h.pv, h.un, h.sa, h.sb, h.sc, Kd.C_below h.hT hb, h.hTc, Kd.C_below h.hD hb, h.hDc⟩
def kOp : Kd SOp where
  sz := 15
  E := []
  K := fun w x cs => cs = x.out ∧ OkOp w x
  M := fun _ _ _ _ _ => False
  K_len := by rintro w x cs ⟨rfl, _⟩; rfl
  K_one := by
    rintro w x cs ⟨rfl, _⟩ u hu
    simp only [SOp.out, List.mem_cons, List.not_mem_nil, or_false] at hu
    rcases hu with rfl | rfl | rfl | rfl | rfl | rfl | rfl | rfl | rfl | rfl | rfl | rfl | rfl | rfl | rfl <;> rfl
  K_below := fun hb h => ⟨h.1, h.2.below hb⟩
  K_of_M := fun h => h.elim
  M_mono := fun _ h => h.elim
  M_bound := fun h => h.elim
  M_move := fun _ h => h.elim
  M_lower := fun _ h => h.elim
def zOp : SOp := ⟨0, 0, 0, 0, 0, 0, 0, 0, 0, 0, ⟨#[]⟩, ⟨#[]⟩, ⟨#[]⟩, none, none, [], [], 0, 0⟩
theorem mem_weightsAll {H : Type} {P : Program} {e : TypeId} : ∀ {ds : List (DataW H)} {d : DataW H}, d ∈ ds → ∀ n ∈ d.weights P e, n ∈ DataW.weightsAll P e ds
  | [], _, h, _, _ => by simp at h
  | a :: r, d, h, n, hn => by
    simp only [DataW.weightsAll, List.mem_append]
    rcases List.mem_cons.1 h with rfl | h
    · exact .inl hn
    · exact .inr (mem_weightsAll h n hn)
section
variable {H : Type} {enc : TypeId × Value → H} {W : World}
theorem list12 {α : Type} {cs : List α} (h : cs.length = 12) : ∃ c0 c1 c2 c3 c4 c5 c6 c7 c8 c9 c10 c11, cs = [c0, c1, c2, c3, c4, c5, c6, c7, c8, c9, c10, c11] := by
  match cs, h with
  | [c0, c1, c2, c3, c4, c5, c6, c7, c8, c9, c10, c11], _ => exact ⟨c0, c1, c2, c3, c4, c5, c6, c7, c8, c9, c10, c11, rfl⟩
theorem list15 {α : Type} {cs : List α} (h : cs.length = 15) : ∃ c0 c1 c2, ∃ r : List α, cs = c0 :: c1 :: c2 :: r ∧ r.length = 12 := by
  match cs, h with
  | c0 :: c1 :: c2 :: r, h => exact ⟨c0, c1, c2, r, rfl, by simpa using h⟩
set_option maxRecDepth 100000 in
theorem rec_cells {n : Nat} {cs : List Value} {d : DataW H} {p : List MemPlace} (hl : cs.length = 12) (h : DataW.trod enc Try.prog W 0 (fun _ => true) true n 39 cs = some (d, p))
    (hw : ∀ x ∈ d.weights Try.prog 39, x ≤ reachBytes) :
    ∃ (k ls tx pv un pg ak : Int) (a b c : ByteArray) (At Ad : Option Addr) (l : List SGTxn) (m : List SGDirty) (ct cd : Nat),
      cs = [.int .i64 k, .int .u64 ls, .int .i64 tx, .int .u64 pv, .int .u64 un, .int .i64 pg, .int .i64 ak, .string a, .string b, .string c, .slice At l.length ct, .slice Ad m.length cd] ∧ 0 ≤ pv ∧ 0 ≤ un ∧
      a.size ≤ reachBytes ∧ b.size ≤ reachBytes ∧ c.size ≤ reachBytes ∧ Kd.C kGTxn W At l.length l ∧ l.length ≤ ct ∧ Kd.C kGDirty W Ad m.length m ∧ m.length ≤ cd := by
  obtain ⟨c0, c1, c2, c3, c4, c5, c6, c7, c8, c9, c10, c11, rfl⟩ := list12 hl
  clear hl
  obtain ⟨ys, n', hn', hy, hlen, hyl, hf⟩ := DataW.trod_struct Try.underlying39 h
  have k3 : Try.prog.cellsOf 3 = 1 := by kernel_rfl
  have k28 : Try.prog.cellsOf 32 = 1 := by kernel_rfl
  have k30 : Try.prog.cellsOf 31 = 1 := by kernel_rfl
  have k24 : Try.prog.cellsOf 35 = 4 := by kernel_rfl
  have k31 : Try.prog.cellsOf 36 = 1 := by kernel_rfl
  have k32 : Try.prog.cellsOf 37 = 1 := by kernel_rfl
  obtain ⟨y0, y1, y2, y3, y4, y5, y6, y7, y8, rfl⟩ := list9 hyl
  have h0 := hf 0 ⟨"Kind", 32, 0, false, "", "", 0⟩ rfl
  have h1 := hf 1 ⟨"Lsn", 31, 1, false, "", "", 8⟩ rfl
  have h2 := hf 2 ⟨"Txn", 3, 2, false, "", "", 16⟩ rfl
  have h3 := hf 3 ⟨"Prev", 31, 3, false, "", "", 24⟩ rfl
  have h4 := hf 4 ⟨"Undo", 31, 4, false, "", "", 32⟩ rfl
  have h5 := hf 5 ⟨"Page", 3, 5, false, "", "", 40⟩ rfl
  have h6 := hf 6 ⟨"Act", 35, 6, false, "", "", 48⟩ rfl
  have h7 := hf 7 ⟨"Txns", 36, 10, false, "", "", 104⟩ rfl
  have h8 := hf 8 ⟨"Dirty", 37, 11, false, "", "", 128⟩ rfl
  clear hf
  simp only [Value.cells, k3, k28, k30, k24, k31, k32, List.drop_zero, List.drop_succ_cons, List.take_succ_cons, List.take_zero] at h0 h1 h2 h3 h4 h5 h6 h7 h8
  obtain ⟨n0, e0, x0, w0⟩ := DataW.trod_int Try.underlying32 h0
  obtain ⟨n1, e1, x1, w1⟩ := DataW.trod_int Try.underlying31 h1
  obtain ⟨n2, e2, x2, w2⟩ := DataW.trod_int Try.underlying3 h2
  obtain ⟨n3, e3, x3, w3⟩ := DataW.trod_int Try.underlying31 h3
  obtain ⟨n4, e4, x4, w4⟩ := DataW.trod_int Try.underlying31 h4
  obtain ⟨n5, e5, x5, w5⟩ := DataW.trod_int Try.underlying3 h5
  have h6' : DataW.trod enc Try.prog W 0 (fun _ => true) true n' 35 [c6, c7, c8, c9] = some y6 := h6
  obtain ⟨zs, n6, hn6, hz, hzl, hzn, hg⟩ := DataW.trod_struct Try.underlying35 h6'
  obtain ⟨z0, z1, z2, z3, rfl⟩ : ∃ a b c d, zs = [a, b, c, d] := by
    match zs, hzn with
    | [a, b, c, d], _ => exact ⟨a, b, c, d, rfl⟩
  have k22 : Try.prog.cellsOf 33 = 1 := by kernel_rfl
  have k9 : Try.prog.cellsOf 9 = 1 := by kernel_rfl
  have g0 := hg 0 ⟨"Kind", 33, 0, false, "", "", 0⟩ rfl
  have g1 := hg 1 ⟨"Key", 9, 1, false, "", "", 8⟩ rfl
  have g2 := hg 2 ⟨"Old", 9, 2, false, "", "", 24⟩ rfl
  have g3 := hg 3 ⟨"New", 9, 3, false, "", "", 40⟩ rfl
  simp only [k22, k9, List.drop_zero, List.drop_succ_cons, List.take_succ_cons, List.take_zero] at g0 g1 g2 g3
  obtain ⟨m0, f0, u0, v0⟩ := DataW.trod_int Try.underlying33 g0
  obtain ⟨s1, f1, u1, v1⟩ := DataW.trod_string Try.underlying9 g1
  obtain ⟨s2, f2, u2, v2⟩ := DataW.trod_string Try.underlying9 g2
  obtain ⟨s3, f3, u3, v3⟩ := DataW.trod_string Try.underlying9 g3
  have h7' : DataW.trod enc Try.prog W 0 (fun _ => true) true n' 36 [c10] = some (y7.1, y7.2) := h7
  have h8' : DataW.trod enc Try.prog W 0 (fun _ => true) true n' 37 [c11] = some (y8.1, y8.2) := h8
  obtain ⟨At, ct, l, e7, hC7, hl7, _⟩ := open_list kGTxn (fun o => [.int .i64 o.f0, .int .i64 o.f1, .int .u64 o.f2]) (fun _ => True) Try.underlying36 (by kernel_rfl) (fun x => kGTxn_mk W x) (fun x => rfl) h7' (fun n cs' d' p' hl h => txn_cells hl h)
  obtain ⟨Ad, cd, m, e8, hC8, hl8, _⟩ := open_list kGDirty (fun o => [.int .i64 o.f0, .int .u64 o.f1]) (fun _ => True) Try.underlying37 (by kernel_rfl) (fun x => kGDirty_mk W x) (fun x => rfl) h8' (fun n cs' d' p' hl h => dirty_cells hl h)
  cases e0; cases e1; cases e2; cases e3; cases e4; cases e5
  cases f0; cases f1; cases f2; cases f3; cases e7; cases e8
  cases u0; cases u1; cases u2; cases u3
  subst hz
  obtain ⟨hd, _⟩ := Prod.mk.inj hy
  subst hd
  have hun : ∀ n : Int, (Lit.int .u64 n).wf = true → 0 ≤ n := fun n w => by
    have e0 : IntKind.u64.min = 0 := rfl
    have e1 : IntKind.u64.max = 18446744073709551615 := rfl
    simp only [Lit.wf, Bool.and_eq_true, decide_eq_true_eq, e0, e1] at w
    omega
  refine ⟨n0, n1, n2, n3, n4, n5, m0, s1, s2, s3, At, Ad, l, m, ct, cd, rfl, hun _ w3, hun _ w4, hw _ ?_, hw _ ?_, hw _ ?_, hC7, hl7, hC8, hl8⟩
  all_goals
    rw [DataW.weights, Try.underlying39]
    simp [DataW.weightsEach]
    refine .inr (.inr (.inr (.inr (.inr (.inr (.inl ?_))))))
    rw [DataW.weights, Try.underlying35]
    simp [DataW.weightsEach, DataW.weights]
set_option maxRecDepth 100000 in
theorem op_cells {n : Nat} {cs : List Value} {d : DataW H} {p : List MemPlace} (hl : cs.length = 15) (h : DataW.trod enc Try.prog W 0 (fun _ => true) true n 51 cs = some (d, p))
    (hw : ∀ x ∈ d.weights Try.prog 51, x ≤ reachBytes) : ∃ o : SOp, cs = o.out ∧ OkOp W o := by
  obtain ⟨c0, c1, c2, r, rfl, hr⟩ := list15 hl
  obtain ⟨ys, n', hn', hy, hlen, hyl, hf⟩ := DataW.trod_struct Try.underlying51 h
  have k3 : Try.prog.cellsOf 3 = 1 := by kernel_rfl
  have k12 : Try.prog.cellsOf 39 = 12 := by kernel_rfl
  have h0 := hf 0 ⟨"Kind", 3, 0, false, "", "", 0⟩ rfl
  have h1 := hf 1 ⟨"Txn", 3, 1, false, "", "", 8⟩ rfl
  have h2 := hf 2 ⟨"N", 3, 2, false, "", "", 16⟩ rfl
  have h3 := hf 3 ⟨"R", 39, 3, false, "", "", 24⟩ rfl
  have er : r.take 12 = r := List.take_of_length_le (by omega)
  simp only [k3, k12, List.drop_zero, List.drop_succ_cons, List.take_succ_cons, List.take_zero, er] at h0 h1 h2 h3
  obtain ⟨y0, y1, y2, y3, rfl⟩ : ∃ a b c d, ys = [a, b, c, d] := by
    match ys, hyl with
    | [a, b, c, d], _ => exact ⟨a, b, c, d, rfl⟩
  obtain ⟨n0, e0, x0, w0⟩ := DataW.trod_int Try.underlying3 h0
  obtain ⟨n1, e1, x1, w1⟩ := DataW.trod_int Try.underlying3 h1
  obtain ⟨n2, e2, x2, w2⟩ := DataW.trod_int Try.underlying3 h2
  have h3' : DataW.trod enc Try.prog W 0 (fun _ => true) true n' 39 r = some (y3.1, y3.2) := h3
  obtain ⟨hd, _⟩ := Prod.mk.inj hy
  have hr3 : reachBytes = 140737488351232 := by kernel_rfl
  obtain ⟨k, ls, tx, pv, un, pg, ak, a, b, c, At, Ad, l, m, ct, cd, rfl, hpv, hun, sa, sb, sc, hT, hTc, hD, hDc⟩ := rec_cells hr h3' (fun x hx => hw x (by
    rw [hd, DataW.weights, Try.underlying51]
    simp [DataW.weightsEach]
    exact .inr (.inr (.inr hx))))
  cases e0; cases e1; cases e2
  exact ⟨⟨n0, n1, n2, k, ls, tx, pv, un, pg, ak, a, b, c, At, Ad, l, m, ct, cd⟩, rfl, ⟨hpv, hun, hr3 ▸ sa, hr3 ▸ sb, hr3 ▸ sc, hT, hTc, hD, hDc⟩⟩
/-- K: the elements' kind; out: an element's cells; one: an element's cells are some element's. Good: what is known of each. -/
theorem open_listg {α : Type} (K : Kd α) (out : α → List Value) (Good : α → Prop) {t e : TypeId} (U : Try.prog.underlying t = some (.slice e)) (hC : Try.prog.cellsOf e = K.sz) (hB : 1 ≤ Try.prog.bytesOf e) (hK : ∀ x, Good x → K.K W x (out x)) (hout : ∀ x, (out x).length = K.sz)
    {fuel : Nat} {cs : List Value} {d : DataW H} {p : List MemPlace} (hf : DataW.trod enc Try.prog W 0 (fun _ => true) true fuel t cs = some (d, p))
    (hw : ∀ x ∈ d.weights Try.prog t, x ≤ reachBytes)
    (one : ∀ n cs' d' p', cs'.length = K.sz → DataW.trod enc Try.prog W 0 (fun _ => true) true n e cs' = some (d', p') → (∀ x ∈ d'.weights Try.prog e, x ≤ reachBytes) → ∃ x, cs' = out x ∧ Good x) :
    ∃ A c, ∃ l : List α, cs = [.slice A l.length c] ∧ Kd.C K W A l.length l ∧ l.length ≤ c ∧ l.length ≤ 140737488351232 ∧ ∀ x ∈ l, Good x := by
  rcases open_slice U hf with ⟨hcs, _⟩ | ⟨a, len, cap, m, n, D, Pl, hcs, hb, hl, hm, hmm, hx, hi⟩
  · exact ⟨none, 0, [], hcs, ⟨rfl, by simp, fun h => by simp at h⟩, by simp, by simp, by simp⟩
  · obtain ⟨hd, _⟩ := Prod.mk.inj hx
    subst hd
    have hlen : len ≤ reachBytes := by
      have := hw ((((List.range len).map D).length + ((List.range (m - len)).map fun j => D (len + j)).length) * Try.prog.bytesOf e) (by rw [DataW.weights, U]; simp)
      rw [List.length_map, List.length_range] at this
      have h2 : (len + ((List.range (m - len)).map fun j => D (len + j)).length) * 1 ≤ (len + ((List.range (m - len)).map fun j => D (len + j)).length) * Try.prog.bytesOf e := Nat.mul_le_mul_left _ hB
      omega
    have hr : reachBytes = 140737488351232 := by kernel_rfl
    obtain ⟨l, hll, hp⟩ := list_of (fun i (o : α) => Good o ∧ ∀ j u, (out o)[j]? = some u → W.cell? (a.add (i * K.sz + j)) = some u) len (fun i hil => by
      obtain ⟨cs', hc, ht'⟩ := hi i (by rw [hmm]; split <;> omega)
      rw [hC] at hc
      obtain ⟨_, hcl, hat⟩ := World.cells?_some hc
      obtain ⟨o, rfl, hg⟩ := one n cs' _ _ hcl ht' (fun x hx => hw x (by
        rw [DataW.weights, U]
        simp only [List.mem_cons, List.mem_append]
        exact .inr (.inl (mem_weightsAll (List.mem_map.2 ⟨i, List.mem_range.2 hil, rfl⟩) x hx))))
      refine ⟨o, hg, fun j u hj => ?_⟩
      have hjl : j < K.sz := by have := (List.getElem?_eq_some_iff.1 hj).1; rw [hout] at this; exact this
      rw [← Go.Deep.add_add, hat j hjl, hj])
    have hml : cap ≤ 9223372036854775807 := by have : maxLen ≤ 9223372036854775807 := by decide
                                               omega
    refine ⟨some a, cap, l, by rw [hll]; exact hcs, ⟨rfl, by omega, fun _ => ⟨a, rfl, fun j o hj => ⟨out o, hout o, hK o (hp j o hj).1, (hp j o hj).2⟩⟩⟩, by omega, by omega, fun o ho => ?_⟩
    obtain ⟨i, hi2⟩ := List.mem_iff_getElem?.1 ho
    exact (hp i o hi2).1
set_option maxRecDepth 100000 in
/-- A slice of operations. -/
theorem open_ops17 {r : Reach} {b0 : Nat} {v : Value} {d : DataW H} {p : List MemPlace} (hv : Value.okWide Try.prog W r b0 49 v) (h : DataW.Trod enc Try.prog W 0 (fun _ => true) true 49 v d p)
    (hw : ∀ x ∈ d.weights Try.prog 49, x ≤ reachBytes) :
    ∃ A c, ∃ l : List SOp, v = .slice A l.length c ∧ Kd.C kOp W A l.length l ∧ l.length ≤ c ∧ l.length ≤ 140737488351232 := by
  obtain ⟨A, len, cap, rfl⟩ := okWide_slice Try.underlying49 hv
  obtain ⟨fuel, hf⟩ := h
  obtain ⟨A', c', l, hcs, hC, hc, hl, hg⟩ := open_listg kOp SOp.out (OkOp W) Try.underlying49 (by kernel_rfl) (of_decide_eq_true (by kernel_rfl)) (fun x hx => ⟨rfl, hx⟩) (fun x => rfl) hf hw
    (fun n cs' d' p' hl ht hw' => op_cells hl ht hw')
  simp [Value.cells] at hcs
  obtain ⟨rfl, rfl, rfl⟩ := hcs
  exact ⟨_, _, l, rfl, hC, hc, hl⟩
end
end Go.Proofs.Yteaklmafjmnmiaa
end
