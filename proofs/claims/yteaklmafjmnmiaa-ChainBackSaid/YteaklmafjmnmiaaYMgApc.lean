/- Layer 17: a law's arguments, laid open: a Record. 
Layer 17: a slice of operations: its kind, and laid open. -/
import Derived.Test.YteaklmafjmnmiaaYMgBk8
import Derived.Laws.IdiomArrays
section
namespace Go.Proofs.Yteaklmafjmnmiaa
open Go.RowKit Go.Proofs.YteaklmafjmnmiaaW.PrintWords Go.Proofs.YteaklmafjmnmiaaW.PrintLast Go.Proofs.YteaklmafjmnmiaaW.PrintMore
open Go.ChangeShapes Go.WideShapes Go.ChangeAt Go.Deep Go.Joins
open Rf
set_option linter.unusedVariables false
set_option linter.unusedSimpArgs false
section
variable {H : Type} {enc : TypeId × Value → H} {W : World}
end
end Go.Proofs.Yteaklmafjmnmiaa
end
section
namespace Go.Proofs.Yteaklmafjmnmiaa
open Go.RowKit Go.Proofs.YteaklmafjmnmiaaW.PrintWords Go.Proofs.YteaklmafjmnmiaaW.PrintLast Go.Proofs.YteaklmafjmnmiaaW.PrintMore
open Go.ChangeShapes Go.WideShapes Go.ChangeAt Go.Deep Go.Joins
open Rf
set_option linter.unusedVariables false
set_option linter.unusedSimpArgs false
/-- An operation: its kind, its transaction, its number; its record's fields. -/
structure SOp where
  kd : Int
  tn : Int
  nn : Int
  k : Int
  ls : Int
  tx : Int
  pv : Int
  un : Int
  pg : Int
  ak : Int
  a : ByteArray
  b : ByteArray
  c : ByteArray
  At : Option Addr
  Ad : Option Addr
  l : List SGTxn
  m : List SGDirty
  ct : Nat
  cd : Nat
def SOp.out (x : SOp) : List Value := [.int .i64 x.kd, .int .i64 x.tn, .int .i64 x.nn, .int .i64 x.k, .int .u64 x.ls, .int .i64 x.tx, .int .u64 x.pv, .int .u64 x.un, .int .i64 x.pg, .int .i64 x.ak, .string x.a, .string x.b, .string x.c, .slice x.At x.l.length x.ct, .slice x.Ad x.m.length x.cd]
/-- What is known of one. -/
structure OkOp (w : World) (x : SOp) : Prop where
  pv : 0 ≤ x.pv
  un : 0 ≤ x.un
  sa : x.a.size ≤ 140737488351232
  sb : x.b.size ≤ 140737488351232
  sc : x.c.size ≤ 140737488351232
  hT : Kd.C kGTxn w x.At x.l.length x.l
  hTc : x.l.length ≤ x.ct
  hD : Kd.C kGDirty w x.Ad x.m.length x.m
  hDc : x.m.length ≤ x.cd
theorem OkOp.below {w w' : World} {x : SOp} (h : OkOp w x) (hb : Below w.heap.size w w') : OkOp w' x :=
  ⟨h.pv, h.un, h.sa, h.sb, h.sc, Kd.C_below h.hT hb, h.hTc, Kd.C_below h.hD hb, h.hDc⟩
def kOp : Kd SOp where
  sz := 15
  E := []
  K := fun w x cs => cs = x.out ∧ OkOp w x
  M := fun _ _ _ _ _ => False
  K_len := by rintro w x cs ⟨rfl, _⟩; rfl
  K_one := by
    rintro w x cs ⟨rfl, _⟩ u hu
    simp only [SOp.out, List.mem_cons, List.not_mem_nil, or_false] at hu
    rcases hu with rfl | rfl | rfl | rfl | rfl | rfl | rfl | rfl | rfl | rfl | rfl | rfl | rfl | rfl | rfl <;> rfl
  K_below := fun hb h => ⟨h.1, h.2.below hb⟩
  K_of_M := fun h => h.elim
  M_mono := fun _ h => h.elim
  M_bound := fun h => h.elim
  M_move := fun _ h => h.elim
  M_lower := fun _ h => h.elim
def zOp : SOp := ⟨0, 0, 0, 0, 0, 0, 0, 0, 0, 0, ⟨#[]⟩, ⟨#[]⟩, ⟨#[]⟩, none, none, [], [], 0, 0⟩
theorem mem_weightsAll {H : Type} {P : Program} {e : TypeId} : ∀ {ds : List (DataW H)} {d : DataW H}, d ∈ ds → ∀ n ∈ d.weights P e, n ∈ DataW.weightsAll P e ds
  | [], _, h, _, _ => by simp at h
  | a :: r, d, h, n, hn => by
    simp only [DataW.weightsAll, List.mem_append]
    rcases List.mem_cons.1 h with rfl | h
    · exact .inl hn
    · exact .inr (mem_weightsAll h n hn)
section
variable {H : Type} {enc : TypeId × Value → H} {W : World}
/-- K: the elements' kind; out: an element's cells; one: an element's cells are some element's. Good: what is known of each. -/
theorem open_listg {α : Type} (K : Kd α) (out : α → List Value) (Good : α → Prop) {t e : TypeId} (U : Try.prog.underlying t = some (.slice e)) (hC : Try.prog.cellsOf e = K.sz) (hB : 1 ≤ Try.prog.bytesOf e) (hK : ∀ x, Good x → K.K W x (out x)) (hout : ∀ x, (out x).length = K.sz)
    {fuel : Nat} {cs : List Value} {d : DataW H} {p : List MemPlace} (hf : DataW.trod enc Try.prog W 0 (fun _ => true) true fuel t cs = some (d, p))
    (hw : ∀ x ∈ d.weights Try.prog t, x ≤ reachBytes)
    (one : ∀ n cs' d' p', cs'.length = K.sz → DataW.trod enc Try.prog W 0 (fun _ => true) true n e cs' = some (d', p') → (∀ x ∈ d'.weights Try.prog e, x ≤ reachBytes) → ∃ x, cs' = out x ∧ Good x) :
    ∃ A c, ∃ l : List α, cs = [.slice A l.length c] ∧ Kd.C K W A l.length l ∧ l.length ≤ c ∧ l.length ≤ 140737488351232 ∧ ∀ x ∈ l, Good x := by
  rcases open_slice U hf with ⟨hcs, _⟩ | ⟨a, len, cap, m, n, D, Pl, hcs, hb, hl, hm, hmm, hx, hi⟩
  · exact ⟨none, 0, [], hcs, ⟨rfl, by simp, fun h => by simp at h⟩, by simp, by simp, by simp⟩
  · obtain ⟨hd, _⟩ := Prod.mk.inj hx
    subst hd
    have hlen : len ≤ reachBytes := by
      have := hw ((((List.range len).map D).length + ((List.range (m - len)).map fun j => D (len + j)).length) * Try.prog.bytesOf e) (by rw [DataW.weights, U]; simp)
      rw [List.length_map, List.length_range] at this
      have h2 : (len + ((List.range (m - len)).map fun j => D (len + j)).length) * 1 ≤ (len + ((List.range (m - len)).map fun j => D (len + j)).length) * Try.prog.bytesOf e := Nat.mul_le_mul_left _ hB
      omega
    have hr : reachBytes = 140737488351232 := by kernel_rfl
    obtain ⟨l, hll, hp⟩ := list_of (fun i (o : α) => Good o ∧ ∀ j u, (out o)[j]? = some u → W.cell? (a.add (i * K.sz + j)) = some u) len (fun i hil => by
      obtain ⟨cs', hc, ht'⟩ := hi i (by rw [hmm]; split <;> omega)
      rw [hC] at hc
      obtain ⟨_, hcl, hat⟩ := World.cells?_some hc
      obtain ⟨o, rfl, hg⟩ := one n cs' _ _ hcl ht' (fun x hx => hw x (by
        rw [DataW.weights, U]
        simp only [List.mem_cons, List.mem_append]
        exact .inr (.inl (mem_weightsAll (List.mem_map.2 ⟨i, List.mem_range.2 hil, rfl⟩) x hx))))
      refine ⟨o, hg, fun j u hj => ?_⟩
      have hjl : j < K.sz := by have := (List.getElem?_eq_some_iff.1 hj).1; rw [hout] at this; exact this
      rw [← Go.Deep.add_add, hat j hjl, hj])
    have hml : cap ≤ 9223372036854775807 := by have : maxLen ≤ 9223372036854775807 := by decide
                                               omega
    refine ⟨some a, cap, l, by rw [hll]; exact hcs, ⟨rfl, by omega, fun _ => ⟨a, rfl, fun j o hj => ⟨out o, hout o, hK o (hp j o hj).1, (hp j o hj).2⟩⟩⟩, by omega, by omega, fun o ho => ?_⟩
    obtain ⟨i, hi2⟩ := List.mem_iff_getElem?.1 ho
    exact (hp i o hi2).1
end
end Go.Proofs.Yteaklmafjmnmiaa
end
