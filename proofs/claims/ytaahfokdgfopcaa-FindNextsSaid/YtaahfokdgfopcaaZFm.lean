/- PLAIN and state: what a walk over a log leaves: transactions with what they are, pages with their first record; two maps that hold it. -/
import Derived.Test.YtaahfokdgfopcaaZFa
import Derived.Test.YtaahfokdgfopcaaZMw
namespace Go.Proofs.Ytaahfokdgfopcaa
open Go.RowKit Go.Proofs.YtaahfokdgfopcaaW.PrintWords Go.Proofs.YtaahfokdgfopcaaW.PrintLast Go.Proofs.YtaahfokdgfopcaaW.PrintMore
open Rf MapL MapV
set_option linter.unusedVariables false
set_option linter.unusedSimpArgs false
/-- A transaction that goes on. -/
structure Goi where
  st : Int
  last : Int
  next : Int
structure Wst where
  ks : List Int
  F : Int → Goi
  ds : List Int
  D : Int → Int
def wst0 : Wst := ⟨[], fun _ => ⟨0, 0, 0⟩, [], fun _ => 0⟩
def goiV (id : Int) (g : Goi) : Value := .agg #[.int .i64 id, .int .i64 g.st, .int .u64 g.last, .int .u64 g.next]
def gV (F : Int → Goi) : Int → Value := fun id => goiV id (F id)
def dV (D : Int → Int) : Int → Value := fun p => .int .u64 (D p)
def wasG (s : Wst) (id : Int) : Goi := if id ∈ s.ks then s.F id else ⟨0, 0, 0⟩
def newG (g : Goi) (r : SGRecord) : Goi := ⟨if r.f0 = 4 then 2 else g.st, r.f1, if r.f0 = 1 then r.f1 else if r.f0 = 2 then r.f4 else g.next⟩
def putT (s : Wst) (id : Int) (g : Goi) : Wst := ⟨if id ∈ s.ks then s.ks else s.ks ++ [id], fun y => if y = id then g else s.F y, s.ds, s.D⟩
def putD (s : Wst) (p : Int) (l : Int) : Wst := if p ∈ s.ds then s else ⟨s.ks, s.F, s.ds ++ [p], fun y => if y = p then l else s.D y⟩
def delT (s : Wst) (id : Int) : Wst := ⟨s.ks.filter fun y => decide (y ≠ id), s.F, s.ds, s.D⟩
/-- One record. -/
def stepW (s : Wst) (r : SGRecord) : Wst :=
  if r.f0 = 7 ∨ r.f0 = 8 then s
  else if r.f0 = 3 ∨ r.f0 = 5 then delT s r.f2
  else if r.f0 = 1 ∨ r.f0 = 2 then putT (putD s r.f5 r.f1) r.f2 (newG (wasG s r.f2) r)
  else putT s r.f2 (newG (wasG s r.f2) r)
theorem keyI : KeyT Try.prog 3 (Value.int .i64) := keyT_int Try.underlying3
theorem zeroG (w : World) : (zeroValue 91).run Try.prog w = .ok (.agg #[.int .i64 0, .int .i64 0, .int .u64 0, .int .u64 0]) w := by kernel_rfl
theorem zeroL (w : World) : (zeroValue 26).run Try.prog w = .ok (.int .u64 0) w := by kernel_rfl
/-- What may be touched: what is new since a world, and some of its blocks. -/
structure Wb where
  w : World
  B : Nat → Prop
def Wb.T (b : Wb) (q : Nat) : Prop := b.w.heap.size ≤ q ∨ b.B q
/-- A world that keeps what may not be touched. -/
structure Bel (b : Wb) (w : World) : Prop where
  low : Below 0 b.w w
  block : ∀ q, q < b.w.heap.size → ¬ b.B q → w.heap[q]? = b.w.heap[q]?
section
variable {b : Wb} {w w' : World}
theorem Bel.size (h : Bel b w) : b.w.heap.size ≤ w.heap.size := h.low.size
theorem Bel.refl (b : Wb) : Bel b b.w := ⟨Below.refl _ _, fun _ _ _ => rfl⟩
theorem low_then {x y z : World} (h : Below 0 x y) (g : Below 0 y z) : Below 0 x z := h.trans g
theorem low_of {n : Nat} {x y : World} (g : Below n x y) : Below 0 x y := ⟨g.os, g.tape, g.output, g.size, fun k hk => absurd hk (Nat.not_lt_zero _)⟩
theorem Bel.then (h : Bel b w) (hb : Below w.heap.size w w') : Bel b w' :=
  ⟨low_then h.low (low_of hb), fun q hq hn => (hb.block q (Nat.lt_of_lt_of_le hq h.size)).trans (h.block q hq hn)⟩
theorem Bel.grown {g : Nat} (h : Bel b w) (hg : w.grownBy w' (some g)) (ht : b.T g) : Bel b w' := by
  refine ⟨low_then h.low ((Below.refl 0 w).grown hg (Nat.zero_le _) (fun _ _ => Nat.zero_le _)), fun q hq hn => ?_⟩
  have hlt : q < w.heap.size := Nat.lt_of_lt_of_le hq h.size
  have hx : w.heap[q]? = some w.heap[q] := Array.getElem?_eq_getElem hlt
  rw [← h.block q hq hn, hx]
  refine blk_grown hx hg ?_
  rintro e
  have e := Option.some.inj e
  subst e
  exact ht.elim (fun h => by omega) hn
theorem Bel.below (h : Bel b w) (hn : ∀ q, ¬ b.B q) : Below b.w.heap.size b.w w := ⟨h.low.os, h.low.tape, h.low.output, h.low.size, fun k hk => h.block k hk (hn k)⟩
theorem Bel.trans {c : Wb} (h : Bel b c.w) (g : Bel c w) (ht : ∀ q, c.T q → b.T q) : Bel b w := by
  refine ⟨low_then h.low g.low, fun q hq hn => ?_⟩
  have hnt : ¬ c.T q := fun hc => (ht q hc).elim (fun h => by omega) hn
  exact (g.block q (Nat.lt_of_not_le (fun h => hnt (.inl h))) (fun h => hnt (.inr h))).trans (h.block q hq hn)
end
/-- The two maps of a walk. -/
structure Walks (b : Wb) (w : World) (m1 m2 : Nat) (s : Wst) : Prop where
  tx : MapV.MapAt (Value.int .i64) (gV s.F) w m1 s.ks
  di : MapV.MapAt (Value.int .i64) (dV s.D) w m2 s.ds
  ne : m1 ≠ m2
  bel : Bel b w
  t1 : b.T m1
  t2 : b.T m2
section
variable {b : Wb} {w w' : World} {m1 m2 : Nat} {s s' : Wst}
theorem Walks.next (h : Walks b w m1 m2 s) (hb : Below w.heap.size w w') : Walks b w' m1 m2 s := ⟨h.tx.below hb h.tx.lt, h.di.below hb h.di.lt, h.ne, h.bel.then hb, h.t1, h.t2⟩
def ownW (m1 m2 : Nat) : Nat → Prop := fun q => q = m1 ∨ q = m2
theorem Walks.here (h : Walks b w m1 m2 s) : Walks ⟨w, ownW m1 m2⟩ w m1 m2 s := ⟨h.tx, h.di, h.ne, Bel.refl _, .inr (.inl rfl), .inr (.inr rfl)⟩
theorem Walks.back (h : Walks b w m1 m2 s) (g : Walks ⟨w, ownW m1 m2⟩ w' m1 m2 s') : Walks b w' m1 m2 s' :=
  ⟨g.tx, g.di, g.ne, h.bel.trans g.bel (fun q hq => by
    rcases hq with hq | rfl | rfl
    · exact .inl (Nat.le_trans h.bel.size hq)
    · exact h.t1
    · exact h.t2), h.t1, h.t2⟩
/-- A block that is not the maps' stays. -/
theorem Walks.keep (h : Walks ⟨w, ownW m1 m2⟩ w' m1 m2 s') {q : Nat} {o : Obj} (hq : w.heap[q]? = some o) (h1 : q ≠ m1) (h2 : q ≠ m2) : w'.heap[q]? = some o :=
  (h.bel.block q (blk_lt hq) (fun h => h.elim h1 h2)).trans hq
/-- A block that is not the maps' is written. -/
theorem Walks.grownFar {row : Nat} (h : Walks b w m1 m2 s) (hg : w.grownBy w' (some row)) (h1 : row ≠ m1) (h2 : row ≠ m2) (ht : b.T row) : Walks b w' m1 m2 s :=
  ⟨h.tx.grown hg (fun e => h1 (Option.some.inj e).symm), h.di.grown hg (fun e => h2 (Option.some.inj e).symm), h.ne, h.bel.grown hg ht, h.t1, h.t2⟩
theorem Walks.putT_ (h : Walks b w m1 m2 s) (id : Int) (g : Goi) : ∃ w', (Instr.mapUpdate 76 (.map (some m1)) (.int .i64 id) (.agg #[.int .i64 id, .int .i64 g.st, .int .u64 g.last, .int .u64 g.next])).run Try.prog w = .ok () w' ∧ Walks b w' m1 m2 (putT s id g) ∧ w.grownBy w' (some m1) := by
  obtain ⟨w', h1, h2, h3, h4⟩ := h.tx.any keyI Try.underlying76 id (goiV id g)
  refine ⟨w', h1, ⟨h2.congr (fun y => ?_), h.di.grown h3 (fun e => h.ne (Option.some.inj e).symm), h.ne, h.bel.grown h3 h.t1, h.t1, h.t2⟩, h3⟩
  unfold MapV.upd gV putT
  by_cases e : y = id
  · simp only [if_pos e]; rw [e]
  · simp only [if_neg e]
theorem Walks.putD_ (h : Walks b w m1 m2 s) (p l : Int) (hp : p ∉ s.ds) : ∃ w', (Instr.mapUpdate 77 (.map (some m2)) (.int .i64 p) (.int .u64 l)).run Try.prog w = .ok () w' ∧ Walks b w' m1 m2 (putD s p l) ∧ w.grownBy w' (some m2) := by
  obtain ⟨w', h1, h2, h3, h4⟩ := h.di.put keyI Try.underlying77 p hp (.int .u64 l)
  unfold putD
  rw [if_neg hp]
  refine ⟨w', h1, ⟨h.tx.grown h3 (fun e => h.ne (Option.some.inj e)), h2.congr (fun y => ?_), h.ne, h.bel.grown h3 h.t2, h.t1, h.t2⟩, h3⟩
  unfold MapV.upd dV
  by_cases e : y = p
  · simp only [if_pos e]
  · simp only [if_neg e]
theorem Walks.delT_ (h : Walks b w m1 m2 s) (id : Int) : ∃ w', (∀ ty, (Builtin.delete_ #[76, 3] ty #[.map (some m1), .int .i64 id]).run Try.prog w = .ok (.tuple #[]) w') ∧ Walks b w' m1 m2 (delT s id) ∧ w.grownBy w' (some m1) := by
  obtain ⟨w', h1, h2, h3, h4⟩ := h.tx.del keyI Try.underlying76 id 0
  exact ⟨w', fun _ => h1, ⟨h2, h.di.grown h3 (fun e => h.ne (Option.some.inj e).symm), h.ne, h.bel.grown h3 h.t1, h.t1, h.t2⟩, h3⟩
theorem Walks.ok2 (h : Walks b w m1 m2 s) (p : Int) : (Instr.lookup 77 (.map (some m2)) (.int .i64 p) true).run Try.prog w = .ok (if p ∈ s.ds then .tuple #[.int .u64 (s.D p), .bool true] else .tuple #[.int .u64 0, .bool false]) w :=
  h.di.lookOk keyI Try.underlying77 (zeroL _) p
theorem Walks.look1 (h : Walks b w m1 m2 s) (id : Int) : (Instr.lookup 76 (.map (some m1)) (.int .i64 id) false).run Try.prog w = .ok (if id ∈ s.ks then gV s.F id else .agg #[.int .i64 0, .int .i64 0, .int .u64 0, .int .u64 0]) w :=
  h.tx.look keyI Try.underlying76 (zeroG _) id
end
end Go.Proofs.Ytaahfokdgfopcaa
