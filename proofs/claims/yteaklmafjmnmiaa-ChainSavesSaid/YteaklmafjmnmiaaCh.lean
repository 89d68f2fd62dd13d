/- chain's table: New, find, Open, Row, Next, Kept, Gone. -/
import Derived.Test.YteaklmafjmnmiaaMv
import Derived.Test.YteaklmafjmnmiaaSz
namespace Go.Proofs.Yteaklmafjmnmiaa
open Go.RowKit Go.Proofs.YteaklmafjmnmiaaW.PrintWords Go.Proofs.YteaklmafjmnmiaaW.PrintLast Go.Proofs.YteaklmafjmnmiaaW.PrintMore
open Rf MapL MapV
set_option linter.unusedVariables false
set_option linter.unusedSimpArgs false
theorem keyI : KeyT Try.prog 3 (Value.int .i64) := keyT_int Try.underlying3
theorem zeroP (w : World) : (zeroValue 72).run Try.prog w = .ok (.pointer none) w := by kernel_rfl
/-- A transaction: its state, its last record, what is taken back next, what it needs, its savepoints as they stand. -/
structure TX where
  st : Int
  last : Int
  next : Int
  need : Int
  sv : Value
def txV (id : Int) (x : TX) : Array Value := #[.int .i64 id, .int .i64 x.st, .int .u64 x.last, .int .u64 x.next, .int .i64 x.need, x.sv]
def ptrs (bx : Int → Nat) : Int → Value := fun id => .pointer (some ⟨bx id, 0, none⟩)
/-- What may be touched: what is new since a world, and some of its blocks. -/
structure Wb where
  w : World
  B : Nat → Prop
def Wb.T (b : Wb) (q : Nat) : Prop := b.w.heap.size ≤ q ∨ b.B q
/-- A world that keeps what may not be touched. -/
structure Bel (b : Wb) (w : World) : Prop where
  low : Below 0 b.w w
  block : ∀ q, q < b.w.heap.size → ¬ b.B q → w.heap[q]? = b.w.heap[q]?
section
variable {b : Wb} {w w' : World}
theorem Bel.size (h : Bel b w) : b.w.heap.size ≤ w.heap.size := h.low.size
theorem Bel.refl (b : Wb) : Bel b b.w := ⟨Below.refl _ _, fun _ _ _ => rfl⟩
theorem low_then {x y z : World} (h : Below 0 x y) (g : Below 0 y z) : Below 0 x z := h.trans g
theorem low_of {n : Nat} {x y : World} (g : Below n x y) : Below 0 x y := ⟨g.os, g.tape, g.output, g.size, fun k hk => absurd hk (Nat.not_lt_zero _)⟩
theorem Bel.then (h : Bel b w) (hb : Below w.heap.size w w') : Bel b w' :=
  ⟨low_then h.low (low_of hb), fun q hq hn => (hb.block q (Nat.lt_of_lt_of_le hq h.size)).trans (h.block q hq hn)⟩
theorem Bel.set {g j : Nat} {v : Value} (h : Bel b w) (hg : b.T g) : Bel b (w.setCell ⟨g, j, none⟩ v) := by
  refine ⟨low_then h.low ((Below.refl 0 w).setCell (p := ⟨g, j, none⟩) (Nat.zero_le _) v), fun q hq hn => ?_⟩
  refine (Below.heap_setCell _ ⟨g, j, none⟩ _ q ?_).trans (h.block q hq hn)
  rintro rfl
  exact hg.elim (fun h => by omega) hn
theorem Bel.grown {g : Nat} (h : Bel b w) (hg : w.grownBy w' (some g)) (ht : b.T g) : Bel b w' := by
  refine ⟨low_then h.low ((Below.refl 0 w).grown hg (Nat.zero_le _) (fun _ _ => Nat.zero_le _)), fun q hq hn => ?_⟩
  have hlt : q < w.heap.size := Nat.lt_of_lt_of_le hq h.size
  have hx : w.heap[q]? = some w.heap[q] := Array.getElem?_eq_getElem hlt
  rw [← h.block q hq hn, hx]
  refine blk_grown hx hg ?_
  rintro e
  have e := Option.some.inj e
  subst e
  exact ht.elim (fun h => by omega) hn
theorem Bel.below (h : Bel b w) (hn : ∀ q, ¬ b.B q) : Below b.w.heap.size b.w w := ⟨h.low.os, h.low.tape, h.low.output, h.low.size, fun k hk => h.block k hk (hn k)⟩
/-- A world that keeps what may not be touched, from a world that did. -/
theorem Bel.trans {c : Wb} (h : Bel b c.w) (g : Bel c w) (ht : ∀ q, c.T q → b.T q) : Bel b w := by
  refine ⟨low_then h.low g.low, fun q hq hn => ?_⟩
  have hnt : ¬ c.T q := fun hc => (ht q hc).elim (fun h => by omega) hn
  exact (g.block q (Nat.lt_of_not_le (fun h => hnt (.inl h))) (fun h => hnt (.inr h))).trans (h.block q hq hn)
end
/-- A table: its box, its map, its transactions' boxes. -/
structure Tab (w0 : Wb) (w : World) (t mb : Nat) (bx : Int → Nat) (ks : List Int) (X : Int → TX) : Prop where
  box : w.heap[t]? = some (.cells #[.map (some mb)] 71 (0, 0))
  map : MapV.MapAt (Value.int .i64) (ptrs bx) w mb ks
  at_ : ∀ id ∈ ks, w.heap[bx id]? = some (.cells (txV id (X id)) 74 (0, 0))
  inj : ∀ id ∈ ks, ∀ id' ∈ ks, bx id = bx id' → id = id'
  bel : Bel w0 w
  get : w0.T t
  gem : w0.T mb
  geb : ∀ id ∈ ks, w0.T (bx id)
section
variable {w0 : Wb} {w w' : World} {t mb : Nat} {bx : Int → Nat} {ks : List Int} {X : Int → TX}
theorem Tab.next (h : Tab w0 w t mb bx ks X) (hb : Below w.heap.size w w') : Tab w0 w' t mb bx ks X :=
  ⟨blk_below h.box hb, h.map.below hb h.map.lt, fun id hi => blk_below (h.at_ id hi) hb, h.inj, h.bel.then hb, h.get, h.gem, h.geb⟩
/-- The table's own blocks. -/
def own (t mb : Nat) (bx : Int → Nat) (ks : List Int) : Nat → Prop := fun q => q = t ∨ q = mb ∨ ∃ id ∈ ks, q = bx id
/-- From here on: what may be touched is the table's own blocks and what is new. -/
theorem Tab.here (h : Tab w0 w t mb bx ks X) : Tab ⟨w, own t mb bx ks⟩ w t mb bx ks X :=
  ⟨h.box, h.map, h.at_, h.inj, Bel.refl _, .inr (.inl rfl), .inr (.inr (.inl rfl)), fun id hi => .inr (.inr (.inr ⟨id, hi, rfl⟩))⟩
theorem Tab.own_T (h : Tab w0 w t mb bx ks X) (q : Nat) (hq : Wb.T ⟨w, own t mb bx ks⟩ q) : w0.T q := by
  rcases hq with hq | rfl | rfl | ⟨id, hi, rfl⟩
  · exact .inl (Nat.le_trans h.bel.size hq)
  · exact h.get
  · exact h.gem
  · exact h.geb id hi
theorem Tab.back {bx' : Int → Nat} {ks' : List Int} {X' : Int → TX} (h : Tab w0 w t mb bx ks X) (g : Tab ⟨w, own t mb bx ks⟩ w' t mb bx' ks' X') : Tab w0 w' t mb bx' ks' X' :=
  ⟨g.box, g.map, g.at_, g.inj, h.bel.trans g.bel h.own_T, h.get, h.gem, fun id hi => h.own_T _ (g.geb id hi)⟩
theorem Tab.ne (h : Tab w0 w t mb bx ks X) : t ≠ mb := by
  intro e
  obtain ⟨es, clock, hb⟩ := h.map.block
  rw [← e, h.box] at hb
  cases hb
theorem Tab.neb (h : Tab w0 w t mb bx ks X) (id : Int) (hi : id ∈ ks) : bx id ≠ mb ∧ bx id ≠ t := by
  refine ⟨fun e => ?_, fun e => ?_⟩
  · obtain ⟨es, clock, hb⟩ := h.map.block
    rw [← e, h.at_ id hi] at hb
    cases hb
  · have := h.at_ id hi
    rw [e, h.box] at this
    injection this with this
    injection this with _ h2
    exact absurd h2 (by decide)
theorem Tab.lt (h : Tab w0 w t mb bx ks X) (id : Int) (hi : id ∈ ks) : bx id < w.heap.size := blk_lt (h.at_ id hi)
/-- 't.all[id]'. -/
theorem Tab.look (h : Tab w0 w t mb bx ks X) (id : Int) : (Instr.lookup 69 (.map (some mb)) (.int .i64 id) false).run Try.prog w = .ok (if id ∈ ks then ptrs bx id else .pointer none) w :=
  h.map.look keyI Try.underlying69 (zeroP _) id
end
theorem tabnew (w : World) (X : Int → TX) (bx : Int → Nat) : Calls Try.prog 8 #[] w fun e w' => ∃ t mb, e = .returned (.pointer (some ⟨t, 0, none⟩)) ∧ Tab ⟨w, fun _ => False⟩ w' t mb bx [] X := by
  have hmk : ∀ W : World, (Instr.makeMap 69 none).run Try.prog W = .ok (.map (some W.heap.size)) (W.alloc (.map #[] 0)) := fun W => rfl
  go_enter Try.func8, Try.ntmps8
  go_wp2_with fail
  go_ret
  have e1 : ((w.alloc (.map #[] 0)).alloc (.cells #[.map (some w.heap.size)] 71)).heap[w.heap.size + 1]? = some (.cells #[.map (some w.heap.size)] 71 (0, 0)) := by
    have := heap_alloc_new (w.alloc (.map #[] 0)) (.cells #[.map (some w.heap.size)] 71)
    simpa using this
  exact ⟨w.heap.size + 1, w.heap.size, rfl, e1, (MapV.mapAt_made w).alloc _, fun id h => absurd h (by simp), fun id h => absurd h (by simp), (Bel.refl ⟨w, fun _ => False⟩).then (below_alloc (below_alloc (Below.refl _ _) _) _), .inl (Nat.le_succ _), .inl (Nat.le_refl _), fun id h => absurd h (by simp)⟩
theorem tabfind (w0 : Wb) (w : World) (t mb : Nat) (bx : Int → Nat) (ks : List Int) (X : Int → TX) (id : Int) (h : Tab w0 w t mb bx ks X) :
    Calls Try.prog 27 #[.pointer (some ⟨t, 0, none⟩), .int .i64 id] w fun e w' => e = .returned (if id ∈ ks then ptrs bx id else .pointer none) ∧ w = w' := by
  have hc := blk_cell h.box 0
  have hl := h.look id
  obtain ⟨v, hv⟩ : ∃ v, v = (if id ∈ ks then ptrs bx id else .pointer none) := ⟨_, rfl⟩
  rw [← hv] at hl ⊢
  have HV := Aside0.mk hv
  clear hv
  go_enter Try.func27, Try.ntmps27
  go_wp2_with fail
  go_ret
  exact ⟨rfl, rfl⟩
theorem tabfind_nil (w : World) (id : Int) : Calls Try.prog 27 #[.pointer none, .int .i64 id] w fun e w' => e = .returned (.pointer none) ∧ w = w' := by
  go_enter Try.func27, Try.ntmps27
  go_wp2_with fail
  go_ret
  exact ⟨rfl, rfl⟩
set_option maxRecDepth 100000 in
theorem tabnext (w0 : Wb) (w : World) (t mb : Nat) (bx : Int → Nat) (ks : List Int) (X : Int → TX) (id : Int) (h : Tab w0 w t mb bx ks X) :
    Calls Try.prog 13 #[.pointer (some ⟨t, 0, none⟩), .int .i64 id] w fun e w' => e = .returned (.int .u64 (if id ∈ ks then (X id).next else 0)) ∧ w = w' := by
  have hf := tabfind w0 w t mb bx ks X id h
  by_cases hi : id ∈ ks
  · rw [if_pos hi] at hf ⊢
    have x3 : w.cell? ⟨bx id, 3, none⟩ = some (.int .u64 (X id).next) := blk_cell (h.at_ id hi) 3
    clear h
    unfold ptrs at hf
    go_enter Try.func13, Try.ntmps13
    go_wp2_with fail
    refine hf.mono ?_
    rintro e w1 ⟨rfl, rfl⟩
    go_wp2_with fail
    go_ret
    exact ⟨rfl, rfl⟩
  · rw [if_neg hi] at hf ⊢
    go_enter Try.func13, Try.ntmps13
    go_wp2_with fail
    refine hf.mono ?_
    rintro e w1 ⟨rfl, rfl⟩
    go_wp2_with fail
    go_ret
    exact ⟨rfl, rfl⟩
set_option maxRecDepth 100000 in
theorem tabkept (w0 : Wb) (w : World) (t mb : Nat) (bx : Int → Nat) (ks : List Int) (X : Int → TX) (id : Int) (h : Tab w0 w t mb bx ks X) :
    Calls Try.prog 16 #[.pointer (some ⟨t, 0, none⟩), .int .i64 id] w fun e w' => e = .returned (.int .i64 (if id ∈ ks then (X id).need else 0)) ∧ w = w' := by
  have hf := tabfind w0 w t mb bx ks X id h
  by_cases hi : id ∈ ks
  · rw [if_pos hi] at hf ⊢
    have x3 : w.cell? ⟨bx id, 4, none⟩ = some (.int .i64 (X id).need) := blk_cell (h.at_ id hi) 4
    clear h
    unfold ptrs at hf
    go_enter Try.func16, Try.ntmps16
    go_wp2_with fail
    refine hf.mono ?_
    rintro e w1 ⟨rfl, rfl⟩
    go_wp2_with fail
    go_ret
    exact ⟨rfl, rfl⟩
  · rw [if_neg hi] at hf ⊢
    go_enter Try.func16, Try.ntmps16
    go_wp2_with fail
    refine hf.mono ?_
    rintro e w1 ⟨rfl, rfl⟩
    go_wp2_with fail
    go_ret
    exact ⟨rfl, rfl⟩
end Go.Proofs.Yteaklmafjmnmiaa
