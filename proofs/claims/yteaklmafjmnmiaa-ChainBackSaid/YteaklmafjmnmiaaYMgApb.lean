/- chain's table: New, find, Open, Row, Next, Kept, Gone. 
chain's table: Row, Gone, Open. 
chain's back and Need. -/
import Derived.Test.YteaklmafjmnmiaaYMgApa
import Derived.Test.YteaklmafjmnmiaaYMgBk3
import Derived.Test.YteaklmafjmnmiaaYMgBk7
section
namespace Go.Proofs.Yteaklmafjmnmiaa
open Go.RowKit Go.Proofs.YteaklmafjmnmiaaW.PrintWords Go.Proofs.YteaklmafjmnmiaaW.PrintLast Go.Proofs.YteaklmafjmnmiaaW.PrintMore
open Rf MapL MapV
set_option linter.unusedVariables false
set_option linter.unusedSimpArgs false
theorem keyI : KeyT Try.prog 3 (Value.int .i64) := keyT_int Try.underlying3
theorem zeroP (w : World) : (zeroValue 72).run Try.prog w = .ok (.pointer none) w := by kernel_rfl
/-- A transaction: its state, its last record, what is taken back next, what it needs, its savepoints as they stand. -/
structure TX where
  st : Int
  last : Int
  next : Int
  need : Int
  sv : Value
def txV (id : Int) (x : TX) : Array Value := #[.int .i64 id, .int .i64 x.st, .int .u64 x.last, .int .u64 x.next, .int .i64 x.need, x.sv]
def ptrs (bx : Int → Nat) : Int → Value := fun id => .pointer (some ⟨bx id, 0, none⟩)
/-- What may be touched: what is new since a world, and some of its blocks. -/
structure Wb where
  w : World
  B : Nat → Prop
def Wb.T (b : Wb) (q : Nat) : Prop := b.w.heap.size ≤ q ∨ b.B q
/-- A world that keeps what may not be touched. -/
structure Bel (b : Wb) (w : World) : Prop where
  low : Below 0 b.w w
  block : ∀ q, q < b.w.heap.size → ¬ b.B q → w.heap[q]? = b.w.heap[q]?
section
variable {b : Wb} {w w' : World}
theorem Bel.size (h : Bel b w) : b.w.heap.size ≤ w.heap.size := h.low.size
theorem Bel.refl (b : Wb) : Bel b b.w := ⟨Below.refl _ _, fun _ _ _ => rfl⟩
theorem low_then {x y z : World} (h : Below 0 x y) (g : Below 0 y z) : Below 0 x z := h.trans g
theorem low_of {n : Nat} {x y : World} (g : Below n x y) : Below 0 x y := ⟨g.os, g.tape, g.output, g.size, fun k hk => absurd hk (Nat.not_lt_zero _)⟩
theorem Bel.then (h : Bel b w) (hb : Below w.heap.size w w') : Bel b w' :=
  ⟨low_then h.low (low_of hb), fun q hq hn => (hb.block q (Nat.lt_of_lt_of_le hq h.size)).trans (h.block q hq hn)⟩
theorem Bel.set {g j : Nat} {v : Value} (h : Bel b w) (hg : b.T g) : Bel b (w.setCell ⟨g, j, none⟩ v) := by
  refine ⟨low_then h.low ((Below.refl 0 w).setCell (p := ⟨g, j, none⟩) (Nat.zero_le _) v), fun q hq hn => ?_⟩
  refine (Below.heap_setCell _ ⟨g, j, none⟩ _ q ?_).trans (h.block q hq hn)
  rintro rfl
  exact hg.elim (fun h => by omega) hn
theorem Bel.grown {g : Nat} (h : Bel b w) (hg : w.grownBy w' (some g)) (ht : b.T g) : Bel b w' := by
  refine ⟨low_then h.low ((Below.refl 0 w).grown hg (Nat.zero_le _) (fun _ _ => Nat.zero_le _)), fun q hq hn => ?_⟩
  have hlt : q < w.heap.size := Nat.lt_of_lt_of_le hq h.size
  have hx : w.heap[q]? = some w.heap[q] := Array.getElem?_eq_getElem hlt
  rw [← h.block q hq hn, hx]
  refine blk_grown hx hg ?_
  rintro e
  have e := Option.some.inj e
  subst e
  exact ht.elim (fun h => by omega) hn
theorem Bel.below (h : Bel b w) (hn : ∀ q, ¬ b.B q) : Below b.w.heap.size b.w w := ⟨h.low.os, h.low.tape, h.low.output, h.low.size, fun k hk => h.block k hk (hn k)⟩
/-- A world that keeps what may not be touched, from a world that did. -/
theorem Bel.trans {c : Wb} (h : Bel b c.w) (g : Bel c w) (ht : ∀ q, c.T q → b.T q) : Bel b w := by
  refine ⟨low_then h.low g.low, fun q hq hn => ?_⟩
  have hnt : ¬ c.T q := fun hc => (ht q hc).elim (fun h => by omega) hn
  exact (g.block q (Nat.lt_of_not_le (fun h => hnt (.inl h))) (fun h => hnt (.inr h))).trans (h.block q hq hn)
end
/-- A table: its box, its map, its transactions' boxes. -/
structure Tab (w0 : Wb) (w : World) (t mb : Nat) (bx : Int → Nat) (ks : List Int) (X : Int → TX) : Prop where
  box : w.heap[t]? = some (.cells #[.map (some mb)] 71 (0, 0))
  map : MapV.MapAt (Value.int .i64) (ptrs bx) w mb ks
  at_ : ∀ id ∈ ks, w.heap[bx id]? = some (.cells (txV id (X id)) 74 (0, 0))
  inj : ∀ id ∈ ks, ∀ id' ∈ ks, bx id = bx id' → id = id'
  bel : Bel w0 w
  get : w0.T t
  gem : w0.T mb
  geb : ∀ id ∈ ks, w0.T (bx id)
section
variable {w0 : Wb} {w w' : World} {t mb : Nat} {bx : Int → Nat} {ks : List Int} {X : Int → TX}
theorem Tab.next (h : Tab w0 w t mb bx ks X) (hb : Below w.heap.size w w') : Tab w0 w' t mb bx ks X :=
  ⟨blk_below h.box hb, h.map.below hb h.map.lt, fun id hi => blk_below (h.at_ id hi) hb, h.inj, h.bel.then hb, h.get, h.gem, h.geb⟩
/-- The table's own blocks. -/
def own (t mb : Nat) (bx : Int → Nat) (ks : List Int) : Nat → Prop := fun q => q = t ∨ q = mb ∨ ∃ id ∈ ks, q = bx id
/-- From here on: what may be touched is the table's own blocks and what is new. -/
theorem Tab.here (h : Tab w0 w t mb bx ks X) : Tab ⟨w, own t mb bx ks⟩ w t mb bx ks X :=
  ⟨h.box, h.map, h.at_, h.inj, Bel.refl _, .inr (.inl rfl), .inr (.inr (.inl rfl)), fun id hi => .inr (.inr (.inr ⟨id, hi, rfl⟩))⟩
theorem Tab.own_T (h : Tab w0 w t mb bx ks X) (q : Nat) (hq : Wb.T ⟨w, own t mb bx ks⟩ q) : w0.T q := by
  rcases hq with hq | rfl | rfl | ⟨id, hi, rfl⟩
  · exact .inl (Nat.le_trans h.bel.size hq)
  · exact h.get
  · exact h.gem
  · exact h.geb id hi
theorem Tab.back {bx' : Int → Nat} {ks' : List Int} {X' : Int → TX} (h : Tab w0 w t mb bx ks X) (g : Tab ⟨w, own t mb bx ks⟩ w' t mb bx' ks' X') : Tab w0 w' t mb bx' ks' X' :=
  ⟨g.box, g.map, g.at_, g.inj, h.bel.trans g.bel h.own_T, h.get, h.gem, fun id hi => h.own_T _ (g.geb id hi)⟩
theorem Tab.ne (h : Tab w0 w t mb bx ks X) : t ≠ mb := by
  intro e
  obtain ⟨es, clock, hb⟩ := h.map.block
  rw [← e, h.box] at hb
  cases hb
theorem Tab.neb (h : Tab w0 w t mb bx ks X) (id : Int) (hi : id ∈ ks) : bx id ≠ mb ∧ bx id ≠ t := by
  refine ⟨fun e => ?_, fun e => ?_⟩
  · obtain ⟨es, clock, hb⟩ := h.map.block
    rw [← e, h.at_ id hi] at hb
    cases hb
  · have := h.at_ id hi
    rw [e, h.box] at this
    injection this with this
    injection this with _ h2
    exact absurd h2 (by decide)
theorem Tab.lt (h : Tab w0 w t mb bx ks X) (id : Int) (hi : id ∈ ks) : bx id < w.heap.size := blk_lt (h.at_ id hi)
/-- 't.all[id]'. -/
theorem Tab.look (h : Tab w0 w t mb bx ks X) (id : Int) : (Instr.lookup 69 (.map (some mb)) (.int .i64 id) false).run Try.prog w = .ok (if id ∈ ks then ptrs bx id else .pointer none) w :=
  h.map.look keyI Try.underlying69 (zeroP _) id
end
theorem tabnew (w : World) (X : Int → TX) (bx : Int → Nat) : Calls Try.prog 8 #[] w fun e w' => ∃ t mb, e = .returned (.pointer (some ⟨t, 0, none⟩)) ∧ Tab ⟨w, fun _ => False⟩ w' t mb bx [] X := by
  have hmk : ∀ W : World, (Instr.makeMap 69 none).run Try.prog W = .ok (.map (some W.heap.size)) (W.alloc (.map #[] 0)) := fun W => rfl
  go_enter Try.func8, Try.ntmps8
  go_wp2_with fail
  go_ret
  have e1 : ((w.alloc (.map #[] 0)).alloc (.cells #[.map (some w.heap.size)] 71)).heap[w.heap.size + 1]? = some (.cells #[.map (some w.heap.size)] 71 (0, 0)) := by
    have := heap_alloc_new (w.alloc (.map #[] 0)) (.cells #[.map (some w.heap.size)] 71)
    simpa using this
  exact ⟨w.heap.size + 1, w.heap.size, rfl, e1, (MapV.mapAt_made w).alloc _, fun id h => absurd h (by simp), fun id h => absurd h (by simp), (Bel.refl ⟨w, fun _ => False⟩).then (below_alloc (below_alloc (Below.refl _ _) _) _), .inl (Nat.le_succ _), .inl (Nat.le_refl _), fun id h => absurd h (by simp)⟩
theorem tabfind (w0 : Wb) (w : World) (t mb : Nat) (bx : Int → Nat) (ks : List Int) (X : Int → TX) (id : Int) (h : Tab w0 w t mb bx ks X) :
    Calls Try.prog 27 #[.pointer (some ⟨t, 0, none⟩), .int .i64 id] w fun e w' => e = .returned (if id ∈ ks then ptrs bx id else .pointer none) ∧ w = w' := by
  have hc := blk_cell h.box 0
  have hl := h.look id
  obtain ⟨v, hv⟩ : ∃ v, v = (if id ∈ ks then ptrs bx id else .pointer none) := ⟨_, rfl⟩
  rw [← hv] at hl ⊢
  have HV := Aside0.mk hv
  clear hv
  go_enter Try.func27, Try.ntmps27
  go_wp2_with fail
  go_ret
  exact ⟨rfl, rfl⟩
set_option maxRecDepth 100000 in
theorem tabnext (w0 : Wb) (w : World) (t mb : Nat) (bx : Int → Nat) (ks : List Int) (X : Int → TX) (id : Int) (h : Tab w0 w t mb bx ks X) :
    Calls Try.prog 13 #[.pointer (some ⟨t, 0, none⟩), .int .i64 id] w fun e w' => e = .returned (.int .u64 (if id ∈ ks then (X id).next else 0)) ∧ w = w' := by
  have hf := tabfind w0 w t mb bx ks X id h
  by_cases hi : id ∈ ks
  · rw [if_pos hi] at hf ⊢
    have x3 : w.cell? ⟨bx id, 3, none⟩ = some (.int .u64 (X id).next) := blk_cell (h.at_ id hi) 3
    clear h
    unfold ptrs at hf
    go_enter Try.func13, Try.ntmps13
    go_wp2_with fail
    refine hf.mono ?_
    rintro e w1 ⟨rfl, rfl⟩
    go_wp2_with fail
    go_ret
    exact ⟨rfl, rfl⟩
  · rw [if_neg hi] at hf ⊢
    go_enter Try.func13, Try.ntmps13
    go_wp2_with fail
    refine hf.mono ?_
    rintro e w1 ⟨rfl, rfl⟩
    go_wp2_with fail
    go_ret
    exact ⟨rfl, rfl⟩
set_option maxRecDepth 100000 in
theorem tabkept (w0 : Wb) (w : World) (t mb : Nat) (bx : Int → Nat) (ks : List Int) (X : Int → TX) (id : Int) (h : Tab w0 w t mb bx ks X) :
    Calls Try.prog 16 #[.pointer (some ⟨t, 0, none⟩), .int .i64 id] w fun e w' => e = .returned (.int .i64 (if id ∈ ks then (X id).need else 0)) ∧ w = w' := by
  have hf := tabfind w0 w t mb bx ks X id h
  by_cases hi : id ∈ ks
  · rw [if_pos hi] at hf ⊢
    have x3 : w.cell? ⟨bx id, 4, none⟩ = some (.int .i64 (X id).need) := blk_cell (h.at_ id hi) 4
    clear h
    unfold ptrs at hf
    go_enter Try.func16, Try.ntmps16
    go_wp2_with fail
    refine hf.mono ?_
    rintro e w1 ⟨rfl, rfl⟩
    go_wp2_with fail
    go_ret
    exact ⟨rfl, rfl⟩
  · rw [if_neg hi] at hf ⊢
    go_enter Try.func16, Try.ntmps16
    go_wp2_with fail
    refine hf.mono ?_
    rintro e w1 ⟨rfl, rfl⟩
    go_wp2_with fail
    go_ret
    exact ⟨rfl, rfl⟩
end Go.Proofs.Yteaklmafjmnmiaa
end
section
namespace Go.Proofs.Yteaklmafjmnmiaa
open Go.RowKit Go.Proofs.YteaklmafjmnmiaaW.PrintWords Go.Proofs.YteaklmafjmnmiaaW.PrintLast Go.Proofs.YteaklmafjmnmiaaW.PrintMore
open Rf MapL MapV
set_option linter.unusedVariables false
set_option linter.unusedSimpArgs false
/-- What Row tells. -/
def rowV (ks : List Int) (X : Int → TX) (id : Int) : Value := if id ∈ ks then .tuple #[.agg #[.int .i64 id, .int .i64 (X id).st, .int .u64 (X id).last], .bool true] else .tuple #[.agg #[.int .i64 0, .int .i64 0, .int .u64 0], .bool false]
section
variable {w0 : Wb} {w w' : World} {t mb : Nat} {bx : Int → Nat} {ks : List Int} {X : Int → TX}
theorem Tab.grown (h : Tab w0 w t mb bx ks X) (hg : w.grownBy w' (some mb)) : Bel w0 w' ∧ w'.heap[t]? = some (.cells #[.map (some mb)] 71 (0, 0)) ∧ ∀ id ∈ ks, w'.heap[bx id]? = some (.cells (txV id (X id)) 74 (0, 0)) :=
  ⟨h.bel.grown hg h.gem, blk_grown h.box hg (fun e => h.ne (Option.some.inj e)), fun id hi => blk_grown (h.at_ id hi) hg (fun e => (h.neb id hi).1 (Option.some.inj e))⟩
/-- The map alone has changed: a key less. -/
theorem Tab.del (h : Tab w0 w t mb bx ks X) (id : Int) :
    ∃ w', (∀ ty, (Builtin.delete_ #[69, 3] ty #[.map (some mb), .int .i64 id]).run Try.prog w = .ok (.tuple #[]) w') ∧ Tab w0 w' t mb bx (ks.filter fun y => decide (y ≠ id)) X ∧ w.grownBy w' (some mb) := by
  obtain ⟨w1, hp, hm, hg, hs⟩ := h.map.del keyI Try.underlying69 id 0
  obtain ⟨h1, h2, h3⟩ := h.grown hg
  have hin : ∀ y ∈ ks.filter (fun y => decide (y ≠ id)), y ∈ ks := fun y hy => (List.mem_filter.1 hy).1
  exact ⟨w1, fun _ => hp, ⟨h2, hm, fun y hy => h3 y (hin y hy), fun a ha b hb => h.inj a (hin a ha) b (hin b hb), h1, h.get, h.gem, fun y hy => h.geb y (hin y hy)⟩, hg⟩
/-- A key more, with its box. -/
theorem Tab.put (h : Tab w0 w t mb bx ks X) (id : Int) (hi : id ∉ ks) (g : Nat) (x : TX) (hg0 : w.heap[g]? = some (.cells (txV id x) 74 (0, 0))) (hnew : ∀ y ∈ ks, bx y ≠ g) (hge : w0.T g) :
    ∃ w', (Instr.mapUpdate 69 (.map (some mb)) (.int .i64 id) (.pointer (some ⟨g, 0, none⟩))).run Try.prog w = .ok () w' ∧ Tab w0 w' t mb (fun y => if y = id then g else bx y) (ks ++ [id]) (fun y => if y = id then x else X y) ∧ w.grownBy w' (some mb) := by
  obtain ⟨w1, hp, hm, hg, hs⟩ := h.map.put keyI Try.underlying69 id hi (.pointer (some ⟨g, 0, none⟩))
  obtain ⟨h1, h2, h3⟩ := h.grown hg
  have hgm : g ≠ mb := fun e => by
    obtain ⟨es, clock, hb⟩ := h.map.block
    rw [← e, hg0] at hb
    cases hb
  have hne : ∀ y ∈ ks, y ≠ id := fun y hy e => hi (by rw [← e]; exact hy)
  have hx : w1.heap[g]? = some (.cells (txV id x) 74 (0, 0)) := blk_grown hg0 hg (fun e => hgm (Option.some.inj e))
  refine ⟨w1, hp, ⟨h2, ?_, fun y hy => ?_, fun a ha b hb hab => ?_, h1, h.get, h.gem, fun y hy => ?_⟩, hg⟩
  · have e : ptrs (fun y => if y = id then g else bx y) = upd (ptrs bx) id (.pointer (some ⟨g, 0, none⟩)) := by
      funext y
      unfold ptrs upd
      by_cases h : y = id
      · simp only [if_pos h]
      · simp only [if_neg h]
    rw [e]; exact hm
  · rcases List.mem_append.1 hy with hy | hy
    · simp only [if_neg (hne y hy)]; exact h3 y hy
    · rw [List.mem_singleton.1 hy]; simp only [if_pos]; exact hx
  · rcases List.mem_append.1 ha with ha | ha
    · rcases List.mem_append.1 hb with hb | hb
      · simp only [if_neg (hne a ha), if_neg (hne b hb)] at hab; exact h.inj a ha b hb hab
      · rw [List.mem_singleton.1 hb] at hab; simp only [if_neg (hne a ha), if_pos] at hab; exact absurd hab (hnew a ha)
    · rcases List.mem_append.1 hb with hb | hb
      · rw [List.mem_singleton.1 ha] at hab; simp only [if_neg (hne b hb), if_pos] at hab; exact absurd hab.symm (hnew b hb)
      · rw [List.mem_singleton.1 ha, List.mem_singleton.1 hb]
  · rcases List.mem_append.1 hy with hy | hy
    · simp only [if_neg (hne y hy)]; exact h.geb y hy
    · rw [List.mem_singleton.1 hy]; simp only [if_pos]; exact hge
end
set_option maxRecDepth 100000 in
theorem tabgone (w0 : Wb) (w : World) (t mb : Nat) (bx : Int → Nat) (ks : List Int) (X : Int → TX) (id : Int) (h : Tab w0 w t mb bx ks X) :
    Calls Try.prog 17 #[.pointer (some ⟨t, 0, none⟩), .int .i64 id] w fun e w' => e = .returned (.bool (decide (id ∈ ks))) ∧ Tab w0 w' t mb bx (ks.filter fun y => decide (y ≠ id)) X := by
  have hf := tabfind w0 w t mb bx ks X id h
  have hc := blk_cell h.box 0
  by_cases hi : id ∈ ks
  · rw [if_pos hi] at hf
    unfold ptrs at hf
    obtain ⟨w1, hp, ht, _⟩ := h.del id
    have HT := Aside0.mk ht
    rw [decide_eq_true hi]
    clear ht h
    go_enter Try.func17, Try.ntmps17
    go_wp2_with fail
    refine hf.mono ?_
    rintro e w1 ⟨rfl, rfl⟩
    go_wp2_with fail
    go_ret
    exact ⟨rfl, HT.out⟩
  · rw [if_neg hi] at hf
    rw [decide_eq_false hi, List.filter_eq_self.2 (fun z hz => by simpa using (fun q => hi (by rw [← q]; exact hz) : z ≠ id))]
    have HT := Aside0.mk h
    clear h hi
    go_enter Try.func17, Try.ntmps17
    go_wp2_with fail
    refine hf.mono ?_
    rintro e w1 ⟨rfl, rfl⟩
    go_wp2_with fail
    go_ret
    exact ⟨rfl, HT.out⟩
/-- A transaction that has just begun. -/
def tx0 : TX := ⟨0, 0, 0, 0, .slice none 0 0⟩
/-- What Open does. -/
def Opened (w0 : Wb) (w' : World) (t mb : Nat) (bx : Int → Nat) (ks : List Int) (X : Int → TX) (id : Int) (e : Ending) : Prop :=
  (((id < 1 ∨ 1073741824 < id) ∧ e = .returned (.int .i64 1) ∧ Tab w0 w' t mb bx ks X) ∨ ((1 ≤ id ∧ id ≤ 1073741824) ∧ id ∈ ks ∧ e = .returned (.int .i64 9) ∧ Tab w0 w' t mb bx ks X)) ∨
    ((1 ≤ id ∧ id ≤ 1073741824) ∧ id ∉ ks ∧ e = .returned (.int .i64 0) ∧ ∃ bx', Tab w0 w' t mb bx' (ks ++ [id]) (fun y => if y = id then tx0 else X y))
set_option maxRecDepth 100000 in
set_option maxHeartbeats 1000000 in
theorem tabopen (w0 : Wb) (w : World) (t mb : Nat) (bx : Int → Nat) (ks : List Int) (X : Int → TX) (id : Int) (h : Tab w0 w t mb bx ks X) :
    Calls Try.prog 9 #[.pointer (some ⟨t, 0, none⟩), .int .i64 id] w fun e w' => Opened w0 w' t mb bx ks X id e := by
  have hc := blk_cell h.box 0
  have hl := h.look id
  have HT := Aside0.mk h
  by_cases h1 : 1 ≤ id
  · have d1 : decide (id < 1) = false := by simp; omega
    by_cases h2 : id ≤ 1073741824
    · have d2 : decide (1073741824 < id) = false := by simp; omega
      by_cases hi : id ∈ ks
      · rw [if_pos hi] at hl
        unfold ptrs at hl
        have HI := Aside0.mk hi
        have H12 := Aside0.mk (And.intro h1 h2)
        clear h hi h1 h2
        go_enter Try.func9, Try.ntmps9
        go_wp2_with fail
        go_ret
        exact .inl (.inr ⟨H12.out, HI.out, rfl, HT.out⟩)
      · rw [if_neg hi] at hl
        have HI := Aside0.mk hi
        have H12 := Aside0.mk (And.intro h1 h2)
        obtain ⟨w1, hp, ht, _⟩ := (h.next (below_alloc (Below.refl _ w) (.cells (txV id tx0) 74))).put id hi w.heap.size tx0 (heap_alloc_new w _) (fun y hy => by have := h.lt y hy; omega) (.inl h.bel.size)
        have HTN := Aside0.mk ht
        have hp' : (Instr.mapUpdate 69 (.map (some mb)) (.int .i64 id) (.pointer (some ⟨w.heap.size, 0, none⟩))).run Try.prog (w.alloc (.cells #[.int .i64 id, .int .i64 0, .int .u64 0, .int .u64 0, .int .i64 0, .slice none 0 0] 74)) = .ok () w1 := hp
        clear h hi h1 h2 hp ht
        go_enter Try.func9, Try.ntmps9
        go_wp2_with fail
        go_ret
        exact .inr ⟨H12.out, HI.out, rfl, _, HTN.out⟩
    · have d2 : decide (1073741824 < id) = true := by simp; omega
      have H2 := Aside0.mk h2
      clear h h1 h2 hl
      go_enter Try.func9, Try.ntmps9
      go_wp2_with fail
      go_ret
      exact .inl (.inl ⟨.inr (by have := H2.out; omega), rfl, HT.out⟩)
  · have d1 : decide (id < 1) = true := by simp; omega
    have H1 := Aside0.mk h1
    clear h h1 hl
    go_enter Try.func9, Try.ntmps9
    go_wp2_with fail
    go_ret
    exact .inl (.inl ⟨.inl (by have := H1.out; omega), rfl, HT.out⟩)
end Go.Proofs.Yteaklmafjmnmiaa
end
section
namespace Go.Proofs.Yteaklmafjmnmiaa
open Go.RowKit Go.Proofs.YteaklmafjmnmiaaW.PrintWords Go.Proofs.YteaklmafjmnmiaaW.PrintLast Go.Proofs.YteaklmafjmnmiaaW.PrintMore
open Rf MapL MapV
set_option linter.unusedVariables false
set_option linter.unusedSimpArgs false
theorem nilB_e (s : ByteArray) : nilB s = s.toList.isEmpty := by
  unfold nilB
  cases s.toList <;> rfl
theorem mayAB_act (ak : Int) (a b c : ByteArray) : mayAB ak a b c = actMay ak a b c := by
  unfold mayAB actMay fits
  rw [nilB_e, nilB_e]
  simp only [Bool.and_assoc]
theorem mayAB_turn {ak : Int} {a b c : ByteArray} (h : actMay ak a b c = true) : mayAB (turnK ak) a c b = true := by
  obtain ⟨h1, h2, h3, h4⟩ := may_fits h
  have h5 := may_kind h
  unfold actMay at h
  rw [Bool.and_eq_true] at h
  have h6 := h.2
  unfold mayAB turnK
  rw [decide_eq_true h1, decide_eq_true h2, decide_eq_true h3, decide_eq_true h4, nilB_e, nilB_e]
  rcases h5 with rfl | rfl | rfl
  · simpa using h6
  · simp
  · simpa using h6
theorem upd_facts {ls tx pv un pg ak : Int} {a b c : ByteArray} {l : List SGTxn} {m : List SGDirty} (h : recOk 1 ls tx pv un pg ak a b c l m = true) :
    (16 ≤ ls ∧ ls ≤ 1152921504606846991) ∧ pv < ls ∧ un < ls ∧ (1 ≤ tx ∧ tx ≤ 1073741824) ∧ (0 ≤ pg ∧ pg < 16) ∧ actMay ak a b c = true := by
  unfold recOk numB pageB txnB at h
  rw [if_pos (show (1 : Int) = 1 ∨ (1 : Int) = 2 from .inl rfl), if_neg (show ¬ ((1 : Int) = 7 ∨ (1 : Int) = 8) by omega), mayAB_act] at h
  simp only [Bool.and_eq_true, decide_eq_true_eq] at h
  obtain ⟨⟨⟨⟨⟨⟨⟨⟨⟨_, _⟩, h1⟩, h2⟩, h3⟩, ⟨h4, h5⟩⟩, h9⟩, _⟩, _⟩, _⟩ := h
  exact ⟨h1, h2, h3, h9, h4, h5⟩
/-- The record that takes a change back, with the numbers that back gives it, may be. -/
theorem back_ok {tx pg ak : Int} {a b c : ByteArray} (htx : 1 ≤ tx ∧ tx ≤ 1073741824) (hpg : 0 ≤ pg ∧ pg < 16) (hm : actMay ak a b c = true) : recOk 2 32 tx 16 0 pg (turnK ak) a c b [] [] = true := by
  have h2 := mayAB_turn hm
  unfold recOk numB pageB txnB
  rw [if_pos (show (2 : Int) = 1 ∨ (2 : Int) = 2 from .inr rfl), if_neg (show ¬ ((2 : Int) = 7 ∨ (2 : Int) = 8) by omega), h2, decide_eq_true hpg, decide_eq_true htx]
  rfl
theorem nilC {α : Type} (K : Kd α) (w : World) : Kd.C K w none ([] : List α).length [] := ⟨rfl, by simp, fun h => by simp at h⟩
set_option maxRecDepth 100000 in
set_option maxHeartbeats 4000000 in
theorem cback_calls (w : World) (ls tx pv un pg ak : Int) (a b c : ByteArray) (At Ad : Option Addr) (lt ct ld cd : Nat) (l : List SGTxn) (m : List SGDirty) (hok : recOk 1 ls tx pv un pg ak a b c l m = true) :
    Calls Try.prog 33 #[.agg #[.int .i64 1, .int .u64 ls, .int .i64 tx, .int .u64 pv, .int .u64 un, .int .i64 pg, .int .i64 ak, .string a, .string b, .string c, .slice At lt ct, .slice Ad ld cd]] w fun e w' => e = .returned (.int .i64 (szU a c b)) ∧ Below w.heap.size w w' := by
  obtain ⟨f1, _, _, f4, f5, f6⟩ := upd_facts hok
  have hfit := may_fits f6
  have hbk := fun (W : World) (n0 n1 n2 : Int) => back_calls W 1 ls tx pv un pg ak a b c At Ad lt ct ld cd n0 n1 n2 (by omega) (by omega) (by omega)
  have hv : ∀ n0 n1 n2, backV 1 tx pg ak a b c n0 n1 n2 = .tuple #[.agg #[.int .i64 2, .int .u64 n0, .int .i64 tx, .int .u64 n1, .int .u64 n2, .int .i64 pg, .int .i64 (turnK ak), .string a, .string c, .string b, .slice none 0 0, .slice none 0 0], .int .i64 0] := fun n0 n1 n2 => by
    unfold backV; rw [if_pos ⟨rfl, f6⟩]
  simp only [hv] at hbk
  have hsz := fun (W : World) => size_undo W 32 tx 16 0 pg (turnK ak) a c b none 0 [] none 0 [] (nilC _ _) (Nat.le_refl _) (nilC _ _) (Nat.le_refl _) (by omega) (by omega) (back_ok f4 f5 f6)
  have hw : IntKind.u64.wrap (ls + 16) = ls + 16 := by simp [IntKind.wrap, IntKind.bits, IntKind.signed]; omega
  clear hv hfit hok f4 f5 f6
  go_enter Try.func33, Try.ntmps33
  go_wp2_with fail
  have hba : Below w.heap.size w (w.alloc (.cells #[.int .i64 1, .int .u64 ls, .int .i64 tx, .int .u64 pv, .int .u64 un, .int .i64 pg, .int .i64 ak, .string a, .string b, .string c, .slice At lt ct, .slice Ad ld cd] 39)) := below_alloc (Below.refl _ _) _
  generalize w.alloc (.cells #[.int .i64 1, .int .u64 ls, .int .i64 tx, .int .u64 pv, .int .u64 un, .int .i64 pg, .int .i64 ak, .string a, .string b, .string c, .slice At lt ct, .slice Ad ld cd] 39) = wa at hba ⊢
  refine (hbk wa _ _ _).mono ?_
  rintro e wb ⟨rfl, hb⟩
  have HBB := Aside0.mk (below_then hba hba.size hb)
  clear hb hba hbk
  go_wp2_with fail
  refine (hsz _).mono ?_
  rintro e wc ⟨rfl, hb⟩
  have hbz : Below wb.heap.size wb wc := below_then (below_alloc (Below.refl _ _) _) (by rw [World.size_alloc]; omega) hb
  have HBC := Aside0.mk (below_then HBB.out HBB.out.size hbz)
  clear hb hsz hbz
  go_wp2_with fail
  go_ret
  exact ⟨rfl, HBC.out⟩
/-- How much more a transaction needs behind a record. -/
def needOf (ks : List Int) (X : Int → TX) (k ls tx pv un pg ak : Int) (a b c : ByteArray) (l : List SGTxn) (m : List SGDirty) : Int :=
  if tx ∈ ks ∧ recOk k ls tx pv un pg ak a b c l m = true then (if k = 1 then (szU a c b : Int) else 0) + (if (X tx).last = 0 ∧ (k = 1 ∨ k = 6) then 54 else 0) else 0
set_option maxRecDepth 100000 in
set_option maxHeartbeats 8000000 in
theorem tabneed (w0 : Wb) (w : World) (t mb : Nat) (bx : Int → Nat) (ks : List Int) (X : Int → TX) (k ls tx pv un pg ak : Int) (a b c : ByteArray) (At : Option Addr) (ct : Nat) (l : List SGTxn) (Ad : Option Addr) (cd : Nat) (m : List SGDirty) (h : Tab w0 w t mb bx ks X)
    (hT : Kd.C kGTxn w At l.length l) (hTc : l.length ≤ ct) (hD : Kd.C kGDirty w Ad m.length m) (hDc : m.length ≤ cd) :
    Calls Try.prog 23 #[.pointer (some ⟨t, 0, none⟩), .agg #[.int .i64 k, .int .u64 ls, .int .i64 tx, .int .u64 pv, .int .u64 un, .int .i64 pg, .int .i64 ak, .string a, .string b, .string c, .slice At l.length ct, .slice Ad m.length cd]] w fun e w' => e = .returned (.int .i64 (needOf ks X k ls tx pv un pg ak a b c l m)) ∧ Tab w0 w' t mb bx ks X ∧ Below w.heap.size w w' := by
  have hck := fun (W : World) (h : Below w.heap.size w W) => check_calls W k ls tx pv un pg ak a b c At ct l Ad cd m (Kd.C_below hT h) hTc (Kd.C_below hD h) hDc
  have hba : Below w.heap.size w (w.alloc (.cells #[.int .i64 k, .int .u64 ls, .int .i64 tx, .int .u64 pv, .int .u64 un, .int .i64 pg, .int .i64 ak, .string a, .string b, .string c, .slice At l.length ct, .slice Ad m.length cd] 39)) := below_alloc (Below.refl _ _) _
  have hxa : (w.alloc (.cells #[.int .i64 k, .int .u64 ls, .int .i64 tx, .int .u64 pv, .int .u64 un, .int .i64 pg, .int .i64 ak, .string a, .string b, .string c, .slice At l.length ct, .slice Ad m.length cd] 39)).heap[w.heap.size]? = some (.cells #[.int .i64 k, .int .u64 ls, .int .i64 tx, .int .u64 pv, .int .u64 un, .int .i64 pg, .int .i64 ak, .string a, .string b, .string c, .slice At l.length ct, .slice Ad m.length cd] 39 (0, 0)) := heap_alloc_new w _
  have hta := h.next hba
  clear hT hD h
  go_enter Try.func23, Try.ntmps23
  go_wp2_with fail
  generalize w.alloc (.cells #[.int .i64 k, .int .u64 ls, .int .i64 tx, .int .u64 pv, .int .u64 un, .int .i64 pg, .int .i64 ak, .string a, .string b, .string c, .slice At l.length ct, .slice Ad m.length cd] 39) = wa at hba hxa hta ⊢
  have hf := tabfind w0 wa t mb bx ks X tx hta
  by_cases hi : tx ∈ ks
  · rw [if_pos hi] at hf
    unfold ptrs at hf
    have x0 := blk_cell hxa 0
    have x1 := blk_cell hxa 1
    have x2 := blk_cell hxa 2
    have x3 := blk_cell hxa 3
    have x4 := blk_cell hxa 4
    have x5 := blk_cell hxa 5
    have x6 := blk_cell hxa 6
    have x7 := blk_cell hxa 7
    have x8 := blk_cell hxa 8
    have x9 := blk_cell hxa 9
    have x10 := blk_cell hxa 10
    have x11 := blk_cell hxa 11
    have hcka := hck wa hba
    refine hf.mono ?_
    rintro e w1 ⟨rfl, rfl⟩
    have HBA := Aside0.mk hba
    have HXA := Aside0.mk hxa
    have HTA := Aside0.mk hta
    have HI := Aside0.mk hi
    clear hf hba hxa hta hi hck
    go_wp2_with fail
    refine hcka.mono ?_
    rintro e wb ⟨rfl, hb⟩
    have HBb := Aside0.mk (below_then HBA.out HBA.out.size hb)
    have HXb := Aside0.mk (blk_below HXA.out hb)
    have HTb := Aside0.mk (HTA.out.next hb)
    clear hb hcka x0 x1 x2 x3 x4 x5 x6 x7 x8 x9 x10 x11
    have x0 := blk_cell HXb.out 0
    have x1 := blk_cell HXb.out 1
    have x2 := blk_cell HXb.out 2
    have x3 := blk_cell HXb.out 3
    have x4 := blk_cell HXb.out 4
    have x5 := blk_cell HXb.out 5
    have x6 := blk_cell HXb.out 6
    have x7 := blk_cell HXb.out 7
    have x8 := blk_cell HXb.out 8
    have x9 := blk_cell HXb.out 9
    have x10 := blk_cell HXb.out 10
    have x11 := blk_cell HXb.out 11
    have y2 : wb.cell? ⟨bx tx, 2, none⟩ = some (.int .u64 (X tx).last) := blk_cell (HTb.out.at_ tx HI.out) 2
    cases hok : recOk k ls tx pv un pg ak a b c l m with
    | false =>
      have HN := Aside0.mk (show needOf ks X k ls tx pv un pg ak a b c l m = 0 from by unfold needOf; rw [if_neg (fun h => by rw [hok] at h; cases h.2)])
      clear hok
      have ec : cde false = 1 := rfl
      rw [ec]
      go_wp2_with fail
      go_ret
      exact ⟨by rw [HN.out]; rfl, HTb.out, HBb.out⟩
    | true =>
      have ec : cde true = 0 := rfl
      rw [ec]
      have HOK := Aside0.mk hok
      clear hok
      by_cases k1 : k = 1
      · subst k1
        have hbk := cback_calls wb ls tx pv un pg ak a b c At Ad l.length ct m.length cd l m HOK.out
        go_wp2_with fail
        refine hbk.mono ?_
        rintro e wc ⟨rfl, hb⟩
        have HBc := Aside0.mk (below_then HBb.out HBb.out.size hb)
        have HXc := Aside0.mk (blk_below HXb.out hb)
        have HTc := Aside0.mk (HTb.out.next hb)
        clear hb hbk x0 x1 x2 x3 x4 x5 x6 x7 x8 x9 x10 x11 y2
        have x0 := blk_cell HXc.out 0
        have y2 : wc.cell? ⟨bx tx, 2, none⟩ = some (.int .u64 (X tx).last) := blk_cell (HTc.out.at_ tx HI.out) 2
        have hfit := may_fits (upd_facts HOK.out).2.2.2.2.2
        have hs1 : (szU a c b : Int) ≤ 1000 := by unfold szU; omega
        clear hfit
        by_cases hl0 : (X tx).last = 0
        · have e3 : ((X tx).last == 0) = true := by simpa using hl0
          have HN := Aside0.mk (show needOf ks X 1 ls tx pv un pg ak a b c l m = (szU a c b : Int) + 54 from by unfold needOf; rw [if_pos ⟨HI.out, HOK.out⟩, if_pos rfl, if_pos ⟨hl0, .inl rfl⟩])
          clear hl0
          go_wp2_with fail
          go_ret
          exact ⟨by rw [HN.out]; rfl, HTc.out, HBc.out⟩
        · have e3 : ((X tx).last == 0) = false := by simpa using hl0
          have HN := Aside0.mk (show needOf ks X 1 ls tx pv un pg ak a b c l m = (szU a c b : Int) from by unfold needOf; rw [if_pos ⟨HI.out, HOK.out⟩, if_pos rfl, if_neg (fun h => hl0 h.1)]; omega)
          clear hl0
          go_wp2_with fail
          go_ret
          exact ⟨by rw [HN.out]; rfl, HTc.out, HBc.out⟩
      · by_cases k6 : k = 6
        · subst k6
          clear k1
          by_cases hl0 : (X tx).last = 0
          · have e3 : ((X tx).last == 0) = true := by simpa using hl0
            have HN := Aside0.mk (show needOf ks X 6 ls tx pv un pg ak a b c l m = 54 from by unfold needOf; rw [if_pos ⟨HI.out, HOK.out⟩, if_neg (by omega), if_pos ⟨hl0, .inr rfl⟩]; rfl)
            clear hl0
            go_wp2_with fail
            go_ret
            exact ⟨by rw [HN.out]; rfl, HTb.out, HBb.out⟩
          · have e3 : ((X tx).last == 0) = false := by simpa using hl0
            have HN := Aside0.mk (show needOf ks X 6 ls tx pv un pg ak a b c l m = 0 from by unfold needOf; rw [if_pos ⟨HI.out, HOK.out⟩, if_neg (by omega), if_neg (fun h => hl0 h.1)]; rfl)
            clear hl0
            go_wp2_with fail
            go_ret
            exact ⟨by rw [HN.out]; rfl, HTb.out, HBb.out⟩
        · have e1 : (k == 1) = false := by simpa using k1
          have e6 : (k == 6) = false := by simpa using k6
          have HN := Aside0.mk (show needOf ks X k ls tx pv un pg ak a b c l m = 0 from by unfold needOf; rw [if_pos ⟨HI.out, HOK.out⟩, if_neg k1, if_neg (fun h => h.2.elim k1 k6)]; rfl)
          by_cases hl0 : (X tx).last = 0
          · have e3 : ((X tx).last == 0) = true := by simpa using hl0
            clear hl0 k1 k6
            go_wp2_with fail
            go_ret
            exact ⟨by rw [HN.out]; rfl, HTb.out, HBb.out⟩
          · have e3 : ((X tx).last == 0) = false := by simpa using hl0
            clear hl0 k1 k6
            go_wp2_with fail
            go_ret
            exact ⟨by rw [HN.out]; rfl, HTb.out, HBb.out⟩
  · rw [if_neg hi] at hf
    have HN := Aside0.mk (show needOf ks X k ls tx pv un pg ak a b c l m = 0 from by unfold needOf; rw [if_neg (fun h => hi h.1)])
    have x0 := blk_cell hxa 0
    have x2 := blk_cell hxa 2
    refine hf.mono ?_
    rintro e w1 ⟨rfl, rfl⟩
    have HBa := Aside0.mk hba
    have HTa := Aside0.mk hta
    clear hf hba hxa hta hi hck
    go_wp2_with fail
    go_ret
    exact ⟨by rw [HN.out]; rfl, HTa.out, HBa.out⟩
end Go.Proofs.Yteaklmafjmnmiaa
end
