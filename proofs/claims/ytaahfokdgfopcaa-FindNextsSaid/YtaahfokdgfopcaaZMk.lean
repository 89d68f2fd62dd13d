/- A map as a list of keys, each once, all with true: the laws of its operations, whatever the type of its keys. -/
import Derived.ProofKit
import Derived.MapKept
import Derived.Maps.Keyed
import Derived.Maps.RangeRun
import Derived.Maps.OwnSet
import Derived.ChangeMaps5
import Derived.Laws.StructEq
namespace Go.Proofs.Ytaahfokdgfopcaa.MapL
open Go Go.RowKit Go.ChangeMaps
set_option linter.unusedVariables false
set_option linter.unusedSimpArgs false
/-- What is asked of a type of keys: two are the same just if their values are, they may be keys, they are found where they stand. -/
structure KeyT (P : Program) (k : TypeId) {α : Type} (tk : α → Value) : Prop where
  inj : ∀ a b, tk a = tk b → a = b
  check : ∀ (w : World) (e : Bool) (x : α), (Instr.checkKey e 10000 k (tk x)).run P w = .ok () w
  find : ∀ (w : World) (x : α) (l : List MapEntry), (∀ e ∈ l, ∃ y, e.key = tk y) →
    ((∀ e ∈ l, e.key ≠ tk x) ∧ (Instr.findKey k (tk x) l).run P w = .ok none w) ∨ ∃ j e, l[j]? = some e ∧ e.key = tk x ∧ (Instr.findKey k (tk x) l).run P w = .ok (some (j, e.val)) w
  stay : ∀ x, Instr.sameBits 10000 (tk x) (tk x) = true
theorem keyT_plain {P : Program} {k : TypeId} {d : TypeDesc} {α : Type} {tk : α → Value} (hk : P.underlying k = some d) (hi : ∀ x, MapKept.IsKey d (tk x)) (inj : ∀ a b, tk a = tk b → a = b) (hs : ∀ x, Instr.sameBits 10000 (tk x) (tk x) = true) : KeyT P k tk where
  inj := inj
  check w e x := MapKept.run_checkKey hk (hi x) e 9999
  find w x l hl := by
    rcases MapKept.findNow_spec (hi x) l 0 (fun e he => by obtain ⟨y, hy⟩ := hl e he; rw [hy]; exact hi y) with ⟨h1, h2⟩ | ⟨j, e, h1, h2, h3⟩
    · exact .inl ⟨h2, MapKept.run_findKey hk h1⟩
    · refine .inr ⟨j, e, h2, h3, ?_⟩
      rw [Nat.zero_add] at h1
      exact MapKept.run_findKey hk h1
  stay := hs
theorem keyT_int {P : Program} {k : TypeId} (hk : P.underlying k = some (.int .i64)) : KeyT P k (Value.int .i64) :=
  keyT_plain hk (fun x => by simp [MapKept.IsKey]) (fun a b h => by injection h) (fun x => by simp [Instr.sameBits])
theorem keyT_string {P : Program} {k : TypeId} (hk : P.underlying k = some .string) : KeyT P k Value.string :=
  keyT_plain hk (fun x => by simp [MapKept.IsKey]) (fun a b h => by injection h) (fun x => by simpa [Instr.sameBits] using (MapKept.bytes_beq x x).2 rfl)
/-- The entries of a map that has these keys, each once, with true. -/
structure Ents {α : Type} (tk : α → Value) (es : Array MapEntry) (clock : Nat) (ks : List α) : Prop where
  keys : es.toList.map (·.key) = ks.map tk
  nodup : ks.Nodup
  vals : ∀ e ∈ es.toList, e.val = .bool true
  born : ∀ e ∈ es.toList, e.born < clock
  bnd : (es.toList.map (·.born)).Nodup
/-- Block b is a map that has these keys. -/
def MapAt {α : Type} (tk : α → Value) (w : World) (b : Nat) (ks : List α) : Prop := ∃ es clock, w.heap[b]? = some (.map es clock) ∧ Ents tk es clock ks
section
variable {P : Program} {w w' : World} {b : Nat} {t k e : TypeId} {α : Type} {tk : α → Value} {ks : List α}
theorem Ents.isKey {es : Array MapEntry} {clock : Nat} (h : Ents tk es clock ks) : ∀ e ∈ es.toList, ∃ y ∈ ks, e.key = tk y := fun e he => by
  have : e.key ∈ ks.map tk := by rw [← h.keys]; exact List.mem_map.2 ⟨e, he, rfl⟩
  obtain ⟨y, hy, h2⟩ := List.mem_map.1 this
  exact ⟨y, hy, h2.symm⟩
theorem Ents.has {es : Array MapEntry} {clock : Nat} (h : Ents tk es clock ks) {x : α} (hx : x ∈ ks) : ∃ e ∈ es.toList, e.key = tk x := by
  have : tk x ∈ es.toList.map (·.key) := by rw [h.keys]; exact List.mem_map.2 ⟨x, hx, rfl⟩
  obtain ⟨e, he, h2⟩ := List.mem_map.1 this
  exact ⟨e, he, h2⟩
theorem Ents.find {es : Array MapEntry} {clock : Nat} (K : KeyT P k tk) (h : Ents tk es clock ks) (w : World) (x : α) :
    (x ∉ ks ∧ (Instr.findKey k (tk x) es.toList).run P w = .ok none w) ∨ ∃ j e, x ∈ ks ∧ es.toList[j]? = some e ∧ ks[j]? = some x ∧ e.key = tk x ∧ (Instr.findKey k (tk x) es.toList).run P w = .ok (some (j, .bool true)) w := by
  rcases K.find w x es.toList (fun e he => by obtain ⟨y, _, hy⟩ := h.isKey e he; exact ⟨y, hy⟩) with ⟨h1, h2⟩ | ⟨j, e, h1, h2, h3⟩
  · refine .inl ⟨fun hx => ?_, h2⟩
    obtain ⟨e, he, hk⟩ := h.has hx
    exact h1 e he hk
  · have hm : e ∈ es.toList := List.mem_iff_getElem?.2 ⟨j, h1⟩
    rw [h.vals e hm] at h3
    have hj : (ks.map tk)[j]? = some (tk x) := by rw [← h.keys, List.getElem?_map, h1, ← h2]; rfl
    rw [List.getElem?_map] at hj
    cases hkj : ks[j]? with
    | none => rw [hkj] at hj; cases hj
    | some y =>
      rw [hkj] at hj
      have : y = x := K.inj _ _ (Option.some.inj hj)
      subst this
      exact .inr ⟨j, e, List.mem_iff_getElem?.2 ⟨j, hkj⟩, h1, hkj, h2, h3⟩
theorem MapAt.lt (h : MapAt tk w b ks) : b < w.heap.size := by
  obtain ⟨es, clock, hb, _⟩ := h
  exact (Array.getElem?_eq_some_iff.1 hb).1
theorem MapAt.nodup (h : MapAt tk w b ks) : ks.Nodup := by
  obtain ⟨es, clock, hb, he⟩ := h
  exact he.nodup
theorem MapAt.of_block (h : MapAt tk w b ks) (hb : w'.heap[b]? = w.heap[b]?) : MapAt tk w' b ks := by
  obtain ⟨es, clock, h1, h2⟩ := h
  exact ⟨es, clock, hb.trans h1, h2⟩
theorem MapAt.below {B : Nat} (h : MapAt tk w b ks) (hb : Below B w w') (hl : b < B) : MapAt tk w' b ks := h.of_block (hb.block b hl)
theorem MapAt.drew (h : MapAt tk w b ks) : MapAt tk w.drew b ks := h
theorem MapAt.alloc (h : MapAt tk w b ks) (o : Obj) : MapAt tk (w.alloc o) b ks := h.of_block ((MapKept.heap_alloc w o).2 b h.lt)
theorem mapAt_made (w : World) : MapAt tk (w.alloc (.map #[] 0)) w.heap.size ([] : List α) :=
  ⟨#[], 0, (MapKept.heap_alloc w _).1, rfl, List.nodup_nil, by simp, by simp, by simp⟩
/-- 'm[x]'. -/
theorem MapAt.look [DecidableEq α] (h : MapAt tk w b ks) (K : KeyT P k tk) (ht : P.underlying t = some (.map k e)) (hz : (zeroValue e).run P w = .ok (.bool false) w) (x : α) :
    (Instr.lookup t (.map (some b)) (tk x) false).run P w = .ok (.bool (decide (x ∈ ks))) w := by
  obtain ⟨es, clock, hb, hE⟩ := h
  rcases hE.find K w x with ⟨h1, h2⟩ | ⟨j, e, h1, h2, h3, h4, h5⟩
  · simp [Instr.lookup, run_underlying ht, MapKept.run_getObj_map hb, K.check, h2, Result.andThen, hz, h1]
  · simp [Instr.lookup, run_underlying ht, MapKept.run_getObj_map hb, K.check, h5, Result.andThen, h1]
/-- 'm[x]' of a nil map. -/
theorem look_nil (K : KeyT P k tk) (ht : P.underlying t = some (.map k e)) (hz : (zeroValue e).run P w = .ok (.bool false) w) (x : α) :
    (Instr.lookup t (.map none) (tk x) false).run P w = .ok (.bool false) w := by
  rcases K.find w x [] (by simp) with ⟨h1, h2⟩ | ⟨j, e, h1, _⟩
  · simp [Instr.lookup, run_underlying ht, K.check, h2, Result.andThen, hz]
  · simp at h1
/-- 'len(m)'. -/
theorem MapAt.len (h : MapAt tk w b ks) (ht : P.underlying t = some (.map k e)) (ty : TypeId) : (Builtin.len_ #[t] ty #[.map (some b)]).run P w = .ok (.int .i64 ks.length) w := by
  obtain ⟨es, clock, hb, hE⟩ := h
  have hl : es.size = ks.length := by have := congrArg List.length hE.keys; simpa using this
  simp [Builtin.len_, run_underlying ht, getObj, Sem.run, hb, Result.andThen, hl, goInt]

theorem nodup_snoc {l : List α} {x : α} (h : l.Nodup) (hx : x ∉ l) : (l ++ [x]).Nodup := by
  rw [List.nodup_append]
  exact ⟨h, by simp, fun a ha b hb q => hx (by rw [List.mem_singleton.1 hb] at q; rw [← q]; exact ha)⟩
/-- 'm[x] = true'. -/
theorem MapAt.put [DecidableEq α] (h : MapAt tk w b ks) (K : KeyT P k tk) (ht : P.underlying t = some (.map k e)) (x : α) :
    ∃ w', (Instr.mapUpdate t (.map (some b)) (tk x) (.bool true)).run P w = .ok () w' ∧ MapAt tk w' b (if x ∈ ks then ks else ks ++ [x]) ∧ w.grownBy w' (some b) ∧ w'.heap.size = w.heap.size := by
  obtain ⟨es, clock, hb, hE⟩ := h
  rcases hE.find K w x with ⟨h1, h2⟩ | ⟨j, e0, h1, h2, h3, h4, h5⟩
  · refine ⟨setBlock w b (.map (es.push { key := tk x, val := .bool true, born := clock }) (clock + 1)), ?_, ?_, ?_, by simp [setBlock]⟩
    · simp [setBlock, Instr.mapUpdate, run_underlying ht, MapKept.run_getObj_map hb, K.check, h2, MapKept.run_setObj_map _ hb, Result.andThen]
    · refine ⟨_, _, heap_setBlock_same hb _, ?_⟩
      rw [if_neg h1]
      refine ⟨?_, nodup_snoc hE.nodup h1, ?_, ?_, ?_⟩
      · rw [Array.toList_push, List.map_append, List.map_append, hE.keys]; rfl
      · intro y hy
        rw [Array.toList_push] at hy
        rcases List.mem_append.1 hy with hy | hy
        · exact hE.vals y hy
        · rw [List.mem_singleton.1 hy]
      · intro y hy
        rw [Array.toList_push] at hy
        rcases List.mem_append.1 hy with hy | hy
        · exact Nat.lt_succ_of_lt (hE.born y hy)
        · rw [List.mem_singleton.1 hy]; exact Nat.lt_succ_self _
      · rw [Array.toList_push, List.map_append]
        refine nodup_snoc hE.bnd (fun hm => ?_)
        obtain ⟨y, hy, q⟩ := List.mem_map.1 hm
        exact absurd (hE.born y hy) (by rw [q]; exact Nat.lt_irrefl _)
    · exact ⟨rfl, rfl, rfl, by simp [setBlock], fun k _ hk => heap_setBlock_other hb _ (fun e => hk (by rw [e]))⟩
  · have hj : es[j]? = some e0 := by simpa using h2
    have hm : e0 ∈ es.toList := List.mem_iff_getElem?.2 ⟨j, h2⟩
    have hv := hE.vals e0 hm
    have hmod : (es.modify j fun e' => { e' with key := tk x, val := .bool true }) = es := by
      apply Array.ext_getElem?
      intro i
      rw [Array.getElem?_modify]
      by_cases hij : j = i
      · subst hij
        rw [hj]
        simp only [if_true, Option.map_some]
        obtain ⟨kk, vv, bb⟩ := e0
        simp only at h4 hv
        rw [h4, hv]
      · simp [hij]
    refine ⟨setBlock w b (.map es clock), ?_, ?_, ?_, by simp [setBlock]⟩
    · simp [setBlock, Instr.mapUpdate, run_underlying ht, MapKept.run_getObj_map hb, K.check, h5, hj, h4, Instr.keyThatStays, K.stay, MapKept.run_setObj_map _ hb, Result.andThen]
      rw [hmod]
    · refine ⟨es, clock, heap_setBlock_same hb _, ?_⟩
      rw [if_pos h1]
      exact hE
    · exact ⟨rfl, rfl, rfl, by simp [setBlock], fun k _ hk => heap_setBlock_other hb _ (fun e => hk (by rw [e]))⟩
theorem eraseIdx_nodup {β : Type} [DecidableEq β] : ∀ (l : List β) (j : Nat) (x : β), l.Nodup → l[j]? = some x → l.eraseIdx j = l.filter (fun y => decide (y ≠ x))
  | [], j, x, _, h => by simp at h
  | y :: l, 0, x, hn, h => by
    simp only [List.getElem?_cons_zero, Option.some.injEq] at h
    subst h
    rw [List.nodup_cons] at hn
    rw [List.eraseIdx_cons_zero, List.filter_cons, if_neg (by simp), List.filter_eq_self.2]
    intro a ha
    simp only [decide_eq_true_eq]
    exact fun q => hn.1 (by rw [← q]; exact ha)
  | y :: l, j + 1, x, hn, h => by
    rw [List.nodup_cons] at hn
    simp only [List.getElem?_cons_succ] at h
    have hx : y ≠ x := fun q => hn.1 (by rw [q]; exact List.mem_iff_getElem?.2 ⟨j, h⟩)
    rw [List.eraseIdx_cons_succ, List.filter_cons, if_pos (by simpa using hx), eraseIdx_nodup l j x hn.2 h]
theorem map_eraseIdx' {β γ : Type} (f : β → γ) : ∀ (l : List β) (j : Nat), (l.eraseIdx j).map f = (l.map f).eraseIdx j
  | [], _ => by simp
  | y :: l, 0 => by simp
  | y :: l, j + 1 => by simp [map_eraseIdx' f l j]
theorem Ents.erase [DecidableEq α] {es : Array MapEntry} {clock : Nat} (h : Ents tk es clock ks) {j : Nat} {x : α} (hj : ks[j]? = some x) :
    Ents tk (es.eraseIdxIfInBounds j) clock (ks.filter fun y => decide (y ≠ x)) ∧ (es.eraseIdxIfInBounds j).toList = es.toList.eraseIdx j := by
  have hl : es.size = ks.length := by have := congrArg List.length h.keys; simpa using this
  have hjl : j < es.size := by rw [hl]; exact (List.getElem?_eq_some_iff.1 hj).1
  have e1 : (es.eraseIdxIfInBounds j).toList = es.toList.eraseIdx j := by
    unfold Array.eraseIdxIfInBounds
    rw [dif_pos hjl]
    simp
  have hs := List.eraseIdx_sublist es.toList j
  refine ⟨⟨?_, h.nodup.filter _, ?_, ?_, ?_⟩, e1⟩
  · rw [e1, map_eraseIdx', h.keys, ← map_eraseIdx', eraseIdx_nodup ks j x h.nodup hj]
  · intro e he; rw [e1] at he; exact h.vals e (hs.subset he)
  · intro e he; rw [e1] at he; exact h.born e (hs.subset he)
  · rw [e1]; exact (hs.map _).nodup h.bnd
/-- 'delete(m, x)'. -/
theorem MapAt.del [DecidableEq α] (h : MapAt tk w b ks) (K : KeyT P k tk) (ht : P.underlying t = some (.map k e)) (x : α) (ty : TypeId) :
    ∃ w', (Builtin.delete_ #[t, k] ty #[.map (some b), tk x]).run P w = .ok (.tuple #[]) w' ∧ MapAt tk w' b (ks.filter fun y => decide (y ≠ x)) ∧ w.grownBy w' (some b) ∧ w'.heap.size = w.heap.size := by
  obtain ⟨es, clock, hb, hE⟩ := h
  rcases hE.find K w x with ⟨h1, h2⟩ | ⟨j, e0, h1, h2, h3, h4, h5⟩
  · refine ⟨setBlock w b (.map es clock), ?_, ⟨es, clock, heap_setBlock_same hb _, ?_⟩, ?_, by simp [setBlock]⟩
    · simp [setBlock, Builtin.delete_, run_underlying ht, MapKept.run_getObj_map hb, K.check, h2, MapKept.run_setObj_map _ hb, Result.andThen]
    · rw [List.filter_eq_self.2 (fun y hy => by simpa using (fun q => h1 (by rw [← q]; exact hy) : y ≠ x))]
      exact hE
    · exact ⟨rfl, rfl, rfl, by simp [setBlock], fun k _ hk => heap_setBlock_other hb _ (fun e => hk (by rw [e]))⟩
  · refine ⟨setBlock w b (.map (es.eraseIdxIfInBounds j) clock), ?_, ⟨_, clock, heap_setBlock_same hb _, (hE.erase h3).1⟩, ?_, by simp [setBlock]⟩
    · simp [setBlock, Builtin.delete_, run_underlying ht, MapKept.run_getObj_map hb, K.check, h5, MapKept.run_setObj_map _ hb, Result.andThen]
    · exact ⟨rfl, rfl, rfl, by simp [setBlock], fun k _ hk => heap_setBlock_other hb _ (fun e => hk (by rw [e]))⟩
/-- A loop over map b, by the iterator in block r: ks are there, todo are to come. -/
def RangeAt (tk : α → Value) (w : World) (b r : Nat) (ks todo : List α) : Prop :=
  ∃ es clock seen, w.heap[b]? = some (.map es clock) ∧ Ents tk es clock ks ∧ w.heap[r]? = some (.mapIter (some b) clock seen clock) ∧ (es.toList.filter fun e => !seen.contains e.born).map (·.key) = todo.map tk ∧ todo.Sublist ks
theorem RangeAt.map {r : Nat} {todo : List α} (h : RangeAt tk w b r ks todo) : MapAt tk w b ks := by
  obtain ⟨es, clock, seen, h1, h2, _⟩ := h
  exact ⟨es, clock, h1, h2⟩
theorem RangeAt.of_blocks {r : Nat} {todo : List α} (h : RangeAt tk w b r ks todo) (hb : w'.heap[b]? = w.heap[b]?) (hr : w'.heap[r]? = w.heap[r]?) : RangeAt tk w' b r ks todo := by
  obtain ⟨es, clock, seen, h1, h2, h3, h4⟩ := h
  exact ⟨es, clock, seen, hb.trans h1, h2, hr.trans h3, h4⟩
theorem RangeAt.lt {r : Nat} {todo : List α} (h : RangeAt tk w b r ks todo) : r < w.heap.size := by
  obtain ⟨es, clock, seen, h1, h2, h3, h4⟩ := h
  exact (Array.getElem?_eq_some_iff.1 h3).1
theorem RangeAt.ne {r : Nat} {todo : List α} (h : RangeAt tk w b r ks todo) : r ≠ b := by
  obtain ⟨es, clock, seen, h1, h2, h3, h4⟩ := h
  rintro rfl
  rw [h1] at h3
  cases h3
/-- 'range m'. -/
theorem MapAt.range (h : MapAt tk w b ks) (ht : P.underlying t = some (.map k e)) :
    ∃ w', (Instr.range t (.map (some b))).run P w = .ok (.pointer (some ⟨w.heap.size, 0, none⟩)) w' ∧ RangeAt tk w' b w.heap.size ks ks ∧ Below w.heap.size w w' ∧ w'.heap.size = w.heap.size + 1 := by
  have hlt := h.lt
  obtain ⟨es, clock, hb, hE⟩ := h
  refine ⟨w.alloc (.mapIter (some b) clock #[] clock), ?_, ⟨es, clock, #[], ((MapKept.heap_alloc w _).2 b hlt).trans hb, hE, (MapKept.heap_alloc w _).1, ?_, List.Sublist.refl _⟩, (Below.refl _ _).alloc (Nat.le_refl _) _, by simp⟩
  · simp [Instr.range, run_underlying ht, MapKept.run_getObj_map hb, Result.andThen, newObj, Sem.run]
  · rw [List.filter_eq_self.2 (fun _ _ => by simp)]
    exact hE.keys
theorem filter_sub {β : Type} {l l' : List β} (h : l.Sublist l') (p : β → Bool) : (l.filter p).Sublist (l'.filter p) := h.filter p
theorem map_filter_key [DecidableEq α] (K : KeyT P k tk) (x : α) : ∀ (l : List MapEntry) (todo : List α), l.map (·.key) = todo.map tk → ∀ (p : MapEntry → Bool), (∀ e ∈ l, p e = true ↔ e.key ≠ tk x) →
    (l.filter p).map (·.key) = (todo.filter fun y => decide (y ≠ x)).map tk
  | [], [], _, _, _ => rfl
  | [], _ :: _, h, _, _ => by simp at h
  | _ :: _, [], h, _, _ => by simp at h
  | e :: l, y :: todo, h, p, hp => by
    simp only [List.map_cons, List.cons.injEq] at h
    have ih := map_filter_key K x l todo h.2 p (fun e he => hp e (.tail _ he))
    have h1 := hp e (.head _)
    by_cases hyx : y = x
    · have : ¬ p e = true := fun q => (h1.1 q) (by rw [h.1, hyx])
      rw [List.filter_cons, if_neg this, List.filter_cons, if_neg (by simpa using hyx), ih]
    · have : p e = true := h1.2 (fun q => hyx (K.inj _ _ (h.1.symm.trans q)))
      rw [List.filter_cons, if_pos this, List.filter_cons, if_pos (by simpa using hyx), List.map_cons, List.map_cons, ih, h.1]
theorem nodup_born {l : List MapEntry} (h : (l.map (·.born)).Nodup) {x y : MapEntry} (hx : x ∈ l) (hy : y ∈ l) (he : x.born = y.born) : x = y := by
  induction l with
  | nil => cases hx
  | cons z l ih =>
    rw [List.map_cons, List.nodup_cons] at h
    cases hx with
    | head => cases hy with
      | head => rfl
      | tail _ hy => exact absurd (List.mem_map.2 ⟨y, hy, he.symm⟩) h.1
    | tail _ hx => cases hy with
      | head => exact absurd (List.mem_map.2 ⟨x, hx, he⟩) h.1
      | tail _ hy => exact ih h.2 hx hy
theorem heap_set_other (w : World) (r k : Nat) (o : Obj) (h : k ≠ r) : (setBlock w r o).heap[k]? = w.heap[k]? := by
  simp [setBlock, Ne.symm h]
theorem heap_set_same {w : World} {r : Nat} {x : Obj} (h : w.heap[r]? = some x) (o : Obj) : (setBlock w r o).heap[r]? = some o := by
  have := (Array.getElem?_eq_some_iff.1 h).1
  simp [setBlock, this]
/-- 'next': nothing is left, or one that is left comes, whichever. -/
theorem RangeAt.next [DecidableEq α] {r : Nat} {todo : List α} (K : KeyT P k tk) (h : RangeAt tk w b r ks todo) (ty : TypeId) :
    (todo = [] ∧ (Instr.next (.pointer (some ⟨r, 0, none⟩)) false ty).run P w = .ok (.tuple #[.bool false]) w) ∨
    ∃ x ∈ todo, ∃ w', (Instr.next (.pointer (some ⟨r, 0, none⟩)) false ty).run P w = .ok (.tuple #[.bool true, tk x, .bool true]) w' ∧ RangeAt tk w' b r ks (todo.filter fun y => decide (y ≠ x)) ∧
      w.grownBy w' (some r) ∧ w'.heap.size = w.heap.size ∧ (Instr.entry (.pointer (some ⟨r, 0, none⟩))).run P w' = .ok (.tuple #[tk x, .bool true]) w' := by
  have hne := h.ne
  obtain ⟨es, clock, seen, hb, hE, hr, hleft, hsub⟩ := h
  rcases run_next_at (P := P) w ty r b clock clock seen es clock hr hb hE.born (Nat.le_refl _) with ⟨h0, hrun⟩ | ⟨e, he, w1, hw1, hrun⟩
  · refine .inl ⟨?_, hrun⟩
    have : (es.toList.filter fun e => !seen.contains e.born).length = 0 := by
      have := congrArg Array.toList (Array.eq_empty_of_size_eq_zero h0)
      unfold leftOf at this
      rw [Array.toList_filter] at this
      rw [this]; rfl
    rw [List.length_eq_zero_iff.1 this] at hleft
    simpa using hleft.symm
  · unfold leftOf at he
    rw [Array.toList_filter] at he
    obtain ⟨hem, hsn⟩ := List.mem_filter.1 he
    obtain ⟨y, hy, hky⟩ : ∃ y ∈ todo, tk y = e.key := by
      have : e.key ∈ todo.map tk := by rw [← hleft]; exact List.mem_map.2 ⟨e, he, rfl⟩
      obtain ⟨y, hy, q⟩ := List.mem_map.1 this
      exact ⟨y, hy, q⟩
    have hv := hE.vals e hem
    have hb1 : w1.heap[b]? = some (.map es clock) := by rcases hw1 with rfl | rfl <;> exact hb
    have hr1 : w1.heap[r]? = some (.mapIter (some b) clock seen clock) := by rcases hw1 with rfl | rfl <;> exact hr
    have hb2 : (setBlock w1 r (.mapIter (some b) clock (seen.push e.born) clock)).heap[b]? = some (.map es clock) := (heap_set_other w1 r b _ hne.symm).trans hb1
    have hr2 : (setBlock w1 r (.mapIter (some b) clock (seen.push e.born) clock)).heap[r]? = some (.mapIter (some b) clock (seen.push e.born) clock) := heap_set_same hr1 _
    refine .inr ⟨y, hy, setBlock w1 r (.mapIter (some b) clock (seen.push e.born) clock), by rw [hrun, hky, hv], ⟨es, clock, seen.push e.born, hb2, hE, hr2, ?_, ?_⟩, ?_, ?_, ?_⟩
    · rw [← map_filter_key K y _ todo hleft (fun e' => decide (e'.born ≠ e.born)) (fun e' he' => ?_), List.filter_filter]
      · congr 1
        apply List.filter_congr
        intro e' _
        simp only [Array.contains_push, Bool.not_or, ne_eq, decide_not, bne]
        by_cases hq : e'.born = e.born
        · simp [hq]
        · simp [hq]
      · simp only [decide_eq_true_eq]
        have hm' : e' ∈ es.toList := (List.mem_filter.1 he').1
        constructor
        · intro q q2
          rw [hky] at q2
          apply q
          -- keys are apart
          obtain ⟨i, hi⟩ := List.mem_iff_getElem?.1 hm'
          obtain ⟨j, hj⟩ := List.mem_iff_getElem?.1 hem
          have hki : ks[i]? = ks[j]? := by
            have e1 : (ks.map tk)[i]? = some e'.key := by rw [← hE.keys, List.getElem?_map, hi]; rfl
            have e2 : (ks.map tk)[j]? = some e.key := by rw [← hE.keys, List.getElem?_map, hj]; rfl
            rw [List.getElem?_map] at e1 e2
            cases h1 : ks[i]? with
            | none => rw [h1] at e1; cases e1
            | some a =>
              cases h2 : ks[j]? with
              | none => rw [h2] at e2; cases e2
              | some c =>
                rw [h1] at e1; rw [h2] at e2
                have := (Option.some.inj e1).trans (q2.trans (Option.some.inj e2).symm)
                rw [K.inj _ _ this]
          have hil : i < ks.length := by
            have hl : es.toList.length = ks.length := by have := congrArg List.length hE.keys; simpa using this
            rw [← hl]; exact (List.getElem?_eq_some_iff.1 hi).1
          have hij : i = j := (List.getElem?_inj hil hE.nodup).1 hki
          subst hij
          rw [hi] at hj
          rw [Option.some.inj hj]
        · intro q q2
          apply q
          rw [nodup_born hE.bnd hm' hem q2, hky]
    · exact (List.filter_sublist).trans hsub
    · exact ⟨by rcases hw1 with rfl | rfl <;> rfl, by rcases hw1 with rfl | rfl <;> rfl, by rcases hw1 with rfl | rfl <;> rfl, by rcases hw1 with rfl | rfl <;> simp [setBlock], fun k _ hk => by
        have : (setBlock w1 r (.mapIter (some b) clock (seen.push e.born) clock)).heap[k]? = w1.heap[k]? := heap_set_other w1 r k _ (fun e => hk (by rw [e]))
        rw [this]
        rcases hw1 with rfl | rfl <;> rfl⟩
    · rcases hw1 with rfl | rfl <;> simp [setBlock]
    · rw [run_entry_at _ r b clock seen es clock e hr2 hb2 hem hE.bnd, hky, hv]
theorem nodup_key {l : List MapEntry} (h : (l.map (·.key)).Nodup) {x y : MapEntry} (hx : x ∈ l) (hy : y ∈ l) (he : x.key = y.key) : x = y := by
  induction l with
  | nil => cases hx
  | cons z l ih =>
    rw [List.map_cons, List.nodup_cons] at h
    cases hx with
    | head => cases hy with
      | head => rfl
      | tail _ hy => exact absurd (List.mem_map.2 ⟨y, hy, he.symm⟩) h.1
    | tail _ hx => cases hy with
      | head => exact absurd (List.mem_map.2 ⟨x, hx, he⟩) h.1
      | tail _ hy => exact ih h.2 hx hy
theorem eraseIdx_filter : ∀ (l : List MapEntry) (j : Nat) (n : Nat), (l.map (·.born)).Nodup → (l.map (·.born))[j]? = some n → l.eraseIdx j = l.filter fun e => decide (e.born ≠ n)
  | [], j, n, _, h => by simp at h
  | y :: l, 0, n, hn, h => by
    simp only [List.map_cons, List.getElem?_cons_zero, Option.some.injEq] at h
    subst h
    rw [List.map_cons, List.nodup_cons] at hn
    rw [List.eraseIdx_cons_zero, List.filter_cons, if_neg (by simp), List.filter_eq_self.2]
    intro a ha
    simp only [decide_eq_true_eq]
    exact fun q => hn.1 (List.mem_map.2 ⟨a, ha, q⟩)
  | y :: l, j + 1, n, hn, h => by
    rw [List.map_cons, List.nodup_cons] at hn
    simp only [List.map_cons, List.getElem?_cons_succ] at h
    have hx : y.born ≠ n := fun q => hn.1 (by rw [q]; exact List.mem_iff_getElem?.2 ⟨j, h⟩)
    rw [List.eraseIdx_cons_succ, List.filter_cons, if_pos (by simpa using hx), eraseIdx_filter l j n hn.2 h]
/-- 'delete(m, x)' inside the loop. -/
theorem RangeAt.del [DecidableEq α] {r : Nat} {todo : List α} (h : RangeAt tk w b r ks todo) (K : KeyT P k tk) (ht : P.underlying t = some (.map k e)) (x : α) (ty : TypeId) :
    ∃ w', (Builtin.delete_ #[t, k] ty #[.map (some b), tk x]).run P w = .ok (.tuple #[]) w' ∧ RangeAt tk w' b r (ks.filter fun y => decide (y ≠ x)) (todo.filter fun y => decide (y ≠ x)) ∧ w.grownBy w' (some b) ∧ w'.heap.size = w.heap.size := by
  have hne := h.ne
  obtain ⟨es, clock, seen, hb, hE, hr, hleft, hsub⟩ := h
  rcases hE.find K w x with ⟨h1, h2⟩ | ⟨j, e0, h1, h2, h3, h4, h5⟩
  · have hf : ∀ l : List α, l.Sublist ks → (l.filter fun y => decide (y ≠ x)) = l := fun l hl => List.filter_eq_self.2 (fun y hy => by simpa using (fun q => h1 (by rw [← q]; exact hl.subset hy) : y ≠ x))
    refine ⟨setBlock w b (.map es clock), ?_, ?_, ?_, by simp [setBlock]⟩
    · simp [setBlock, Builtin.delete_, run_underlying ht, MapKept.run_getObj_map hb, K.check, h2, MapKept.run_setObj_map _ hb, Result.andThen]
    · rw [hf ks (List.Sublist.refl _), hf todo hsub]
      exact ⟨es, clock, seen, heap_setBlock_same hb _, hE, (heap_setBlock_other hb _ hne).trans hr, hleft, hsub⟩
    · exact ⟨rfl, rfl, rfl, by simp [setBlock], fun k _ hk => heap_setBlock_other hb _ (fun e => hk (by rw [e]))⟩
  · obtain ⟨g1, g2⟩ := hE.erase h3
    refine ⟨setBlock w b (.map (es.eraseIdxIfInBounds j) clock), ?_, ⟨_, clock, seen, heap_setBlock_same hb _, g1, (heap_setBlock_other hb _ hne).trans hr, ?_, hsub.filter _⟩, ?_, by simp [setBlock]⟩
    · simp [setBlock, Builtin.delete_, run_underlying ht, MapKept.run_getObj_map hb, K.check, h5, MapKept.run_setObj_map _ hb, Result.andThen]
    · have hkn : (es.toList.map (·.key)).Nodup := by
        rw [hE.keys]
        exact List.Pairwise.map _ (fun a b hab q => hab (K.inj _ _ q)) hE.nodup
      have e1 : es.toList.eraseIdx j = es.toList.filter fun e => decide (e.born ≠ e0.born) := by
        have h' : (es.toList.map (·.born))[j]? = some e0.born := by rw [List.getElem?_map, h2]; rfl
        exact eraseIdx_filter _ _ _ hE.bnd h'
      rw [g2, e1, List.filter_filter]
      rw [← map_filter_key K x _ todo hleft (fun e' => decide (e'.born ≠ e0.born)) (fun e' he' => ?_), List.filter_filter]
      · congr 1
        apply List.filter_congr
        intro e' _
        rw [Bool.and_comm]
      · simp only [decide_eq_true_eq]
        have hm' : e' ∈ es.toList := (List.mem_filter.1 he').1
        have hm0 : e0 ∈ es.toList := List.mem_iff_getElem?.2 ⟨j, h2⟩
        constructor
        · intro q q2
          apply q
          have := nodup_key hkn hm' hm0 (q2.trans h4.symm)
          rw [this]
        · intro q q2
          apply q
          rw [nodup_born hE.bnd hm' hm0 q2, h4]
    · exact ⟨rfl, rfl, rfl, by simp [setBlock], fun k _ hk => heap_setBlock_other hb _ (fun e => hk (by rw [e]))⟩
theorem MapAt.grown {row : Option Nat} (h : MapAt tk w b ks) (hg : w.grownBy w' row) (hne : some b ≠ row) : MapAt tk w' b ks := h.of_block (hg.block b h.lt hne)
theorem RangeAt.grown {r : Nat} {todo : List α} {row : Option Nat} (h : RangeAt tk w b r ks todo) (hg : w.grownBy w' row) (h1 : some b ≠ row) (h2 : some r ≠ row) : RangeAt tk w' b r ks todo :=
  h.of_blocks (hg.block b h.map.lt h1) (hg.block r h.lt h2)
theorem RangeAt.below {r : Nat} {todo : List α} {B : Nat} (h : RangeAt tk w b r ks todo) (hb : Below B w w') (h1 : b < B) (h2 : r < B) : RangeAt tk w' b r ks todo := h.of_blocks (hb.block b h1) (hb.block r h2)
theorem RangeAt.alloc {r : Nat} {todo : List α} (h : RangeAt tk w b r ks todo) (o : Obj) : RangeAt tk (w.alloc o) b r ks todo := h.of_blocks ((MapKept.heap_alloc w o).2 b h.map.lt) ((MapKept.heap_alloc w o).2 r h.lt)
theorem RangeAt.sub {r : Nat} {todo : List α} (h : RangeAt tk w b r ks todo) : ∀ x ∈ todo, x ∈ ks := by
  obtain ⟨es, clock, seen, h1, h2, h3, h4, h5⟩ := h
  exact fun x hx => h5.subset hx
theorem MapAt.block (h : MapAt tk w b ks) : ∃ es clock, w.heap[b]? = some (.map es clock) := by
  obtain ⟨es, clock, hb, _⟩ := h
  exact ⟨es, clock, hb⟩
theorem RangeAt.block {r : Nat} {todo : List α} (h : RangeAt tk w b r ks todo) : ∃ m s seen c, w.heap[r]? = some (.mapIter m s seen c) := by
  obtain ⟨es, clock, seen, h1, h2, h3, h4⟩ := h
  exact ⟨_, _, _, _, h3⟩
theorem filter_lt [DecidableEq α] {l : List α} {x : α} (h : x ∈ l) : (l.filter fun y => decide (y ≠ x)).length < l.length :=
  List.length_filter_lt_length_iff_exists.2 ⟨x, h, by simp⟩
theorem filter_or [DecidableEq α] {l : List α} {x : α} : ∀ d ∈ l, d ∈ (l.filter fun y => decide (y ≠ x)) ∨ d = x := fun d hd => by
  by_cases h : d = x
  · exact .inr h
  · exact .inl (List.mem_filter.2 ⟨hd, by simpa using h⟩)
end
end Go.Proofs.Ytaahfokdgfopcaa.MapL
