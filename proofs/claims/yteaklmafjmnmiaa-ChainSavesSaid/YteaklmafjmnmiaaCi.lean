/- chain's table: Row, Gone, Open. -/
import Derived.Test.YteaklmafjmnmiaaCh
namespace Go.Proofs.Yteaklmafjmnmiaa
open Go.RowKit Go.Proofs.YteaklmafjmnmiaaW.PrintWords Go.Proofs.YteaklmafjmnmiaaW.PrintLast Go.Proofs.YteaklmafjmnmiaaW.PrintMore
open Rf MapL MapV
set_option linter.unusedVariables false
set_option linter.unusedSimpArgs false
theorem put3 {w : World} {g : Nat} {t : TypeId} {a b c x y z : Value} (h : w.heap[g]? = some (.cells #[a, b, c] t (0, 0))) :
    (((w.setCell ⟨g, 0, none⟩ x).setCell ⟨g, 1, none⟩ y).setCell ⟨g, 2, none⟩ z).heap[g]? = some (.cells #[x, y, z] t (0, 0)) :=
  blk_put (cs' := #[x, y, z]) (blk_put (cs' := #[x, y, c]) (blk_put (cs' := #[x, b, c]) h 0 x rfl) 1 y rfl) 2 z rfl
theorem bel3 {w0 w : World} {g : Nat} {x y z : Value} (h : Below w0.heap.size w0 w) (hg : w0.heap.size ≤ g) : Below w0.heap.size w0 (((w.setCell ⟨g, 0, none⟩ x).setCell ⟨g, 1, none⟩ y).setCell ⟨g, 2, none⟩ z) :=
  below_set (g := g) (j := 2) (below_set (g := g) (j := 1) (below_set (g := g) (j := 0) h hg) hg) hg
/-- What Row tells. -/
def rowV (ks : List Int) (X : Int → TX) (id : Int) : Value := if id ∈ ks then .tuple #[.agg #[.int .i64 id, .int .i64 (X id).st, .int .u64 (X id).last], .bool true] else .tuple #[.agg #[.int .i64 0, .int .i64 0, .int .u64 0], .bool false]
set_option maxRecDepth 100000 in
theorem tabrow (w0 : Wb) (w : World) (t mb : Nat) (bx : Int → Nat) (ks : List Int) (X : Int → TX) (id : Int) (h : Tab w0 w t mb bx ks X) :
    Calls Try.prog 18 #[.pointer (some ⟨t, 0, none⟩), .int .i64 id] w fun e w' => e = .returned (rowV ks X id) ∧ Tab w0 w' t mb bx ks X ∧ Below w.heap.size w w' := by
  have hba : Below w.heap.size w (w.alloc (.cells #[.int .i64 0, .int .i64 0, .int .u64 0] 54)) := below_alloc (Below.refl _ _) _
  have hxa : (w.alloc (.cells #[.int .i64 0, .int .i64 0, .int .u64 0] 54)).heap[w.heap.size]? = some (.cells #[.int .i64 0, .int .i64 0, .int .u64 0] 54 (0, 0)) := heap_alloc_new w _
  have hta := h.next hba
  have HT := Aside0.mk h
  go_enter Try.func18, Try.ntmps18
  go_wp2_with fail
  generalize w.alloc (.cells #[.int .i64 0, .int .i64 0, .int .u64 0] 54) = wa at hba hxa hta ⊢
  have hf := tabfind w0 wa t mb bx ks X id hta
  have x0 := blk_cell hxa 0
  have x1 := blk_cell hxa 1
  have x2 := blk_cell hxa 2
  have g0 := blk_frozen hxa 0
  have g1 := blk_frozen hxa 1
  have g2 := blk_frozen hxa 2
  have HBA := Aside0.mk hba
  have HXA := Aside0.mk hxa
  by_cases hi : id ∈ ks
  · rw [if_pos hi] at hf
    have y0 : wa.cell? ⟨bx id, 0, none⟩ = some (.int .i64 id) := blk_cell (hta.at_ id hi) 0
    have y1 : wa.cell? ⟨bx id, 1, none⟩ = some (.int .i64 (X id).st) := blk_cell (hta.at_ id hi) 1
    have y2 : wa.cell? ⟨bx id, 2, none⟩ = some (.int .u64 (X id).last) := blk_cell (hta.at_ id hi) 2
    have HI := Aside0.mk hi
    clear h hba hxa hta hi
    unfold ptrs at hf
    refine hf.mono ?_
    rintro e w1 ⟨rfl, rfl⟩
    clear hf
    go_wp2_with fail
    refine bodyPost_ret (results_ct rfl _ _ w.heap.size 54 #[.int .i64 id, .int .i64 (X id).st, .int .u64 (X id).last] (0, 0) _ rfl (put3 HXA.out) Try.underlying54 rfl (by kernel_rfl)) rfl ?_
    have hb := bel3 (x := .int .i64 id) (y := .int .i64 (X id).st) (z := .int .u64 (X id).last) HBA.out (Nat.le_refl w.heap.size)
    exact ⟨by unfold rowV; rw [if_pos HI.out]; rfl, HT.out.next hb, hb⟩
  · rw [if_neg hi] at hf
    have HI := Aside0.mk hi
    clear h hba hxa hta hi
    refine hf.mono ?_
    rintro e w1 ⟨rfl, rfl⟩
    clear hf
    go_wp2_with fail
    refine bodyPost_ret (results_ct rfl _ _ w.heap.size 54 #[.int .i64 0, .int .i64 0, .int .u64 0] (0, 0) _ rfl (put3 HXA.out) Try.underlying54 rfl (by kernel_rfl)) rfl ?_
    have hb := bel3 (x := .int .i64 0) (y := .int .i64 0) (z := .int .u64 0) HBA.out (Nat.le_refl w.heap.size)
    exact ⟨by unfold rowV; rw [if_neg HI.out]; rfl, HT.out.next hb, hb⟩
section
variable {w0 : Wb} {w w' : World} {t mb : Nat} {bx : Int → Nat} {ks : List Int} {X : Int → TX}
theorem Tab.grown (h : Tab w0 w t mb bx ks X) (hg : w.grownBy w' (some mb)) : Bel w0 w' ∧ w'.heap[t]? = some (.cells #[.map (some mb)] 71 (0, 0)) ∧ ∀ id ∈ ks, w'.heap[bx id]? = some (.cells (txV id (X id)) 74 (0, 0)) :=
  ⟨h.bel.grown hg h.gem, blk_grown h.box hg (fun e => h.ne (Option.some.inj e)), fun id hi => blk_grown (h.at_ id hi) hg (fun e => (h.neb id hi).1 (Option.some.inj e))⟩
/-- The map alone has changed: a key less. -/
theorem Tab.del (h : Tab w0 w t mb bx ks X) (id : Int) :
    ∃ w', (∀ ty, (Builtin.delete_ #[69, 3] ty #[.map (some mb), .int .i64 id]).run Try.prog w = .ok (.tuple #[]) w') ∧ Tab w0 w' t mb bx (ks.filter fun y => decide (y ≠ id)) X ∧ w.grownBy w' (some mb) := by
  obtain ⟨w1, hp, hm, hg, hs⟩ := h.map.del keyI Try.underlying69 id 0
  obtain ⟨h1, h2, h3⟩ := h.grown hg
  have hin : ∀ y ∈ ks.filter (fun y => decide (y ≠ id)), y ∈ ks := fun y hy => (List.mem_filter.1 hy).1
  exact ⟨w1, fun _ => hp, ⟨h2, hm, fun y hy => h3 y (hin y hy), fun a ha b hb => h.inj a (hin a ha) b (hin b hb), h1, h.get, h.gem, fun y hy => h.geb y (hin y hy)⟩, hg⟩
/-- A key more, with its box. -/
theorem Tab.put (h : Tab w0 w t mb bx ks X) (id : Int) (hi : id ∉ ks) (g : Nat) (x : TX) (hg0 : w.heap[g]? = some (.cells (txV id x) 74 (0, 0))) (hnew : ∀ y ∈ ks, bx y ≠ g) (hge : w0.T g) :
    ∃ w', (Instr.mapUpdate 69 (.map (some mb)) (.int .i64 id) (.pointer (some ⟨g, 0, none⟩))).run Try.prog w = .ok () w' ∧ Tab w0 w' t mb (fun y => if y = id then g else bx y) (ks ++ [id]) (fun y => if y = id then x else X y) ∧ w.grownBy w' (some mb) := by
  obtain ⟨w1, hp, hm, hg, hs⟩ := h.map.put keyI Try.underlying69 id hi (.pointer (some ⟨g, 0, none⟩))
  obtain ⟨h1, h2, h3⟩ := h.grown hg
  have hgm : g ≠ mb := fun e => by
    obtain ⟨es, clock, hb⟩ := h.map.block
    rw [← e, hg0] at hb
    cases hb
  have hne : ∀ y ∈ ks, y ≠ id := fun y hy e => hi (by rw [← e]; exact hy)
  have hx : w1.heap[g]? = some (.cells (txV id x) 74 (0, 0)) := blk_grown hg0 hg (fun e => hgm (Option.some.inj e))
  refine ⟨w1, hp, ⟨h2, ?_, fun y hy => ?_, fun a ha b hb hab => ?_, h1, h.get, h.gem, fun y hy => ?_⟩, hg⟩
  · have e : ptrs (fun y => if y = id then g else bx y) = upd (ptrs bx) id (.pointer (some ⟨g, 0, none⟩)) := by
      funext y
      unfold ptrs upd
      by_cases h : y = id
      · simp only [if_pos h]
      · simp only [if_neg h]
    rw [e]; exact hm
  · rcases List.mem_append.1 hy with hy | hy
    · simp only [if_neg (hne y hy)]; exact h3 y hy
    · rw [List.mem_singleton.1 hy]; simp only [if_pos]; exact hx
  · rcases List.mem_append.1 ha with ha | ha
    · rcases List.mem_append.1 hb with hb | hb
      · simp only [if_neg (hne a ha), if_neg (hne b hb)] at hab; exact h.inj a ha b hb hab
      · rw [List.mem_singleton.1 hb] at hab; simp only [if_neg (hne a ha), if_pos] at hab; exact absurd hab (hnew a ha)
    · rcases List.mem_append.1 hb with hb | hb
      · rw [List.mem_singleton.1 ha] at hab; simp only [if_neg (hne b hb), if_pos] at hab; exact absurd hab.symm (hnew b hb)
      · rw [List.mem_singleton.1 ha, List.mem_singleton.1 hb]
  · rcases List.mem_append.1 hy with hy | hy
    · simp only [if_neg (hne y hy)]; exact h.geb y hy
    · rw [List.mem_singleton.1 hy]; simp only [if_pos]; exact hge
end
set_option maxRecDepth 100000 in
theorem tabgone (w0 : Wb) (w : World) (t mb : Nat) (bx : Int → Nat) (ks : List Int) (X : Int → TX) (id : Int) (h : Tab w0 w t mb bx ks X) :
    Calls Try.prog 17 #[.pointer (some ⟨t, 0, none⟩), .int .i64 id] w fun e w' => e = .returned (.bool (decide (id ∈ ks))) ∧ Tab w0 w' t mb bx (ks.filter fun y => decide (y ≠ id)) X := by
  have hf := tabfind w0 w t mb bx ks X id h
  have hc := blk_cell h.box 0
  by_cases hi : id ∈ ks
  · rw [if_pos hi] at hf
    unfold ptrs at hf
    obtain ⟨w1, hp, ht, _⟩ := h.del id
    have HT := Aside0.mk ht
    rw [decide_eq_true hi]
    clear ht h
    go_enter Try.func17, Try.ntmps17
    go_wp2_with fail
    refine hf.mono ?_
    rintro e w1 ⟨rfl, rfl⟩
    go_wp2_with fail
    go_ret
    exact ⟨rfl, HT.out⟩
  · rw [if_neg hi] at hf
    rw [decide_eq_false hi, List.filter_eq_self.2 (fun z hz => by simpa using (fun q => hi (by rw [← q]; exact hz) : z ≠ id))]
    have HT := Aside0.mk h
    clear h hi
    go_enter Try.func17, Try.ntmps17
    go_wp2_with fail
    refine hf.mono ?_
    rintro e w1 ⟨rfl, rfl⟩
    go_wp2_with fail
    go_ret
    exact ⟨rfl, HT.out⟩
/-- A transaction that has just begun. -/
def tx0 : TX := ⟨0, 0, 0, 0, .slice none 0 0⟩
/-- What Open does. -/
def Opened (w0 : Wb) (w' : World) (t mb : Nat) (bx : Int → Nat) (ks : List Int) (X : Int → TX) (id : Int) (e : Ending) : Prop :=
  (((id < 1 ∨ 1073741824 < id) ∧ e = .returned (.int .i64 1) ∧ Tab w0 w' t mb bx ks X) ∨ ((1 ≤ id ∧ id ≤ 1073741824) ∧ id ∈ ks ∧ e = .returned (.int .i64 9) ∧ Tab w0 w' t mb bx ks X)) ∨
    ((1 ≤ id ∧ id ≤ 1073741824) ∧ id ∉ ks ∧ e = .returned (.int .i64 0) ∧ ∃ bx', Tab w0 w' t mb bx' (ks ++ [id]) (fun y => if y = id then tx0 else X y))
set_option maxRecDepth 100000 in
set_option maxHeartbeats 1000000 in
theorem tabopen (w0 : Wb) (w : World) (t mb : Nat) (bx : Int → Nat) (ks : List Int) (X : Int → TX) (id : Int) (h : Tab w0 w t mb bx ks X) :
    Calls Try.prog 9 #[.pointer (some ⟨t, 0, none⟩), .int .i64 id] w fun e w' => Opened w0 w' t mb bx ks X id e := by
  have hc := blk_cell h.box 0
  have hl := h.look id
  have HT := Aside0.mk h
  by_cases h1 : 1 ≤ id
  · have d1 : decide (id < 1) = false := by simp; omega
    by_cases h2 : id ≤ 1073741824
    · have d2 : decide (1073741824 < id) = false := by simp; omega
      by_cases hi : id ∈ ks
      · rw [if_pos hi] at hl
        unfold ptrs at hl
        have HI := Aside0.mk hi
        have H12 := Aside0.mk (And.intro h1 h2)
        clear h hi h1 h2
        go_enter Try.func9, Try.ntmps9
        go_wp2_with fail
        go_ret
        exact .inl (.inr ⟨H12.out, HI.out, rfl, HT.out⟩)
      · rw [if_neg hi] at hl
        have HI := Aside0.mk hi
        have H12 := Aside0.mk (And.intro h1 h2)
        obtain ⟨w1, hp, ht, _⟩ := (h.next (below_alloc (Below.refl _ w) (.cells (txV id tx0) 74))).put id hi w.heap.size tx0 (heap_alloc_new w _) (fun y hy => by have := h.lt y hy; omega) (.inl h.bel.size)
        have HTN := Aside0.mk ht
        have hp' : (Instr.mapUpdate 69 (.map (some mb)) (.int .i64 id) (.pointer (some ⟨w.heap.size, 0, none⟩))).run Try.prog (w.alloc (.cells #[.int .i64 id, .int .i64 0, .int .u64 0, .int .u64 0, .int .i64 0, .slice none 0 0] 74)) = .ok () w1 := hp
        clear h hi h1 h2 hp ht
        go_enter Try.func9, Try.ntmps9
        go_wp2_with fail
        go_ret
        exact .inr ⟨H12.out, HI.out, rfl, _, HTN.out⟩
    · have d2 : decide (1073741824 < id) = true := by simp; omega
      have H2 := Aside0.mk h2
      clear h h1 h2 hl
      go_enter Try.func9, Try.ntmps9
      go_wp2_with fail
      go_ret
      exact .inl (.inl ⟨.inr (by have := H2.out; omega), rfl, HT.out⟩)
  · have d1 : decide (id < 1) = true := by simp; omega
    have H1 := Aside0.mk h1
    clear h h1 hl
    go_enter Try.func9, Try.ntmps9
    go_wp2_with fail
    go_ret
    exact .inl (.inl ⟨.inl (by have := H1.out; omega), rfl, HT.out⟩)
end Go.Proofs.Yteaklmafjmnmiaa
