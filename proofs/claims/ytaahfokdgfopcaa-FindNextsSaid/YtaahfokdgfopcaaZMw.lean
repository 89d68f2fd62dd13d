/- A map with values: 'm[x] = v' of a key that is there or not; 'v, ok := m[x]'. -/
import Derived.Test.YtaahfokdgfopcaaZMv
namespace Go.Proofs.Ytaahfokdgfopcaa.MapV
open Go Go.RowKit Go.ChangeMaps
open MapL (KeyT keyT_int keyT_string)
set_option linter.unusedVariables false
set_option linter.unusedSimpArgs false
section
variable {P : Program} {w w' : World} {b : Nat} {t k e : TypeId} {α : Type} {tk f : α → Value} {ks : List α}
theorem nodup_idx {β : Type} {l : List β} (h : l.Nodup) {i j : Nat} {x : β} (hi : l[i]? = some x) (hj : l[j]? = some x) : i = j := by
  have h1 := (List.getElem?_eq_some_iff.1 hi)
  have h2 := (List.getElem?_eq_some_iff.1 hj)
  obtain ⟨l1, e1⟩ := h1
  obtain ⟨l2, e2⟩ := h2
  have hp := List.pairwise_iff_getElem.1 h
  rcases Nat.lt_trichotomy i j with hij | hij | hij
  · exact absurd (e1.trans e2.symm) (hp i j l1 l2 hij)
  · exact hij
  · exact absurd (e2.trans e1.symm) (hp j i l2 l1 hij)
/-- 'm[x] = v' of a key that is there. -/
theorem MapAt.set [DecidableEq α] (h : MapAt tk f w b ks) (K : KeyT P k tk) (ht : P.underlying t = some (.map k e)) (x : α) (hx : x ∈ ks) (v : Value) :
    ∃ w', (Instr.mapUpdate t (.map (some b)) (tk x) v).run P w = .ok () w' ∧ MapAt tk (upd f x v) w' b ks ∧ w.grownBy w' (some b) ∧ w'.heap.size = w.heap.size := by
  obtain ⟨es, clock, hb, hE⟩ := h
  rcases hE.find K w x with ⟨h1, h2⟩ | ⟨j, e0, h1, h2, h3, h4, h5⟩
  · exact absurd hx h1
  · have hj : es[j]? = some e0 := by simpa using h2
    have hget : ∀ i, (es.modify j fun e' => { e' with key := tk x, val := v }).toList[i]? = if i = j then some { e0 with key := tk x, val := v } else es.toList[i]? := by
      intro i
      rw [Array.getElem?_toList, Array.getElem?_modify, Array.getElem?_toList]
      by_cases hij : j = i
      · subst hij; rw [hj]; simp
      · rw [if_neg hij, if_neg (fun q => hij q.symm)]
    have hkeys : (es.modify j fun e' => { e' with key := tk x, val := v }).toList.map (·.key) = es.toList.map (·.key) := by
      apply List.ext_getElem?
      intro i
      rw [List.getElem?_map, List.getElem?_map, hget]
      by_cases hij : i = j
      · subst hij; rw [if_pos rfl, h2]; simp [h4]
      · rw [if_neg hij]
    have hborn : (es.modify j fun e' => { e' with key := tk x, val := v }).toList.map (·.born) = es.toList.map (·.born) := by
      apply List.ext_getElem?
      intro i
      rw [List.getElem?_map, List.getElem?_map, hget]
      by_cases hij : i = j
      · subst hij; rw [if_pos rfl, h2]; simp
      · rw [if_neg hij]
    refine ⟨setBlock w b (.map (es.modify j fun e' => { e' with key := tk x, val := v }) clock), ?_, ?_, ?_, by simp [setBlock]⟩
    · simp [setBlock, Instr.mapUpdate, run_underlying ht, MapKept.run_getObj_map hb, K.check, h5, hj, h4, Instr.keyThatStays, K.stay, MapKept.run_setObj_map _ hb, Result.andThen]
    · refine ⟨_, clock, heap_setBlock_same hb _, ?_⟩
      refine ⟨hkeys.trans hE.keys, hE.nodup, ?_, ?_, by rw [hborn]; exact hE.bnd⟩
      · intro y hy z hz
        obtain ⟨i, hi⟩ := List.mem_iff_getElem?.1 hy
        rw [hget] at hi
        by_cases hij : i = j
        · rw [if_pos hij] at hi
          have hi := Option.some.inj hi
          subst hi
          have : x = z := K.inj _ _ hz
          unfold upd
          rw [if_pos this.symm]
        · rw [if_neg hij] at hi
          have hm := List.mem_iff_getElem?.2 ⟨i, hi⟩
          have hne : z ≠ x := by
            rintro rfl
            have hk : (ks.map tk)[i]? = some (tk z) := by rw [← hE.keys, List.getElem?_map, hi, ← hz]; rfl
            rw [List.getElem?_map] at hk
            cases hki : ks[i]? with
            | none => rw [hki] at hk; cases hk
            | some u =>
              rw [hki] at hk
              have : u = z := K.inj _ _ (Option.some.inj hk)
              subst this
              exact hij (nodup_idx hE.nodup hki h3)
          unfold upd
          rw [if_neg hne]
          exact hE.vals y hm z hz
      · intro y hy
        have : y.born ∈ es.toList.map (·.born) := by rw [← hborn]; exact List.mem_map.2 ⟨y, hy, rfl⟩
        obtain ⟨u, hu, q⟩ := List.mem_map.1 this
        rw [← q]; exact hE.born u hu
    · exact ⟨rfl, rfl, rfl, by simp [setBlock], fun k _ hk => heap_setBlock_other hb _ (fun e => hk (by rw [e]))⟩
/-- 'm[x] = v'. -/
theorem MapAt.any [DecidableEq α] (h : MapAt tk f w b ks) (K : KeyT P k tk) (ht : P.underlying t = some (.map k e)) (x : α) (v : Value) :
    ∃ w', (Instr.mapUpdate t (.map (some b)) (tk x) v).run P w = .ok () w' ∧ MapAt tk (upd f x v) w' b (if x ∈ ks then ks else ks ++ [x]) ∧ w.grownBy w' (some b) ∧ w'.heap.size = w.heap.size := by
  by_cases hx : x ∈ ks
  · rw [if_pos hx]; exact h.set K ht x hx v
  · rw [if_neg hx]; exact h.put K ht x hx v
/-- 'v, ok := m[x]'. -/
theorem MapAt.lookOk {z : Value} [DecidableEq α] (h : MapAt tk f w b ks) (K : KeyT P k tk) (ht : P.underlying t = some (.map k e)) (hz : (zeroValue e).run P w = .ok z w) (x : α) :
    (Instr.lookup t (.map (some b)) (tk x) true).run P w = .ok (if x ∈ ks then .tuple #[f x, .bool true] else .tuple #[z, .bool false]) w := by
  obtain ⟨es, clock, hb, hE⟩ := h
  rcases hE.find K w x with ⟨h1, h2⟩ | ⟨j, e, h1, h2, h3, h4, h5⟩
  · simp [Instr.lookup, run_underlying ht, MapKept.run_getObj_map hb, K.check, h2, Result.andThen, hz, h1]
  · simp [Instr.lookup, run_underlying ht, MapKept.run_getObj_map hb, K.check, h5, Result.andThen, h1]
theorem MapAt.congr {g : α → Value} (h : MapAt tk f w b ks) (he : ∀ x, g x = f x) : MapAt tk g w b ks := by
  have : g = f := funext he
  subst this
  exact h
end
end Go.Proofs.Ytaahfokdgfopcaa.MapV
