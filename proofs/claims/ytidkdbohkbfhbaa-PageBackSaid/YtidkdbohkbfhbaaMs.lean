/- A map of texts to bools: what was seen (page's right). -/
import Derived.Test.YtidkdbohkbfhbaaPg
import Derived.ProofKit
import Derived.MapKept
import Derived.Maps.Keyed
import Derived.ChangeMaps5
namespace Go.Proofs.Ytidkdbohkbfhbaa
open Go.RowKit Go.Proofs.YtidkdbohkbfhbaaW.PrintWords Go.Proofs.YtidkdbohkbfhbaaW.PrintLast Go.Proofs.YtidkdbohkbfhbaaW.PrintMore
open Rf Go.ChangeMaps
set_option linter.unusedVariables false
set_option linter.unusedSimpArgs false
theorem isKey_str (s : ByteArray) : MapKept.IsKey .string (.string s) := by simp [MapKept.IsKey]
/-- The map in block b tells of each key whether a used cell of cs has it. -/
structure SeenM (es : Array MapEntry) (cs : List SGCell) : Prop where
  keys : ∀ x ∈ es.toList, ∃ s v, x.key = .string s ∧ x.val = .bool v ∧ (v = true ↔ ∃ c ∈ cs, c.f0 = true ∧ c.f1 = s)
  all : ∀ c ∈ cs, c.f0 = true → ∃ x ∈ es.toList, x.key = .string c.f1
  uniq : es.toList.Pairwise fun x y => x.key ≠ y.key
theorem SeenM.nil : SeenM #[] [] := ⟨by simp, by simp, by simp⟩
section
variable {P : Program} {w : World} {b : Nat} {es : Array MapEntry} {clock : Nat} {t k e : TypeId} {cs : List SGCell}
theorem SeenM.isKey (h : SeenM es cs) : ∀ x ∈ es.toList, MapKept.IsKey .string x.key := fun x hx => by
  obtain ⟨s, v, h1, _⟩ := h.keys x hx
  rw [h1]; exact isKey_str s
theorem SeenM.look (h : SeenM es cs) (ht : P.underlying t = some (.map k e)) (hk : P.underlying k = some .string) (hb : w.heap[b]? = some (.map es clock)) (hz : (zeroValue e).run P w = .ok (.bool false) w) (s : ByteArray) :
    ∃ v, (Instr.lookup t (.map (some b)) (.string s) false).run P w = .ok (.bool v) w ∧ (v = true ↔ ∃ c ∈ cs, c.f0 = true ∧ c.f1 = s) := by
  rcases MapKept.findNow_spec (isKey_str s) es.toList 0 h.isKey with ⟨h1, h2⟩ | ⟨j, x, h1, h2, h3⟩
  · refine ⟨false, ?_, ⟨fun hf => absurd hf (by decide), fun ⟨c, hc, hu, he⟩ => ?_⟩⟩
    · simp [Instr.lookup, run_underlying ht, MapKept.run_getObj_map hb, MapKept.run_checkKey hk (isKey_str s), MapKept.run_findKey hk h1, Result.andThen, hz]
    · obtain ⟨x, hx, hxk⟩ := h.all c hc hu
      exact absurd (by rw [hxk, he]) (h2 x hx)
  · obtain ⟨s', v, e1, e2, e3⟩ := h.keys x (List.mem_iff_getElem?.2 ⟨j, h2⟩)
    rw [e1] at h3
    have hs : s' = s := by injection h3
    subst hs
    rw [e2] at h1
    refine ⟨v, ?_, e3⟩
    simp [Instr.lookup, run_underlying ht, MapKept.run_getObj_map hb, MapKept.run_checkKey hk (isKey_str _), MapKept.run_findKey hk h1, Result.andThen]
theorem SeenM.put (h : SeenM es cs) (ht : P.underlying t = some (.map k e)) (hk : P.underlying k = some .string) (hb : w.heap[b]? = some (.map es clock)) (c : SGCell) (hnew : ∀ d ∈ cs, d.f0 = true → d.f1 ≠ c.f1) :
    ∃ es' clock', (Instr.mapUpdate t (.map (some b)) (.string c.f1) (.bool c.f0)).run P w = .ok () (setBlock w b (.map es' clock')) ∧ SeenM es' (cs ++ [c]) := by
  have hother : ∀ s, s ≠ c.f1 → ((∃ d ∈ cs, d.f0 = true ∧ d.f1 = s) ↔ ∃ d ∈ cs ++ [c], d.f0 = true ∧ d.f1 = s) := fun s hs => by
    constructor
    · rintro ⟨d, hd, hu, he⟩
      exact ⟨d, List.mem_append_left _ hd, hu, he⟩
    · rintro ⟨d, hd, hu, he⟩
      rcases List.mem_append.1 hd with hd | hd
      · exact ⟨d, hd, hu, he⟩
      · rw [List.mem_singleton.1 hd] at he
        exact absurd he.symm hs
  have hself : c.f0 = true ↔ ∃ d ∈ cs ++ [c], d.f0 = true ∧ d.f1 = c.f1 := by
    constructor
    · intro hu
      exact ⟨c, by simp, hu, rfl⟩
    · rintro ⟨d, hd, hu, he⟩
      rcases List.mem_append.1 hd with hd | hd
      · exact absurd he (hnew d hd hu)
      · rw [List.mem_singleton.1 hd] at hu
        exact hu
  rcases MapKept.findNow_spec (isKey_str c.f1) es.toList 0 h.isKey with ⟨h1, h2⟩ | ⟨j, x, h1, h2, h3⟩
  · refine ⟨es.push ⟨.string c.f1, .bool c.f0, clock⟩, clock + 1, ?_, ?_, ?_, ?_⟩
    · simp [setBlock, Instr.mapUpdate, run_underlying ht, MapKept.run_getObj_map hb, MapKept.run_checkKey hk (isKey_str c.f1), MapKept.run_findKey hk h1, MapKept.run_setObj_map _ hb, Result.andThen]
    · intro y hy
      rw [Array.toList_push] at hy
      rcases List.mem_append.1 hy with hy | hy
      · obtain ⟨s, v, e1, e2, e3⟩ := h.keys y hy
        exact ⟨s, v, e1, e2, e3.trans (hother s (fun hs => h2 y hy (by rw [e1, hs])))⟩
      · rw [List.mem_singleton.1 hy]
        exact ⟨c.f1, c.f0, rfl, rfl, hself⟩
    · intro d hd hu
      rw [Array.toList_push]
      rcases List.mem_append.1 hd with hd | hd
      · obtain ⟨y, hy, hyk⟩ := h.all d hd hu
        exact ⟨y, List.mem_append_left _ hy, hyk⟩
      · rw [List.mem_singleton.1 hd]
        exact ⟨_, List.mem_append_right _ (List.mem_singleton.2 rfl), rfl⟩
    · rw [Array.toList_push, List.pairwise_append]
      exact ⟨h.uniq, by simp, fun y hy z hz => by rw [List.mem_singleton.1 hz]; exact h2 y hy⟩
  · have hj : es[j]? = some x := by simpa using h2
    obtain ⟨s', v, e1, e2, e3⟩ := h.keys x (List.mem_iff_getElem?.2 ⟨j, h2⟩)
    have hsets : ∀ (i : Nat) (y : MapEntry), es.toList[i]? = some y → i ≠ j → y.key ≠ .string c.f1 := fun i y hy hne he => by
      obtain ⟨hi, ei⟩ := List.getElem?_eq_some_iff.1 hy
      obtain ⟨hjl, ej⟩ := List.getElem?_eq_some_iff.1 h2
      have hu := List.pairwise_iff_getElem.1 h.uniq
      rcases Nat.lt_or_gt_of_ne hne with hlt | hlt
      · exact hu i j hi hjl hlt (by rw [ei, ej, he, h3])
      · exact hu j i hjl hi hlt (by rw [ei, ej, he, h3])
    refine ⟨es.modify j fun e' => { e' with key := .string c.f1, val := .bool c.f0 }, clock, ?_, ?_, ?_, ?_⟩
    · simp [setBlock, Instr.mapUpdate, run_underlying ht, MapKept.run_getObj_map hb, MapKept.run_checkKey hk (isKey_str c.f1), MapKept.run_findKey hk h1, hj, h3, MapKept.run_keyThatStays (isKey_str c.f1), MapKept.run_setObj_map _ hb, Result.andThen]
    · intro y hy
      obtain ⟨i, hi⟩ := List.mem_iff_getElem?.1 hy
      rw [Array.toList_modify, List.getElem?_modify] at hi
      by_cases hij : j = i
      · subst hij
        simp [h2] at hi
        subst hi
        exact ⟨c.f1, c.f0, rfl, rfl, hself⟩
      · have hi2 : es.toList[i]? = some y := by simp [hij] at hi; simpa using hi
        obtain ⟨s, v, q1, q2, q3⟩ := h.keys y (List.mem_iff_getElem?.2 ⟨i, hi2⟩)
        exact ⟨s, v, q1, q2, q3.trans (hother s (fun hs => hsets i y hi2 (fun q => hij q.symm) (by rw [q1, hs])))⟩
    · intro d hd hu
      have key : ∀ (i : Nat) (y : MapEntry), es.toList[i]? = some y → ∃ z ∈ (es.modify j fun e' => { e' with key := .string c.f1, val := .bool c.f0 }).toList, z.key = y.key := fun i y hy => by
        by_cases hij : j = i
        · subst hij
          rw [h2] at hy
          cases hy
          refine ⟨{ x with key := .string c.f1, val := .bool c.f0 }, List.mem_iff_getElem?.2 ⟨j, ?_⟩, by rw [h3]⟩
          rw [Array.toList_modify, List.getElem?_modify, h2]
          simp
        · refine ⟨y, List.mem_iff_getElem?.2 ⟨i, ?_⟩, rfl⟩
          rw [Array.toList_modify, List.getElem?_modify, hy]
          simp [hij]
      rcases List.mem_append.1 hd with hd | hd
      · obtain ⟨y, hy, hyk⟩ := h.all d hd hu
        obtain ⟨i, hi⟩ := List.mem_iff_getElem?.1 hy
        obtain ⟨z, hz, hzk⟩ := key i y hi
        exact ⟨z, hz, by rw [hzk, hyk]⟩
      · rw [List.mem_singleton.1 hd]
        obtain ⟨z, hz, hzk⟩ := key j x h2
        exact ⟨z, hz, by rw [hzk, h3]⟩
    · have hk' : (es.modify j fun e' => { e' with key := .string c.f1, val := .bool c.f0 }).toList.map (·.key) = es.toList.map (·.key) := by
        apply List.ext_getElem?
        intro i
        rw [Array.toList_modify, List.getElem?_map, List.getElem?_map, List.getElem?_modify]
        by_cases hij : j = i
        · subst hij
          simp [h2, h3]
        · simp [hij]
      have hu := List.pairwise_map.2 h.uniq
      rw [← hk'] at hu
      exact List.pairwise_map.1 hu
end
end Go.Proofs.Ytidkdbohkbfhbaa
