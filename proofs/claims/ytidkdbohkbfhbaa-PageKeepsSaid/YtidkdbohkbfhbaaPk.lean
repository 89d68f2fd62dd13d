/- PageKeeps, the plain law: a page whose slots are all used is a map. -/
import Derived.Test.YtidkdbohkbfhbaaPv
import Derived.Test.YtidkdbohkbfhbaaWq
namespace Go.Proofs.Ytidkdbohkbfhbaa
open Go.RowKit
open Rf
set_option linter.unusedVariables false

def pr (c : SGCell) : SGPair := ⟨c.f1, c.f2⟩
theorem prs_map {cs : List SGCell} (h : Used cs) : prs cs = cs.map pr := by
  unfold prs
  rw [List.filter_eq_self.mpr h]
  rfl
theorem prs_length {cs : List SGCell} (h : Used cs) : (prs cs).length = cs.length := by rw [prs_map h, List.length_map]
theorem rd_prs {cs : List SGCell} (h : Used cs) (k : Nat) (hk : k < cs.length) : rd_TGPair (prs cs) k = ⟨(rd_TGCell cs k).f1, (rd_TGCell cs k).f2⟩ := by
  rw [rd_get cs k hk, prs_map h]
  unfold rd_TGPair
  rw [Int.toNat_natCast, List.getD_eq_getElem?_getD, List.getElem?_map, List.getElem?_eq_getElem hk]
  rfl
/-- Where the key stands, of the first k. -/
def atk (cs : List SGCell) (key : ByteArray) (k : Nat) : Int := if fnd cs key < k then fnd cs key else -1
theorem fnd_neg {cs : List SGCell} {key : ByteArray} (h : fnd cs key < 0) : fnd cs key = -1 := by have := fnd_or cs key; omega
theorem atk_zero (cs : List SGCell) (key : ByteArray) : atk cs key 0 = -1 := by
  unfold atk
  split
  · rename_i h; exact fnd_neg (by omega)
  · rfl
theorem atk_full (cs : List SGCell) (key : ByteArray) : atk cs key cs.length = fnd cs key := by
  unfold atk
  rw [if_pos]
  have := fnd_lt cs key
  omega
theorem fnd_at {cs : List SGCell} (hv : Valid cs) (hu : Used cs) (key : ByteArray) (k : Nat) (hk : k < cs.length) : (rd_TGCell cs k).f1 = key ↔ fnd cs key = k := by
  rw [rd_get cs k hk]
  constructor
  · intro e
    have h0 : 0 ≤ fnd cs key := by
      apply Decidable.byContradiction
      intro hn
      exact fnd_none cs key (by omega) cs[k] (List.getElem_mem hk) (hu _ (List.getElem_mem hk)) e
    obtain ⟨j, hj, ej, huj, hkj⟩ := fnd_hit cs key h0
    rw [ej]
    by_cases hjk : j = k
    · rw [hjk]
    · exact absurd (hkj.trans e.symm) (pw_get hv.once j k hj hk hjk huj (hu _ (List.getElem_mem hk)))
  · intro e
    obtain ⟨j, hj, ej, huj, hkj⟩ := fnd_hit cs key (by omega)
    have : j = k := by omega
    subst this
    exact hkj
theorem atk_hit {cs : List SGCell} (hv : Valid cs) (hu : Used cs) (key : ByteArray) (k : Nat) (hk : k < cs.length) (e : ((rd_TGCell cs k).f1.toList == key.toList) = true) : atk cs key (k + 1) = k := by
  have e1 : (rd_TGCell cs k).f1 = key := by rw [beq_toList] at e; simpa using e
  have := (fnd_at hv hu key k hk).1 e1
  unfold atk
  rw [this, if_pos (by omega)]
theorem atk_miss {cs : List SGCell} (hv : Valid cs) (hu : Used cs) (key : ByteArray) (k : Nat) (hk : k < cs.length) (e : ((rd_TGCell cs k).f1.toList == key.toList) = false) : atk cs key (k + 1) = atk cs key k := by
  have e1 : ¬ (rd_TGCell cs k).f1 = key := by rw [beq_toList] at e; simpa using e
  have e2 : ¬ fnd cs key = k := fun h => e1 ((fnd_at hv hu key k hk).2 h)
  unfold atk
  split
  · rw [if_pos (by omega)]
  · rename_i h
    rw [if_neg (by omega)]
theorem fnd_own {cs : List SGCell} (hv : Valid cs) (hu : Used cs) (k : Nat) (hk : k < cs.length) : fnd cs (rd_TGCell cs k).f1 = k := (fnd_at hv hu _ k hk).1 rfl

theorem ins_cases {cs : List SGCell} (hu : Used cs) (key value : ByteArray) :
    ((ins cs key value).2 = 0 ∧ fnd cs key = -1 ∧ (ins cs key value).1 = cs ++ [cel key value]) ∨ ((ins cs key value).1 = cs ∧ (ins cs key value).2 ≠ 0 ∧ ((ins cs key value).2 = 9 → 0 ≤ fnd cs key)) := by
  unfold ins
  split
  · split
    · rename_i h; exact .inr ⟨rfl, by simp, fun _ => h⟩
    · rename_i hf
      split
      · exact .inr ⟨rfl, by simp, fun h => by simp at h⟩
      · refine .inl ⟨rfl, fnd_neg (by omega), ?_⟩
        unfold insAt
        rw [if_pos hu.frs]
  · exact .inr ⟨rfl, by simp, fun h => by simp at h⟩
theorem upd_cases {cs : List SGCell} (key value : ByteArray) :
    (∃ j : Nat, (upd cs key value).2 = 0 ∧ fnd cs key = j ∧ j < cs.length ∧ (upd cs key value).1 = updAt cs j value) ∨ ((upd cs key value).1 = cs ∧ (upd cs key value).2 ≠ 0 ∧ ((upd cs key value).2 = 8 → fnd cs key = -1)) := by
  unfold upd
  split
  · split
    · rename_i h; exact .inr ⟨rfl, by simp, fun _ => fnd_neg h⟩
    · rename_i hf
      split
      · exact .inr ⟨rfl, by simp, fun h => by simp at h⟩
      · have h1 := fnd_lt cs key
        exact .inl ⟨(fnd cs key).toNat, rfl, by omega, by omega, rfl⟩
  · exact .inr ⟨rfl, by simp, fun h => by simp at h⟩
theorem del_cases {cs : List SGCell} (hu : Used cs) (key : ByteArray) :
    (∃ j : Nat, (del cs key).2 = 0 ∧ fnd cs key = j ∧ j < cs.length ∧ (del cs key).1 = delAt cs j) ∨ ((del cs key).1 = cs ∧ (del cs key).2 = 8 ∧ fnd cs key = -1) := by
  unfold del
  split
  · rename_i h; exact .inr ⟨rfl, rfl, fnd_neg h⟩
  · rename_i hf
    have h1 := fnd_lt cs key
    exact .inl ⟨(fnd cs key).toNat, rfl, by omega, by omega, trim_used _ (hu.sub (delAt_sub _ _))⟩
theorem prs_snoc {cs : List SGCell} (hu : Used cs) (key value : ByteArray) : prs (cs ++ [cel key value]) = prs cs ++ [⟨key, value⟩] := by
  unfold prs
  simp [cel]
theorem prs_upd {cs : List SGCell} (hu : Used cs) (j : Nat) (hj : j < cs.length) (value : ByteArray) : prs (updAt cs j value) = (prs cs).set j ⟨(rd_TGPair (prs cs) j).f0, value⟩ := by
  have hu2 : Used (updAt cs j value) := by
    unfold updAt
    intro c hc
    rcases List.mem_or_eq_of_mem_set hc with hc | rfl
    · exact hu c hc
    · exact hu (rd_TGCell cs j) (rd_mem cs j hj)
  rw [prs_map hu2, rd_prs hu j hj, prs_map hu]
  unfold updAt
  rw [List.map_set]
  rfl
theorem prs_del {cs : List SGCell} (hu : Used cs) (j : Nat) : prs (delAt cs j) = (prs cs).take j ++ (prs cs).drop (j + 1) := by
  rw [prs_map (hu.sub (delAt_sub _ _)), prs_map hu]
  unfold delAt
  rw [List.map_append, List.map_take, List.map_drop]
theorem Used.nil : Used [] := fun _ h => by simp at h
end Go.Proofs.Ytidkdbohkbfhbaa
