/- A row of pairs as sort.Slice sees it, and back. -/
import Derived.Test.YtidkdbohkbfhbaaWs
import Derived.Sort.OwnSorted
namespace Go.Proofs.Ytidkdbohkbfhbaa
open Go.Shelf Go.RowKit Go.Lib Go.Sort Go.Proofs
open Go.Proofs.YtidkdbohkbfhbaaW.PrintWords Go.Proofs.YtidkdbohkbfhbaaW.PrintLast Go.Proofs.YtidkdbohkbfhbaaW.PrintMore
open Rf
set_option linter.unusedVariables false
set_option linter.unusedSimpArgs false

def flatP (l : List SGPair) : List Value := l.flatMap encP
theorem flatP_length (l : List SGPair) : (flatP l).length = l.length * 2 := by
  induction l with
  | nil => rfl
  | cons c l ih => have h : (List.flatMap encP l).length = l.length * 2 := ih; simp only [flatP, List.flatMap_cons, List.length_append, List.length_cons, h]; simp [encP]; omega
theorem flatP_get (l : List SGPair) (t : Nat) (h : t < l.length * 2) : (flatP l)[t]? = some ((encP (l[t / 2]'(by omega)))[t % 2]!) := by
  induction l generalizing t with
  | nil => simp at h
  | cons c l ih =>
    rcases t with _ | _ | t
    · rfl
    · rfl
    · have h2 : t < l.length * 2 := by simp at h; omega
      have e1 : (t + 1 + 1) / 2 = t / 2 + 1 := by omega
      have e2 : (t + 1 + 1) % 2 = t % 2 := by omega
      have hh := ih t h2
      show (flatP l)[t]? = _
      rw [hh]
      simp only [e1, e2, List.getElem_cons_succ]
theorem flatK_toList (d : Array SGPair) : (flatK encP 2 d).toList = flatP d.toList := by
  apply List.ext_getElem?
  intro t
  by_cases ht : t < d.size * 2
  · have h1 := get_flatK encP 2 d t ht
    have hl : t < (flatK encP 2 d).size := by simpa using ht
    rw [getElem!_pos _ t hl] at h1
    rw [flatP_get d.toList t (by simpa using ht), Array.getElem?_toList, Array.getElem?_eq_getElem hl, h1]
    congr 2
    rw [getElem!_pos d (t / 2) (by omega)]
    simp
  · rw [List.getElem?_eq_none (by simp; omega), List.getElem?_eq_none (by rw [flatP_length]; simp; omega)]
theorem take_putId (cur F : Array Value) (h : F.size ≤ cur.size) : (putCells id 0 F cur).toList.take F.size = F.toList := by
  apply List.ext_getElem?
  intro j
  by_cases hj : j < F.size
  · rw [List.getElem?_take_of_lt hj, Array.getElem?_toList]
    simp [putCells, hj, show j < cur.size by omega]
  · rw [List.getElem?_take_eq_none (by omega), List.getElem?_eq_none (by simp; omega)]
theorem heap_put {w : World} {g n : Nat} {e : TypeId} {cur : Array Value} (d : Array SGPair) (os : Array Obj) (hb : w.heap[g]? = some (.cells cur e (0, 0))) :
    (grow (putRowK encP 2 (Sort.ahead w n) g 0 d) os).heap[g]? = some (.cells (putCells id 0 (flatK encP 2 d) cur) e (0, 0)) := by
  have hlt : g < w.heap.size := (Array.getElem?_eq_some_iff.1 hb).1
  rw [heap_grow_old _ _ (by simpa [putRowK, putRow, mapBlock, Sort.ahead] using hlt)]
  simp [putRowK, putRow, mapBlock, Sort.ahead, Array.getElem?_modify, hb, onCells]
theorem owns_sorted {w : World} {base g cap n m : Nat} {e : TypeId} (d d' : Array SGPair) (os : Array Obj) (hs : d'.size = d.size) (h : w.ownsRow base e 2 (.slice (some ⟨g, 0, none⟩) n cap) n (flatP d.toList)) (hn : n = d.size) (hp : 0 < n) :
    (grow (putRowK encP 2 (Sort.ahead w m) g 0 d') os).ownsRow base e 2 (.slice (some ⟨g, 0, none⟩) n cap) n (flatP d'.toList) := by
  obtain ⟨hl, h⟩ := h
  rcases h with ⟨_, h0⟩ | ⟨g', cap', cur, he, hb, hg, h1, h2, h3, h4⟩
  · omega
  · injection he with e1 _ e3
    injection e1 with e1
    injection e1 with e1 _ _
    subst e1; subst e3
    refine ⟨by rw [flatP_length]; simp [hs, hn], .inr ⟨g, cap, _, rfl, hb, heap_put d' os hg, h1, h2, by simp [putCells, h3], ?_⟩⟩
    rw [← flatK_toList, ← take_putId cur (flatK encP 2 d') (by simp [hs, h3]; omega)]
    congr 1
    simp [hs, hn]
theorem reps_flatP {R : SGPair → List Value → Prop} (hR : ∀ p c, R p c → c = encP p) (cs : List SGPair) (xs : List Value) (h : Reps R 2 cs xs) : xs = flatP cs := by
  induction cs generalizing xs with
  | nil => have := h.1; simp at this; subst this; rfl
  | cons c cs ih =>
    have h0 := hR _ _ (h.2 0 c rfl)
    simp only [Nat.zero_mul, List.drop_zero] at h0
    have hl := h.1
    simp only [List.length_cons] at hl
    have h1 : Reps R 2 cs (xs.drop 2) := by
      refine ⟨by rw [List.length_drop]; omega, fun j p hj => ?_⟩
      have := h.2 (j + 1) p hj
      rw [List.drop_drop]
      rw [Nat.add_mul, Nat.add_comm] at this
      exact this
    rw [← List.take_append_drop 2 xs, h0, ih _ h1]
    rfl
theorem flatP_drop (cs : List SGPair) (k : Nat) (hk : k ≤ cs.length) : flatP (cs.drop k) = (flatP cs).drop (k * 2) := by
  have h : flatP cs = flatP (cs.take k) ++ flatP (cs.drop k) := by simp only [flatP]; rw [← List.flatMap_append, List.take_append_drop]
  rw [h, List.drop_left' (by rw [flatP_length, List.length_take]; congr 1; omega)]
theorem flatP_reps {R : SGPair → List Value → Prop} (hR : ∀ p, R p (encP p)) (cs : List SGPair) : Reps R 2 cs (flatP cs) := by
  refine ⟨flatP_length cs, fun j p hj => ?_⟩
  obtain ⟨hl, hp⟩ := List.getElem?_eq_some_iff.1 hj
  rw [← flatP_drop cs j (by omega), List.drop_eq_getElem_cons hl]
  show R p ((encP cs[j] ++ flatP (cs.drop (j + 1))).take 2)
  rw [hp]
  exact hR p
theorem RP_flat {e : TypeId} {w : World} {base : Nat} {ok : Nat → Prop} {v : Value} {cs : List SGPair} (h : Kd.R kGPair e w base ok v cs) : w.ownsRow base e 2 v cs.length (flatP cs) := by
  obtain ⟨_, inner, ho, hr⟩ := h
  have := reps_flatP (fun p c hc => kGPair_openM hc) cs inner hr
  subst this
  exact ho
theorem RP_of_flat {e : TypeId} {w : World} {base : Nat} {ok : Nat → Prop} {v : Value} {cs : List SGPair} (hok : ∀ k, v.ownBlock = some k → ok k) (h : w.ownsRow base e 2 v cs.length (flatP cs)) : Kd.R kGPair e w base ok v cs :=
  ⟨hok, flatP cs, h, flatP_reps (fun p => kGPair_mkM _ _ _ p) cs⟩
/-- The row that is sorted holds what is asked. -/
theorem holds_of_R {e : TypeId} {w : World} {base g n cap : Nat} {ok : Nat → Prop} {l : List SGPair} (h : Kd.R kGPair e w base ok (.slice (some ⟨g, 0, none⟩) n cap) l) : HoldsK encP 2 w g 0 l.toArray := by
  have hn := (Kd.R_reads' h).1
  intro t ht
  have ht2 : t < l.length * 2 := by simpa using ht
  obtain ⟨c, hc, hM, hcell, hfr⟩ := Kd.R_elem h zGPair ((t / 2 : Nat) : Int) (by omega) (by omega)
  have hsz : kGPair.sz = 2 := rfl
  rw [Int.toNat_natCast, hsz] at hcell hfr
  rw [Int.toNat_natCast] at hM
  have hce := kGPair_openM hM
  have e1 : l.getD (t / 2) zGPair = l.toArray[t / 2]! := by
    rw [getElem!_pos _ _ (by simpa using (by omega : t / 2 < l.length))]
    simp [List.getD_eq_getElem?_getD, List.getElem?_eq_getElem (by omega : t / 2 < l.length)]
  have e2 : t / 2 * 2 + t % 2 = t := by omega
  have h1 := hcell (t % 2) ((encP l.toArray[t / 2]!)[t % 2]!) (by
    rw [hce, e1]
    rcases Nat.mod_two_eq_zero_or_one t with hm | hm <;> rw [hm] <;> rfl)
  have h2 := hfr (t % 2)
  rw [e2] at h1 h2
  rw [Nat.zero_add, get_flatK encP 2 _ t ht2]
  exact ⟨h1, h2⟩
theorem R_sorted {w : World} {base g cap n m : Nat} {e : TypeId} {ok : Nat → Prop} {l : List SGPair} (d' : Array SGPair) (os : Array Obj) (hs : d'.size = l.length) (h : Kd.R kGPair e w base ok (.slice (some ⟨g, 0, none⟩) n cap) l) (hp : 0 < n) :
    Kd.R kGPair e (grow (putRowK encP 2 (Sort.ahead w m) g 0 d') os) base ok (.slice (some ⟨g, 0, none⟩) n cap) d'.toList := by
  have hn : l.length = n := (Kd.R_reads' h).1.symm
  have ho := RP_flat h
  rw [hn] at ho
  have := owns_sorted (m := m) l.toArray d' os (by simpa using hs) (by simpa using ho) (by simpa using hn.symm) hp
  refine RP_of_flat h.1 ?_
  rw [Array.length_toList, hs, hn]
  exact this
end Go.Proofs.Ytidkdbohkbfhbaa
