/- PLAIN: what Insert, Update and Delete leave is a page again. -/
import Derived.Test.YtidkdbohkbfhbaaPg
namespace Go.Proofs.Ytidkdbohkbfhbaa
open Go.RowKit Go.Proofs.YtidkdbohkbfhbaaW.PrintWords Go.Proofs.YtidkdbohkbfhbaaW.PrintLast Go.Proofs.YtidkdbohkbfhbaaW.PrintMore
open Rf
set_option linter.unusedVariables false

theorem tot_set (cs : List SGCell) (i : Nat) (h : i < cs.length) (c : SGCell) : tot (cs.set i c) + csz cs[i] = tot cs + csz c := by
  induction cs generalizing i with
  | nil => simp at h
  | cons a r ih =>
    cases i with
    | zero => simp only [List.set_cons_zero, tot_cons, List.getElem_cons_zero]; omega
    | succ i =>
      have := ih i (by simpa using h)
      simp only [List.set_cons_succ, tot_cons, List.getElem_cons_succ]; omega
theorem fndN_none (key : ByteArray) (cs : List SGCell) (i : Nat) (h : fndN key cs i < 0) : ∀ c ∈ cs, hit key c = false := by
  induction cs generalizing i with
  | nil => simp
  | cons c r ih =>
    unfold fndN at h
    split at h
    · omega
    · rename_i hc
      intro x hx
      rcases List.mem_cons.1 hx with rfl | hx
      · simpa using hc
      · exact ih (i + 1) h x hx
theorem fnd_none (cs : List SGCell) (key : ByteArray) (h : fnd cs key < 0) (c : SGCell) (hc : c ∈ cs) (hu : c.f0 = true) : c.f1 ≠ key := by
  have := fndN_none key cs 0 h c hc
  unfold hit at this
  rw [hu, beq_toList] at this
  simpa using this
theorem fndN_hit (key : ByteArray) (cs : List SGCell) (i : Nat) (h : 0 ≤ fndN key cs i) : ∃ j, ∃ hj : j < cs.length, fndN key cs i = ((i + j : Nat) : Int) ∧ hit key cs[j] = true := by
  induction cs generalizing i with
  | nil => simp [fndN] at h
  | cons c r ih =>
    unfold fndN at h ⊢
    split
    · rename_i hc
      exact ⟨0, by simp, by simp, by simpa using hc⟩
    · rename_i hc
      rw [if_neg hc] at h
      obtain ⟨j, hj, e, hh⟩ := ih (i + 1) h
      exact ⟨j + 1, by simp; omega, by rw [e]; omega, by simpa using hh⟩
theorem fnd_hit (cs : List SGCell) (key : ByteArray) (h : 0 ≤ fnd cs key) : ∃ j, ∃ hj : j < cs.length, fnd cs key = (j : Int) ∧ cs[j].f0 = true ∧ cs[j].f1 = key := by
  obtain ⟨j, hj, e, hh⟩ := fndN_hit key cs 0 h
  refine ⟨j, hj, by rw [fnd, e]; simp, ?_⟩
  unfold hit at hh
  rw [beq_toList] at hh
  simpa using hh

theorem insAt_free (cs : List SGCell) (hz : ∀ c ∈ cs, c.f0 = false → c = zGCell) (key value : ByteArray) : free (insAt cs (cel key value)) = free cs - insNeed cs key value := by
  unfold insAt insNeed free
  have hle := frs_le cs
  split
  · rw [tot_append, tot_cons, tot_nil, csz_cel, List.length_append, List.length_singleton]; omega
  · have hlt : frs cs < cs.length := by omega
    have h := tot_set cs (frs cs) hlt (cel key value)
    have hf := frs_free cs hlt
    rw [rd_get cs _ hlt] at hf
    have h0 : csz cs[frs cs] = 0 := by unfold csz; rw [if_neg (by rw [hf]; simp)]
    rw [csz_cel] at h
    rw [List.length_set]; omega
theorem updAt_free (cs : List SGCell) (i : Nat) (hi : i < cs.length) (hu : cs[i].f0 = true) (value : ByteArray) : free (updAt cs i value) = free cs - ((value.size : Int) - (cs[i].f2.size : Int)) := by
  unfold updAt free
  have h := tot_set cs i hi ⟨(rd_TGCell cs i).f0, (rd_TGCell cs i).f1, value⟩
  rw [rd_get cs i hi] at h ⊢
  have h1 : csz cs[i] = 1 + cs[i].f1.size + cs[i].f2.size := by unfold csz; rw [if_pos hu]
  have h2 : csz ⟨cs[i].f0, cs[i].f1, value⟩ = 1 + cs[i].f1.size + value.size := by unfold csz; rw [if_pos (by simpa using hu)]
  rw [List.length_set]; omega

theorem Valid.getLast {cs : List SGCell} (h : Valid cs) (hn : 0 < cs.length) : (cs[cs.length - 1]'(by omega)).f0 = true :=
  h.last _ (by rw [List.getLast?_eq_getElem?, List.getElem?_eq_getElem])
theorem pw_get {cs : List SGCell} (h : cs.Pairwise fun a b => a.f0 = true → b.f0 = true → a.f1 ≠ b.f1) (i j : Nat) (hi : i < cs.length) (hj : j < cs.length) (hne : i ≠ j) (hu : cs[i].f0 = true) (hv : cs[j].f0 = true) : cs[i].f1 ≠ cs[j].f1 := by
  rw [List.pairwise_iff_getElem] at h
  rcases Nat.lt_or_gt_of_ne hne with hlt | hlt
  · exact h i j hi hj hlt hu hv
  · exact fun e => h j i hj hi hlt hv hu e.symm
/-- A used cell of another key, or the same, at one place. -/
theorem pw_set {cs : List SGCell} (h : cs.Pairwise fun a b => a.f0 = true → b.f0 = true → a.f1 ≠ b.f1) (i : Nat) (c : SGCell) (hc : ∀ j (hj : j < cs.length), j ≠ i → cs[j].f0 = true → cs[j].f1 ≠ c.f1) :
    (cs.set i c).Pairwise fun a b => a.f0 = true → b.f0 = true → a.f1 ≠ b.f1 := by
  rw [List.pairwise_iff_getElem]
  intro a b ha hb hab hu hv
  rw [List.length_set] at ha hb
  rw [List.getElem_set] at hu hv
  rw [List.getElem_set, List.getElem_set]
  by_cases e1 : i = a
  · rw [if_pos e1, if_neg (by omega)]
    rw [if_neg (by omega)] at hv
    exact fun e => hc b hb (by omega) hv e.symm
  · rw [if_neg e1] at hu ⊢
    by_cases e2 : i = b
    · rw [if_pos e2]
      exact hc a ha (by omega) hu
    · rw [if_neg e2] at hv ⊢
      exact pw_get h a b ha hb (by omega) hu hv
theorem Valid.insAt {cs : List SGCell} (h : Valid cs) (key value : ByteArray) (hm : mayB key value = true) (hf : fnd cs key < 0) (h64 : frs cs ≠ 64) (hr : insNeed cs key value ≤ free cs) : Valid (insAt cs (cel key value)) := by
  have hroom := insAt_free cs h.zero key value
  have hle := frs_le cs
  have hlen := h.len
  unfold Go.Proofs.Ytidkdbohkbfhbaa.insAt at hroom ⊢
  by_cases e : frs cs = cs.length
  · rw [if_pos e] at hroom ⊢
    refine ⟨by rw [List.length_append, List.length_singleton]; omega, ?_, ?_, ?_, ?_, by rw [hroom]; omega⟩
    · intro c hc hu
      rcases List.mem_append.1 hc with hc | hc
      · exact h.may c hc hu
      · rw [List.mem_singleton.1 hc]; exact hm
    · intro c hc hu
      rcases List.mem_append.1 hc with hc | hc
      · exact h.zero c hc hu
      · rw [List.mem_singleton.1 hc] at hu; simp [cel] at hu
    · rw [List.pairwise_append]
      refine ⟨h.once, List.pairwise_singleton _ _, ?_⟩
      intro a ha b hb hu _
      rw [List.mem_singleton.1 hb]
      exact fnd_none cs key hf a ha hu
    · intro c hc
      rw [List.getLast?_append] at hc
      simp at hc
      rw [← hc]; rfl
  · rw [if_neg e] at hroom ⊢
    have hlt : frs cs < cs.length := by omega
    have hfree := frs_free cs hlt
    rw [rd_get cs _ hlt] at hfree
    refine ⟨by rw [List.length_set]; omega, ?_, ?_, ?_, ?_, by rw [hroom]; omega⟩
    · intro c hc hu
      rcases List.mem_or_eq_of_mem_set hc with hc | rfl
      · exact h.may c hc hu
      · exact hm
    · intro c hc hu
      rcases List.mem_or_eq_of_mem_set hc with hc | rfl
      · exact h.zero c hc hu
      · simp [cel] at hu
    · exact pw_set h.once _ _ (fun j hj _ hu => fnd_none cs key hf _ (List.getElem_mem hj) hu)
    · intro c hc
      rw [List.getLast?_eq_getElem?, List.length_set, List.getElem?_set_ne, ← List.getLast?_eq_getElem?] at hc
      · exact h.last c hc
      · intro e2
        have := h.getLast (by omega)
        simp only [← e2] at this
        rw [hfree] at this; simp at this
theorem Valid.updAt {cs : List SGCell} (h : Valid cs) (key value : ByteArray) (hm : mayB key value = true) (j : Nat) (hj : j < cs.length) (hu : cs[j].f0 = true) (hk : cs[j].f1 = key) (hr : (value.size : Int) - (cs[j].f2.size : Int) ≤ free cs) : Valid (updAt cs j value) := by
  have hroom := updAt_free cs j hj hu value
  have hlen := h.len
  have hu2 := hu
  have hk2 := hk
  have e : Go.Proofs.Ytidkdbohkbfhbaa.updAt cs j value = cs.set j (cel key value) := by unfold Go.Proofs.Ytidkdbohkbfhbaa.updAt; rw [rd_get cs j hj, hu, hk]; rfl
  rw [e] at hroom ⊢
  refine ⟨by rw [List.length_set]; omega, ?_, ?_, ?_, ?_, by rw [hroom]; omega⟩
  · intro c hc hu
    rcases List.mem_or_eq_of_mem_set hc with hc | rfl
    · exact h.may c hc hu
    · exact hm
  · intro c hc hu
    rcases List.mem_or_eq_of_mem_set hc with hc | rfl
    · exact h.zero c hc hu
    · simp [cel] at hu
  · refine pw_set h.once _ _ (fun i hi hne hv => ?_)
    have := pw_get h.once i j hi hj hne hv hu2
    rw [hk2] at this
    exact this
  · intro c hc
    rw [List.getLast?_eq_getElem?, List.length_set, List.getElem?_set] at hc
    split at hc
    · rw [← Option.some.inj hc]; rfl
    · rw [← List.getLast?_eq_getElem?] at hc
      exact h.last c hc

theorem tot_sub {a b : List SGCell} (h : a.Sublist b) : tot a ≤ tot b := by
  induction h with
  | slnil => exact Nat.le_refl _
  | cons c _ ih => rw [tot_cons]; omega
  | cons_cons c _ ih => rw [tot_cons, tot_cons]; omega
theorem Valid.sub {a b : List SGCell} (h : Valid b) (hs : a.Sublist b) (hl : ∀ c, a.getLast? = some c → c.f0 = true) : Valid a := by
  have h1 := hs.length_le
  have h2 := tot_sub hs
  have h3 := h.len
  have h4 := h.room
  exact ⟨by omega, fun c hc => h.may c (hs.subset hc), fun c hc => h.zero c (hs.subset hc), h.once.sublist hs, hl, by unfold free at h4 ⊢; omega⟩
theorem trimN_sub (n : Nat) (cs : List SGCell) : (trimN n cs).Sublist cs := by
  induction n generalizing cs with
  | zero => exact List.Sublist.refl _
  | succ n ih =>
    unfold trimN
    split
    · exact List.Sublist.refl _
    · split
      · exact List.Sublist.refl _
      · exact (ih _).trans (List.take_sublist _ _)
theorem trimN_last (n : Nat) (cs : List SGCell) (hn : cs.length ≤ n) : ∀ c, (trimN n cs).getLast? = some c → c.f0 = true := by
  induction n generalizing cs with
  | zero => intro c hc; rw [trimN_zero 0 cs (by omega), List.length_eq_zero_iff.1 (by omega : cs.length = 0)] at hc; simp at hc
  | succ n ih =>
    intro c hc
    unfold trimN at hc
    split at hc
    · rename_i h0; rw [List.length_eq_zero_iff.1 h0] at hc; simp at hc
    · rename_i h0
      split at hc
      · rename_i hu
        rw [show ((cs.length : Int) - 1) = ((cs.length - 1 : Nat) : Int) by omega, rd_get cs _ (by omega)] at hu
        rw [List.getLast?_eq_getElem?, List.getElem?_eq_getElem (by omega)] at hc
        rw [← Option.some.inj hc]; exact hu
      · exact ih (cs.take (cs.length - 1)) (by rw [List.length_take]; omega) c hc
theorem delAt_sub (cs : List SGCell) (i : Nat) : (delAt cs i).Sublist cs := by
  unfold delAt
  conv => rhs; rw [← List.take_append_drop i cs]
  refine List.Sublist.append (List.Sublist.refl _) ?_
  rw [← List.drop_drop]
  exact List.drop_sublist _ _

theorem Valid.ins {cs : List SGCell} (h : Valid cs) (key value : ByteArray) : Valid (ins cs key value).1 := by
  unfold Go.Proofs.Ytidkdbohkbfhbaa.ins
  split
  · rename_i hm
    split
    · exact h
    · split
      · exact h
      · exact h.insAt key value hm (by omega) (by omega) (by omega)
  · exact h
theorem Valid.upd {cs : List SGCell} (h : Valid cs) (key value : ByteArray) : Valid (upd cs key value).1 := by
  unfold Go.Proofs.Ytidkdbohkbfhbaa.upd
  split
  · rename_i hm
    split
    · exact h
    · rename_i hf
      obtain ⟨j, hj, e, hu, hk⟩ := fnd_hit cs key (by omega)
      rw [e, rd_get cs j hj]
      split
      · exact h
      · exact h.updAt key value hm j hj hu hk (by omega)
  · exact h
theorem Valid.del {cs : List SGCell} (h : Valid cs) (key : ByteArray) : Valid (del cs key).1 := by
  unfold Go.Proofs.Ytidkdbohkbfhbaa.del
  split
  · exact h
  · exact h.sub ((trimN_sub _ _).trans (delAt_sub _ _)) (trimN_last _ _ (Nat.le_refl _))
theorem Valid.room4 {cs : List SGCell} (h : Valid cs) : 4 * cs.length + tot cs ≤ 496 := by
  have := h.room; unfold free at this; omega

/-- All slots are used: so it is where no page was parsed. -/
def Used (cs : List SGCell) : Prop := ∀ c ∈ cs, c.f0 = true
theorem Used.frs {cs : List SGCell} (h : Used cs) : frs cs = cs.length := by
  rcases Nat.lt_or_ge (Go.Proofs.Ytidkdbohkbfhbaa.frs cs) cs.length with hl | hl
  · have h1 := frs_free cs hl
    have h2 := h _ (rd_mem cs _ hl)
    rw [h1] at h2; simp at h2
  · have := frs_le cs; omega
theorem Used.ins {cs : List SGCell} (h : Used cs) (key value : ByteArray) : Used (ins cs key value).1 := by
  unfold Go.Proofs.Ytidkdbohkbfhbaa.ins
  split
  · split
    · exact h
    · split
      · exact h
      · unfold insAt
        rw [if_pos h.frs]
        intro c hc
        rcases List.mem_append.1 hc with hc | hc
        · exact h c hc
        · rw [List.mem_singleton.1 hc]; rfl
  · exact h
theorem Used.upd {cs : List SGCell} (h : Used cs) (key value : ByteArray) : Used (upd cs key value).1 := by
  unfold Go.Proofs.Ytidkdbohkbfhbaa.upd
  split
  · split
    · exact h
    · rename_i hf
      obtain ⟨j, hj, e, hu, hk⟩ := fnd_hit cs key (by omega)
      split
      · exact h
      · rw [e]
        unfold updAt
        rw [show ((j : Int)).toNat = j from rfl, rd_get cs j hj]
        intro c hc
        rcases List.mem_or_eq_of_mem_set hc with hc | rfl
        · exact h c hc
        · exact hu
  · exact h
theorem Used.sub {a b : List SGCell} (h : Used b) (hs : a.Sublist b) : Used a := fun c hc => h c (hs.subset hc)
theorem Used.del {cs : List SGCell} (h : Used cs) (key : ByteArray) : Used (del cs key).1 := by
  unfold Go.Proofs.Ytidkdbohkbfhbaa.del
  split
  · exact h
  · exact h.sub ((trimN_sub _ _).trans (delAt_sub _ _))
theorem trim_used (cs : List SGCell) (h : Used cs) : trim cs = cs := by
  unfold trim
  rcases Nat.eq_zero_or_pos cs.length with h0 | h0
  · exact trimN_zero _ _ h0
  · exact trimN_used _ cs (cs.length - 1) (by omega) (h _ (rd_mem cs _ (by omega)))
theorem fndN_append (key : ByteArray) (cs : List SGCell) (c : SGCell) (i : Nat) (h : fndN key cs i < 0) : fndN key (cs ++ [c]) i = if hit key c = true then ((i + cs.length : Nat) : Int) else -1 := by
  induction cs generalizing i with
  | nil => simp [fndN]
  | cons a r ih =>
    unfold fndN at h
    split at h
    · omega
    · rename_i ha
      have e : fndN key (a :: r ++ [c]) i = fndN key (r ++ [c]) (i + 1) := by
        rw [List.cons_append]; conv => lhs; unfold fndN
        rw [if_neg ha]
      rw [e, ih (i + 1) h, List.length_cons, show i + 1 + r.length = i + (r.length + 1) by omega]
theorem fnd_append (cs : List SGCell) (key value : ByteArray) (h : fnd cs key < 0) : fnd (cs ++ [cel key value]) key = cs.length := by
  unfold fnd
  rw [fndN_append key cs _ 0 h, if_pos (by unfold hit; simp [cel]), Nat.zero_add]
/-- A cell that was laid and taken away. -/
theorem del_append (cs : List SGCell) (hu : Used cs) (key value : ByteArray) (h : fnd cs key < 0) : del (cs ++ [cel key value]) key = (cs, 0) := by
  unfold del
  rw [fnd_append cs key value h, if_neg (by omega)]
  unfold delAt
  rw [Int.toNat_natCast, List.take_left, List.drop_eq_nil_of_le (by simp), List.append_nil, trim_used cs hu]
/-- What Insert does where all slots are used. -/
theorem ins_room (cs : List SGCell) (hu : Used cs) (hl : cs.length ≤ 64) (key value : ByteArray) (hm : mayB key value = true) (hf : fnd cs key < 0) :
    ((cs.length = 64 ∨ free cs < 1 + (key.size : Int) + (value.size : Int) + 4) ∧ ins cs key value = (cs, 7)) ∨
    ((cs.length < 64 ∧ 1 + (key.size : Int) + (value.size : Int) + 4 ≤ free cs) ∧ ins cs key value = (cs ++ [cel key value], 0) ∧ free (cs ++ [cel key value]) = free cs - (1 + (key.size : Int) + (value.size : Int) + 4)) := by
  have hfr := hu.frs
  have hn : insNeed cs key value = 1 + (key.size : Int) + (value.size : Int) + 4 := by unfold insNeed; rw [if_pos hfr]
  unfold ins
  rw [if_pos hm, if_neg (by omega), hn, hfr]
  by_cases hc : cs.length = 64 ∨ free cs < 1 + (key.size : Int) + (value.size : Int) + 4
  · left; exact ⟨hc, by rw [if_pos hc]⟩
  · right
    refine ⟨by omega, ?_, ?_⟩
    · rw [if_neg hc]; unfold insAt; rw [if_pos hfr]
    · unfold free; rw [tot_append, tot_cons, tot_nil, csz_cel, List.length_append, List.length_singleton]; omega
theorem Valid.free_le {cs : List SGCell} (h : Valid cs) : 0 ≤ free cs ∧ free cs ≤ 496 := by have := h.room; unfold free at this ⊢; omega
end Go.Proofs.Ytidkdbohkbfhbaa
