/- PLAIN: the document's Rises, Log, Find, Next as they come to. -/
import Derived.Test.YtaahfokdgfopcaaZFd
import Derived.Test.YtaahfokdgfopcaaZFn
import Derived.Test.YtaahfokdgfopcaaZRf10
namespace Go.Proofs.Ytaahfokdgfopcaa
open Go.RowKit Go.Proofs.YtaahfokdgfopcaaW.PrintWords Go.Proofs.YtaahfokdgfopcaaW.PrintLast Go.Proofs.YtaahfokdgfopcaaW.PrintMore
open Rf
set_option linter.unusedVariables false
set_option linter.unusedSimpArgs false
theorem rrises_loop (l : List SGRecord) (hl : l.length ≤ 1000000000) : ∀ (d i : Nat), 0 < i → l.length ≤ i + d → i ≤ 2000000000 → ∃ b, Ev (fun k => flotillaref10_Rises.l0 k l i) b ∧ (b = true ↔ ∀ j, i ≤ j → j < l.length → (rcd l (j - 1)).f1 < (rcd l j).f1)
  | 0, i, h0, hi, _ => by
    refine ⟨true, Ev.step (f := fun _ => some true) (fun k => ?_) (Ev.now _), ⟨fun _ j h1 h2 => by omega, fun _ => rfl⟩⟩
    simp only [flotillaref10_Rises.l0]
    rw [if_neg (by omega)]
  | d + 1, i, h0, hi, hm => by
    by_cases hlt : i < l.length
    · obtain ⟨b, hb, hiff⟩ := rrises_loop l hl d (i + 1) (by omega) (by omega) (by omega)
      have hn : ((i + 1 : Nat) : Int) = (i : Int) + 1 := by omega
      have e1 : wrap64 ((i : Int) - 1) = ((i - 1 : Nat) : Int) := by rw [w64b (by omega) (by omega)]; omega
      by_cases hc : (rcd l i).f1 ≤ (rcd l (i - 1)).f1
      · refine ⟨false, Ev.step (f := fun _ => some false) (fun k => ?_) (Ev.now _), ⟨fun h => (by cases h), fun h => by have := h i (Nat.le_refl _) hlt; omega⟩⟩
        simp only [flotillaref10_Rises.l0]
        rw [if_pos (by omega), if_pos (by omega), e1, if_pos (by omega), if_pos (by omega), rcd_rd, rcd_rd, if_pos hc]
      · refine ⟨b, Ev.step (fun k => ?_) hb, hiff.trans ⟨fun h j h1 h2 => ?_, fun h j h1 h2 => h j (by omega) h2⟩⟩
        · simp only [flotillaref10_Rises.l0]
          rw [if_pos (by omega), if_pos (by omega), e1, if_pos (by omega), if_pos (by omega), rcd_rd, rcd_rd, if_neg hc, w64b (by omega) (by omega), hn]
        · rcases Nat.eq_or_lt_of_le h1 with rfl | h4
          · omega
          · exact h j h4 h2
    · refine ⟨true, Ev.step (f := fun _ => some true) (fun k => ?_) (Ev.now _), ⟨fun _ j h1 h2 => by omega, fun _ => rfl⟩⟩
      simp only [flotillaref10_Rises.l0]
      rw [if_neg (by omega)]
theorem rrises_ev (l : List SGRecord) (hl : l.length ≤ 1000000000) : ∃ b, Ev (fun k => flotillaref10_Rises.f k l) b ∧ (b = true ↔ Up l) := by
  obtain ⟨b, h1, h2⟩ := rrises_loop l hl l.length 1 (by omega) (by omega) (by omega)
  exact ⟨b, h1, h2.trans ⟨fun h j h1 h2 => h j (by omega) h2, fun h j h1 h2 => h j (by omega) h2⟩⟩
theorem rmay_ev (r : SGRecord) (hx : Okx r) : Ev (fun k => flotillaref05_May.f k r.f0 r.f1 r.f2 r.f3 r.f4 r.f5 r.f6.f0 r.f6.f1 r.f6.f2 r.f6.f3 r.f7 r.f8) (okR r) :=
  may_ev r.f0 r.f1 r.f2 r.f3 r.f4 r.f5 r.f6.f0 r.f6.f1 r.f6.f2 r.f6.f3 r.f7 r.f8 hx.nl hx.nm
theorem rlog_loop (l : List SGRecord) (hl : l.length ≤ 1000000000) (hx : ∀ r ∈ l, Okx r) : ∀ (d i : Nat), i + d = l.length → ∃ b, Ev (fun k => flotillaref18_Log.l0 k l i) b ∧ (b = true ↔ (∀ j, i ≤ j → j < l.length → okR (rcd l j) = true) ∧ Up l)
  | 0, i, hi => by
    obtain ⟨b, hb, hiff⟩ := rrises_ev l hl
    refine ⟨b, Ev.step (f := fun k => (flotillaref10_Rises.f k l).bind fun t => some t) (fun k => ?_) (Ev.bind hb (Ev.now _)), hiff.trans ⟨fun h => ⟨fun j h1 h2 => by omega, h⟩, fun h => h.2⟩⟩
    simp only [flotillaref18_Log.l0]
    rw [if_neg (by omega)]
  | d + 1, i, hi => by
    have hn : ((i + 1 : Nat) : Int) = (i : Int) + 1 := by omega
    have hc := rmay_ev (rcd l i) (hx _ (rcd_mem l i (by omega)))
    cases hk : okR (rcd l i) with
    | true =>
      obtain ⟨b, hb, hiff⟩ := rlog_loop l hl hx d (i + 1) (by omega)
      refine ⟨b, Ev.step (f := fun k => (flotillaref05_May.f k (rcd l i).f0 (rcd l i).f1 (rcd l i).f2 (rcd l i).f3 (rcd l i).f4 (rcd l i).f5 (rcd l i).f6.f0 (rcd l i).f6.f1 (rcd l i).f6.f2 (rcd l i).f6.f3 (rcd l i).f7 (rcd l i).f8).bind fun t => if t = true then flotillaref18_Log.l0 k l ((i + 1 : Nat) : Int) else some false) (fun k => ?_) (Ev.bind hc ?_), hiff.trans ⟨fun h => ⟨fun j h1 h2 => ?_, h.2⟩, fun h => ⟨fun j h1 h2 => h.1 j (by omega) h2, h.2⟩⟩⟩
      · simp only [flotillaref18_Log.l0]
        rw [if_pos (by omega), if_pos (by omega), w64b (by omega) (by omega), rcd_rd, hn]
      · rw [hk]
        show Ev (fun k => if true = true then _ else _) b
        simp only [if_true]
        exact hb
      · rcases Nat.eq_or_lt_of_le h1 with rfl | h4
        · exact hk
        · exact h.1 j h4 h2
    | false =>
      refine ⟨false, Ev.step (f := fun k => (flotillaref05_May.f k (rcd l i).f0 (rcd l i).f1 (rcd l i).f2 (rcd l i).f3 (rcd l i).f4 (rcd l i).f5 (rcd l i).f6.f0 (rcd l i).f6.f1 (rcd l i).f6.f2 (rcd l i).f6.f3 (rcd l i).f7 (rcd l i).f8).bind fun t => if t = true then flotillaref18_Log.l0 k l ((i + 1 : Nat) : Int) else some false) (fun k => ?_) (Ev.bind hc ?_), ⟨fun h => (by cases h), fun h => by have := h.1 i (Nat.le_refl _) (by omega); rw [hk] at this; cases this⟩⟩
      · simp only [flotillaref18_Log.l0]
        rw [if_pos (by omega), if_pos (by omega), w64b (by omega) (by omega), rcd_rd, hn]
      · rw [hk]
        exact Ev.step (f := fun _ => some false) (fun k => if_neg (by decide)) (Ev.now _)
theorem rlog_ev (l : List SGRecord) (hl : l.length ≤ 1000000000) (hx : ∀ r ∈ l, Okx r) : ∃ b, Ev (fun k => flotillaref18_Log.f k l) b ∧ (b = true ↔ LogP l) := by
  obtain ⟨b, h1, h2⟩ := rlog_loop l hl hx l.length 0 (by omega)
  refine ⟨b, h1, h2.trans ⟨fun h => ⟨h.2, fun r hr => ?_⟩, fun h => ⟨fun j _ h2 => h.2 _ (rcd_mem l j h2), h.1⟩⟩⟩
  obtain ⟨j, hj, rfl⟩ := List.getElem_of_mem hr
  have := h.1 j (Nat.zero_le _) hj
  unfold rcd at this
  rwa [List.getD_eq_getElem?_getD, List.getElem?_eq_getElem hj] at this
abbrev FT := Int × Int × Int × Int × Int × Int × Int × ByteArray × ByteArray × ByteArray × (List (SGTxn)) × (List (SGDirty)) × Bool
def ftOf (r : SGRecord) : FT := (r.f0, r.f1, r.f2, r.f3, r.f4, r.f5, r.f6.f0, r.f6.f1, r.f6.f2, r.f6.f3, r.f7, r.f8, true)
def ftNo : FT := (0, 0, 0, 0, 0, 0, 0, (⟨#[]⟩ : ByteArray), (⟨#[]⟩ : ByteArray), (⟨#[]⟩ : ByteArray), ([] : List (SGTxn)), ([] : List (SGDirty)), false)
theorem rfind_loop (l : List SGRecord) (hl : l.length ≤ 1000000000) (a : Int) : ∀ (d i : Nat), i + d = l.length → (∀ j, j < i → (rcd l j).f1 ≠ a) → (∃ j, j < l.length ∧ (rcd l j).f1 = a ∧ Ev (fun k => flotillaref10_Find.l0 k l a i) (ftOf (rcd l j))) ∨ ((∀ j, j < l.length → (rcd l j).f1 ≠ a) ∧ Ev (fun k => flotillaref10_Find.l0 k l a i) ftNo)
  | 0, i, hi, hno => by
    refine .inr ⟨fun j hj => hno j (by omega), Ev.step (f := fun _ => some ftNo) (fun k => ?_) (Ev.now _)⟩
    simp only [flotillaref10_Find.l0]
    rw [if_neg (by omega)]
    rfl
  | d + 1, i, hi, hno => by
    have hn : ((i + 1 : Nat) : Int) = (i : Int) + 1 := by omega
    by_cases hc : (rcd l i).f1 = a
    · refine .inl ⟨i, by omega, hc, Ev.step (f := fun _ => some (ftOf (rcd l i))) (fun k => ?_) (Ev.now _)⟩
      simp only [flotillaref10_Find.l0]
      rw [if_pos (by omega), if_pos (by omega), rcd_rd, if_pos hc]
      rfl
    · have st : ∀ k, flotillaref10_Find.l0 (k + 1) l a i = flotillaref10_Find.l0 k l a ((i + 1 : Nat) : Int) := fun k => by
        simp only [flotillaref10_Find.l0]
        rw [if_pos (by omega), if_pos (by omega), rcd_rd, if_neg hc, w64b (by omega) (by omega), hn]
      rcases rfind_loop l hl a d (i + 1) (by omega) (fun j hj => by
        rcases Nat.eq_or_lt_of_le (Nat.le_of_lt_succ hj) with rfl | h2
        · exact hc
        · exact hno j h2) with ⟨j, h1, h2, h3⟩ | ⟨h1, h2⟩
      · exact .inl ⟨j, h1, h2, Ev.step st h3⟩
      · exact .inr ⟨h1, Ev.step st h2⟩
theorem rfind_ev (l : List SGRecord) (hl : l.length ≤ 1000000000) (a : Int) : (∃ j, j < l.length ∧ (rcd l j).f1 = a ∧ Ev (fun k => flotillaref10_Find.f k l a) (ftOf (rcd l j))) ∨ ((∀ j, j < l.length → (rcd l j).f1 ≠ a) ∧ Ev (fun k => flotillaref10_Find.f k l a) ftNo) :=
  rfind_loop l hl a l.length 0 (by omega) (fun j hj => absurd hj (Nat.not_lt_zero _))
theorem rnext_found {l : List SGRecord} (hl : l.length ≤ 1000000000) (hU : Up l) {a v : Int} (h0 : a ≠ 0) {i : Nat} (hi : i < l.length) (e : (rcd l i).f1 = a)
    (h : Ev (fun k => if (rcd l i).f0 = 1 then some a else if (rcd l i).f0 = 2 then some (rcd l i).f4 else flotillaref18_Next.l0 k l (rcd l i).f3) v) : Ev (fun k => flotillaref18_Next.l0 k l a) v := by
  rcases rfind_ev l hl a with ⟨j, hj, ej, hev⟩ | ⟨hno, _⟩
  · obtain rfl := up_inj hU hi hj (e.trans ej.symm)
    refine Ev.step (f := fun k => (flotillaref10_Find.f k l a).bind fun bt => (if bt.2.2.2.2.2.2.2.2.2.2.2.2 = true then (if bt.1 = 1 then (some a) else (if bt.1 = 2 then (some bt.2.2.2.2.1) else (flotillaref18_Next.l0 k l bt.2.2.2.1))) else (some 0))) (fun k => ?_) (Ev.bind hev ?_)
    · simp only [flotillaref18_Next.l0]
      rw [if_neg h0]
    · exact h
  · exact absurd e (hno i hi)
theorem rnext_nx {l : List SGRecord} (hl : l.length ≤ 1000000000) (hU : Up l) {a v : Int} (h : Nx l a v) : Ev (fun k => flotillaref18_Next.l0 k l a) v := by
  induction h with
  | zero => exact Ev.step (f := fun _ => some 0) (fun k => by simp only [flotillaref18_Next.l0]; rw [if_pos trivial]) (Ev.now _)
  | none a h0 hno =>
    rcases rfind_ev l hl a with ⟨j, hj, ej, _⟩ | ⟨_, hev⟩
    · exact absurd ej (hno j hj)
    · refine Ev.step (f := fun k => (flotillaref10_Find.f k l a).bind fun bt => (if bt.2.2.2.2.2.2.2.2.2.2.2.2 = true then (if bt.1 = 1 then (some a) else (if bt.1 = 2 then (some bt.2.2.2.2.1) else (flotillaref18_Next.l0 k l bt.2.2.2.1))) else (some 0))) (fun k => ?_) (Ev.bind hev ?_)
      · simp only [flotillaref18_Next.l0]
        rw [if_neg h0]
      · exact Ev.step (f := fun _ => some 0) (fun k => if_neg (by decide)) (Ev.now _)
  | upd a h0 i hi e hk => exact rnext_found hl hU h0 hi e (by simp only [if_pos hk]; exact Ev.now _)
  | undo a v h0 i hi e hk hv => exact rnext_found hl hU h0 hi e (by simp only [if_neg (show ¬ (rcd l i).f0 = 1 by omega), if_pos hk, hv]; exact Ev.now _)
  | on a v h0 i hi e hk h ih => exact rnext_found hl hU h0 hi e (by simp only [if_neg hk.1, if_neg hk.2]; exact ih)
theorem nx_det {l : List SGRecord} (hU : Up l) {a v v' : Int} (h : Nx l a v) (h' : Nx l a v') : v = v' := by
  induction h with
  | zero => exact (nx_zero h').symm
  | none a h0 hno => exact (nx_none h' hno).symm
  | upd a h0 i hi e hk => exact ((nx_at hU h0 hi e h').1 hk).symm
  | undo a v h0 i hi e hk hv => exact hv.symm.trans ((nx_at hU h0 hi e h').2.1 hk).symm
  | on a v h0 i hi e hk h ih => exact ih ((nx_at hU h0 hi e h').2.2 hk.1 hk.2)
theorem rnext_ev (l : List SGRecord) (hl : l.length ≤ 1000000000) (hx : ∀ r ∈ l, Okx r) (a : Int) (h0 : 0 ≤ a) : ∃ v, Ev (fun k => flotillaref18_Next.f k l a) v ∧ (LogP l → Nx l a v) ∧ (¬ LogP l → v = 0) := by
  obtain ⟨b, hb, hiff⟩ := rlog_ev l hl hx
  cases b with
  | true =>
    have hL := hiff.1 rfl
    obtain ⟨v, hv, _⟩ := nx_ex hL hx a.toNat a h0 (by omega)
    refine ⟨v, Ev.bind hb ?_, fun _ => hv, fun q => absurd hL q⟩
    show Ev (fun k => if true = true then _ else _) v
    simp only [if_true]
    exact rnext_nx hl hL.1 hv
  | false =>
    have hL : ¬ LogP l := fun q => by have := hiff.2 q; cases this
    exact ⟨0, Ev.bind hb (Ev.step (f := fun _ => some 0) (fun k => if_neg (by decide)) (Ev.now _)), fun q => absurd q hL, fun _ => rfl⟩
theorem rnext_calls (w : World) (l : List SGRecord) (A : Option Addr) (c : Nat) (hC : Kd.C kGRecord w A l.length l) (hc : l.length ≤ c) (hl : l.length ≤ 300) (hx : ∀ r ∈ l, Okx r) (a : Int) (h0 : 0 ≤ a) :
    Calls Try.prog 12 #[.slice A l.length c, .int .u64 a] w fun e w' => ∃ v, e = .returned (.int .u64 v) ∧ (LogP l → Nx l a v) ∧ (¬ LogP l → v = 0) ∧ Below w.heap.size w w' := by
  obtain ⟨v, hv, p1, p2⟩ := rnext_ev l (by omega) hx a h0
  obtain ⟨k, hk⟩ := hv.rounds
  refine (flotillaref18_Next.calls k A c l a v w hC hc hk).mono ?_
  rintro e w' ⟨rfl, hb⟩
  exact ⟨v, rfl, p1, p2, hb⟩
end Go.Proofs.Ytaahfokdgfopcaa
