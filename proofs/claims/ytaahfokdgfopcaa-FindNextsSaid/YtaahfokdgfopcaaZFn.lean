/- slices.BinarySearchFunc over records; find's Next. -/
import Derived.Test.YtaahfokdgfopcaaZFo
import Derived.Deep.DeepCutAuto
import Derived.Deep.CutBlock
namespace Go.Proofs.Ytaahfokdgfopcaa
open Go.RowKit Go.Proofs.YtaahfokdgfopcaaW.PrintWords Go.Proofs.YtaahfokdgfopcaaW.PrintLast Go.Proofs.YtaahfokdgfopcaaW.PrintMore
open Rf
set_option linter.unusedVariables false
set_option linter.unusedSimpArgs false
def cmpV (a t : Int) : Int := if a < t then -1 else if a > t then 1 else 0
set_option maxRecDepth 100000 in
theorem cmp_calls (w : World) (o : SGRecord) (A10 : Option Addr) (n10 c10 : Nat) (A11 : Option Addr) (n11 c11 : Nat) (t : Int) :
    Calls Try.prog 26 #[.agg #[.int .i64 o.f0, .int .u64 o.f1, .int .i64 o.f2, .int .u64 o.f3, .int .u64 o.f4, .int .i64 o.f5, .int .i64 o.f6.f0, .string o.f6.f1, .string o.f6.f2, .string o.f6.f3, .slice A10 n10 c10, .slice A11 n11 c11], .int .u64 t] w fun e w' => e = .returned (.int .i64 (cmpV o.f1 t)) ∧ Below w.heap.size w w' := by
  have hba := below_alloc (Below.refl w.heap.size w) (.cells #[.int .i64 o.f0, .int .u64 o.f1, .int .i64 o.f2, .int .u64 o.f3, .int .u64 o.f4, .int .i64 o.f5, .int .i64 o.f6.f0, .string o.f6.f1, .string o.f6.f2, .string o.f6.f3, .slice A10 n10 c10, .slice A11 n11 c11] 43)
  have x1 : (w.alloc (.cells #[.int .i64 o.f0, .int .u64 o.f1, .int .i64 o.f2, .int .u64 o.f3, .int .u64 o.f4, .int .i64 o.f5, .int .i64 o.f6.f0, .string o.f6.f1, .string o.f6.f2, .string o.f6.f3, .slice A10 n10 c10, .slice A11 n11 c11] 43)).cell? ⟨w.heap.size, 1, none⟩ = some (.int .u64 o.f1) := blk_cell (heap_alloc_new w (.cells #[.int .i64 o.f0, .int .u64 o.f1, .int .i64 o.f2, .int .u64 o.f3, .int .u64 o.f4, .int .i64 o.f5, .int .i64 o.f6.f0, .string o.f6.f1, .string o.f6.f2, .string o.f6.f3, .slice A10 n10 c10, .slice A11 n11 c11] 43)) 1
  by_cases h1 : o.f1 < t
  · have e1 : decide (o.f1 < t) = true := decide_eq_true h1
    rw [show cmpV o.f1 t = -1 from by unfold cmpV; rw [if_pos h1]]
    clear h1
    go_enter Try.func26, Try.ntmps26
    go_wp2_with fail
    go_ret
    exact ⟨rfl, hba⟩
  · have e1 : decide (o.f1 < t) = false := decide_eq_false h1
    by_cases h2 : o.f1 > t
    · have e2 : decide (t < o.f1) = true := decide_eq_true h2
      rw [show cmpV o.f1 t = 1 from by unfold cmpV; rw [if_neg h1, if_pos h2]]
      clear h1 h2
      go_enter Try.func26, Try.ntmps26
      go_wp2_with fail
      go_ret
      exact ⟨rfl, hba⟩
    · have e2 : decide (t < o.f1) = false := decide_eq_false h2
      rw [show cmpV o.f1 t = 0 from by unfold cmpV; rw [if_neg h1, if_neg h2]]
      clear h1 h2
      go_enter Try.func26, Try.ntmps26
      go_wp2_with fail
      go_ret
      exact ⟨rfl, hba⟩
theorem up_lt {l : List SGRecord} (h : Up l) : ∀ (d i : Nat), i + d + 1 < l.length → (rcd l i).f1 < (rcd l (i + d + 1)).f1
  | 0, i, hi => h (i + 1) (by omega) hi
  | d + 1, i, hi => by
    have h1 := up_lt h d i (by omega)
    have h2 := h (i + d + 1 + 1) (by omega) (by omega)
    exact Int.lt_trans h1 h2
theorem up_lt' {l : List SGRecord} (h : Up l) {i j : Nat} (hij : i < j) (hj : j < l.length) : (rcd l i).f1 < (rcd l j).f1 := by
  have := up_lt h (j - i - 1) i (by omega)
  rwa [show i + (j - i - 1) + 1 = j by omega] at this
set_option maxRecDepth 100000 in
set_option maxHeartbeats 4000000 in
theorem bsearch_calls (w : World) (l : List SGRecord) (A : Option Addr) (c : Nat) (hC : Kd.C kGRecord w A l.length l) (hl : l.length ≤ 300) (hU : Up l) (t : Int) :
    Calls Try.prog 25 #[.slice A l.length c, .int .u64 t, .func (.func 26) #[] #[]] w fun e w' => ∃ (i : Nat) (ok : Bool), e = .returned (.tuple #[.int .i64 i, .bool ok]) ∧ (ok = true → i < l.length ∧ (rcd l i).f1 = t) ∧ (ok = false → ∀ j, j < l.length → (rcd l j).f1 ≠ t) ∧ Below w.heap.size w w' := by
  have HC := Aside0.mk hC
  have HU := Aside0.mk hU
  clear hC hU
  go_enter Try.func25, Try.ntmps25
  go_wp2_with fail
  go_loopg [9, 10] (l.length + 1) (fun gk v9 v10 wr => ∃ lo hi : Nat, Aside0 (hi - lo < gk) ∧ v9 = .int .i64 lo ∧ v10 = .int .i64 hi ∧ lo ≤ hi ∧ hi ≤ l.length ∧ Aside0 (∀ j, j < lo → (rcd l j).f1 < t) ∧ Aside0 (∀ j, hi ≤ j → j < l.length → t ≤ (rcd l j).f1) ∧ Aside0 (Below w.heap.size w wr))
  case atStart => exact ⟨0, l.length, ⟨by omega⟩, rfl, rfl, Nat.zero_le _, Nat.le_refl _, ⟨fun j h => absurd h (Nat.not_lt_zero _)⟩, ⟨fun j h1 h2 => by omega⟩, ⟨Below.refl _ _⟩⟩
  case round =>
    obtain ⟨lo, hi, HG, rfl, rfl, hlh, hhl, HLO, HHI, HB⟩ := hrel
    by_cases hlt : lo < hi
    · have d0 : decide ((lo : Int) < (hi : Int)) = true := by simp; omega
      go_upto_region 5 with fail
      obtain ⟨h, hh⟩ : ∃ h : Nat, (h : Int) = ((lo : Int) + (hi : Int)) / 2 := ⟨(lo + hi) / 2, by omega⟩
      rw [← hh]
      have hb1 : lo ≤ h ∧ h < hi := by omega
      have HH := Aside0.mk hh
      clear hh
      obtain ⟨ad, o, A10, c10, A11, c11, rfl, ho, x0, x1, x2, x3, x4, x5, x6, x7, x8, x9, x10, x11⟩ := rg_at12 (Kd.C_below HC.out HB.out) h (by omega)
      have HO := Aside0.mk ho
      clear ho
      go_wp2_with fail
      refine (cmp_calls wr o A10 o.f7.length c10 A11 o.f8.length c11 t).mono ?_
      rintro e w1 ⟨rfl, hb⟩
      have HB1 := Aside0.mk (below_then HB.out HB.out.size hb)
      clear hb x0 x1 x2 x3 x4 x5 x6 x7 x8 x9 x10 x11
      by_cases hc : o.f1 < t
      · have e1 : decide (cmpV o.f1 t < 0) = true := by unfold cmpV; rw [if_pos hc]; rfl
        have HN := Aside0.mk (show ∀ j, j < h + 1 → (rcd l j).f1 < t from fun j hj => by
          rw [HO.out] at hc
          rcases Nat.eq_or_lt_of_le (Nat.le_of_lt_succ hj) with rfl | h2
          · exact hc
          · exact Int.lt_trans (up_lt' HU.out h2 (by omega)) hc)
        clear hc
        go_wp2_with fail
        go_roundg (gk - 1)
        case measure => have := HG.out; omega
        case rel => exact ⟨h + 1, hi, ⟨by have := HG.out; omega⟩, (by go_num), rfl, by omega, hhl, HN, HHI, HB1⟩
      · have e1 : decide (cmpV o.f1 t < 0) = false := by unfold cmpV; rw [if_neg hc]; split <;> rfl
        have HN := Aside0.mk (show ∀ j, h ≤ j → j < l.length → t ≤ (rcd l j).f1 from fun j hj hjl => by
          rw [HO.out] at hc
          rcases Nat.eq_or_lt_of_le hj with rfl | h2
          · omega
          · have := up_lt' HU.out h2 hjl; omega)
        clear hc
        go_wp2_with fail
        go_roundg (gk - 1)
        case measure => have := HG.out; omega
        case rel => exact ⟨lo, h, ⟨by have := HG.out; omega⟩, rfl, rfl, by omega, by omega, HLO, HN, HB1⟩
    · have d0 : decide ((lo : Int) < (hi : Int)) = false := by simp; omega
      obtain rfl : lo = hi := by omega
      clear hlt
      by_cases hin : lo < l.length
      · have d1 : decide ((lo : Int) < (l.length : Int)) = true := by simp; omega
        obtain ⟨ad, o, A10, c10, A11, c11, rfl, ho, x0, x1, x2, x3, x4, x5, x6, x7, x8, x9, x10, x11⟩ := rg_at12 (Kd.C_below HC.out HB.out) lo hin
        have HO := Aside0.mk ho
        clear ho
        go_wp2_with fail
        refine (cmp_calls wr o A10 o.f7.length c10 A11 o.f8.length c11 t).mono ?_
        rintro e w1 ⟨rfl, hb⟩
        have HB1 := Aside0.mk (below_then HB.out HB.out.size hb)
        clear hb x0 x1 x2 x3 x4 x5 x6 x7 x8 x9 x10 x11
        by_cases hc : o.f1 = t
        · have e1 : (cmpV o.f1 t == 0) = true := by unfold cmpV; rw [if_neg (by omega), if_neg (by omega)]; rfl
          have HE := Aside0.mk hc
          clear hc
          go_wp2_with fail
          go_ret2
          exact ⟨lo, true, rfl, fun _ => ⟨hin, by rw [← HO.out]; exact HE.out⟩, fun q => (by cases q), HB1.out⟩
        · have e1 : (cmpV o.f1 t == 0) = false := by
            unfold cmpV
            by_cases h1 : o.f1 < t
            · rw [if_pos h1]; rfl
            · rw [if_neg h1, if_pos (by omega)]; rfl
          have HE := Aside0.mk hc
          clear hc
          go_wp2_with fail
          go_ret2
          exact ⟨lo, false, rfl, fun q => (by cases q), fun _ j hj => by
            rcases Nat.lt_trichotomy j lo with h1 | h1 | h1
            · have := HLO.out j h1; omega
            · subst h1; rw [← HO.out]; exact HE.out
            · have h2 := HHI.out lo (Nat.le_refl _) hin
              have h3 := up_lt' HU.out h1 hj
              omega, HB1.out⟩
      · have d1 : decide ((lo : Int) < (l.length : Int)) = false := by simp; omega
        go_wp2_with fail
        go_ret2
        exact ⟨lo, false, rfl, fun q => (by cases q), fun _ j hj => by have := HLO.out j (by omega); omega, HB.out⟩
/-- What is taken back next. -/
inductive Nx (l : List SGRecord) : Int → Int → Prop
  | zero : Nx l 0 0
  | none (a : Int) (h0 : a ≠ 0) (h : ∀ j, j < l.length → (rcd l j).f1 ≠ a) : Nx l a 0
  | upd (a : Int) (h0 : a ≠ 0) (i : Nat) (hi : i < l.length) (e : (rcd l i).f1 = a) (hk : (rcd l i).f0 = 1) : Nx l a a
  | undo (a v : Int) (h0 : a ≠ 0) (i : Nat) (hi : i < l.length) (e : (rcd l i).f1 = a) (hk : (rcd l i).f0 = 2) (hv : (rcd l i).f4 = v) : Nx l a v
  | on (a v : Int) (h0 : a ≠ 0) (i : Nat) (hi : i < l.length) (e : (rcd l i).f1 = a) (hk : (rcd l i).f0 ≠ 1 ∧ (rcd l i).f0 ≠ 2) (h : Nx l (rcd l i).f3 v) : Nx l a v
theorem rec_facts2 {x : SGRecord} (h : okR x = true) : x.f3 < x.f1 ∧ x.f4 < x.f1 := by
  unfold okR recOk at h
  simp only [Bool.and_eq_true, decide_eq_true_eq] at h
  obtain ⟨⟨⟨⟨⟨⟨⟨⟨⟨_, _⟩, _⟩, h1⟩, h2⟩, _⟩, _⟩, _⟩, _⟩, _⟩ := h
  exact ⟨h1, h2⟩
theorem nx_ex {l : List SGRecord} (hL : LogP l) (hx : ∀ r ∈ l, Okx r) : ∀ (n : Nat) (a : Int), 0 ≤ a → a ≤ n → ∃ v, Nx l a v ∧ 0 ≤ v ∧ v ≤ a
  | 0, a, h0, h1 => by
    obtain rfl : a = 0 := by omega
    exact ⟨0, .zero, by omega, by omega⟩
  | n + 1, a, h0, h1 => by
    by_cases hz : a = 0
    · subst hz; exact ⟨0, .zero, by omega, by omega⟩
    · by_cases hi : ∃ j, j < l.length ∧ (rcd l j).f1 = a
      · obtain ⟨i, hi, e⟩ := hi
        have hm := rcd_mem l i hi
        have hk := rec_facts2 (hL.2 _ hm)
        have ho := hx _ hm
        by_cases k1 : (rcd l i).f0 = 1
        · exact ⟨a, .upd a hz i hi e k1, h0, Int.le_refl _⟩
        · by_cases k2 : (rcd l i).f0 = 2
          · exact ⟨_, .undo a _ hz i hi e k2 rfl, ho.un.1, by omega⟩
          · obtain ⟨v, hv, h2, h3⟩ := nx_ex hL hx n (rcd l i).f3 ho.pv.1 (by omega)
            exact ⟨v, .on a v hz i hi e ⟨k1, k2⟩ hv, h2, by omega⟩
      · exact ⟨0, .none a hz (fun j hj e => hi ⟨j, hj, e⟩), by omega, h0⟩
theorem up_inj {l : List SGRecord} (h : Up l) {i j : Nat} (hi : i < l.length) (hj : j < l.length) (e : (rcd l i).f1 = (rcd l j).f1) : i = j := by
  rcases Nat.lt_trichotomy i j with h1 | h1 | h1
  · have := up_lt' h h1 hj; omega
  · exact h1
  · have := up_lt' h h1 hi; omega
theorem nx_zero {l : List SGRecord} {v : Int} (h : Nx l 0 v) : v = 0 := by
  cases h with
  | zero => rfl
  | none _ h0 h => rfl
  | upd _ h0 => exact absurd rfl h0
  | undo _ _ h0 => exact absurd rfl h0
  | on _ _ h0 => exact absurd rfl h0
theorem nx_none {l : List SGRecord} {a v : Int} (h : Nx l a v) (hn : ∀ j, j < l.length → (rcd l j).f1 ≠ a) : v = 0 := by
  cases h with
  | zero => rfl
  | none _ h0 h => rfl
  | upd _ h0 i hi e => exact absurd e (hn i hi)
  | undo _ _ h0 i hi e => exact absurd e (hn i hi)
  | on _ _ h0 i hi e => exact absurd e (hn i hi)
theorem nx_at {l : List SGRecord} {a v : Int} (hU : Up l) (h0' : a ≠ 0) {i : Nat} (hi' : i < l.length) (e' : (rcd l i).f1 = a) (h : Nx l a v) : ((rcd l i).f0 = 1 → v = a) ∧ ((rcd l i).f0 = 2 → v = (rcd l i).f4) ∧ ((rcd l i).f0 ≠ 1 → (rcd l i).f0 ≠ 2 → Nx l (rcd l i).f3 v) := by
  cases h with
  | zero => exact absurd rfl h0'
  | none _ h0 h => exact absurd e' (h i hi')
  | upd _ h0 j hj e hk =>
    obtain rfl := up_inj hU hi' hj (e'.trans e.symm)
    exact ⟨fun _ => rfl, fun q => by omega, fun q => absurd hk q⟩
  | undo _ _ h0 j hj e hk hv =>
    obtain rfl := up_inj hU hi' hj (e'.trans e.symm)
    exact ⟨fun q => by omega, fun _ => hv.symm, fun _ q => absurd hk q⟩
  | on _ _ h0 j hj e hk h =>
    obtain rfl := up_inj hU hi' hj (e'.trans e.symm)
    exact ⟨fun q => absurd q hk.1, fun q => absurd q hk.2, fun _ _ => h⟩
set_option maxRecDepth 100000 in
set_option maxHeartbeats 4000000 in
theorem next_calls (w : World) (l : List SGRecord) (A : Option Addr) (c : Nat) (hC : Kd.C kGRecord w A l.length l) (hc : l.length ≤ c) (hl : l.length ≤ 300) (hx : ∀ r ∈ l, Okx r) (a : Int) (h0 : 0 ≤ a) (ha : a < 18446744073709551616) :
    Calls Try.prog 10 #[.slice A l.length c, .int .u64 a] w fun e w' => ∃ v, e = .returned (.int .u64 v) ∧ (LogP l → Nx l a v ∧ 0 ≤ v ∧ v ≤ a) ∧ (¬ LogP l → v = 0) ∧ Below w.heap.size w w' := by
  have HC := Aside0.mk hC
  have HX := Aside0.mk hx
  clear hC hx
  go_enter Try.func10, Try.ntmps10
  go_wp2_with fail
  refine (fcheck_calls w l A c HC.out hc (by omega)).mono ?_
  rintro e wb ⟨n, rfl, hn, hb⟩
  have HB := Aside0.mk hb
  clear hb
  rcases hn with ⟨rfl, hlog⟩ | ⟨rfl, hlog⟩
  rotate_left
  · have HLOG := Aside0.mk hlog
    clear hlog
    go_wp2_with fail
    go_ret
    exact ⟨0, rfl, fun q => absurd q HLOG.out, fun _ => rfl, HB.out⟩
  · have HLOG := Aside0.mk hlog
    obtain ⟨v, hv, hv0, hva⟩ := nx_ex hlog HX.out a.toNat a h0 (by omega)
    have HV := Aside0.mk hv
    have HV0 := Aside0.mk (show LogP l → Nx l a v ∧ 0 ≤ v ∧ v ≤ a from fun _ => ⟨hv, hv0, hva⟩)
    clear hlog hv hv0 hva
    have HAB := Aside0.mk (show 0 ≤ a ∧ a < 18446744073709551616 from ⟨h0, ha⟩)
    clear h0 ha
    go_wp2_with fail
    go_loopg [1] (a.toNat + 1) (fun gk v1 wr => ∃ cur : Int, Aside0 (cur < gk) ∧ Aside0 (0 ≤ cur ∧ cur < 18446744073709551616) ∧ v1 = .int .u64 cur ∧ Aside0 (Nx l cur v) ∧ Aside0 (Below w.heap.size w wr))
    case atStart => exact ⟨a, ⟨by have := HAB.out; omega⟩, HAB, rfl, HV, HB⟩
    case round =>
      obtain ⟨cur, HG, HCU, rfl, HNX, HBr⟩ := hrel
      by_cases hz : cur = 0
      · have e0 : (cur != 0) = false := by simp [hz]
        have hv0 : v = 0 := nx_zero (by have := HNX.out; rwa [hz] at this)
        clear hz
        go_wp2_with fail
        go_ret
        exact ⟨0, rfl, fun q => by have h := HV0.out q; rw [hv0] at h; exact h, fun q => absurd HLOG.out q, HBr.out⟩
      · have e0 : (cur != 0) = true := by simpa using hz
        have HZ := Aside0.mk hz
        clear hz
        go_wp2_with fail
        refine (bsearch_calls wr l A c (Kd.C_below HC.out HBr.out) hl HLOG.out.1 cur).mono ?_
        rintro e w1 ⟨i, ok, rfl, hok1, hok0, hb⟩
        have HB1 := Aside0.mk (below_then HBr.out HBr.out.size hb)
        clear hb
        cases ok with
        | false =>
          have hv0 : v = 0 := nx_none HNX.out (hok0 rfl)
          clear hok1 hok0
          go_wp2_with fail
          go_ret
          exact ⟨0, rfl, fun q => by have h := HV0.out q; rw [hv0] at h; exact h, fun q => absurd HLOG.out q, HB1.out⟩
        | true =>
          obtain ⟨hil, hie⟩ := hok1 rfl
          obtain ⟨n1, n2, n3⟩ := nx_at HLOG.out.1 HZ.out hil hie HNX.out
          obtain ⟨ad, o, A10, c10, A11, c11, rfl, ho, x0, x1, x2, x3, x4, x5, x6, x7, x8, x9, x10, x11⟩ := rg_at12 (Kd.C_below HC.out HB1.out) i hil
          rw [← ho] at n1 n2 n3 hie
          have HFX := Aside0.mk (show o.f3 < o.f1 ∧ 0 ≤ o.f3 from by rw [ho]; exact ⟨(rec_facts2 (HLOG.out.2 _ (rcd_mem l i hil))).1, (HX.out _ (rcd_mem l i hil)).pv.1⟩)
          have HIE := Aside0.mk hie
          clear hok1 hok0 ho hie x1 x2 x5 x6 x7 x8 x9 x10 x11
          by_cases k1 : o.f0 = 1
          · have e1 : (o.f0 == 1) = true := by simpa using k1
            have hv := n1 k1
            clear k1 n1 n2 n3
            go_wp2_with fail
            go_ret
            exact ⟨cur, rfl, fun q => by have h := HV0.out q; rw [hv] at h; exact h, fun q => absurd HLOG.out q, HB1.out⟩
          · have e1 : (o.f0 == 1) = false := by simpa using k1
            by_cases k2 : o.f0 = 2
            · have e2 : (o.f0 == 2) = true := by simpa using k2
              have hv := n2 k2
              clear k1 k2 n1 n2 n3
              go_wp2_with fail
              go_ret
              exact ⟨o.f4, rfl, fun q => by have h := HV0.out q; rw [hv] at h; exact h, fun q => absurd HLOG.out q, HB1.out⟩
            · have e2 : (o.f0 == 2) = false := by simpa using k2
              have HNN := Aside0.mk (n3 k1 k2)
              clear k1 k2 n1 n2 n3
              go_wp2_with fail
              go_roundg (gk - 1)
              case measure => have := HG.out; have := HZ.out; have := HCU.out; omega
              case rel => exact ⟨o.f3, ⟨by have := HG.out; have := HFX.out; have := HIE.out; omega⟩, ⟨by have := HFX.out; have := HIE.out; have := HCU.out; omega⟩, rfl, HNN, HB1⟩
end Go.Proofs.Ytaahfokdgfopcaa
