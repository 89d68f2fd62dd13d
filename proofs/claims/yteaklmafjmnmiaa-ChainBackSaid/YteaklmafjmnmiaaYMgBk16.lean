/- chain's Note: its other refusals; Note whole. -/
import Derived.Test.YteaklmafjmnmiaaYMgBk12
import Derived.Test.YteaklmafjmnmiaaYMgBk13
import Derived.Test.YteaklmafjmnmiaaYMgBk14
import Derived.Test.YteaklmafjmnmiaaYMgBk15
section
namespace Go.Proofs.Yteaklmafjmnmiaa
open Go.RowKit Go.Proofs.YteaklmafjmnmiaaW.PrintWords Go.Proofs.YteaklmafjmnmiaaW.PrintLast Go.Proofs.YteaklmafjmnmiaaW.PrintMore
open Rf MapL MapV
set_option linter.unusedVariables false
set_option linter.unusedSimpArgs false
set_option maxRecDepth 100000 in
set_option maxHeartbeats 8000000 in
theorem notea_calls (w0 : Wb) (w : World) (t mb : Nat) (bx : Int → Nat) (ks : List Int) (X : Int → TX) (k ls tx pv un pg ak : Int) (a b c : ByteArray) (At : Option Addr) (ct : Nat) (l : List SGTxn) (Ad : Option Addr) (cd : Nat) (m : List SGDirty) (h : Tab w0 w t mb bx ks X)
    (hT : Kd.C kGTxn w At l.length l) (hTc : l.length ≤ ct) (hD : Kd.C kGDirty w Ad m.length m) (hDc : m.length ≤ cd) (hbad : recOk k ls tx pv un pg ak a b c l m = false ∨ k = 7 ∨ k = 8) :
    Calls Try.prog 12 #[.pointer (some ⟨t, 0, none⟩), .agg #[.int .i64 k, .int .u64 ls, .int .i64 tx, .int .u64 pv, .int .u64 un, .int .i64 pg, .int .i64 ak, .string a, .string b, .string c, .slice At l.length ct, .slice Ad m.length cd]] w fun e w' => e = .returned (.int .i64 1) ∧ Tab w0 w' t mb bx ks X := by
  have hck := fun (W : World) (h : Below w.heap.size w W) => check_calls W k ls tx pv un pg ak a b c At ct l Ad cd m (Kd.C_below hT h) hTc (Kd.C_below hD h) hDc
  have hba : Below w.heap.size w (w.alloc (.cells #[.int .i64 k, .int .u64 ls, .int .i64 tx, .int .u64 pv, .int .u64 un, .int .i64 pg, .int .i64 ak, .string a, .string b, .string c, .slice At l.length ct, .slice Ad m.length cd] 39)) := below_alloc (Below.refl _ _) _
  have hxa : (w.alloc (.cells #[.int .i64 k, .int .u64 ls, .int .i64 tx, .int .u64 pv, .int .u64 un, .int .i64 pg, .int .i64 ak, .string a, .string b, .string c, .slice At l.length ct, .slice Ad m.length cd] 39)).heap[w.heap.size]? = some (.cells #[.int .i64 k, .int .u64 ls, .int .i64 tx, .int .u64 pv, .int .u64 un, .int .i64 pg, .int .i64 ak, .string a, .string b, .string c, .slice At l.length ct, .slice Ad m.length cd] 39 (0, 0)) := heap_alloc_new w _
  have hta := h.next hba
  have HBAD := Aside0.mk hbad
  clear hT hD h hbad
  go_enter Try.func12, Try.ntmps12
  go_wp2_with fail
  generalize w.alloc (.cells #[.int .i64 k, .int .u64 ls, .int .i64 tx, .int .u64 pv, .int .u64 un, .int .i64 pg, .int .i64 ak, .string a, .string b, .string c, .slice At l.length ct, .slice Ad m.length cd] 39) = wa at hba hxa hta ⊢
  refine (hck wa hba).mono ?_
  rintro e w1 ⟨rfl, hb⟩
  have HX1 := Aside0.mk (blk_below hxa hb)
  have HT1 := Aside0.mk (hta.next hb)
  clear hb hck hba hxa hta
  have x0 := blk_cell HX1.out 0
  have x1 := blk_cell HX1.out 1
  have x2 := blk_cell HX1.out 2
  have x3 := blk_cell HX1.out 3
  have x4 := blk_cell HX1.out 4
  have x5 := blk_cell HX1.out 5
  have x6 := blk_cell HX1.out 6
  have x7 := blk_cell HX1.out 7
  have x8 := blk_cell HX1.out 8
  have x9 := blk_cell HX1.out 9
  have x10 := blk_cell HX1.out 10
  have x11 := blk_cell HX1.out 11
  cases hok : recOk k ls tx pv un pg ak a b c l m with
  | false =>
    have ec : cde false = 1 := rfl
    rw [ec]
    clear hok
    go_wp2_with fail
    go_ret
    exact ⟨rfl, HT1.out⟩
  | true =>
    have ec : cde true = 0 := rfl
    rw [ec]
    have h78 : k = 7 ∨ k = 8 := by
      rcases HBAD.out with h | h
      · rw [hok] at h; cases h
      · exact h
    clear hok HBAD
    rcases h78 with rfl | rfl
    all_goals
      go_wp2_with fail
      go_ret
      exact ⟨rfl, HT1.out⟩
set_option maxRecDepth 100000 in
set_option maxHeartbeats 8000000 in
theorem noten_calls (w0 : Wb) (w : World) (t mb : Nat) (bx : Int → Nat) (ks : List Int) (X : Int → TX) (k ls tx pv un pg ak : Int) (a b c : ByteArray) (At Ad : Option Addr) (ct cd : Nat) (h : Tab w0 w t mb bx ks X) (hi : tx ∉ ks)
    (hok : recOk k ls tx pv un pg ak a b c [] [] = true) (hk7 : k ≠ 7) (hk8 : k ≠ 8) :
    Calls Try.prog 12 #[.pointer (some ⟨t, 0, none⟩), .agg #[.int .i64 k, .int .u64 ls, .int .i64 tx, .int .u64 pv, .int .u64 un, .int .i64 pg, .int .i64 ak, .string a, .string b, .string c, .slice At 0 ct, .slice Ad 0 cd]] w fun e w' => e = .returned (.int .i64 8) ∧ Tab w0 w' t mb bx ks X := by
  have hck := fun (W : World) => check_calls W k ls tx pv un pg ak a b c At ct [] Ad cd [] (nilCA _ _ _) (Nat.zero_le _) (nilCA _ _ _) (Nat.zero_le _)
  rw [hok] at hck
  simp only [List.length_nil] at hck
  have e7 : (k == 7) = false := by simpa using hk7
  have e8 : (k == 8) = false := by simpa using hk8
  have hba : Below w.heap.size w (w.alloc (.cells #[.int .i64 k, .int .u64 ls, .int .i64 tx, .int .u64 pv, .int .u64 un, .int .i64 pg, .int .i64 ak, .string a, .string b, .string c, .slice At 0 ct, .slice Ad 0 cd] 39)) := below_alloc (Below.refl _ _) _
  have hxa : (w.alloc (.cells #[.int .i64 k, .int .u64 ls, .int .i64 tx, .int .u64 pv, .int .u64 un, .int .i64 pg, .int .i64 ak, .string a, .string b, .string c, .slice At 0 ct, .slice Ad 0 cd] 39)).heap[w.heap.size]? = some (.cells #[.int .i64 k, .int .u64 ls, .int .i64 tx, .int .u64 pv, .int .u64 un, .int .i64 pg, .int .i64 ak, .string a, .string b, .string c, .slice At 0 ct, .slice Ad 0 cd] 39 (0, 0)) := heap_alloc_new w _
  have hta := h.next hba
  have HI := Aside0.mk hi
  clear h hi hok hk7 hk8
  go_enter Try.func12, Try.ntmps12
  go_wp2_with fail
  generalize w.alloc (.cells #[.int .i64 k, .int .u64 ls, .int .i64 tx, .int .u64 pv, .int .u64 un, .int .i64 pg, .int .i64 ak, .string a, .string b, .string c, .slice At 0 ct, .slice Ad 0 cd] 39) = wa at hba hxa hta ⊢
  refine (hck wa).mono ?_
  rintro e w1 ⟨rfl, hb⟩
  have ec : cde true = 0 := rfl
  rw [ec]
  have HX1 := Aside0.mk (blk_below hxa hb)
  have HT1 := Aside0.mk (hta.next hb)
  clear hb hck hba hxa hta ec
  have x0 := blk_cell HX1.out 0
  have x1 := blk_cell HX1.out 1
  have x2 := blk_cell HX1.out 2
  have x3 := blk_cell HX1.out 3
  have x4 := blk_cell HX1.out 4
  have x5 := blk_cell HX1.out 5
  have x6 := blk_cell HX1.out 6
  have x7 := blk_cell HX1.out 7
  have x8 := blk_cell HX1.out 8
  have x9 := blk_cell HX1.out 9
  have x10 := blk_cell HX1.out 10
  have x11 := blk_cell HX1.out 11
  go_wp2_with fail
  have hl := fun n => (HT1.out.next (show Below w1.heap.size w1 (w1.drewN n) from ⟨rfl, rfl, rfl, Nat.le_refl _, fun _ _ => rfl⟩)).look tx
  have hl' := HT1.out.look tx
  simp only [if_neg HI.out] at hl hl'
  have hc := blk_cell HT1.out.box 0
  go_quiet (fail)
  clear hl hl' hc x0 x1 x2 x3 x4 x5 x6 x7 x8 x9 x10 x11
  go_wp2_with fail
  go_ret
  exact ⟨rfl, HT1.out.next (show Below w1.heap.size w1 (w1.drewN nq) from ⟨rfl, rfl, rfl, Nat.le_refl _, fun _ _ => rfl⟩)⟩
/-- Which states let a kind of record be. -/
def letsB (k st un nx : Int) : Bool := if k = 2 then (st != 1) && decide (un < nx) else if k = 5 then st != 0 else st == 0
/-- What a record does to its transaction. -/
def noteX (k ls un nn sz : Int) (x : TX) : TX :=
  if k = 1 then ⟨x.st, ls, ls, x.need + nn, x.sv⟩ else if k = 2 then ⟨x.st, ls, un, max 0 (x.need + nn - sz), x.sv⟩ else if k = 3 then ⟨1, ls, 0, 27, x.sv⟩
  else if k = 4 then ⟨2, ls, x.next, max 0 (x.need + nn - 27), x.sv⟩ else ⟨x.st, ls, x.next, x.need + nn, x.sv⟩
theorem Tab.congr {w0 : Wb} {w : World} {t mb : Nat} {bx : Int → Nat} {ks : List Int} {X X' : Int → TX} (h : Tab w0 w t mb bx ks X) (he : ∀ id ∈ ks, X' id = X id) : Tab w0 w t mb bx ks X' :=
  ⟨h.box, h.map, fun id hi => by rw [he id hi]; exact h.at_ id hi, h.inj, h.bel, h.get, h.gem, h.geb⟩
/-- What Note does. -/
inductive Noted (w0 : Wb) (w' : World) (t mb : Nat) (bx : Int → Nat) (ks : List Int) (X : Int → TX) (k ls tx pv un pg ak : Int) (a b c : ByteArray) (l : List SGTxn) (m : List SGDirty) (e : Int) : Prop where
  | arg (hbad : recOk k ls tx pv un pg ak a b c l m = false ∨ k = 7 ∨ k = 8) (he : e = 1) (h : Tab w0 w' t mb bx ks X)
  | none (hok : recOk k ls tx pv un pg ak a b c l m = true) (hk : 1 ≤ k ∧ k ≤ 6) (hi : tx ∉ ks) (he : e = 8) (h : Tab w0 w' t mb bx ks X)
  | state (hok : recOk k ls tx pv un pg ak a b c l m = true) (hk : 1 ≤ k ∧ k ≤ 6) (hi : tx ∈ ks) (hs : pv ≠ (X tx).last ∨ letsB k (X tx).st un (X tx).next = false) (he : e = 10) (h : Tab w0 w' t mb bx ks X)
  | gone (hok : recOk k ls tx pv un pg ak a b c l m = true) (hk : k = 5) (hi : tx ∈ ks) (hpl : pv = (X tx).last) (hs : letsB k (X tx).st un (X tx).next = true) (he : e = 0) (h : Tab w0 w' t mb bx (ks.filter fun y => decide (y ≠ tx)) X)
  | ok (hok : recOk k ls tx pv un pg ak a b c l m = true) (hk : 1 ≤ k ∧ k ≤ 6 ∧ k ≠ 5) (hi : tx ∈ ks) (hpl : pv = (X tx).last) (hs : letsB k (X tx).st un (X tx).next = true) (he : e = 0)
      (h : Tab w0 w' t mb bx ks (updX X tx (noteX k ls un (needOf ks X k ls tx pv un pg ak a b c l m) (szU a b c) (X tx))))
theorem ok_len {k ls tx pv un pg ak : Int} {a b c : ByteArray} {l : List SGTxn} {m : List SGDirty} (h : recOk k ls tx pv un pg ak a b c l m = true) (h8 : k ≠ 8) : l = [] ∧ m = [] ∧ 0 < k ∧ k < 9 := by
  unfold recOk at h
  simp only [Bool.and_eq_true, Bool.or_eq_true, decide_eq_true_eq] at h
  obtain ⟨⟨⟨⟨⟨⟨⟨⟨⟨h1, h2⟩, _⟩, _⟩, _⟩, _⟩, _⟩, h3⟩, _⟩, _⟩ := h
  rcases h3 with h3 | ⟨h3, h4⟩
  · exact absurd h3 h8
  · exact ⟨List.length_eq_zero_iff.1 h3, List.length_eq_zero_iff.1 h4, h1, h2⟩
theorem need_le {ks : List Int} {X : Int → TX} {k ls tx pv un pg ak : Int} {a b c : ByteArray} {l : List SGTxn} {m : List SGDirty} : 0 ≤ needOf ks X k ls tx pv un pg ak a b c l m ∧ needOf ks X k ls tx pv un pg ak a b c l m ≤ 2000 := by
  unfold needOf
  split
  · rename_i h
    by_cases hk : k = 1
    · subst hk
      rw [if_pos rfl]
      have hfit := may_fits (upd_facts h.2).2.2.2.2.2
      have hs1 : (szU a c b : Int) ≤ 1000 := by unfold szU; omega
      split <;> omega
    · rw [if_neg hk]
      split <;> omega
  · omega
set_option maxRecDepth 100000 in
theorem note_calls (w0 : Wb) (w : World) (t mb : Nat) (bx : Int → Nat) (ks : List Int) (X : Int → TX) (k ls tx pv un pg ak : Int) (a b c : ByteArray) (At : Option Addr) (ct : Nat) (l : List SGTxn) (Ad : Option Addr) (cd : Nat) (m : List SGDirty) (h : Tab w0 w t mb bx ks X)
    (hT : Kd.C kGTxn w At l.length l) (hTc : l.length ≤ ct) (hD : Kd.C kGDirty w Ad m.length m) (hDc : m.length ≤ cd) (hpv : 0 ≤ pv) (hun : 0 ≤ un) (hnb : tx ∈ ks → 0 ≤ (X tx).need ∧ (X tx).need ≤ 1125899906840000) :
    Calls Try.prog 12 #[.pointer (some ⟨t, 0, none⟩), .agg #[.int .i64 k, .int .u64 ls, .int .i64 tx, .int .u64 pv, .int .u64 un, .int .i64 pg, .int .i64 ak, .string a, .string b, .string c, .slice At l.length ct, .slice Ad m.length cd]] w fun e w' => ∃ n, e = .returned (.int .i64 n) ∧ Noted w0 w' t mb bx ks X k ls tx pv un pg ak a b c l m n := by
  by_cases hbad : recOk k ls tx pv un pg ak a b c l m = false ∨ k = 7 ∨ k = 8
  · refine (notea_calls w0 w t mb bx ks X k ls tx pv un pg ak a b c At ct l Ad cd m h hT hTc hD hDc hbad).mono ?_
    rintro e w' ⟨rfl, h'⟩
    exact ⟨_, rfl, .arg hbad rfl h'⟩
  have hok : recOk k ls tx pv un pg ak a b c l m = true := by
    cases q : recOk k ls tx pv un pg ak a b c l m with
    | true => rfl
    | false => exact absurd (.inl q) hbad
  have h7 : k ≠ 7 := fun q => hbad (.inr (.inl q))
  have h8 : k ≠ 8 := fun q => hbad (.inr (.inr q))
  obtain ⟨rfl, rfl, hk0, hk9⟩ := ok_len hok h8
  by_cases hi : tx ∈ ks
  rotate_left
  · refine (noten_calls w0 w t mb bx ks X k ls tx pv un pg ak a b c At Ad ct cd h hi hok h7 h8).mono ?_
    rintro e w' ⟨rfl, h'⟩
    exact ⟨_, rfl, .none hok (by omega) hi rfl h'⟩
  have hnb := hnb hi
  by_cases hpl : pv = (X tx).last
  rotate_left
  · obtain ⟨f, g, hw⟩ : ∃ f g, ((k = 1 ∧ f = 43 ∧ g = 44) ∨ (k = 2 ∧ f = 45 ∧ g = 46) ∨ (k = 3 ∧ f = 43 ∧ g = 47) ∨ (k = 4 ∧ f = 43 ∧ g = 48) ∨ (k = 5 ∧ f = 49 ∧ g = 50) ∨ (k = 6 ∧ f = 43 ∧ g = 51)) := by
      have : k = 1 ∨ k = 2 ∨ k = 3 ∨ k = 4 ∨ k = 5 ∨ k = 6 := by omega
      rcases this with rfl | rfl | rfl | rfl | rfl | rfl
      all_goals (first | exact ⟨_, _, .inl ⟨rfl, rfl, rfl⟩⟩ | exact ⟨_, _, .inr (.inl ⟨rfl, rfl, rfl⟩)⟩ | exact ⟨_, _, .inr (.inr (.inl ⟨rfl, rfl, rfl⟩))⟩ | exact ⟨_, _, .inr (.inr (.inr (.inl ⟨rfl, rfl, rfl⟩)))⟩ | exact ⟨_, _, .inr (.inr (.inr (.inr (.inl ⟨rfl, rfl, rfl⟩))))⟩ | exact ⟨_, _, .inr (.inr (.inr (.inr (.inr (⟨rfl, rfl, rfl⟩)))))⟩)
    refine (notep_calls w0 w t mb bx ks X k f g h7 h8 hw ls tx pv un pg ak a b c At Ad ct cd h hi hok hpl).mono ?_
    rintro e w' ⟨rfl, h'⟩
    exact ⟨_, rfl, .state hok (by omega) hi (.inl hpl) rfl h'⟩
  obtain ⟨nn, hnn⟩ : ∃ nn, needOf ks X k ls tx pv un pg ak a b c [] [] = nn := ⟨_, rfl⟩
  have hnl := need_le (ks := ks) (X := X) (k := k) (ls := ls) (tx := tx) (pv := pv) (un := un) (pg := pg) (ak := ak) (a := a) (b := b) (c := c) (l := []) (m := [])
  rw [hnn] at hnl
  have hb4 : 0 ≤ (X tx).need ∧ (X tx).need ≤ 1125899906842624 ∧ 0 ≤ nn ∧ nn ≤ 2000 := by omega
  cases hl : letsB k (X tx).st un (X tx).next with
  | false =>
    have hfin : ∀ (e : Ending) (w' : World), e = .returned (.int .i64 10) ∧ Tab w0 w' t mb bx ks X → ∃ n, e = .returned (.int .i64 n) ∧ Noted w0 w' t mb bx ks X k ls tx pv un pg ak a b c [] [] n := fun e w' q => ⟨_, q.1, .state hok (by omega) hi (.inr hl) rfl q.2⟩
    unfold letsB at hl
    by_cases k2 : k = 2
    · subst k2
      rw [if_pos rfl] at hl
      exact (noteu_calls w0 w t mb bx ks X ls tx pv un pg ak a b c At Ad ct cd h hi hok hpl hl).mono hfin
    rw [if_neg k2] at hl
    by_cases k5 : k = 5
    · subst k5
      rw [if_pos rfl] at hl
      exact (notes_calls w0 w t mb bx ks X ls tx pv un pg ak a b c At Ad ct cd h hi hok hpl hl).mono hfin
    rw [if_neg k5] at hl
    obtain ⟨g, hw⟩ : ∃ g, ((k = 1 ∧ 43 = 43 ∧ g = 44) ∨ (k = 2 ∧ 43 = 45 ∧ g = 46) ∨ (k = 3 ∧ 43 = 43 ∧ g = 47) ∨ (k = 4 ∧ 43 = 43 ∧ g = 48) ∨ (k = 5 ∧ 43 = 49 ∧ g = 50) ∨ (k = 6 ∧ 43 = 43 ∧ g = 51)) := by
      have : k = 1 ∨ k = 3 ∨ k = 4 ∨ k = 6 := by omega
      rcases this with rfl | rfl | rfl | rfl
      all_goals (first | exact ⟨_, .inl ⟨rfl, rfl, rfl⟩⟩ | exact ⟨_, .inr (.inl ⟨rfl, rfl, rfl⟩)⟩ | exact ⟨_, .inr (.inr (.inl ⟨rfl, rfl, rfl⟩))⟩ | exact ⟨_, .inr (.inr (.inr (.inl ⟨rfl, rfl, rfl⟩)))⟩ | exact ⟨_, .inr (.inr (.inr (.inr (.inl ⟨rfl, rfl, rfl⟩))))⟩ | exact ⟨_, .inr (.inr (.inr (.inr (.inr (⟨rfl, rfl, rfl⟩)))))⟩)
    exact (noteo_calls w0 w t mb bx ks X k g h7 h8 hw ls tx pv un pg ak a b c At Ad ct cd h hi hok hpl hl).mono hfin
  | true =>
    have hfin : k ≠ 5 → ∀ (e : Ending) (w' : World), e = .returned (.int .i64 0) ∧ Tab w0 w' t mb bx ks (updX X tx (noteX k ls un nn (szU a b c) (X tx))) → ∃ n, e = .returned (.int .i64 n) ∧ Noted w0 w' t mb bx ks X k ls tx pv un pg ak a b c [] [] n := fun h5 e w' q => ⟨_, q.1, .ok hok (by omega) hi hpl hl rfl (by rw [hnn]; exact q.2)⟩
    have hl2 := hl
    unfold letsB at hl
    have : k = 1 ∨ k = 2 ∨ k = 3 ∨ k = 4 ∨ k = 5 ∨ k = 6 := by omega
    rcases this with rfl | rfl | rfl | rfl | rfl | rfl
    · rw [if_neg (by omega), if_neg (by omega)] at hl
      exact (note1_calls w0 w t mb bx ks X ls tx pv un pg ak a b c At Ad ct cd h hi hok hpl hl nn hnn hb4).mono (hfin (by omega))
    · rw [if_pos rfl] at hl
      by_cases hq : (X tx).need + nn ≤ (szU a b c : Int)
      · refine (note2a_calls w0 w t mb bx ks X ls tx pv un pg ak a b c At Ad ct cd h hi hok hpl hl nn hnn hb4 hpv hun (by omega)).mono fun e w' q => hfin (by omega) e w' ⟨q.1, ?_⟩
        have e0 : noteX 2 ls un nn (szU a b c) (X tx) = ⟨(X tx).st, ls, un, 0, (X tx).sv⟩ := by
          show TX.mk _ _ _ (max 0 ((X tx).need + nn - (szU a b c : Int))) _ = _
          rw [show max (0 : Int) ((X tx).need + nn - (szU a b c : Int)) = 0 by omega]
        rw [e0]; exact q.2
      · refine (note2b_calls w0 w t mb bx ks X ls tx pv un pg ak a b c At Ad ct cd h hi hok hpl hl nn hnn hb4 hpv hun (by omega)).mono fun e w' q => hfin (by omega) e w' ⟨q.1, ?_⟩
        have e0 : noteX 2 ls un nn (szU a b c) (X tx) = ⟨(X tx).st, ls, un, (X tx).need + nn - (szU a b c : Int), (X tx).sv⟩ := by
          show TX.mk _ _ _ (max 0 ((X tx).need + nn - (szU a b c : Int))) _ = _
          rw [show max (0 : Int) ((X tx).need + nn - (szU a b c : Int)) = (X tx).need + nn - (szU a b c : Int) by omega]
        rw [e0]; exact q.2
    · rw [if_neg (by omega), if_neg (by omega)] at hl
      exact (note3_calls w0 w t mb bx ks X ls tx pv un pg ak a b c At Ad ct cd h hi hok hpl hl nn hnn hb4).mono (hfin (by omega))
    · rw [if_neg (by omega), if_neg (by omega)] at hl
      by_cases hq : (X tx).need + nn ≤ 27
      · refine (note4a_calls w0 w t mb bx ks X ls tx pv un pg ak a b c At Ad ct cd h hi hok hpl hl nn hnn hb4 (by omega)).mono fun e w' q => hfin (by omega) e w' ⟨q.1, ?_⟩
        have e0 : noteX 4 ls un nn (szU a b c) (X tx) = ⟨2, ls, (X tx).next, 0, (X tx).sv⟩ := by
          show TX.mk _ _ _ (max 0 ((X tx).need + nn - 27)) _ = _
          rw [show max (0 : Int) ((X tx).need + nn - 27) = 0 by omega]
        rw [e0]; exact q.2
      · refine (note4b_calls w0 w t mb bx ks X ls tx pv un pg ak a b c At Ad ct cd h hi hok hpl hl nn hnn hb4 (by omega)).mono fun e w' q => hfin (by omega) e w' ⟨q.1, ?_⟩
        have e0 : noteX 4 ls un nn (szU a b c) (X tx) = ⟨2, ls, (X tx).next, (X tx).need + nn - 27, (X tx).sv⟩ := by
          show TX.mk _ _ _ (max 0 ((X tx).need + nn - 27)) _ = _
          rw [show max (0 : Int) ((X tx).need + nn - 27) = (X tx).need + nn - 27 by omega]
        rw [e0]; exact q.2
    · rw [if_neg (by omega), if_pos rfl] at hl
      refine (note5_calls w0 w t mb bx ks X ls tx pv un pg ak a b c At Ad ct cd h hi hok hpl hl nn hnn hb4).mono fun e w' q => ⟨_, q.1, .gone hok rfl hi hpl hl2 rfl (q.2.congr fun id hid => ?_)⟩
      have := (List.mem_filter.1 hid).2
      unfold updX
      rw [if_neg (by simpa using this)]
    · rw [if_neg (by omega), if_neg (by omega)] at hl
      exact (note6_calls w0 w t mb bx ks X ls tx pv un pg ak a b c At Ad ct cd h hi hok hpl hl nn hnn hb4).mono (hfin (by omega))
end Go.Proofs.Yteaklmafjmnmiaa
end
