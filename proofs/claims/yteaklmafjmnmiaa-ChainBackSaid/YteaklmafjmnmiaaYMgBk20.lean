/- Layer 17: ChainBack's walk. -/
import Derived.Test.YteaklmafjmnmiaaYMgBk16
import Derived.Test.YteaklmafjmnmiaaYMgBk18
import Derived.Test.YteaklmafjmnmiaaYRf3
import Derived.Test.YteaklmafjmnmiaaYMgBka
import Derived.Test.YteaklmafjmnmiaaYMgBk19
import Derived.Deep.DeepCutAuto
import Derived.Deep.CutBlock
section
namespace Go.Proofs.Yteaklmafjmnmiaa
open Go.RowKit Go.Proofs.YteaklmafjmnmiaaW.PrintWords Go.Proofs.YteaklmafjmnmiaaW.PrintLast Go.Proofs.YteaklmafjmnmiaaW.PrintMore
open Rf MapL MapV
set_option linter.unusedVariables false
set_option linter.unusedSimpArgs false
/-- What taking these records back needs. -/
def sumR : List SRec → Nat
  | [] => 0
  | x :: r => szU x.a x.c x.b + sumR r
theorem sumR_snoc (R : List SRec) (x : SRec) : sumR (R ++ [x]) = sumR R + szU x.a x.c x.b := by
  induction R with
  | nil => simp [sumR]
  | cons y r ih => simp [sumR, ih]; omega
theorem sumR_take (R : List SRec) (k : Nat) (h : k < R.length) : sumR (R.take (k + 1)) = sumR (R.take k) + szU (R.getD k zRec).a (R.getD k zRec).c (R.getD k zRec).b := by
  rw [List.take_succ_eq_append_getElem h, sumR_snoc, List.getD_eq_getElem?_getD, List.getElem?_eq_getElem h]
  rfl
def base (R : List SRec) : Int := if R.length = 0 then 0 else 54
/-- The table holds one transaction: what it is. -/
structure Bk (X : Int → TX) (id : Int) (R : List SRec) (k : Nat) (lst : Int) : Prop where
  st : (X id).st = 0
  last : (X id).last = lst
  next : (X id).next = 16 * (k : Int)
  need : (X id).need = base R + (sumR (R.take k) : Int)
/-- The records that were noted. -/
structure Good (id : Int) (R : List SRec) : Prop where
  at_ : ∀ j, j < R.length → (R.getD j zRec).ls = 16 * ((j : Int) + 1) ∧ (R.getD j zRec).tx = id ∧ (R.getD j zRec).pv = 16 * (j : Int) ∧ recOk 1 (R.getD j zRec).ls id (R.getD j zRec).pv 0 (R.getD j zRec).pg (R.getD j zRec).ak (R.getD j zRec).a (R.getD j zRec).b (R.getD j zRec).c [] [] = true
theorem getD_snoc_lt (R : List SRec) (x : SRec) (j : Nat) (h : j < R.length) : (R ++ [x]).getD j zRec = R.getD j zRec := by
  rw [List.getD_eq_getElem?_getD, List.getD_eq_getElem?_getD, List.getElem?_append_left h]
theorem getD_snoc_eq (R : List SRec) (x : SRec) : (R ++ [x]).getD R.length zRec = x := by
  rw [List.getD_eq_getElem?_getD, List.getElem?_append_right (Nat.le_refl _), Nat.sub_self]
  rfl
theorem Good.snoc {id : Int} {R : List SRec} (h : Good id R) (x : SRec) (h1 : x.ls = 16 * ((R.length : Int) + 1)) (h2 : x.tx = id) (h3 : x.pv = 16 * (R.length : Int)) (h4 : recOk 1 x.ls id x.pv 0 x.pg x.ak x.a x.b x.c [] [] = true) : Good id (R ++ [x]) := by
  refine ⟨fun j hj => ?_⟩
  by_cases e : j < R.length
  · rw [getD_snoc_lt R x j e]; exact h.at_ j e
  · obtain rfl : j = R.length := by simp at hj; omega
    rw [getD_snoc_eq]; exact ⟨h1, h2, h3, h4⟩
theorem szU_le {k ls tx pv un pg ak : Int} {a b c : ByteArray} (h : recOk 1 ls tx pv un pg ak a b c [] [] = true) : szU a c b ≤ 200 := by
  obtain ⟨_, _, _, _, _, f6⟩ := upd_facts h
  obtain ⟨_, h2, h3, h4⟩ := may_fits f6
  unfold szU; omega
theorem sumR_le {id : Int} {R : List SRec} (h : Good id R) : ∀ k, k ≤ R.length → sumR (R.take k) ≤ 200 * k
  | 0, _ => by simp [sumR]
  | k + 1, hk => by
    have h1 := sumR_le h k (by omega)
    have h2 := szU_le (k := 0) (h.at_ k (by omega)).2.2.2
    rw [sumR_take R k (by omega)]
    omega
theorem base_le (R : List SRec) : 0 ≤ base R ∧ base R ≤ 54 := by unfold base; split <;> omega
section
variable {w0 : Wb} {w' : World} {t mb : Nat} {bx : Int → Nat} {X : Int → TX} {id : Int} {R : List SRec}
/-- A change is noted. -/
theorem noted_upd {ls pv pg ak : Int} {a b c : ByteArray} {n : Int} (h : Noted w0 w' t mb bx [id] X 1 ls id pv 0 pg ak a b c [] [] n) (hB : Bk X id R R.length pv) (hp : pv = 16 * (R.length : Int)) (hls : ls = 16 * ((R.length : Int) + 1)) (hG : Good id R) :
    (n ≠ 0 ∧ Tab w0 w' t mb bx [id] X) ∨ (n = 0 ∧ ∃ X', Tab w0 w' t mb bx [id] X' ∧ Bk X' id (R ++ [⟨ls, id, pv, pg, ak, a, b, c⟩]) (R ++ [⟨ls, id, pv, pg, ak, a, b, c⟩] : List SRec).length ls ∧ Good id (R ++ [⟨ls, id, pv, pg, ak, a, b, c⟩])) := by
  cases h with
  | arg hbad he h => exact .inl ⟨by omega, h⟩
  | none hok hk hi he h => exact .inl ⟨by omega, h⟩
  | state hok hk hi hs he h => exact .inl ⟨by omega, h⟩
  | gone hok hk hi hpl hs he h => omega
  | ok hok hk hi hpl hs he h =>
    refine .inr ⟨he, _, h, ?_, hG.snoc _ hls rfl hp hok⟩
    have e := updX_at X id (noteX 1 ls 0 (needOf [id] X 1 ls id pv 0 pg ak a b c [] []) (szU a b c) (X id))
    have hn : needOf [id] X 1 ls id pv 0 pg ak a b c [] [] = (szU a c b : Int) + (if pv = 0 then 54 else 0) := by
      unfold needOf
      rw [if_pos ⟨by simp, hok⟩, if_pos rfl, hB.last]
      by_cases h0 : pv = 0
      · rw [if_pos ⟨h0, .inl rfl⟩, if_pos h0]
      · rw [if_neg (fun h => h0 h.1), if_neg h0]
    have hnx : noteX 1 ls 0 (needOf [id] X 1 ls id pv 0 pg ak a b c [] []) (szU a b c) (X id) = ⟨(X id).st, ls, ls, (X id).need + needOf [id] X 1 ls id pv 0 pg ak a b c [] [], (X id).sv⟩ := by unfold noteX; rw [if_pos rfl]
    rw [hnx] at e
    refine ⟨by rw [hnx, e]; exact hB.st, by rw [hnx, e], by rw [hnx, e]; show ls = _; simp [hls], ?_⟩
    rw [hnx, e]
    show (X id).need + _ = _
    rw [hB.need, hn, List.take_length, List.take_length, sumR_snoc]
    unfold base
    rw [if_neg (by simp : ¬ (R ++ [(⟨ls, id, pv, pg, ak, a, b, c⟩ : SRec)]).length = 0)]
    by_cases h0 : R.length = 0
    · rw [if_pos h0, if_pos (by omega)]; simp; omega
    · rw [if_neg h0, if_neg (by omega)]; simp; omega
theorem undo_ok {at' lst un tx pg ak : Int} {a b c : ByteArray} (h1 : 16 ≤ at' ∧ at' ≤ 1000000) (h2 : lst < at') (h3 : un < at') (htx : 1 ≤ tx ∧ tx ≤ 1073741824) (hpg : 0 ≤ pg ∧ pg < 16) (hm : actMay ak a b c = true) : recOk 2 at' tx lst un pg (turnK ak) a c b [] [] = true := by
  have h2' := mayAB_turn hm
  unfold recOk numB pageB txnB
  rw [if_pos (show (2 : Int) = 1 ∨ (2 : Int) = 2 from .inr rfl), if_neg (show ¬ ((2 : Int) = 7 ∨ (2 : Int) = 8) by omega), h2', decide_eq_true hpg, decide_eq_true htx, decide_eq_true h2, decide_eq_true h3, decide_eq_true (show 16 ≤ at' ∧ at' ≤ 1152921504606846991 by omega)]
  rfl
theorem end_ok {k at' lst tx : Int} (hk : k = 4 ∨ k = 5) (h1 : 16 ≤ at' ∧ at' ≤ 1000000) (h2 : lst < at') (htx : 1 ≤ tx ∧ tx ≤ 1073741824) : recOk k at' tx lst 0 0 0 ⟨#[]⟩ ⟨#[]⟩ ⟨#[]⟩ [] [] = true := by
  unfold recOk numB txnB
  rw [if_neg (by omega), if_neg (by omega), decide_eq_true htx, decide_eq_true h2, decide_eq_true (show 16 ≤ at' ∧ at' ≤ 1152921504606846991 by omega), decide_eq_true (show (0 : Int) < at' by omega), decide_eq_true (show 0 < k by omega), decide_eq_true (show k < 9 by omega), decide_eq_false (show ¬ k = 2 by omega), decide_eq_false (show ¬ k = 8 by omega)]
  unfold nilB
  rw [ByteArray.toList_eq]
  rfl
/-- A record that takes back is noted. -/
theorem noted_undo {at' lst un pg ak : Int} {a b c : ByteArray} {n : Int} {k : Nat} (h : Noted w0 w' t mb bx [id] X 2 at' id lst un pg (turnK ak) a c b [] [] n) (hB : Bk X id R (k + 1) lst) (hk : k < R.length) (hun : un = 16 * (k : Int)) (hok : recOk 2 at' id lst un pg (turnK ak) a c b [] [] = true)
    (hsz : szU a c b = szU (R.getD k zRec).a (R.getD k zRec).c (R.getD k zRec).b) :
    n = 0 ∧ ∃ X', Tab w0 w' t mb bx [id] X' ∧ Bk X' id R k at' := by
  have hlet : letsB 2 (X id).st un (X id).next = true := by
    unfold letsB
    rw [if_pos rfl, hB.st, hB.next, decide_eq_true (by omega)]
    rfl
  cases h with
  | arg hbad he h =>
    rcases hbad with h2 | h2 | h2
    · rw [hok] at h2; cases h2
    · omega
    · omega
  | none _ hk hi he h => exact absurd (by simp) hi
  | state _ hk hi hs he h =>
    rcases hs with hs | hs
    · exact absurd hB.last.symm hs
    · rw [hlet] at hs; cases hs
  | gone _ hk hi hpl hs he h => omega
  | ok _ hk2 hi hpl hs he h =>
    refine ⟨he, _, h, ?_⟩
    have hn : needOf [id] X 2 at' id lst un pg (turnK ak) a c b [] [] = 0 := by
      unfold needOf
      rw [if_pos ⟨by simp, hok⟩, if_neg (by omega), if_neg (by omega)]
      rfl
    have e := updX_at X id (noteX 2 at' un (needOf [id] X 2 at' id lst un pg (turnK ak) a c b [] []) (szU a c b) (X id))
    have hnx : noteX 2 at' un (needOf [id] X 2 at' id lst un pg (turnK ak) a c b [] []) (szU a c b) (X id) = ⟨(X id).st, at', un, max 0 ((X id).need + 0 - szU a c b), (X id).sv⟩ := by unfold noteX; rw [if_neg (by omega), if_pos rfl, hn]
    rw [hnx] at e
    refine ⟨by rw [hnx, e]; exact hB.st, by rw [hnx, e], by rw [hnx, e]; exact hun, ?_⟩
    rw [hnx, e]
    show max 0 ((X id).need + 0 - (szU a c b : Int)) = _
    have hb := base_le R
    rw [hB.need, sumR_take R k hk, ← hsz]
    omega
theorem szswap {k ls tx pv un pg ak : Int} {a b c : ByteArray} {l : List SGTxn} {m : List SGDirty} {ks : List Int} {n : Int} (h : Noted w0 w' t mb bx ks X k ls tx pv un pg ak a b c l m n) : Noted w0 w' t mb bx ks X k ls tx pv un pg ak a b c l m n := h
/-- It is aborted. -/
theorem noted_abort {at' lst : Int} {n : Int} (h : Noted w0 w' t mb bx [id] X 4 at' id lst 0 0 0 ⟨#[]⟩ ⟨#[]⟩ ⟨#[]⟩ [] [] n) (hB : Bk X id R 0 lst) (hR : R.length ≠ 0) (hok : recOk 4 at' id lst 0 0 0 ⟨#[]⟩ ⟨#[]⟩ ⟨#[]⟩ [] [] = true) :
    n = 0 ∧ ∃ X', Tab w0 w' t mb bx [id] X' ∧ (X' id).st = 2 ∧ (X' id).last = at' ∧ (X' id).need = 27 := by
  cases h with
  | arg hbad he h =>
    rcases hbad with h2 | h2 | h2
    · rw [hok] at h2; cases h2
    · omega
    · omega
  | none _ hk hi he h => exact absurd (by simp) hi
  | state _ hk hi hs he h =>
    rcases hs with hs | hs
    · exact absurd hB.last.symm hs
    · unfold letsB at hs; rw [if_neg (by omega), if_neg (by omega), hB.st] at hs; cases hs
  | gone _ hk hi hpl hs he h => omega
  | ok _ hk2 hi hpl hs he h =>
    refine ⟨he, _, h, ?_⟩
    have hn : needOf [id] X 4 at' id lst 0 0 0 ⟨#[]⟩ ⟨#[]⟩ ⟨#[]⟩ [] [] = 0 := by
      unfold needOf
      rw [if_pos ⟨by simp, hok⟩, if_neg (by omega), if_neg (by omega)]
      rfl
    have hnx : ∀ sz : Int, noteX 4 at' 0 (needOf [id] X 4 at' id lst 0 0 0 ⟨#[]⟩ ⟨#[]⟩ ⟨#[]⟩ [] []) sz (X id) = ⟨2, at', (X id).next, max 0 ((X id).need + 0 - 27), (X id).sv⟩ := fun sz => by unfold noteX; rw [if_neg (by omega), if_neg (by omega), if_neg (by omega), if_pos rfl, hn]
    rw [updX_at, hnx]
    refine ⟨rfl, rfl, ?_⟩
    show max 0 ((X id).need + 0 - 27) = 27
    rw [hB.need, List.take_zero]
    unfold base sumR
    rw [if_neg hR]
    omega
/-- It ends. -/
theorem noted_end {at' lst : Int} {n : Int} (h : Noted w0 w' t mb bx [id] X 5 at' id lst 0 0 0 ⟨#[]⟩ ⟨#[]⟩ ⟨#[]⟩ [] [] n) (hl : (X id).last = lst) (hs2 : (X id).st = 2) (hok : recOk 5 at' id lst 0 0 0 ⟨#[]⟩ ⟨#[]⟩ ⟨#[]⟩ [] [] = true) :
    n = 0 ∧ Tab w0 w' t mb bx [] X := by
  cases h with
  | arg hbad he h =>
    rcases hbad with h2 | h2 | h2
    · rw [hok] at h2; cases h2
    · omega
    · omega
  | none _ hk hi he h => exact absurd (by simp) hi
  | state _ hk hi hs he h =>
    rcases hs with hs | hs
    · exact absurd hl.symm hs
    · unfold letsB at hs; rw [if_neg (by omega), if_pos rfl, hs2] at hs; cases hs
  | gone _ hk hi hpl hs he h => exact ⟨he, by simpa using h⟩
  | ok _ hk2 hi hpl hs he h => omega
end
section
variable {w0 : Wb} {w w' : World} {t mb : Nat} {bx bx' : Int → Nat} {ks ks' : List Int} {X X' : Int → TX}
/-- A row of records of the walk's own, apart from the table. -/
structure Mr (w : World) (t mb : Nat) (bx : Int → Nat) (ks : List Int) (v : Value) (L : List SRec) (b : Nat) : Prop where
  row : Kd.R kRec 39 w b (fun _ => True) v L
  far : ∀ q, v.ownBlock = some q → ¬ own t mb bx ks q
theorem Mr.next {v : Value} {L : List SRec} {b : Nat} (h : Mr w t mb bx ks v L b) (hb : Below w.heap.size w w') : Mr w' t mb bx ks v L b := ⟨Kd.R_below h.row hb, h.far⟩
theorem Mr.lt {v : Value} {L : List SRec} {b : Nat} (h : Mr w t mb bx ks v L b) (q : Nat) (hq : v.ownBlock = some q) : q < w.heap.size := by
  obtain ⟨inner, ho⟩ := Kd.R_own h.row
  exact own_lt ho q hq
/-- It stays where the table alone is touched. -/
theorem Mr.keep {v : Value} {L : List SRec} {b : Nat} (h : Mr w t mb bx ks v L b) (g : Tab ⟨w, own t mb bx ks⟩ w' t mb bx ks' X') (hks : ∀ id ∈ ks', id ∈ ks) : Mr w' t mb bx ks' v L b := by
  obtain ⟨inner, ho⟩ := Kd.R_own h.row
  refine ⟨Kd.R_mono (Kd.R_move (w1 := w') (Kd.R_tight2 kRec_E h.row) (fun k hk => ?_)) (fun _ _ => trivial), fun q hq => ?_⟩
  · exact g.bel.block k (own_lt ho k hk.1.symm) (h.far k hk.1.symm)
  · rintro (rfl | rfl | ⟨id, hi, rfl⟩)
    · exact h.far _ hq (.inl rfl)
    · exact h.far _ hq (.inr (.inl rfl))
    · exact h.far _ hq (.inr (.inr ⟨id, hks id hi, rfl⟩))
theorem Mr.grown {row : Option Nat} {v : Value} {L : List SRec} {b : Nat} (h : Mr w t mb bx ks v L b) (hg : w.grownBy w' row) (hn : ∀ q, row = some q → v.ownBlock ≠ some q) : Mr w' t mb bx ks v L b :=
  ⟨Kd.R_grown2 h.row kRec_E hg (fun k hk e => hn k hk e.symm), h.far⟩
theorem Bel.grownO {b : Wb} {row : Option Nat} (h : Bel b w) (hg : w.grownBy w' row) (ht : ∀ g, row = some g → b.T g) : Bel b w' := by
  cases row with
  | some g => exact h.grown hg (ht g rfl)
  | none => exact h.then ⟨hg.os, hg.tape, hg.output, hg.size, fun k hk => hg.block k hk (by simp)⟩
/-- A block that is not the table's is written. -/
theorem Tab.grownFar {row : Option Nat} (h : Tab w0 w t mb bx ks X) (hg : w.grownBy w' row) (hn : ∀ q, row = some q → ¬ own t mb bx ks q ∧ w0.T q) : Tab w0 w' t mb bx ks X := by
  have hne : ∀ q, own t mb bx ks q → some q ≠ row := fun q hq e => (hn q e.symm).1 hq
  refine ⟨blk_grown h.box hg (hne _ (.inl rfl)), h.map.of_block (hg.block mb h.map.lt (hne _ (.inr (.inl rfl)))), fun id hi => blk_grown (h.at_ id hi) hg (hne _ (.inr (.inr ⟨id, hi, rfl⟩))), h.inj, ?_, h.get, h.gem, h.geb⟩
  exact h.bel.grownO hg (fun q hq => (hn q hq).2)
theorem rec12 {R : List SRec} {b j n : Nat} {ad : Addr} {cp : Nat} {ls id pv pg ak : Int} {ra rb rc : ByteArray} (h : Mr w t mb bx ks (.slice (some ad) n cp) R b) (hj : j < R.length) (hx : (⟨ls, id, pv, pg, ak, ra, rb, rc⟩ : SRec) = R.getD j zRec) :
    w.cell? (ad.add (j * 12)) = some (.int .i64 1) ∧ w.cell? ⟨(ad.add (j * 12)).block, (ad.add (j * 12)).off + 1, none⟩ = some (.int .u64 ls) ∧ w.cell? ⟨(ad.add (j * 12)).block, (ad.add (j * 12)).off + 2, none⟩ = some (.int .i64 id) ∧ w.cell? ⟨(ad.add (j * 12)).block, (ad.add (j * 12)).off + 3, none⟩ = some (.int .u64 pv) ∧ w.cell? ⟨(ad.add (j * 12)).block, (ad.add (j * 12)).off + 4, none⟩ = some (.int .u64 0) ∧ w.cell? ⟨(ad.add (j * 12)).block, (ad.add (j * 12)).off + 5, none⟩ = some (.int .i64 pg) ∧ w.cell? ⟨(ad.add (j * 12)).block, (ad.add (j * 12)).off + 6, none⟩ = some (.int .i64 ak) ∧ w.cell? ⟨(ad.add (j * 12)).block, (ad.add (j * 12)).off + 7, none⟩ = some (.string ra) ∧ w.cell? ⟨(ad.add (j * 12)).block, (ad.add (j * 12)).off + 8, none⟩ = some (.string rb) ∧ w.cell? ⟨(ad.add (j * 12)).block, (ad.add (j * 12)).off + 9, none⟩ = some (.string rc) ∧ w.cell? ⟨(ad.add (j * 12)).block, (ad.add (j * 12)).off + 10, none⟩ = some (.slice none 0 0) ∧ w.cell? ⟨(ad.add (j * 12)).block, (ad.add (j * 12)).off + 11, none⟩ = some (.slice none 0 0) := by
  obtain ⟨A', c', hv', hlc, hC'⟩ := Kd.R_reads h.row
  injection hv' with hv1 hv2 hv3
  obtain ⟨ad', he, hc⟩ := rec_at hC' j hj
  rw [he] at hv1
  injection hv1 with hv1
  subst hv1
  rw [← hx] at hc
  exact ⟨hc 0 _ rfl, by rw [← add_field _ _ 1 (by omega)]; exact hc 1 _ rfl, by rw [← add_field _ _ 2 (by omega)]; exact hc 2 _ rfl, by rw [← add_field _ _ 3 (by omega)]; exact hc 3 _ rfl, by rw [← add_field _ _ 4 (by omega)]; exact hc 4 _ rfl, by rw [← add_field _ _ 5 (by omega)]; exact hc 5 _ rfl, by rw [← add_field _ _ 6 (by omega)]; exact hc 6 _ rfl, by rw [← add_field _ _ 7 (by omega)]; exact hc 7 _ rfl, by rw [← add_field _ _ 8 (by omega)]; exact hc 8 _ rfl, by rw [← add_field _ _ 9 (by omega)]; exact hc 9 _ rfl, by rw [← add_field _ _ 10 (by omega)]; exact hc 10 _ rfl, by rw [← add_field _ _ 11 (by omega)]; exact hc 11 _ rfl⟩
theorem grown_set1 (w : World) (q j : Nat) (v : Value) : w.grownBy (w.setCell ⟨q, j, none⟩ v) (some q) := ⟨rfl, rfl, rfl, by simp [World.setCell], fun k hk hne => Below.heap_setCell _ ⟨q, j, none⟩ _ k (fun e => hne (by rw [e]))⟩
end
set_option maxRecDepth 100000 in
set_option maxHeartbeats 16000000 in
theorem back_row (w : World) (id : Int) (l : List SAct) (A : Option Addr) (c : Nat) (hC : Kd.C kAct w A l.length l) (hl : l.length ≤ 140737488351232) (ps : List Int) (P : Option Addr) (pc : Nat) (hP : Kd.C (Kd.int .i64) w P ps.length ps) (hpl : ps.length ≤ 140737488351232) :
    Calls Try.prog 3 #[.int .i64 id, .slice A l.length c, .slice P ps.length pc] w fun e w' => e = .returned (.bool true) ∧ Below w.heap.size w w' := by
  have HC := Aside0.mk hC
  have HP := Aside0.mk hP
  clear hC hP
  go_enter Try.func3, Try.ntmps3
  go_wp2_with fail
  refine (tabnew w (fun _ => tx0) (fun _ => 0)).mono ?_
  rintro e w1 ⟨t, mb, rfl, h1⟩
  have H1 := Aside0.mk h1
  clear h1
  go_wp2_with fail
  refine (tabopen _ w1 t mb _ [] _ id H1.out).mono ?_
  rintro e w2 ho
  rcases ho with (⟨hq, rfl, h2⟩ | ⟨_, hq, _⟩) | ⟨hid, _, rfl, bx, h2⟩
  · have HT2 := Aside0.mk h2
    clear h2 H1
    rcases hq with hq | hq
    · have d1 : decide (id < 1) = true := by simpa using hq
      have HBn := Aside0.mk (HT2.out.bel.below (fun _ h => h))
      go_wp2_with fail
      refine (lives17 _).mono ?_
      rintro e wq ⟨rfl, hb⟩
      have HBq := Aside0.mk (below_then HBn.out HBn.out.size hb)
      clear hb
      go_wp2_with fail
      go_ret
      exact ⟨rfl, HBq.out⟩
    · have d1 : decide (id < 1) = false := by simp; omega
      have d2 : decide (id > 1073741824) = true := by simpa using hq
      have HBn := Aside0.mk (HT2.out.bel.below (fun _ h => h))
      go_wp2_with fail
      refine (lives17 _).mono ?_
      rintro e wq ⟨rfl, hb⟩
      have HBq := Aside0.mk (below_then HBn.out HBn.out.size hb)
      clear hb
      go_wp2_with fail
      go_ret
      exact ⟨rfl, HBq.out⟩
  · exact absurd hq (by simp)
  · have HT2 := Aside0.mk h2
    have HID := Aside0.mk hid
    clear h2 H1 hid
    go_wp2_with fail
    have hB0 : Bk (fun y => if y = id then tx0 else tx0) id [] 0 0 := ⟨by simp [tx0], by simp [tx0], by simp [tx0], by simp [tx0, base, sumR]⟩
    go_loopg [8, 9, 10, 11] 40 (fun gk v8 v9 v10 v11 wr => ∃ (k : Nat) (X : Int → TX) (R : List SRec) (lst atv : Int), Aside0 (k + gk = 40) ∧ v9 = .int .u64 lst ∧ v10 = .int .i64 atv ∧ v11 = .int .i64 k ∧ k ≤ l.length ∧ k ≤ 40 ∧ R.length ≤ k ∧ Aside0 (lst = 16 * (R.length : Int)) ∧ Aside0 (atv = 16 * ((R.length : Int) + 1)) ∧ Aside0 (Tab ⟨w, fun _ => False⟩ wr t mb bx [id] X) ∧ Aside0 (Bk X id R R.length lst) ∧ Aside0 (Good id R) ∧ Aside0 (Mr wr t mb bx [id] v8 R w.heap.size))
    case atStart => exact ⟨0, _, [], 0, 16, ⟨rfl⟩, rfl, rfl, rfl, Nat.zero_le _, Nat.zero_le _, Nat.le_refl _, ⟨rfl⟩, ⟨rfl⟩, HT2, ⟨hB0⟩, ⟨⟨fun j hj => absurd hj (by simp)⟩⟩, ⟨⟨Kd.R_nil _ _ _ _ _, fun q hq => by simp [Value.ownBlock] at hq⟩⟩⟩
    case round =>
      obtain ⟨k, X, R, lst, atv, HK, rfl, rfl, rfl, hkl, hk40, hRk, HLS, HAT, HT, HB, HG, HM⟩ := hrel
      clear HT2 hB0
      obtain ⟨MA, MC, rfl, hmc, _⟩ := Kd.R_reads HM.out.row
      have hat : 16 ≤ atv ∧ atv ≤ 1000 := by have := HAT.out; omega
      have hls : 0 ≤ lst ∧ lst ≤ 1000 := by have := HLS.out; omega
      go_upto_region 8 with fail
      go_cut [46] (fun v46 wx => v46 = .bool (decide (k < l.length ∧ k < 40)) ∧ wr = wx)
      case first =>
        by_cases h1 : k < l.length
        · have d1 : decide ((k : Int) < l.length) = true := by simp; omega
          by_cases h2 : k < 40
          · have d2 : decide ((k : Int) < 40) = true := by simp; omega
            go_wp2_with fail
            go_meet
            case rel => exact ⟨by simp [h1, h2], rfl⟩
          · have d2 : decide ((k : Int) < 40) = false := by simp; omega
            go_wp2_with fail
            go_meet
            case rel => exact ⟨by simp [h1, h2], rfl⟩
        · have d1 : decide ((k : Int) < l.length) = false := by simp; omega
          go_wp2_with fail
          go_meet
          case rel => exact ⟨by simp [h1], rfl⟩
      case rest =>
        obtain ⟨rfl, rfl⟩ := hcut
        by_cases hend : k < l.length ∧ k < 40
        · have hde : decide (k < l.length ∧ k < 40) = true := decide_eq_true hend
          obtain ⟨hlt, h40⟩ := hend
          rw [hde]
          clear hde
          obtain ⟨ad, o, rfl, hok, x0, x1, x2, x3⟩ := act_at (Kd.C_below HC.out (HT.out.bel.below (fun _ h => h))) k hlt
          have HOK := Aside0.mk hok
          clear hok
          have hwa : IntKind.u64.wrap atv = atv := by simp [IntKind.wrap, IntKind.bits, IntKind.signed]; omega
          go_upto_region 11 with fail
          have hb2 : Below wr.heap.size wr (wr.alloc (.cells #[.int .i64 1, .int .u64 atv, .int .i64 id, .int .u64 lst, .int .u64 0, .int .i64 0, .int .i64 o.k, .string o.a, .string o.b, .string o.c, .slice none 0 0, .slice none 0 0] 39)) := below_alloc (Below.refl _ _) _
          have ho2 := heap_alloc_new wr (.cells #[.int .i64 1, .int .u64 atv, .int .i64 id, .int .u64 lst, .int .u64 0, .int .i64 0, .int .i64 o.k, .string o.a, .string o.b, .string o.c, .slice none 0 0, .slice none 0 0] 39)
          obtain ⟨OB, hOB⟩ : ∃ x, x = wr.heap.size := ⟨_, rfl⟩
          generalize wr.alloc (.cells #[.int .i64 1, .int .u64 atv, .int .i64 id, .int .u64 lst, .int .u64 0, .int .i64 0, .int .i64 o.k, .string o.a, .string o.b, .string o.c, .slice none 0 0, .slice none 0 0] 39) = w2 at hb2 ho2 ⊢
          rw [← hOB] at ho2 ⊢
          have HOBT := Aside0.mk (show w.heap.size ≤ OB from by rw [hOB]; exact HT.out.bel.size)
          have HNO := Aside0.mk (HT.out.not_own (Nat.le_of_eq hOB.symm))
          have HNM := Aside0.mk (show ∀ q, (Value.slice MA R.length MC).ownBlock = some q → q ≠ OB from fun q hq => by have := HM.out.lt q hq; omega)
          have HT3 := Aside0.mk (HT.out.next hb2)
          have HM3 := Aside0.mk (HM.out.next hb2)
          have HO3 := Aside0.mk ho2
          clear hb2 ho2 hOB x0 x1 x2 x3 hwa HT HM
          go_cut [75] (fun v75 wx => ∃ bb : Bool, v75 = .bool bb ∧ w2 = wx ∧ (bb = true → ∃ (pd : Addr) (pg : Int), P = some pd ∧ k < ps.length ∧ w2.cell? (pd.add k) = some (.int .i64 pg) ∧ 0 ≤ pg ∧ pg < 16))
          case first =>
            by_cases hp : k < ps.length
            · have d1 : decide ((k : Int) < ps.length) = true := by simp; omega
              obtain ⟨pd, pg, rfl, hpc⟩ := int_at (Kd.C_below HP.out (HT3.out.bel.below (fun _ h => h))) k hp
              by_cases hp0 : 0 ≤ pg
              · have d2 : decide (0 ≤ pg) = true := decide_eq_true hp0
                by_cases hp1 : pg < 16
                · have d3 : decide (pg < 16) = true := decide_eq_true hp1
                  go_wp2_with fail
                  go_meet
                  case rel => exact ⟨true, rfl, rfl, fun _ => ⟨pd, pg, rfl, hp, hpc, hp0, hp1⟩⟩
                · have d3 : decide (pg < 16) = false := decide_eq_false hp1
                  go_wp2_with fail
                  go_meet
                  case rel => exact ⟨false, rfl, rfl, fun h => by cases h⟩
              · have d2 : decide (0 ≤ pg) = false := decide_eq_false hp0
                go_wp2_with fail
                go_meet
                case rel => exact ⟨false, rfl, rfl, fun h => by cases h⟩
            · have d1 : decide ((k : Int) < ps.length) = false := by simp; omega
              go_wp2_with fail
              go_meet
              case rel => exact ⟨false, rfl, rfl, fun h => by cases h⟩
          case rest =>
            obtain ⟨bb, rfl, rfl, hbb⟩ := hcut
            have HBB := Aside0.mk hbb
            clear hbb
            go_upto_if 75 with fail
            go_cut [] (fun wx => ∃ pg : Int, (0 ≤ pg ∧ pg < 16) ∧ Aside0 (Tab ⟨w, fun _ => False⟩ wx t mb bx [id] X) ∧ Aside0 (Mr wx t mb bx [id] (.slice MA R.length MC) R w.heap.size) ∧ Aside0 (wx.heap[OB]? = some (.cells #[.int .i64 1, .int .u64 atv, .int .i64 id, .int .u64 lst, .int .u64 0, .int .i64 pg, .int .i64 o.k, .string o.a, .string o.b, .string o.c, .slice none 0 0, .slice none 0 0] 39 (0, 0))))
            case first =>
              cases bb with
              | false =>
                go_wp2_with fail
                go_meet
                case rel => exact ⟨0, by omega, HT3, HM3, HO3⟩
              | true =>
                obtain ⟨pd, pg, rfl, hp, hpc, hp0, hp1⟩ := HBB.out rfl
                have x5 := blk_cell HO3.out 5
                have f5 := blk_frozen HO3.out 5
                go_wp2_with fail
                go_meet
                case rel => exact ⟨pg, ⟨hp0, hp1⟩, ⟨HT3.out.grownFar (grown_set1 _ OB 5 _) (fun q hq => by injection hq with hq; subst hq; exact ⟨HNO.out, .inl HOBT.out⟩)⟩, ⟨HM3.out.grown (grown_set1 _ OB 5 _) (fun q hq e => by injection hq with hq; subst hq; exact HNM.out _ e rfl)⟩, ⟨blk_put HO3.out 5 _ rfl⟩⟩
            case rest =>
              obtain ⟨pg, hpg, HT4, HM4, HO4⟩ := hcut
              clear HT3 HM3 HO3 HBB
              generalize wc = w4 at HT4 HM4 HO4 ⊢
              have x0 := blk_cell HO4.out 0
              have x1 := blk_cell HO4.out 1
              have x2 := blk_cell HO4.out 2
              have x3 := blk_cell HO4.out 3
              have x4 := blk_cell HO4.out 4
              have x5 := blk_cell HO4.out 5
              have x6 := blk_cell HO4.out 6
              have x7 := blk_cell HO4.out 7
              have x8 := blk_cell HO4.out 8
              have x9 := blk_cell HO4.out 9
              have x10 := blk_cell HO4.out 10
              have x11 := blk_cell HO4.out 11
              obtain ⟨r, hr⟩ := light_ex' ⟨0, 0, 0, 1, atv, id, lst, 0, pg, o.k, o.a, o.b, o.c, none, none, [], [], 0, 0⟩
              have HPG := Aside0.mk hpg
              clear hpg
              go_wp2_with fail
              refine (flotillalaw17_light.calls 1 atv id lst 0 pg o.k o.a o.b o.c none 0 [] none 0 [] r w4 (nilC _ _) (Nat.le_refl _) (nilC _ _) (Nat.le_refl _) hr).mono ?_
              rintro e w5 ⟨rfl, hb⟩
              have HT5 := Aside0.mk (HT4.out.next hb)
              have HO5 := Aside0.mk (blk_below HO4.out hb)
              have HM5 := Aside0.mk (HM4.out.next hb)
              clear hb hr HT4 HO4 HM4 x0 x1 x2 x3 x4 x5 x6 x7 x8 x9 x10 x11
              cases r with
              | false =>
                have HBn := Aside0.mk (HT5.out.bel.below (fun _ h => h))
                go_wp2_with fail
                refine (lives17 _).mono ?_
                rintro e wq ⟨rfl, hb⟩
                have HBq := Aside0.mk (below_then HBn.out HBn.out.size hb)
                clear hb
                go_wp2_with fail
                go_ret
                exact ⟨rfl, HBq.out⟩
              | true =>
                have x0 := blk_cell HO5.out 0
                have x1 := blk_cell HO5.out 1
                have x2 := blk_cell HO5.out 2
                have x3 := blk_cell HO5.out 3
                have x4 := blk_cell HO5.out 4
                have x5 := blk_cell HO5.out 5
                have x6 := blk_cell HO5.out 6
                have x7 := blk_cell HO5.out 7
                have x8 := blk_cell HO5.out 8
                have x9 := blk_cell HO5.out 9
                have x10 := blk_cell HO5.out 10
                have x11 := blk_cell HO5.out 11
                go_wp2_with fail
                refine (note_calls ⟨w5, own t mb bx [id]⟩ w5 t mb bx [id] X 1 atv id lst 0 pg o.k o.a o.b o.c none 0 [] none 0 [] HT5.out.here (nilC _ _) (Nat.le_refl _) (nilC _ _) (Nat.le_refl _) hls.1 (Int.le_refl _) (fun hi => by have h1 := base_le R; have h2 := sumR_le HG.out R.length (Nat.le_refl _); rw [HB.out.need]; omega)).mono ?_
                rintro e w6 ⟨n, rfl, hnt⟩
                clear x0 x1 x2 x3 x4 x5 x6 x7 x8 x9 x10 x11
                rcases noted_upd hnt HB.out HLS.out HAT.out HG.out with ⟨hn, hT⟩ | ⟨rfl, X', hT, hB', hG'⟩
                · have HT6 := Aside0.mk (HT5.out.back hT)
                  have HM6 := Aside0.mk (HM5.out.keep hT (fun _ h => h))
                  have en : (n == 0) = false := by simpa using hn
                  clear hT hn hnt HT5 HM5 HO5
                  go_wp2_with fail
                  go_roundg (gk - 1)
                  case measure => have := HK.out; omega
                  case rel => exact ⟨k + 1, X, R, lst, atv, ⟨by have := HK.out; omega⟩, rfl, rfl, (by go_num), by omega, by omega, by omega, HLS, HAT, HT6, HB, HG, HM6⟩
                · have HT6 := Aside0.mk (HT5.out.back hT)
                  have HM6 := Aside0.mk (HM5.out.keep hT (fun _ h => h))
                  have HO6 := Aside0.mk (hT.keep HO5.out HNO.out)
                  have HB6 := Aside0.mk hB'
                  have HG6 := Aside0.mk hG'
                  have HE6 := Aside0.mk (HT6.out.bel.below (fun _ h => h))
                  clear hT hnt HT5 HM5 HO5 hB' hG'
                  have x0 := blk_cell HO6.out 0
                  have x1 := blk_cell HO6.out 1
                  have x2 := blk_cell HO6.out 2
                  have x3 := blk_cell HO6.out 3
                  have x4 := blk_cell HO6.out 4
                  have x5 := blk_cell HO6.out 5
                  have x6 := blk_cell HO6.out 6
                  have x7 := blk_cell HO6.out 7
                  have x8 := blk_cell HO6.out 8
                  have x9 := blk_cell HO6.out 9
                  have x10 := blk_cell HO6.out 10
                  have x11 := blk_cell HO6.out 11
                  go_upto_region 17 with (at_builtin; refine Kd.R_append kRec (w0 := w) (W := w6) w.heap.size (by rfl) (.tmp 89) (.tmp 91) 29 39 (.agg #[.int .i64 0, .int .u64 0, .int .i64 0, .int .u64 0, .int .u64 0, .int .i64 0, .int .i64 0, .string ⟨#[]⟩, .string ⟨#[]⟩, .string ⟨#[]⟩, .slice none 0 0, .slice none 0 0]) 152 (by rfl) Try.underlying29 infoRec rfl (by decide) (by omega) (.slice MA R.length MC) R ⟨atv, id, lst, pg, o.k, o.a, o.b, o.c⟩ (⟨atv, id, lst, pg, o.k, o.a, o.b, o.c⟩ : SRec).out (fun _ => True) (fun _ => False) (by go_simp) (by go_simp) rfl (fun _ hk => hk.elim) (fun _ _ => trivial) HM6.out.row HE6.out HE6.out.size (by omega) ?_; intro v1 w7 ho hb hg hat'; have HT7 := Aside0.mk (HT6.out.grownFar hg (fun q hq => ⟨HM6.out.far q hq, .inl (by obtain ⟨inner, hown⟩ := Kd.R_own HM6.out.row; exact own_base hown q hq)⟩)); have HO7 := Aside0.mk (blk_grown HO6.out hg (fun e => HNM.out OB e.symm rfl)); have HM7 : Aside0 (Mr w7 t mb bx [id] v1 (R ++ [⟨atv, id, lst, pg, o.k, o.a, o.b, o.c⟩]) w.heap.size) := ⟨⟨ho, fun q hq => (by rcases hat' with ha | ⟨b, hb2, hb3⟩; exact HM6.out.far q (ha ▸ hq); rw [hb2] at hq; injection hq with hq; subst hq; exact HT6.out.not_own hb3)⟩⟩; clear ho hb hg hat' HT6 HM6 HE6 HO6)
                  clear x0 x1 x2 x3 x4 x5 x6 x7 x8 x9 x10 x11
                  have x1 := blk_cell HO7.out 1
                  go_wp2_with fail
                  go_roundg (gk - 1)
                  case measure => have := HK.out; omega
                  case rel => exact ⟨k + 1, X', _, atv, atv + 16, ⟨by have := HK.out; omega⟩, rfl, rfl, (by go_num), by omega, by omega, by simp; omega, ⟨by have := HAT.out; simp; omega⟩, ⟨by have := HAT.out; simp; omega⟩, HT7, HB6, HG6, HM7⟩
        · have hde : decide (k < l.length ∧ k < 40) = false := decide_eq_false hend
          clear hend
          rw [hde]
          clear hde
          go_wp2_with fail
          obtain ⟨n, hn⟩ : ∃ n, n = R.length := ⟨_, rfl⟩
          have HN := Aside0.mk hn
          have hn40 : n ≤ 40 := by omega
          have hk0 : (n : Int) = R.length := by omega
          have HBK := Aside0.mk (show Bk X id R n lst from by rw [hn]; exact HB.out)
          have HA0 := Aside0.mk (show lst < atv ∧ 16 * (n : Int) < atv ∧ atv ≤ 16 * ((n : Int) + 1) from by have := HLS.out; have := HAT.out; omega)
          rw [← hn]
          clear hn hk0 HB
          have HM := Aside0.mk (show Mr wr t mb bx [id] (.slice MA n MC) R w.heap.size from by rw [HN.out]; exact HM.out)
          go_loopg [9, 10, 13] n (fun gj v9 v10 v13 wz => ∃ (kk : Nat) (Y : Int → TX) (lst atv : Int), Aside0 (kk = gj) ∧ v9 = .int .u64 lst ∧ v10 = .int .i64 atv ∧ v13 = .int .i64 ((kk : Int) - 1) ∧ kk ≤ n ∧ Aside0 (Tab ⟨w, fun _ => False⟩ wz t mb bx [id] Y) ∧ Aside0 (Bk Y id R kk lst) ∧ (0 ≤ lst ∧ lst < atv) ∧ Aside0 (16 * (kk : Int) < atv) ∧ (16 ≤ atv ∧ atv ≤ 2000) ∧ Aside0 (atv + 16 * (kk : Int) ≤ 16 * (2 * (n : Int) + 1)) ∧ Aside0 (Mr wz t mb bx [id] (.slice MA n MC) R w.heap.size))
          case atStart => exact ⟨n, X, lst, atv, ⟨rfl⟩, rfl, rfl, rfl, Nat.le_refl _, HT, HBK, ⟨hls.1, HA0.out.1⟩, ⟨HA0.out.2.1⟩, ⟨hat.1, by omega⟩, ⟨by have := HA0.out; omega⟩, HM⟩
          case round =>
            obtain ⟨kk, Y, lst, atv, HJ, rfl, rfl, rfl, hkn, HT1, HB1, hla, HKA, hat1, HSUM, HM1⟩ := hrel
            clear HT HBK HM
            by_cases hz : kk = 0
            · subst hz
              rw [show (((0 : Nat) : Int) - 1) = -1 from rfl]
              have hnx := fun W hW => tabnext ⟨w, fun _ => False⟩ W t mb bx [id] Y id hW
              have hkp := fun W hW => tabkept ⟨w, fun _ => False⟩ W t mb bx [id] Y id hW
              rw [if_pos (by simp), HB1.out.next, show 16 * ((0 : Nat) : Int) = 0 from rfl] at hnx
              rw [if_pos (by simp), HB1.out.need, show (sumR (R.take 0) : Int) = 0 from rfl] at hkp
              have HNX := Aside0.mk hnx
              clear hnx
              by_cases hn0 : n = 0
              · have e0 : ((n : Int) == 0) = true := by simp [hn0]
                rw [show base R + 0 = 0 from by unfold base; rw [if_pos (by have := HN.out; omega)]; rfl] at hkp
                have HKP := Aside0.mk hkp
                clear hkp hn0
                go_wp2_with fail
                refine (HNX.out _ HT1.out).mono ?_
                rintro e wy ⟨rfl, rfl⟩
                go_wp2_with fail
                refine (HKP.out _ HT1.out).mono ?_
                rintro e wy ⟨rfl, rfl⟩
                go_wp2_with fail
                have HBn := Aside0.mk (HT1.out.bel.below (fun _ h => h))
                refine (lives17 _).mono ?_
                rintro e wq ⟨rfl, hb⟩
                have HBq := Aside0.mk (below_then HBn.out HBn.out.size hb)
                clear hb
                go_wp2_with fail
                go_ret
                exact ⟨rfl, HBq.out⟩
              · have e0 : ((n : Int) == 0) = false := by simpa using hn0
                have hb54 : base R = 54 := by unfold base; rw [if_neg (by have := HN.out; omega)]
                rw [hb54, show (54 : Int) + 0 = 54 from rfl] at hkp
                have HKP := Aside0.mk hkp
                have HKN := Aside0.mk (show (Y id).need = 54 from by rw [HB1.out.need, hb54]; rfl)
                have HN0 := Aside0.mk hn0
                clear hkp hn0 hb54
                go_wp2_with fail
                refine (HNX.out _ HT1.out).mono ?_
                rintro e wy ⟨rfl, rfl⟩
                go_wp2_with fail
                refine (HKP.out _ HT1.out).mono ?_
                rintro e wy ⟨rfl, rfl⟩
                have hwa : IntKind.u64.wrap atv = atv := by simp [IntKind.wrap, IntKind.bits, IntKind.signed]; omega
                have hwb : IntKind.u64.wrap (atv + 16) = atv + 16 := by simp [IntKind.wrap, IntKind.bits, IntKind.signed]; omega
                go_wp2_with fail
                have hok4 := end_ok (k := 4) (at' := atv) (lst := lst) (tx := id) (.inl rfl) ⟨hat1.1, by omega⟩ hla.2 HID.out
                have hnd := (HKN.out)
                refine (note_calls ⟨wr, own t mb bx [id]⟩ wr t mb bx [id] Y 4 atv id lst 0 0 0 ⟨#[]⟩ ⟨#[]⟩ ⟨#[]⟩ none 0 [] none 0 [] HT1.out.here (nilC _ _) (Nat.le_refl _) (nilC _ _) (Nat.le_refl _) hla.1 (Int.le_refl _) (fun hi => by rw [hnd]; omega)).mono ?_
                rintro e w5 ⟨nn, rfl, hnt⟩
                obtain ⟨rfl, X', hT, h2, h3, h4⟩ := noted_abort hnt HB1.out (by have := HN0.out; have := HN.out; omega) hok4
                have HT5 := Aside0.mk (HT1.out.back hT)
                have H2 := Aside0.mk h2
                have H3 := Aside0.mk h3
                have H4 := Aside0.mk h4
                clear hT hnt h2 h3 h4 hok4 hnd
                go_wp2_with fail
                have hkp := tabkept ⟨w, fun _ => False⟩ w5 t mb bx [id] X' id HT5.out
                rw [if_pos (by simp), H4.out] at hkp
                refine hkp.mono ?_
                rintro e w6 ⟨rfl, rfl⟩
                clear hkp
                go_wp2_with fail
                have hok5 := end_ok (k := 5) (at' := atv + 16) (lst := atv) (tx := id) (.inr rfl) ⟨by omega, by omega⟩ (by omega) HID.out
                refine (note_calls ⟨w5, own t mb bx [id]⟩ w5 t mb bx [id] X' 5 (atv + 16) id atv 0 0 0 ⟨#[]⟩ ⟨#[]⟩ ⟨#[]⟩ none 0 [] none 0 [] HT5.out.here (nilC _ _) (Nat.le_refl _) (nilC _ _) (Nat.le_refl _) (by omega) (Int.le_refl _) (fun hi => by rw [H4.out]; omega)).mono ?_
                rintro e w7 ⟨nn, rfl, hnt⟩
                obtain ⟨rfl, hT⟩ := noted_end hnt H3.out H2.out hok5
                have HT7 := Aside0.mk (HT5.out.back hT)
                clear hT hnt hok5
                go_wp2_with fail
                refine (tabgone ⟨w, fun _ => False⟩ w7 t mb bx [] X' id HT7.out).mono ?_
                rintro e w8 ⟨rfl, h8⟩
                have HBn := Aside0.mk (h8.bel.below (fun _ h => h))
                have hdn : decide (id ∈ ([] : List Int)) = false := by simp
                rw [hdn]
                clear h8 hdn
                go_wp2_with fail
                refine (lives17 _).mono ?_
                rintro e wq ⟨rfl, hb⟩
                have HBq := Aside0.mk (below_then HBn.out HBn.out.size hb)
                clear hb
                go_wp2_with fail
                go_ret
                exact ⟨rfl, HBq.out⟩
            · obtain ⟨j, rfl⟩ : ∃ j, kk = j + 1 := ⟨kk - 1, by omega⟩
              clear hz
              rw [show (((j + 1 : Nat) : Int) - 1) = (j : Int) by omega]
              have d0 : decide (0 ≤ (j : Int)) = true := by simp
              have hjn : j < n := by omega
              have HGJ := Aside0.mk (HG.out.at_ j (by have := HN.out; omega))
              have hMA : ∃ ad, MA = some ad := by
                obtain ⟨A', c', hv', hlc, hC'⟩ := Kd.R_reads HM1.out.row
                injection hv' with hv1 hv2 hv3
                obtain ⟨ad, he, _⟩ := rec_at hC' j (by have := HN.out; omega)
                exact ⟨ad, hv1.trans he⟩
              obtain ⟨ad, rfl⟩ := hMA
              obtain ⟨⟨ls, tx, pv, pg, ak, ra, rb, rc⟩, hx⟩ : ∃ x, x = R.getD j zRec := ⟨_, rfl⟩
              rw [← hx] at HGJ
              obtain ⟨hg1, hg2, hg3, hg4⟩ := HGJ.out
              dsimp only at hg1 hg2 hg3 hg4
              have hg2 := hg2.symm
              subst hg2
              have HG1 := Aside0.mk hg1
              have HG3 := Aside0.mk hg3
              have HG4 := Aside0.mk hg4
              have HX := Aside0.mk hx
              have hjR : j < R.length := by have := HN.out; omega
              clear hg1 hg3 hg4 hx HGJ
              have HT1d := Aside0.mk (HT1.out.next (below_drew (Below.refl _ _)))
              have HM1d := Aside0.mk (HM1.out.next (below_drew (Below.refl _ _)))
              have HNX : Aside0 (∀ W, Tab ⟨w, fun _ => False⟩ W t mb bx [id] Y → Calls Try.prog 13 #[.pointer (some ⟨t, 0, none⟩), .int .i64 id] W fun e w' => e = .returned (.int .u64 ls) ∧ W = w') := ⟨fun W hW => by
                have h := tabnext _ W t mb bx [id] Y id hW
                rw [if_pos (by simp), HB1.out.next, show 16 * ((j + 1 : Nat) : Int) = ls from by rw [HG1.out]; simp] at h
                exact h⟩
              obtain ⟨z0, z1, z2, z3, z4, z5, z6, z7, z8, z9, z10, z11⟩ := rec12 HM1d.out hjR HX.out
              go_upto_region 22 with fail
              refine start_ (n := 9) (S := fun wx => wx.cell? ⟨(ad.add (j * 12)).block, (ad.add (j * 12)).off + 1, none⟩ = some (.int .u64 ls)) (ds := []) #[false, false, false, false, false, false, false, false, false] (by kernel_rfl) rfl rfl (z1) (fun hHeld => ?_)
              refine pure_ (i := 0) (N := some 104) (v := ?_) (a' := ?_) #[true, false, false, false, false, false, false, false, false] rfl rfl (by kernel_rfl) (fun _ _ _ h => h) (Or.inl ⟨by rfl, ?_⟩) ?_ ?_
              rotate_left
              · intro w'
                go_simp
                all_goals (with_reducible rfl)
              rotate_left
              · simp only [Act.put, List.setIfInBounds_toArray, List.set_cons_zero, List.set_cons_succ, i64_w, i32_w]
                rfl
              refine pure_ (i := 1) (N := some 105) (v := ?_) (a' := ?_) #[true, true, false, false, false, false, false, false, false] rfl rfl (by kernel_rfl) (fun _ _ _ h => h) (Or.inl ⟨by rfl, ?_⟩) ?_ ?_
              rotate_left
              · intro w'
                go_simp
                all_goals (with_reducible rfl)
              rotate_left
              · simp only [Act.put, List.setIfInBounds_toArray, List.set_cons_zero, List.set_cons_succ, i64_w, i32_w]
                rfl
              refine pure_ (i := 3) (N := some 107) (v := ?_) (a' := ?_) #[true, true, false, true, false, false, false, false, false] rfl rfl (by kernel_rfl) (fun _ _ _ h => h) (Or.inl ⟨by rfl, ?_⟩) ?_ ?_
              rotate_left
              · intro w'
                go_simp
                all_goals (with_reducible rfl)
              rotate_left
              · simp only [Act.put, List.setIfInBounds_toArray, List.set_cons_zero, List.set_cons_succ, i64_w, i32_w]
                rfl
              refine pure_ (i := 4) (N := some 108) (v := ?_) (a' := ?_) #[true, true, false, true, true, false, false, false, false] rfl rfl (by kernel_rfl) (fun _ _ _ h => h) (Or.inl ⟨by rfl, ?_⟩) ?_ ?_
              rotate_left
              · intro w'
                go_simp
                all_goals (with_reducible rfl)
              rotate_left
              · simp only [Act.put, List.setIfInBounds_toArray, List.set_cons_zero, List.set_cons_succ, i64_w, i32_w]
                rfl
              refine pure_ (i := 5) (N := some 109) (v := ?_) (a' := ?_) #[true, true, false, true, true, true, false, false, false] rfl rfl (by kernel_rfl) (fun _ _ _ h => h) (Or.inl ⟨by rfl, ?_⟩) ?_ ?_
              rotate_left
              · intro w'
                go_simp
                all_goals (with_reducible rfl)
              rotate_left
              · simp only [Act.put, List.setIfInBounds_toArray, List.set_cons_zero, List.set_cons_succ, i64_w, i32_w]
                rfl
              refine pure_ (i := 6) (N := some 110) (v := ?_) (a' := ?_) #[true, true, false, true, true, true, true, false, false] rfl rfl (by kernel_rfl) (fun _ _ _ h => h) (Or.inl ⟨by rfl, ?_⟩) ?_ ?_
              rotate_left
              · intro w'
                go_simp
                all_goals (with_reducible rfl)
              rotate_left
              · simp only [Act.put, List.setIfInBounds_toArray, List.set_cons_zero, List.set_cons_succ, i64_w, i32_w]
                rfl
              refine take_ (i := 7) (N := some 111) (v := ?_) (a' := ?_) #[true, true, false, true, true, true, true, true, false] rfl rfl (by kernel_rfl) (fun _ _ _ h => h) (Or.inl ⟨by rfl, ?_⟩) hHeld ?_ ?_
              rotate_left
              · intro w' hSw
                (try dsimp only at hSw)
                go_simp
                all_goals (with_reducible rfl)
              rotate_left
              · simp only [Act.put, List.setIfInBounds_toArray, List.set_cons_zero, List.set_cons_succ, i64_w, i32_w]
                rfl
              refine one_ (i := 2) (N := some 106) #[true, true, true, true, true, true, true, true, false] rfl rfl (by kernel_rfl) (by decide) (fun K hK => ?_)
              go_simp
              go_at_call 13
              refine (HNX.out _ HT1d.out).mono ?_
              rintro e wy ⟨rfl, rfl⟩
              (try go_wp2_with fail)
              refine hK.out _ _ (z1) (fun hHeld => ?_)
              clear hK K
              (try simp only [Act.put, List.setIfInBounds_toArray, List.set_cons_zero, List.set_cons_succ])
              refine pure_ (i := 8) (N := some 112) (v := ?_) (a' := ?_) #[true, true, true, true, true, true, true, true, true] rfl rfl (by kernel_rfl) (fun _ _ _ h => h) (Or.inl ⟨by rfl, ?_⟩) ?_ ?_
              rotate_left
              · intro w'
                go_simp
                all_goals (with_reducible rfl)
              rotate_left
              · simp only [Act.put, List.setIfInBounds_toArray, List.set_cons_zero, List.set_cons_succ, i64_w, i32_w]
                rfl
              refine done_ (by kernel_rfl) ?_
              clear z0 z1 z2 z3 z4 z5 z6 z7 z8 z9 z10 z11
              generalize wr.drew = w1 at HT1d HM1d ⊢
              have HW1 := Aside0.mk HT1d.out
              clear HT1 HM1
              have hwa : IntKind.u64.wrap atv = atv := by simp [IntKind.wrap, IntKind.bits, IntKind.signed]; omega
              obtain ⟨f1, f2, f3, f4, f5, f6⟩ := upd_facts HG4.out
              have HPG := Aside0.mk f5
              have HMAY := Aside0.mk f6
              have HFIT := Aside0.mk (may_fits f6)
              clear f1 f2 f3 f4 f5 f6
              go_upto_region 24 with fail
              go_cut [14, 15] (fun v14 v15 wx => ∃ CB : Nat, v14 = .pointer (some ⟨CB, 0, none⟩) ∧ v15 = .int .i64 0 ∧ Aside0 (Tab ⟨w, fun _ => False⟩ wx t mb bx [id] Y) ∧ Aside0 (Mr wx t mb bx [id] (.slice (some ad) n MC) R w.heap.size) ∧ Aside0 (wx.heap[CB]? = some (.cells #[.int .i64 2, .int .u64 atv, .int .i64 id, .int .u64 lst, .int .u64 pv, .int .i64 pg, .int .i64 (turnK ak), .string ra, .string rc, .string rb, .slice none 0 0, .slice none 0 0] 39 (0, 0))) ∧ Aside0 (¬ own t mb bx [id] CB))
              case first =>
                have HTk := Aside0.mk (HT1d.out.next (below_drew (Below.refl _ _)))
                have HMk := Aside0.mk (HM1d.out.next (below_drew (Below.refl _ _)))
                have hbk := fun (W : World) => back_calls W 1 ls id pv 0 pg ak ra rb rc none none 0 0 0 0 atv lst pv (by have := HFIT.out; omega) (by have := HFIT.out; omega) (by have := HFIT.out; omega)
                have hv : backV 1 id pg ak ra rb rc atv lst pv = .tuple #[.agg #[.int .i64 2, .int .u64 atv, .int .i64 id, .int .u64 lst, .int .u64 pv, .int .i64 pg, .int .i64 (turnK ak), .string ra, .string rc, .string rb, .slice none 0 0, .slice none 0 0], .int .i64 0] := by unfold backV; rw [if_pos ⟨rfl, HMAY.out⟩]
                rw [hv] at hbk
                have HBK := Aside0.mk hbk
                clear hv hbk HT1d HM1d
                refine start_ (n := 19) (S := fun wx => wx.cell? (ad.add (j * 12)) = some (.int .i64 1) ∧ wx.cell? ⟨(ad.add (j * 12)).block, (ad.add (j * 12)).off + 1, none⟩ = some (.int .u64 ls) ∧ wx.cell? ⟨(ad.add (j * 12)).block, (ad.add (j * 12)).off + 2, none⟩ = some (.int .i64 id) ∧ wx.cell? ⟨(ad.add (j * 12)).block, (ad.add (j * 12)).off + 3, none⟩ = some (.int .u64 pv) ∧ wx.cell? ⟨(ad.add (j * 12)).block, (ad.add (j * 12)).off + 4, none⟩ = some (.int .u64 0) ∧ wx.cell? ⟨(ad.add (j * 12)).block, (ad.add (j * 12)).off + 5, none⟩ = some (.int .i64 pg) ∧ wx.cell? ⟨(ad.add (j * 12)).block, (ad.add (j * 12)).off + 6, none⟩ = some (.int .i64 ak) ∧ wx.cell? ⟨(ad.add (j * 12)).block, (ad.add (j * 12)).off + 7, none⟩ = some (.string ra) ∧ wx.cell? ⟨(ad.add (j * 12)).block, (ad.add (j * 12)).off + 8, none⟩ = some (.string rb) ∧ wx.cell? ⟨(ad.add (j * 12)).block, (ad.add (j * 12)).off + 9, none⟩ = some (.string rc) ∧ wx.cell? ⟨(ad.add (j * 12)).block, (ad.add (j * 12)).off + 10, none⟩ = some (.slice none 0 0) ∧ wx.cell? ⟨(ad.add (j * 12)).block, (ad.add (j * 12)).off + 11, none⟩ = some (.slice none 0 0)) (ds := [17]) #[false, false, false, false, false, false, false, false, false, false, false, false, false, false, false, false, false, false, false] (by kernel_rfl) rfl rfl (rec12 HMk.out hjR HX.out) (fun hHeld => ?_)
                refine pure_ (i := 0) (N := some 114) (v := ?_) (a' := ?_) #[true, false, false, false, false, false, false, false, false, false, false, false, false, false, false, false, false, false, false] rfl rfl (by kernel_rfl) (fun _ _ _ h => h) (Or.inl ⟨by rfl, ?_⟩) ?_ ?_
                rotate_left
                · intro w'
                  go_simp
                  all_goals (with_reducible rfl)
                rotate_left
                · simp only [Act.put, List.setIfInBounds_toArray, List.set_cons_zero, List.set_cons_succ, i64_w, i32_w]
                  rfl
                refine pure_ (i := 1) (N := some 115) (v := ?_) (a' := ?_) #[true, true, false, false, false, false, false, false, false, false, false, false, false, false, false, false, false, false, false] rfl rfl (by kernel_rfl) (fun _ _ _ h => h) (Or.inl ⟨by rfl, ?_⟩) ?_ ?_
                rotate_left
                · intro w'
                  go_simp
                  all_goals (with_reducible rfl)
                rotate_left
                · simp only [Act.put, List.setIfInBounds_toArray, List.set_cons_zero, List.set_cons_succ, i64_w, i32_w]
                  rfl
                refine pure_ (i := 2) (N := some 116) (v := ?_) (a' := ?_) #[true, true, true, false, false, false, false, false, false, false, false, false, false, false, false, false, false, false, false] rfl rfl (by kernel_rfl) (fun _ _ _ h => h) (Or.inl ⟨by rfl, ?_⟩) ?_ ?_
                rotate_left
                · intro w'
                  go_simp
                  all_goals (with_reducible rfl)
                rotate_left
                · simp only [Act.put, List.setIfInBounds_toArray, List.set_cons_zero, List.set_cons_succ, i64_w, i32_w]
                  rfl
                refine pure_ (i := 4) (N := some 118) (v := ?_) (a' := ?_) #[true, true, true, false, true, false, false, false, false, false, false, false, false, false, false, false, false, false, false] rfl rfl (by kernel_rfl) (fun _ _ _ h => h) (Or.inl ⟨by rfl, ?_⟩) ?_ ?_
                rotate_left
                · intro w'
                  go_simp
                  all_goals (with_reducible rfl)
                rotate_left
                · simp only [Act.put, List.setIfInBounds_toArray, List.set_cons_zero, List.set_cons_succ, i64_w, i32_w]
                  rfl
                refine pure_ (i := 5) (N := some 119) (v := ?_) (a' := ?_) #[true, true, true, false, true, true, false, false, false, false, false, false, false, false, false, false, false, false, false] rfl rfl (by kernel_rfl) (fun _ _ _ h => h) (Or.inl ⟨by rfl, ?_⟩) ?_ ?_
                rotate_left
                · intro w'
                  go_simp
                  all_goals (with_reducible rfl)
                rotate_left
                · simp only [Act.put, List.setIfInBounds_toArray, List.set_cons_zero, List.set_cons_succ, i64_w, i32_w]
                  rfl
                refine pure_ (i := 6) (N := some 120) (v := ?_) (a' := ?_) #[true, true, true, false, true, true, true, false, false, false, false, false, false, false, false, false, false, false, false] rfl rfl (by kernel_rfl) (fun _ _ _ h => h) (Or.inl ⟨by rfl, ?_⟩) ?_ ?_
                rotate_left
                · intro w'
                  go_simp
                  all_goals (with_reducible rfl)
                rotate_left
                · simp only [Act.put, List.setIfInBounds_toArray, List.set_cons_zero, List.set_cons_succ, i64_w, i32_w]
                  rfl
                refine pure_ (i := 7) (N := some 121) (v := ?_) (a' := ?_) #[true, true, true, false, true, true, true, true, false, false, false, false, false, false, false, false, false, false, false] rfl rfl (by kernel_rfl) (fun _ _ _ h => h) (Or.inl ⟨by rfl, ?_⟩) ?_ ?_
                rotate_left
                · intro w'
                  go_simp
                  all_goals (with_reducible rfl)
                rotate_left
                · simp only [Act.put, List.setIfInBounds_toArray, List.set_cons_zero, List.set_cons_succ, i64_w, i32_w]
                  rfl
                refine pure_ (i := 8) (N := some 122) (v := ?_) (a' := ?_) #[true, true, true, false, true, true, true, true, true, false, false, false, false, false, false, false, false, false, false] rfl rfl (by kernel_rfl) (fun _ _ _ h => h) (Or.inl ⟨by rfl, ?_⟩) ?_ ?_
                rotate_left
                · intro w'
                  go_simp
                  all_goals (with_reducible rfl)
                rotate_left
                · simp only [Act.put, List.setIfInBounds_toArray, List.set_cons_zero, List.set_cons_succ, i64_w, i32_w]
                  rfl
                refine pure_ (i := 9) (N := some 123) (v := ?_) (a' := ?_) #[true, true, true, false, true, true, true, true, true, true, false, false, false, false, false, false, false, false, false] rfl rfl (by kernel_rfl) (fun _ _ _ h => h) (Or.inl ⟨by rfl, ?_⟩) ?_ ?_
                rotate_left
                · intro w'
                  go_simp
                  all_goals (with_reducible rfl)
                rotate_left
                · simp only [Act.put, List.setIfInBounds_toArray, List.set_cons_zero, List.set_cons_succ, i64_w, i32_w]
                  rfl
                refine pure_ (i := 10) (N := some 124) (v := ?_) (a' := ?_) #[true, true, true, false, true, true, true, true, true, true, true, false, false, false, false, false, false, false, false] rfl rfl (by kernel_rfl) (fun _ _ _ h => h) (Or.inl ⟨by rfl, ?_⟩) ?_ ?_
                rotate_left
                · intro w'
                  go_simp
                  all_goals (with_reducible rfl)
                rotate_left
                · simp only [Act.put, List.setIfInBounds_toArray, List.set_cons_zero, List.set_cons_succ, i64_w, i32_w]
                  rfl
                refine take_ (i := 3) (N := some 117) (v := ?_) (a' := ?_) #[true, true, true, true, true, true, true, true, true, true, true, false, false, false, false, false, false, false, false] rfl rfl (by kernel_rfl) (fun _ _ _ h => h) (Or.inl ⟨by rfl, ?_⟩) hHeld ?_ ?_
                rotate_left
                · intro w' hSw
                  (try dsimp only at hSw)
                  go_simp
                  all_goals (with_reducible rfl)
                rotate_left
                · simp only [Act.put, List.setIfInBounds_toArray, List.set_cons_zero, List.set_cons_succ, i64_w, i32_w]
                  rfl
                refine take_ (i := 11) (N := some 125) (v := ?_) (a' := ?_) #[true, true, true, true, true, true, true, true, true, true, true, true, false, false, false, false, false, false, false] rfl rfl (by kernel_rfl) (fun _ _ _ h => h) (Or.inl ⟨by rfl, ?_⟩) hHeld ?_ ?_
                rotate_left
                · intro w' hSw
                  (try dsimp only at hSw)
                  go_simp
                  all_goals (with_reducible rfl)
                rotate_left
                · simp only [Act.put, List.setIfInBounds_toArray, List.set_cons_zero, List.set_cons_succ, i64_w, i32_w]
                  rfl
                refine two_ (i := 12) (j := 16) (Ni := some 126) (Nj := some 14) #[true, true, true, true, true, true, true, true, true, true, true, true, true, false, false, false, false, false, false] #[true, true, true, true, true, true, true, true, true, true, true, true, false, false, false, false, true, false, false] rfl rfl rfl rfl (by kernel_rfl) (by decide) (by decide) (fun K hK => ?_) (fun K hK => ?_)
                · go_simp
                  go_at_call 14
                  refine (HBK.out _).mono ?_
                  rintro e wy ⟨rfl, hb⟩
                  have HTk := Aside0.mk (HTk.out.next hb)
                  have HMk := Aside0.mk (HMk.out.next hb)
                  clear hb
                  (try go_wp2_with fail)
                  refine hK.out _ _ (rec12 HMk.out hjR HX.out) (fun hHeld => ?_)
                  clear hK K
                  (try simp only [Act.put, List.setIfInBounds_toArray, List.set_cons_zero, List.set_cons_succ])
                  refine pure_ (i := 13) (N := some 113) (v := ?_) (a' := ?_) #[true, true, true, true, true, true, true, true, true, true, true, true, true, true, false, false, false, false, false] rfl rfl (by kernel_rfl) (fun _ _ _ h => h) (Or.inl ⟨by rfl, ?_⟩) ?_ ?_
                  rotate_left
                  · intro w'
                    go_simp
                    all_goals (with_reducible rfl)
                  rotate_left
                  · simp only [Act.put, List.setIfInBounds_toArray, List.set_cons_zero, List.set_cons_succ, i64_w, i32_w]
                    rfl
                  refine pure_ (i := 14) (N := some 127) (v := ?_) (a' := ?_) #[true, true, true, true, true, true, true, true, true, true, true, true, true, true, true, false, false, false, false] rfl rfl (by kernel_rfl) (fun _ _ _ h => h) (Or.inl ⟨by rfl, ?_⟩) ?_ ?_
                  rotate_left
                  · intro w'
                    go_simp
                    all_goals (with_reducible rfl)
                  rotate_left
                  · simp only [Act.put, List.setIfInBounds_toArray, List.set_cons_zero, List.set_cons_succ, i64_w, i32_w]
                    rfl
                  refine pure_ (i := 15) (N := some 128) (v := ?_) (a' := ?_) #[true, true, true, true, true, true, true, true, true, true, true, true, true, true, true, true, false, false, false] rfl rfl (by kernel_rfl) (fun _ _ _ h => h) (Or.inl ⟨by rfl, ?_⟩) ?_ ?_
                  rotate_left
                  · intro w'
                    go_simp
                    all_goals (with_reducible rfl)
                  rotate_left
                  · simp only [Act.put, List.setIfInBounds_toArray, List.set_cons_zero, List.set_cons_succ, i64_w, i32_w]
                    rfl
                  refine one_ (i := 16) (N := some 14) #[true, true, true, true, true, true, true, true, true, true, true, true, true, true, true, true, true, false, false] rfl rfl (by kernel_rfl) (by decide) (fun K hK => ?_)
                  go_simp
                  have HNk := Aside0.mk (HTk.out.not_own (Nat.le_refl _))
                  have HNMk := Aside0.mk (show ∀ q, (Value.slice (some ad) n MC).ownBlock = some q → q ≠ wy.heap.size from fun q hq => by have := HMk.out.lt q hq; omega)
                  have HBTk := Aside0.mk (HTk.out.bel.size)
                  have HOk := Aside0.mk (heap_alloc_new wy (.cells #[.int .i64 0, .int .u64 0, .int .i64 0, .int .u64 0, .int .u64 0, .int .i64 0, .int .i64 0, .string ⟨#[]⟩, .string ⟨#[]⟩, .string ⟨#[]⟩, .slice none 0 0, .slice none 0 0] 39))
                  have hba := below_alloc (Below.refl wy.heap.size wy) (.cells #[.int .i64 0, .int .u64 0, .int .i64 0, .int .u64 0, .int .u64 0, .int .i64 0, .int .i64 0, .string ⟨#[]⟩, .string ⟨#[]⟩, .string ⟨#[]⟩, .slice none 0 0, .slice none 0 0] 39)
                  have HTk := Aside0.mk (HTk.out.next hba)
                  have HMk := Aside0.mk (HMk.out.next hba)
                  clear hba
                  (try go_wp2_with fail)
                  refine hK.out _ _ (rec12 HMk.out hjR HX.out) (fun hHeld => ?_)
                  clear hK K
                  (try simp only [Act.put, List.setIfInBounds_toArray, List.set_cons_zero, List.set_cons_succ])
                  refine last_ (i := 17) (N := none) #[true, true, true, true, true, true, true, true, true, true, true, true, true, true, true, true, true, true, false] rfl rfl (by kernel_rfl) (by decide) (fun K hK => ?_)
                  refine store_box (t := 39) (new := #[.int .i64 2, .int .u64 atv, .int .i64 id, .int .u64 lst, .int .u64 pv, .int .i64 pg, .int .i64 (turnK ak), .string ra, .string rc, .string rb, .slice none 0 0, .slice none 0 0]) rfl (by rfl) rfl (by rfl) (by rfl) HOk.out (Nat.le_refl _) (Nat.le_refl _) rfl (by kernel_rfl) (by intro q hq; simp only [List.mem_cons, List.not_mem_nil, or_false] at hq; rcases hq with rfl | rfl | rfl | rfl | rfl | rfl | rfl | rfl | rfl | rfl | rfl | rfl <;> rfl) (fun w9 hb9 hg9 => ?_)
                  refine hK.out _ _ ?_
                  clear hK K
                  (try simp only [Act.put, List.setIfInBounds_toArray, List.set_cons_zero, List.set_cons_succ])
                  refine pure_ (i := 18) (N := some 15) (v := ?_) (a' := ?_) #[true, true, true, true, true, true, true, true, true, true, true, true, true, true, true, true, true, true, true] rfl rfl (by kernel_rfl) (fun _ _ _ h => h) (Or.inl ⟨by rfl, ?_⟩) ?_ ?_
                  rotate_left
                  · intro w'
                    go_simp
                    all_goals (with_reducible rfl)
                  rotate_left
                  · simp only [Act.put, List.setIfInBounds_toArray, List.set_cons_zero, List.set_cons_succ, i64_w, i32_w]
                    rfl
                  refine done_ (by kernel_rfl) ?_
                  have HT9 := Aside0.mk (HTk.out.grownFar hg9 (fun q hq => by injection hq with hq; subst hq; exact ⟨HNk.out, .inl HBTk.out⟩))
                  have HM9 := Aside0.mk (HMk.out.grown hg9 (fun q hq e => by injection hq with hq; subst hq; exact HNMk.out _ e rfl))
                  have HC9 := Aside0.mk hb9
                  clear hb9 hg9
                  go_wp2_with fail
                  go_meet
                  case rel => exact ⟨_, rfl, rfl, HT9, HM9, HC9, HNk⟩
                · go_simp
                  have HNk := Aside0.mk (HTk.out.not_own (Nat.le_refl _))
                  have HNMk := Aside0.mk (show ∀ q, (Value.slice (some ad) n MC).ownBlock = some q → q ≠ w1.drew.heap.size from fun q hq => by have := HMk.out.lt q hq; omega)
                  have HBTk := Aside0.mk (HTk.out.bel.size)
                  have HOk := Aside0.mk (heap_alloc_new w1.drew (.cells #[.int .i64 0, .int .u64 0, .int .i64 0, .int .u64 0, .int .u64 0, .int .i64 0, .int .i64 0, .string ⟨#[]⟩, .string ⟨#[]⟩, .string ⟨#[]⟩, .slice none 0 0, .slice none 0 0] 39))
                  have hba := below_alloc (Below.refl w1.drew.heap.size w1.drew) (.cells #[.int .i64 0, .int .u64 0, .int .i64 0, .int .u64 0, .int .u64 0, .int .i64 0, .int .i64 0, .string ⟨#[]⟩, .string ⟨#[]⟩, .string ⟨#[]⟩, .slice none 0 0, .slice none 0 0] 39)
                  have HTk := Aside0.mk (HTk.out.next hba)
                  have HMk := Aside0.mk (HMk.out.next hba)
                  clear hba
                  (try go_wp2_with fail)
                  refine hK.out _ _ (rec12 HMk.out hjR HX.out) (fun hHeld => ?_)
                  clear hK K
                  (try simp only [Act.put, List.setIfInBounds_toArray, List.set_cons_zero, List.set_cons_succ])
                  refine one_ (i := 12) (N := some 126) #[true, true, true, true, true, true, true, true, true, true, true, true, true, false, false, false, true, false, false] rfl rfl (by kernel_rfl) (by decide) (fun K hK => ?_)
                  go_simp
                  go_at_call 14
                  refine (HBK.out _).mono ?_
                  rintro e wy ⟨rfl, hb⟩
                  have HTk := Aside0.mk (HTk.out.next hb)
                  have HMk := Aside0.mk (HMk.out.next hb)
                  have HOk := Aside0.mk (blk_below HOk.out hb)
                  clear hb
                  (try go_wp2_with fail)
                  refine hK.out _ _ (rec12 HMk.out hjR HX.out) (fun hHeld => ?_)
                  clear hK K
                  (try simp only [Act.put, List.setIfInBounds_toArray, List.set_cons_zero, List.set_cons_succ])
                  refine pure_ (i := 13) (N := some 113) (v := ?_) (a' := ?_) #[true, true, true, true, true, true, true, true, true, true, true, true, true, true, false, false, true, false, false] rfl rfl (by kernel_rfl) (fun _ _ _ h => h) (Or.inl ⟨by rfl, ?_⟩) ?_ ?_
                  rotate_left
                  · intro w'
                    go_simp
                    all_goals (with_reducible rfl)
                  rotate_left
                  · simp only [Act.put, List.setIfInBounds_toArray, List.set_cons_zero, List.set_cons_succ, i64_w, i32_w]
                    rfl
                  refine pure_ (i := 14) (N := some 127) (v := ?_) (a' := ?_) #[true, true, true, true, true, true, true, true, true, true, true, true, true, true, true, false, true, false, false] rfl rfl (by kernel_rfl) (fun _ _ _ h => h) (Or.inl ⟨by rfl, ?_⟩) ?_ ?_
                  rotate_left
                  · intro w'
                    go_simp
                    all_goals (with_reducible rfl)
                  rotate_left
                  · simp only [Act.put, List.setIfInBounds_toArray, List.set_cons_zero, List.set_cons_succ, i64_w, i32_w]
                    rfl
                  refine pure_ (i := 15) (N := some 128) (v := ?_) (a' := ?_) #[true, true, true, true, true, true, true, true, true, true, true, true, true, true, true, true, true, false, false] rfl rfl (by kernel_rfl) (fun _ _ _ h => h) (Or.inl ⟨by rfl, ?_⟩) ?_ ?_
                  rotate_left
                  · intro w'
                    go_simp
                    all_goals (with_reducible rfl)
                  rotate_left
                  · simp only [Act.put, List.setIfInBounds_toArray, List.set_cons_zero, List.set_cons_succ, i64_w, i32_w]
                    rfl
                  refine last_ (i := 17) (N := none) #[true, true, true, true, true, true, true, true, true, true, true, true, true, true, true, true, true, true, false] rfl rfl (by kernel_rfl) (by decide) (fun K hK => ?_)
                  refine store_box (t := 39) (new := #[.int .i64 2, .int .u64 atv, .int .i64 id, .int .u64 lst, .int .u64 pv, .int .i64 pg, .int .i64 (turnK ak), .string ra, .string rc, .string rb, .slice none 0 0, .slice none 0 0]) rfl (by rfl) rfl (by rfl) (by rfl) HOk.out (Nat.le_refl _) (Nat.le_refl _) rfl (by kernel_rfl) (by intro q hq; simp only [List.mem_cons, List.not_mem_nil, or_false] at hq; rcases hq with rfl | rfl | rfl | rfl | rfl | rfl | rfl | rfl | rfl | rfl | rfl | rfl <;> rfl) (fun w9 hb9 hg9 => ?_)
                  refine hK.out _ _ ?_
                  clear hK K
                  (try simp only [Act.put, List.setIfInBounds_toArray, List.set_cons_zero, List.set_cons_succ])
                  refine pure_ (i := 18) (N := some 15) (v := ?_) (a' := ?_) #[true, true, true, true, true, true, true, true, true, true, true, true, true, true, true, true, true, true, true] rfl rfl (by kernel_rfl) (fun _ _ _ h => h) (Or.inl ⟨by rfl, ?_⟩) ?_ ?_
                  rotate_left
                  · intro w'
                    go_simp
                    all_goals (with_reducible rfl)
                  rotate_left
                  · simp only [Act.put, List.setIfInBounds_toArray, List.set_cons_zero, List.set_cons_succ, i64_w, i32_w]
                    rfl
                  refine done_ (by kernel_rfl) ?_
                  have HT9 := Aside0.mk (HTk.out.grownFar hg9 (fun q hq => by injection hq with hq; subst hq; exact ⟨HNk.out, .inl HBTk.out⟩))
                  have HM9 := Aside0.mk (HMk.out.grown hg9 (fun q hq e => by injection hq with hq; subst hq; exact HNMk.out _ e rfl))
                  have HC9 := Aside0.mk hb9
                  clear hb9 hg9
                  go_wp2_with fail
                  go_meet
                  case rel => exact ⟨_, rfl, rfl, HT9, HM9, HC9, HNk⟩
              case rest =>
                obtain ⟨CB, rfl, rfl, HT2, HM2, HC2, HNC⟩ := hcut
                clear HT1d HM1d hwa HW1
                generalize wc = w2 at HT2 HM2 HC2 ⊢
                have x0 := blk_cell HC2.out 0
                have x1 := blk_cell HC2.out 1
                have x2 := blk_cell HC2.out 2
                have x3 := blk_cell HC2.out 3
                have x4 := blk_cell HC2.out 4
                have x5 := blk_cell HC2.out 5
                have x6 := blk_cell HC2.out 6
                have x7 := blk_cell HC2.out 7
                have x8 := blk_cell HC2.out 8
                have x9 := blk_cell HC2.out 9
                have x10 := blk_cell HC2.out 10
                have x11 := blk_cell HC2.out 11
                go_wp2_with fail
                refine (frame_undo w2 atv id lst pv pg (turnK ak) ra rc rb none 0 [] none 0 [] (nilC _ _) (Nat.le_refl _) (nilC _ _) (Nat.le_refl _) (by have := HFIT.out; omega) (by have := HFIT.out; omega) (by have := HFIT.out; omega)).mono ?_
                rintro e w3 ⟨⟨s, rfl, hs⟩, hb⟩
                have HT3 := Aside0.mk (HT2.out.next hb)
                have HM3 := Aside0.mk (HM2.out.next hb)
                have HC3 := Aside0.mk (blk_below HC2.out hb)
                have HS := Aside0.mk hs
                have hs2 : s.size ≤ 200 := by have := HFIT.out; rw [hs]; unfold szU; omega
                clear hb HT2 HM2 HC2 hs x0 x1 x2 x3 x4 x5 x6 x7 x8 x9 x10 x11
                obtain ⟨kv, hkv⟩ : ∃ kv, kv = (Y id).need := ⟨_, rfl⟩
                have hkn2 : (s.size : Int) + 54 ≤ kv := by
                  have h1 := sumR_take R j hjR
                  rw [← HX.out] at h1
                  have h2 : base R = 54 := by unfold base; rw [if_neg (by omega)]
                  rw [hkv, HB1.out.need, h1, h2, HS.out]
                  simp only []
                  omega
                have hkn3 : kv ≤ 100000 := by
                  have h1 := base_le R
                  have h2 := sumR_le HG.out (j + 1) (by omega)
                  rw [hkv, HB1.out.need]
                  omega
                have HKV := Aside0.mk hkv
                have hkp := tabkept ⟨w, fun _ => False⟩ w3 t mb bx [id] Y id HT3.out
                rw [if_pos (by simp), ← hkv] at hkp
                clear hkv
                go_wp2_with fail
                refine hkp.mono ?_
                rintro e w4 ⟨rfl, rfl⟩
                clear hkp
                have x0 := blk_cell HC3.out 0
                have x1 := blk_cell HC3.out 1
                have x2 := blk_cell HC3.out 2
                have x3 := blk_cell HC3.out 3
                have x4 := blk_cell HC3.out 4
                have x5 := blk_cell HC3.out 5
                have x6 := blk_cell HC3.out 6
                have x7 := blk_cell HC3.out 7
                have x8 := blk_cell HC3.out 8
                have x9 := blk_cell HC3.out 9
                have x10 := blk_cell HC3.out 10
                have x11 := blk_cell HC3.out 11
                go_wp2_with fail
                have hok2 := undo_ok (at' := atv) (lst := lst) (un := pv) (tx := id) ⟨hat1.1, by omega⟩ hla.2 (by have := HKA.out; rw [HG3.out]; omega) HID.out HPG.out HMAY.out
                refine (note_calls ⟨w3, own t mb bx [id]⟩ w3 t mb bx [id] Y 2 atv id lst pv pg (turnK ak) ra rc rb none 0 [] none 0 [] HT3.out.here (nilC _ _) (Nat.le_refl _) (nilC _ _) (Nat.le_refl _) hla.1 (by rw [HG3.out]; omega) (fun hi => by rw [← HKV.out]; omega)).mono ?_
                rintro e w5 ⟨nn, rfl, hnt⟩
                clear x0 x1 x2 x3 x4 x5 x6 x7 x8 x9 x10 x11
                obtain ⟨rfl, X', hT, hB'⟩ := noted_undo (by have := hnt; exact szswap this) HB1.out hjR HG3.out hok2 (by rw [← HX.out])
                have HT5 := Aside0.mk (HT3.out.back hT)
                have HM5 := Aside0.mk (HM3.out.keep hT (fun _ h => h))
                have HC5 := Aside0.mk (hT.keep HC3.out HNC.out)
                have HB5 := Aside0.mk hB'
                clear hT hnt HT3 HM3 HC3 hB' hok2
                have x1 := blk_cell HC5.out 1
                go_wp2_with fail
                go_roundg (gk - 1)
                case measure => have := HJ.out; omega
                case rel => exact ⟨j, X', atv, atv + 16, ⟨by have := HJ.out; omega⟩, rfl, rfl, (by go_num), by omega, HT5, HB5, ⟨by omega, by omega⟩, ⟨by have := HKA.out; omega⟩, ⟨by omega, by have := HSUM.out; omega⟩, ⟨by have := HSUM.out; omega⟩, HM5⟩
end Go.Proofs.Yteaklmafjmnmiaa
end
