/- chain's back and Need. -/
import Derived.Test.YteaklmafjmnmiaaCi
import Derived.Test.YteaklmafjmnmiaaCk
namespace Go.Proofs.Yteaklmafjmnmiaa
open Go.RowKit Go.Proofs.YteaklmafjmnmiaaW.PrintWords Go.Proofs.YteaklmafjmnmiaaW.PrintLast Go.Proofs.YteaklmafjmnmiaaW.PrintMore
open Rf MapL MapV
set_option linter.unusedVariables false
set_option linter.unusedSimpArgs false
theorem nilB_e (s : ByteArray) : nilB s = s.toList.isEmpty := by
  unfold nilB
  cases s.toList <;> rfl
theorem mayAB_act (ak : Int) (a b c : ByteArray) : mayAB ak a b c = actMay ak a b c := by
  unfold mayAB actMay fits
  rw [nilB_e, nilB_e]
  simp only [Bool.and_assoc]
theorem mayAB_turn {ak : Int} {a b c : ByteArray} (h : actMay ak a b c = true) : mayAB (turnK ak) a c b = true := by
  obtain ⟨h1, h2, h3, h4⟩ := may_fits h
  have h5 := may_kind h
  unfold actMay at h
  rw [Bool.and_eq_true] at h
  have h6 := h.2
  unfold mayAB turnK
  rw [decide_eq_true h1, decide_eq_true h2, decide_eq_true h3, decide_eq_true h4, nilB_e, nilB_e]
  rcases h5 with rfl | rfl | rfl
  · simpa using h6
  · simp
  · simpa using h6
theorem upd_facts {ls tx pv un pg ak : Int} {a b c : ByteArray} {l : List SGTxn} {m : List SGDirty} (h : recOk 1 ls tx pv un pg ak a b c l m = true) :
    (16 ≤ ls ∧ ls ≤ 1152921504606846991) ∧ pv < ls ∧ un < ls ∧ (1 ≤ tx ∧ tx ≤ 1073741824) ∧ (0 ≤ pg ∧ pg < 16) ∧ actMay ak a b c = true := by
  unfold recOk numB pageB txnB at h
  rw [if_pos (show (1 : Int) = 1 ∨ (1 : Int) = 2 from .inl rfl), if_neg (show ¬ ((1 : Int) = 7 ∨ (1 : Int) = 8) by omega), mayAB_act] at h
  simp only [Bool.and_eq_true, decide_eq_true_eq] at h
  obtain ⟨⟨⟨⟨⟨⟨⟨⟨⟨_, _⟩, h1⟩, h2⟩, h3⟩, ⟨h4, h5⟩⟩, h9⟩, _⟩, _⟩, _⟩ := h
  exact ⟨h1, h2, h3, h9, h4, h5⟩
/-- The record that takes a change back, with the numbers that back gives it, may be. -/
theorem back_ok {tx pg ak : Int} {a b c : ByteArray} (htx : 1 ≤ tx ∧ tx ≤ 1073741824) (hpg : 0 ≤ pg ∧ pg < 16) (hm : actMay ak a b c = true) : recOk 2 32 tx 16 0 pg (turnK ak) a c b [] [] = true := by
  have h2 := mayAB_turn hm
  unfold recOk numB pageB txnB
  rw [if_pos (show (2 : Int) = 1 ∨ (2 : Int) = 2 from .inr rfl), if_neg (show ¬ ((2 : Int) = 7 ∨ (2 : Int) = 8) by omega), h2, decide_eq_true hpg, decide_eq_true htx]
  rfl
theorem nilC {α : Type} (K : Kd α) (w : World) : Kd.C K w none ([] : List α).length [] := ⟨rfl, by simp, fun h => by simp at h⟩
set_option maxRecDepth 100000 in
set_option maxHeartbeats 4000000 in
theorem cback_calls (w : World) (ls tx pv un pg ak : Int) (a b c : ByteArray) (At Ad : Option Addr) (lt ct ld cd : Nat) (l : List SGTxn) (m : List SGDirty) (hok : recOk 1 ls tx pv un pg ak a b c l m = true) :
    Calls Try.prog 33 #[.agg #[.int .i64 1, .int .u64 ls, .int .i64 tx, .int .u64 pv, .int .u64 un, .int .i64 pg, .int .i64 ak, .string a, .string b, .string c, .slice At lt ct, .slice Ad ld cd]] w fun e w' => e = .returned (.int .i64 (szU a c b)) ∧ Below w.heap.size w w' := by
  obtain ⟨f1, _, _, f4, f5, f6⟩ := upd_facts hok
  have hfit := may_fits f6
  have hbk := fun (W : World) (n0 n1 n2 : Int) => back_calls W 1 ls tx pv un pg ak a b c At Ad lt ct ld cd n0 n1 n2 (by omega) (by omega) (by omega)
  have hv : ∀ n0 n1 n2, backV 1 tx pg ak a b c n0 n1 n2 = .tuple #[.agg #[.int .i64 2, .int .u64 n0, .int .i64 tx, .int .u64 n1, .int .u64 n2, .int .i64 pg, .int .i64 (turnK ak), .string a, .string c, .string b, .slice none 0 0, .slice none 0 0], .int .i64 0] := fun n0 n1 n2 => by
    unfold backV; rw [if_pos ⟨rfl, f6⟩]
  simp only [hv] at hbk
  have hsz := fun (W : World) => size_undo W 32 tx 16 0 pg (turnK ak) a c b none 0 [] none 0 [] (nilC _ _) (Nat.le_refl _) (nilC _ _) (Nat.le_refl _) (by omega) (by omega) (back_ok f4 f5 f6)
  have hw : IntKind.u64.wrap (ls + 16) = ls + 16 := by simp [IntKind.wrap, IntKind.bits, IntKind.signed]; omega
  clear hv hfit hok f4 f5 f6
  go_enter Try.func33, Try.ntmps33
  go_wp2_with fail
  have hba : Below w.heap.size w (w.alloc (.cells #[.int .i64 1, .int .u64 ls, .int .i64 tx, .int .u64 pv, .int .u64 un, .int .i64 pg, .int .i64 ak, .string a, .string b, .string c, .slice At lt ct, .slice Ad ld cd] 39)) := below_alloc (Below.refl _ _) _
  generalize w.alloc (.cells #[.int .i64 1, .int .u64 ls, .int .i64 tx, .int .u64 pv, .int .u64 un, .int .i64 pg, .int .i64 ak, .string a, .string b, .string c, .slice At lt ct, .slice Ad ld cd] 39) = wa at hba ⊢
  refine (hbk wa _ _ _).mono ?_
  rintro e wb ⟨rfl, hb⟩
  have HBB := Aside0.mk (below_then hba hba.size hb)
  clear hb hba hbk
  go_wp2_with fail
  refine (hsz _).mono ?_
  rintro e wc ⟨rfl, hb⟩
  have hbz : Below wb.heap.size wb wc := below_then (below_alloc (Below.refl _ _) _) (by rw [World.size_alloc]; omega) hb
  have HBC := Aside0.mk (below_then HBB.out HBB.out.size hbz)
  clear hb hsz hbz
  go_wp2_with fail
  go_ret
  exact ⟨rfl, HBC.out⟩
/-- How much more a transaction needs behind a record. -/
def needOf (ks : List Int) (X : Int → TX) (k ls tx pv un pg ak : Int) (a b c : ByteArray) (l : List SGTxn) (m : List SGDirty) : Int :=
  if tx ∈ ks ∧ recOk k ls tx pv un pg ak a b c l m = true then (if k = 1 then (szU a c b : Int) else 0) + (if (X tx).last = 0 ∧ (k = 1 ∨ k = 6) then 54 else 0) else 0
set_option maxRecDepth 100000 in
set_option maxHeartbeats 8000000 in
theorem tabneed (w0 : Wb) (w : World) (t mb : Nat) (bx : Int → Nat) (ks : List Int) (X : Int → TX) (k ls tx pv un pg ak : Int) (a b c : ByteArray) (At : Option Addr) (ct : Nat) (l : List SGTxn) (Ad : Option Addr) (cd : Nat) (m : List SGDirty) (h : Tab w0 w t mb bx ks X)
    (hT : Kd.C kGTxn w At l.length l) (hTc : l.length ≤ ct) (hD : Kd.C kGDirty w Ad m.length m) (hDc : m.length ≤ cd) :
    Calls Try.prog 23 #[.pointer (some ⟨t, 0, none⟩), .agg #[.int .i64 k, .int .u64 ls, .int .i64 tx, .int .u64 pv, .int .u64 un, .int .i64 pg, .int .i64 ak, .string a, .string b, .string c, .slice At l.length ct, .slice Ad m.length cd]] w fun e w' => e = .returned (.int .i64 (needOf ks X k ls tx pv un pg ak a b c l m)) ∧ Tab w0 w' t mb bx ks X ∧ Below w.heap.size w w' := by
  have hck := fun (W : World) (h : Below w.heap.size w W) => check_calls W k ls tx pv un pg ak a b c At ct l Ad cd m (Kd.C_below hT h) hTc (Kd.C_below hD h) hDc
  have hba : Below w.heap.size w (w.alloc (.cells #[.int .i64 k, .int .u64 ls, .int .i64 tx, .int .u64 pv, .int .u64 un, .int .i64 pg, .int .i64 ak, .string a, .string b, .string c, .slice At l.length ct, .slice Ad m.length cd] 39)) := below_alloc (Below.refl _ _) _
  have hxa : (w.alloc (.cells #[.int .i64 k, .int .u64 ls, .int .i64 tx, .int .u64 pv, .int .u64 un, .int .i64 pg, .int .i64 ak, .string a, .string b, .string c, .slice At l.length ct, .slice Ad m.length cd] 39)).heap[w.heap.size]? = some (.cells #[.int .i64 k, .int .u64 ls, .int .i64 tx, .int .u64 pv, .int .u64 un, .int .i64 pg, .int .i64 ak, .string a, .string b, .string c, .slice At l.length ct, .slice Ad m.length cd] 39 (0, 0)) := heap_alloc_new w _
  have hta := h.next hba
  clear hT hD h
  go_enter Try.func23, Try.ntmps23
  go_wp2_with fail
  generalize w.alloc (.cells #[.int .i64 k, .int .u64 ls, .int .i64 tx, .int .u64 pv, .int .u64 un, .int .i64 pg, .int .i64 ak, .string a, .string b, .string c, .slice At l.length ct, .slice Ad m.length cd] 39) = wa at hba hxa hta ⊢
  have hf := tabfind w0 wa t mb bx ks X tx hta
  by_cases hi : tx ∈ ks
  · rw [if_pos hi] at hf
    unfold ptrs at hf
    have x0 := blk_cell hxa 0
    have x1 := blk_cell hxa 1
    have x2 := blk_cell hxa 2
    have x3 := blk_cell hxa 3
    have x4 := blk_cell hxa 4
    have x5 := blk_cell hxa 5
    have x6 := blk_cell hxa 6
    have x7 := blk_cell hxa 7
    have x8 := blk_cell hxa 8
    have x9 := blk_cell hxa 9
    have x10 := blk_cell hxa 10
    have x11 := blk_cell hxa 11
    have hcka := hck wa hba
    refine hf.mono ?_
    rintro e w1 ⟨rfl, rfl⟩
    have HBA := Aside0.mk hba
    have HXA := Aside0.mk hxa
    have HTA := Aside0.mk hta
    have HI := Aside0.mk hi
    clear hf hba hxa hta hi hck
    go_wp2_with fail
    refine hcka.mono ?_
    rintro e wb ⟨rfl, hb⟩
    have HBb := Aside0.mk (below_then HBA.out HBA.out.size hb)
    have HXb := Aside0.mk (blk_below HXA.out hb)
    have HTb := Aside0.mk (HTA.out.next hb)
    clear hb hcka x0 x1 x2 x3 x4 x5 x6 x7 x8 x9 x10 x11
    have x0 := blk_cell HXb.out 0
    have x1 := blk_cell HXb.out 1
    have x2 := blk_cell HXb.out 2
    have x3 := blk_cell HXb.out 3
    have x4 := blk_cell HXb.out 4
    have x5 := blk_cell HXb.out 5
    have x6 := blk_cell HXb.out 6
    have x7 := blk_cell HXb.out 7
    have x8 := blk_cell HXb.out 8
    have x9 := blk_cell HXb.out 9
    have x10 := blk_cell HXb.out 10
    have x11 := blk_cell HXb.out 11
    have y2 : wb.cell? ⟨bx tx, 2, none⟩ = some (.int .u64 (X tx).last) := blk_cell (HTb.out.at_ tx HI.out) 2
    cases hok : recOk k ls tx pv un pg ak a b c l m with
    | false =>
      have HN := Aside0.mk (show needOf ks X k ls tx pv un pg ak a b c l m = 0 from by unfold needOf; rw [if_neg (fun h => by rw [hok] at h; cases h.2)])
      clear hok
      have ec : cde false = 1 := rfl
      rw [ec]
      go_wp2_with fail
      go_ret
      exact ⟨by rw [HN.out]; rfl, HTb.out, HBb.out⟩
    | true =>
      have ec : cde true = 0 := rfl
      rw [ec]
      have HOK := Aside0.mk hok
      clear hok
      by_cases k1 : k = 1
      · subst k1
        have hbk := cback_calls wb ls tx pv un pg ak a b c At Ad l.length ct m.length cd l m HOK.out
        go_wp2_with fail
        refine hbk.mono ?_
        rintro e wc ⟨rfl, hb⟩
        have HBc := Aside0.mk (below_then HBb.out HBb.out.size hb)
        have HXc := Aside0.mk (blk_below HXb.out hb)
        have HTc := Aside0.mk (HTb.out.next hb)
        clear hb hbk x0 x1 x2 x3 x4 x5 x6 x7 x8 x9 x10 x11 y2
        have x0 := blk_cell HXc.out 0
        have y2 : wc.cell? ⟨bx tx, 2, none⟩ = some (.int .u64 (X tx).last) := blk_cell (HTc.out.at_ tx HI.out) 2
        have hfit := may_fits (upd_facts HOK.out).2.2.2.2.2
        have hs1 : (szU a c b : Int) ≤ 1000 := by unfold szU; omega
        clear hfit
        by_cases hl0 : (X tx).last = 0
        · have e3 : ((X tx).last == 0) = true := by simpa using hl0
          have HN := Aside0.mk (show needOf ks X 1 ls tx pv un pg ak a b c l m = (szU a c b : Int) + 54 from by unfold needOf; rw [if_pos ⟨HI.out, HOK.out⟩, if_pos rfl, if_pos ⟨hl0, .inl rfl⟩])
          clear hl0
          go_wp2_with fail
          go_ret
          exact ⟨by rw [HN.out]; rfl, HTc.out, HBc.out⟩
        · have e3 : ((X tx).last == 0) = false := by simpa using hl0
          have HN := Aside0.mk (show needOf ks X 1 ls tx pv un pg ak a b c l m = (szU a c b : Int) from by unfold needOf; rw [if_pos ⟨HI.out, HOK.out⟩, if_pos rfl, if_neg (fun h => hl0 h.1)]; omega)
          clear hl0
          go_wp2_with fail
          go_ret
          exact ⟨by rw [HN.out]; rfl, HTc.out, HBc.out⟩
      · by_cases k6 : k = 6
        · subst k6
          clear k1
          by_cases hl0 : (X tx).last = 0
          · have e3 : ((X tx).last == 0) = true := by simpa using hl0
            have HN := Aside0.mk (show needOf ks X 6 ls tx pv un pg ak a b c l m = 54 from by unfold needOf; rw [if_pos ⟨HI.out, HOK.out⟩, if_neg (by omega), if_pos ⟨hl0, .inr rfl⟩]; rfl)
            clear hl0
            go_wp2_with fail
            go_ret
            exact ⟨by rw [HN.out]; rfl, HTb.out, HBb.out⟩
          · have e3 : ((X tx).last == 0) = false := by simpa using hl0
            have HN := Aside0.mk (show needOf ks X 6 ls tx pv un pg ak a b c l m = 0 from by unfold needOf; rw [if_pos ⟨HI.out, HOK.out⟩, if_neg (by omega), if_neg (fun h => hl0 h.1)]; rfl)
            clear hl0
            go_wp2_with fail
            go_ret
            exact ⟨by rw [HN.out]; rfl, HTb.out, HBb.out⟩
        · have e1 : (k == 1) = false := by simpa using k1
          have e6 : (k == 6) = false := by simpa using k6
          have HN := Aside0.mk (show needOf ks X k ls tx pv un pg ak a b c l m = 0 from by unfold needOf; rw [if_pos ⟨HI.out, HOK.out⟩, if_neg k1, if_neg (fun h => h.2.elim k1 k6)]; rfl)
          by_cases hl0 : (X tx).last = 0
          · have e3 : ((X tx).last == 0) = true := by simpa using hl0
            clear hl0 k1 k6
            go_wp2_with fail
            go_ret
            exact ⟨by rw [HN.out]; rfl, HTb.out, HBb.out⟩
          · have e3 : ((X tx).last == 0) = false := by simpa using hl0
            clear hl0 k1 k6
            go_wp2_with fail
            go_ret
            exact ⟨by rw [HN.out]; rfl, HTb.out, HBb.out⟩
  · rw [if_neg hi] at hf
    have HN := Aside0.mk (show needOf ks X k ls tx pv un pg ak a b c l m = 0 from by unfold needOf; rw [if_neg (fun h => hi h.1)])
    have x0 := blk_cell hxa 0
    have x2 := blk_cell hxa 2
    refine hf.mono ?_
    rintro e w1 ⟨rfl, rfl⟩
    have HBa := Aside0.mk hba
    have HTa := Aside0.mk hta
    clear hf hba hxa hta hi hck
    go_wp2_with fail
    go_ret
    exact ⟨by rw [HN.out]; rfl, HTa.out, HBa.out⟩
end Go.Proofs.Yteaklmafjmnmiaa
