/- The document's Do of layer 7. 
Kinds: api.Pair, api.Act. 
A page of the call's own and the document's beside it; blocks B that neither touches. 
Layer 7: pair. 
The call of the document's Redo. 
A page and the document's beside it: both redo a record. 
Layer 7: ActTurns' walk. -/
import Derived.Test.YtidgfigfebkieaaMgDo2
import Derived.Test.YtidgfigfebkieaaMgRe1
import Derived.Test.YtidgfigfebkieaaRfT
section
namespace Go.Proofs.Ytidgfigfebkieaa
open Go.RowKit Go.Proofs.YtidgfigfebkieaaW.PrintWords Go.Proofs.YtidgfigfebkieaaW.PrintLast Go.Proofs.YtidgfigfebkieaaW.PrintMore
open Rf Go.ChangeMaps
set_option linter.unusedVariables false
set_option linter.unusedSimpArgs false
theorem del_ok (cs : List SGCell) (a : ByteArray) (h : ¬ fnd cs a < 0) : (del cs a).2 = 0 := by
  unfold del
  rw [if_neg h]
section
variable {w0 w : World} {P : Nat → Prop} {v : Value} {cs : List SGCell}
set_option maxRecDepth 100000 in
set_option maxHeartbeats 4000000 in
theorem rdo2_calls (hB : Below w0.heap.size w0 w) (hR : Kd.R kGCell 86 w w0.heap.size P v cs) (hv : Valid cs) (id lsn k : Int) (a b c : ByteArray) (ha : a.size ≤ 140737488351232) (hb : b.size ≤ 140737488351232) (hc : c.size ≤ 140737488351232) :
    Calls Try.prog 20 #[.agg #[.int .i64 id, .int .u64 lsn, v], .agg #[.int .i64 k, .string a, .string b, .string c]] w fun e w' => ∃ v', e = .returned (.tuple #[.agg #[.int .i64 id, .int .u64 lsn, v'], .int .i64 (actDo cs k a b c).2]) ∧
      Kd.R kGCell 86 w' w0.heap.size (fun k => P k ∨ w.heap.size ≤ k) v' (actDo cs k a b c).1 ∧ Below w0.heap.size w0 w' ∧ Kept w w' P ∧ ((actDo cs k a b c).2 ≠ 0 → v' = v) := by
  have HB := Aside0.mk hB
  have HR := Aside0.mk (show Kd.R kGCell 86 w w0.heap.size (fun k => P k ∧ k < w.heap.size) v cs from Kd.R_mono (Kd.R_bound hR) (fun k hk => ⟨hk.1, hk.2.2.1⟩))
  have HV := Aside0.mk hv
  obtain ⟨A, ca, rfl⟩ := Kd.R_slice hR
  clear hB hR hv
  go_enter Try.func20, Try.ntmps20
  go_wp2_with fail
  have hb0 : Below w.heap.size w (((w.alloc (.cells #[.int .i64 id, .int .u64 lsn, .slice A cs.length ca] 46)).alloc (.cells #[.int .i64 k, .string a, .string b, .string c] 24)).alloc (.cells #[.int .i64 0, .int .u64 0, .slice none 0 0] 46)) := below_alloc (below_alloc (below_alloc (Below.refl _ _) _) _) _
  have hdx : (((w.alloc (.cells #[.int .i64 id, .int .u64 lsn, .slice A cs.length ca] 46)).alloc (.cells #[.int .i64 k, .string a, .string b, .string c] 24)).alloc (.cells #[.int .i64 0, .int .u64 0, .slice none 0 0] 46)).heap[w.heap.size]? = some (.cells #[.int .i64 id, .int .u64 lsn, .slice A cs.length ca] 46) := blk_alloc (blk_alloc (heap_alloc_new w _) _) _
  have hax : (((w.alloc (.cells #[.int .i64 id, .int .u64 lsn, .slice A cs.length ca] 46)).alloc (.cells #[.int .i64 k, .string a, .string b, .string c] 24)).alloc (.cells #[.int .i64 0, .int .u64 0, .slice none 0 0] 46)).heap[w.heap.size + 1]? = some (.cells #[.int .i64 k, .string a, .string b, .string c] 24) := by
    have := blk_alloc (heap_alloc_new (w.alloc (.cells #[.int .i64 id, .int .u64 lsn, .slice A cs.length ca] 46)) (.cells #[.int .i64 k, .string a, .string b, .string c] 24)) (.cells #[.int .i64 0, .int .u64 0, .slice none 0 0] 46)
    simpa using this
  have hrx : (((w.alloc (.cells #[.int .i64 id, .int .u64 lsn, .slice A cs.length ca] 46)).alloc (.cells #[.int .i64 k, .string a, .string b, .string c] 24)).alloc (.cells #[.int .i64 0, .int .u64 0, .slice none 0 0] 46)).heap[w.heap.size + 1 + 1]? = some (.cells #[.int .i64 0, .int .u64 0, .slice none 0 0] 46) := by
    have := heap_alloc_new ((w.alloc (.cells #[.int .i64 id, .int .u64 lsn, .slice A cs.length ca] 46)).alloc (.cells #[.int .i64 k, .string a, .string b, .string c] 24)) (.cells #[.int .i64 0, .int .u64 0, .slice none 0 0] 46)
    simpa using this
  generalize ((w.alloc (.cells #[.int .i64 id, .int .u64 lsn, .slice A cs.length ca] 46)).alloc (.cells #[.int .i64 k, .string a, .string b, .string c] 24)).alloc (.cells #[.int .i64 0, .int .u64 0, .slice none 0 0] 46) = w1 at hb0 hdx hax hrx ⊢
  obtain ⟨B2, hB2⟩ : ∃ x, x = w.heap.size + 1 + 1 := ⟨_, rfl⟩
  rw [← hB2] at hrx ⊢
  have HB2 := Aside0.mk hB2
  clear hB2
  refine (flotillaref05_ActMay.calls k a b c (actMay k a b c) w1 (refMay k a b c)).mono ?_
  rintro e w2 ⟨rfl, hb2⟩
  have HS := Aside0.mk (below_then hb0 hb0.size hb2)
  have HBW := Aside0.mk (below_then HB.out HB.out.size HS.out)
  have HDX := Aside0.mk (blk_below hdx hb2)
  have HAX := Aside0.mk (blk_below hax hb2)
  have HRX := Aside0.mk (blk_below hrx hb2)
  have HR2 := Aside0.mk (Kd.R_below HR.out HS.out)
  have HL := Aside0.mk (show w0.heap.size ≤ B2 from by have := HB.out.size; have := HB2.out; omega)
  have HL2 := Aside0.mk (show w.heap.size ≤ B2 from by have := HB2.out; omega)
  have HL3 := Aside0.mk (blk_lt HRX.out)
  clear hb0 hdx hax hrx hb2
  have d0 := blk_cell HDX.out 0
  have d1 := blk_cell HDX.out 1
  have d2 := blk_cell HDX.out 2
  have x0 := blk_cell HAX.out 0
  have x1 := blk_cell HAX.out 1
  have x2 := blk_cell HAX.out 2
  have x3 := blk_cell HAX.out 3
  have r0 := blk_cell HRX.out 0
  have r1 := blk_cell HRX.out 1
  have r2 := blk_cell HRX.out 2
  have g0 := blk_frozen HRX.out 0
  have g1 := blk_frozen HRX.out 1
  have g2 := blk_frozen HRX.out 2
  cases hm : actMay k a b c with
  | false =>
    have HD := Aside0.mk (show actDo cs k a b c = (cs, 1) from by unfold actDo; rw [hm]; rfl)
    have HF := Aside0.mk (show ∀ q, (P q ∧ q < w.heap.size) → q ≠ B2 from fun q hq => by have := HL2.out; omega)
    have HO := Aside0.mk (show ∀ q, (P q ∧ q < w.heap.size) → (P q ∨ w.heap.size ≤ q) from fun q hq => .inl hq.1)
    clear hm
    go_wp2_with fail
    refine bodyPost_ret (results_ct rfl _ _ B2 46 #[.int .i64 id, .int .u64 lsn, .slice A cs.length ca] (0, 0) _ rfl (blk_put (cs' := #[.int .i64 id, .int .u64 lsn, .slice A cs.length ca]) (blk_put (cs' := #[.int .i64 id, .int .u64 lsn, .slice none 0 0]) (blk_put (cs' := #[.int .i64 id, .int .u64 0, .slice none 0 0]) HRX.out 0 (.int .i64 id) rfl) 1 (.int .u64 lsn) rfl) 2 (.slice A cs.length ca) rfl) Try.underlying46 rfl (by kernel_rfl)) rfl ?_
    refine ⟨.slice A cs.length ca, by rw [HD.out]; rfl, ?_, (below_set (g := B2) (j := 2) (below_set (g := B2) (j := 1) (below_set (g := B2) (j := 0) HBW.out HL.out) HL.out) HL.out), (Kept.setCell (Kept.setCell (Kept.setCell (Kept.of_below HS.out P) (p := ⟨B2, 0, none⟩) (.inr HL2.out) (.int .i64 id)) (p := ⟨B2, 1, none⟩) (.inr HL2.out) (.int .u64 lsn)) (p := ⟨B2, 2, none⟩) (.inr HL2.out) (.slice A cs.length ca)), fun _ => rfl⟩
    rw [HD.out]
    exact Kd.R_mono (Kd.R_far (p := ⟨B2, 2, none⟩) (Kd.R_far (p := ⟨B2, 1, none⟩) (Kd.R_far (p := ⟨B2, 0, none⟩) HR2.out (fun q hq => HF.out q hq) (.int .i64 id)) (fun q hq => HF.out q hq) (.int .u64 lsn)) (fun q hq => HF.out q hq) (.slice A cs.length ca)) (fun q hq => HO.out q hq)
  | true =>
    have HM := Aside0.mk hm
    by_cases k1 : k = 1
    · subst k1
      have HD := Aside0.mk (show actDo cs 1 a b c = ins cs a c from by unfold actDo; rw [hm]; rfl)
      clear hm
      go_wp2_with fail
      refine (rins2_calls HBW.out HR2.out HV.out id lsn a c).mono ?_
      rintro e w9 ⟨v9, rfl, hR9, hb9, hk9, hv9⟩
      obtain ⟨A9, c9, rfl⟩ := Kd.R_slice hR9; have HV9 := Aside0.mk hv9; clear hv9
      have HRX9 := Aside0.mk (blk_kept HRX.out hk9 (fun h => by have := h.2; have := HL2.out; omega))
      have HR9 := Aside0.mk hR9
      have HB9 := Aside0.mk hb9
      have HK9 := Aside0.mk ((Kept.of_below HS.out P).then_ hk9 (fun q hq => .inl hq.1))
      have HF := Aside0.mk (show ∀ q, ((P q ∧ q < w.heap.size) ∨ w2.heap.size ≤ q) → q ≠ B2 from fun q hq => by have := HL2.out; have := HL3.out; rcases hq with h | h <;> omega)
      have HO := Aside0.mk (show ∀ q, ((P q ∧ q < w.heap.size) ∨ w2.heap.size ≤ q) → (P q ∨ w.heap.size ≤ q) from fun q hq => by have := HS.out.size; exact hq.elim (fun h => .inl h.1) (fun h => .inr (by omega)))
      have r0 := blk_cell HRX9.out 0
      have r1 := blk_cell HRX9.out 1
      have r2 := blk_cell HRX9.out 2
      have g0 := blk_frozen HRX9.out 0
      have g1 := blk_frozen HRX9.out 1
      have g2 := blk_frozen HRX9.out 2
      clear hR9 hb9 hk9
      go_wp2_with fail
      refine bodyPost_ret (results_ct rfl _ _ B2 46 #[.int .i64 id, .int .u64 lsn, .slice A9 (ins cs a c).1.length c9] (0, 0) _ rfl (blk_put (cs' := #[.int .i64 id, .int .u64 lsn, .slice A9 (ins cs a c).1.length c9]) (blk_put (cs' := #[.int .i64 id, .int .u64 lsn, .slice none 0 0]) (blk_put (cs' := #[.int .i64 id, .int .u64 0, .slice none 0 0]) HRX9.out 0 (.int .i64 id) rfl) 1 (.int .u64 lsn) rfl) 2 (.slice A9 (ins cs a c).1.length c9) rfl) Try.underlying46 rfl (by kernel_rfl)) rfl ?_
      refine ⟨.slice A9 (ins cs a c).1.length c9, by rw [HD.out]; rfl, ?_, (below_set (g := B2) (j := 2) (below_set (g := B2) (j := 1) (below_set (g := B2) (j := 0) HB9.out HL.out) HL.out) HL.out), (Kept.setCell (Kept.setCell (Kept.setCell HK9.out (p := ⟨B2, 0, none⟩) (.inr HL2.out) (.int .i64 id)) (p := ⟨B2, 1, none⟩) (.inr HL2.out) (.int .u64 lsn)) (p := ⟨B2, 2, none⟩) (.inr HL2.out) (.slice A9 (ins cs a c).1.length c9)), by rw [HD.out]; exact HV9.out⟩
      rw [HD.out]
      exact Kd.R_mono (Kd.R_far (p := ⟨B2, 2, none⟩) (Kd.R_far (p := ⟨B2, 1, none⟩) (Kd.R_far (p := ⟨B2, 0, none⟩) HR9.out (fun q hq => HF.out q hq) (.int .i64 id)) (fun q hq => HF.out q hq) (.int .u64 lsn)) (fun q hq => HF.out q hq) (.slice A9 (ins cs a c).1.length c9)) (fun q hq => HO.out q hq)
    · have hA := Kd.R_reads' HR2.out
      have HSM := Aside0.mk HV.out.small.big
      go_wp2_with fail
      refine (rfind_calls A ca hA.2.2 hA.2.1 HSM.out id lsn a).mono ?_
      rintro e w3 ⟨rfl, hb3⟩
      have HS3 := Aside0.mk (below_then HS.out HS.out.size hb3)
      have HBW3 := Aside0.mk (below_then HBW.out HBW.out.size hb3)
      have HDX3 := Aside0.mk (blk_below HDX.out hb3)
      have HAX3 := Aside0.mk (blk_below HAX.out hb3)
      have HRX3 := Aside0.mk (blk_below HRX.out hb3)
      have HR3 := Aside0.mk (Kd.R_below HR2.out hb3)
      have HL33 := Aside0.mk (blk_lt HRX3.out)
      clear hA hb3 d0 d1 d2 x0 x1 x2 x3 r0 r1 r2 g0 g1 g2
      have d0 := blk_cell HDX3.out 0
      have d1 := blk_cell HDX3.out 1
      have d2 := blk_cell HDX3.out 2
      have x0 := blk_cell HAX3.out 0
      have x1 := blk_cell HAX3.out 1
      have x2 := blk_cell HAX3.out 2
      have x3 := blk_cell HAX3.out 3
      have r0 := blk_cell HRX3.out 0
      have r1 := blk_cell HRX3.out 1
      have r2 := blk_cell HRX3.out 2
      have g0 := blk_frozen HRX3.out 0
      have g1 := blk_frozen HRX3.out 1
      have g2 := blk_frozen HRX3.out 2
      by_cases hf : fnd cs a < 0
      · have HD := Aside0.mk (show actDo cs k a b c = (cs, 8) from by unfold actDo; rw [hm, if_pos rfl, if_neg k1, show wasN cs a b = 8 from by unfold wasN; rw [if_pos hf]]; rfl)
        have HF := Aside0.mk (show ∀ q, (P q ∧ q < w.heap.size) → q ≠ B2 from fun q hq => by have := HL2.out; omega)
        have HO := Aside0.mk (show ∀ q, (P q ∧ q < w.heap.size) → (P q ∨ w.heap.size ≤ q) from fun q hq => .inl hq.1)
        go_wp2_with fail
        refine bodyPost_ret (results_ct rfl _ _ B2 46 #[.int .i64 id, .int .u64 lsn, .slice A cs.length ca] (0, 0) _ rfl (blk_put (cs' := #[.int .i64 id, .int .u64 lsn, .slice A cs.length ca]) (blk_put (cs' := #[.int .i64 id, .int .u64 lsn, .slice none 0 0]) (blk_put (cs' := #[.int .i64 id, .int .u64 0, .slice none 0 0]) HRX3.out 0 (.int .i64 id) rfl) 1 (.int .u64 lsn) rfl) 2 (.slice A cs.length ca) rfl) Try.underlying46 rfl (by kernel_rfl)) rfl ?_
        refine ⟨.slice A cs.length ca, by rw [HD.out]; rfl, ?_, (below_set (g := B2) (j := 2) (below_set (g := B2) (j := 1) (below_set (g := B2) (j := 0) HBW3.out HL.out) HL.out) HL.out), (Kept.setCell (Kept.setCell (Kept.setCell (Kept.of_below HS3.out P) (p := ⟨B2, 0, none⟩) (.inr HL2.out) (.int .i64 id)) (p := ⟨B2, 1, none⟩) (.inr HL2.out) (.int .u64 lsn)) (p := ⟨B2, 2, none⟩) (.inr HL2.out) (.slice A cs.length ca)), fun _ => rfl⟩
        rw [HD.out]
        exact Kd.R_mono (Kd.R_far (p := ⟨B2, 2, none⟩) (Kd.R_far (p := ⟨B2, 1, none⟩) (Kd.R_far (p := ⟨B2, 0, none⟩) HR3.out (fun q hq => HF.out q hq) (.int .i64 id)) (fun q hq => HF.out q hq) (.int .u64 lsn)) (fun q hq => HF.out q hq) (.slice A cs.length ca)) (fun q hq => HO.out q hq)
      · have HFN := Aside0.mk hf
        obtain ⟨j, hj⟩ := Int.eq_ofNat_of_zero_le (show 0 ≤ fnd cs a by omega)
        have hjl : j < cs.length := by have := fnd_lt cs a; omega
        obtain ⟨ad, ea, hq0, hq1, hq2⟩ := cell_at (Kd.R_reads' HR3.out).2.2 j hjl
        subst ea
        rw [hj]
        cases he : (rd_TGCell cs j).f2.toList == b.toList with
        | false =>
          have HD := Aside0.mk (show actDo cs k a b c = (cs, 10) from by unfold actDo; rw [hm, if_pos rfl, if_neg k1, show wasN cs a b = 10 from by unfold wasN; rw [if_neg hf, hj, if_neg (by rw [he]; simp)]]; rfl)
          have HF := Aside0.mk (show ∀ q, (P q ∧ q < w.heap.size) → q ≠ B2 from fun q hq => by have := HL2.out; omega)
          have HO := Aside0.mk (show ∀ q, (P q ∧ q < w.heap.size) → (P q ∨ w.heap.size ≤ q) from fun q hq => .inl hq.1)
          clear hm hf hj
          go_wp2_with fail
          go_region_held3 (fun wx => wx.cell? ⟨w.heap.size, 2, none⟩ = some (.slice (some ad) cs.length ca) ∧ wx.cell? ⟨(ad.add (j * 3)).block, (ad.add (j * 3)).off + 2, none⟩ = some (.string (rd_TGCell cs j).f2) ∧ wx.cell? ⟨w.heap.size + 1, 2, none⟩ = some (.string b)) (go_keep) (fail)
          all_goals
            have d0 := blk_cell (blk_drew HDX3.out) 0
            have d1 := blk_cell (blk_drew HDX3.out) 1
            have d2 := blk_cell (blk_drew HDX3.out) 2
            have x0 := blk_cell (blk_drew HAX3.out) 0
            have x1 := blk_cell (blk_drew HAX3.out) 1
            have x2 := blk_cell (blk_drew HAX3.out) 2
            have x3 := blk_cell (blk_drew HAX3.out) 3
            have r0 := blk_cell (blk_drew HRX3.out) 0
            have r1 := blk_cell (blk_drew HRX3.out) 1
            have r2 := blk_cell (blk_drew HRX3.out) 2
            have g0 := blk_frozen (blk_drew HRX3.out) 0
            have g1 := blk_frozen (blk_drew HRX3.out) 1
            have g2 := blk_frozen (blk_drew HRX3.out) 2
            go_wp2_with fail
            refine bodyPost_ret (results_ct rfl _ _ B2 46 #[.int .i64 id, .int .u64 lsn, .slice (some ad) cs.length ca] (0, 0) _ rfl (blk_put (cs' := #[.int .i64 id, .int .u64 lsn, .slice (some ad) cs.length ca]) (blk_put (cs' := #[.int .i64 id, .int .u64 lsn, .slice none 0 0]) (blk_put (cs' := #[.int .i64 id, .int .u64 0, .slice none 0 0]) (blk_drew HRX3.out) 0 (.int .i64 id) rfl) 1 (.int .u64 lsn) rfl) 2 (.slice (some ad) cs.length ca) rfl) Try.underlying46 rfl (by kernel_rfl)) rfl ?_
            refine ⟨.slice (some ad) cs.length ca, by rw [HD.out]; rfl, ?_, (below_set (g := B2) (j := 2) (below_set (g := B2) (j := 1) (below_set (g := B2) (j := 0) (below_drew HBW3.out) HL.out) HL.out) HL.out), (Kept.setCell (Kept.setCell (Kept.setCell (Kept.of_below HS3.out P).drew (p := ⟨B2, 0, none⟩) (.inr HL2.out) (.int .i64 id)) (p := ⟨B2, 1, none⟩) (.inr HL2.out) (.int .u64 lsn)) (p := ⟨B2, 2, none⟩) (.inr HL2.out) (.slice (some ad) cs.length ca)), fun _ => rfl⟩
            rw [HD.out]
            exact Kd.R_mono (Kd.R_far (p := ⟨B2, 2, none⟩) (Kd.R_far (p := ⟨B2, 1, none⟩) (Kd.R_far (p := ⟨B2, 0, none⟩) (Kd.R_drew HR3.out) (fun q hq => HF.out q hq) (.int .i64 id)) (fun q hq => HF.out q hq) (.int .u64 lsn)) (fun q hq => HF.out q hq) (.slice (some ad) cs.length ca)) (fun q hq => HO.out q hq)
        | true =>
          have hW : wasN cs a b = 0 := by unfold wasN; rw [if_neg hf, hj, if_pos he]
          by_cases k2 : k = 2
          · subst k2
            have HD := Aside0.mk (show actDo cs 2 a b c = upd cs a c from by unfold actDo; rw [hm, if_pos rfl, if_neg k1, if_pos hW, if_pos rfl])
            clear hm hf hj hW
            go_wp2_with fail
            go_region_held3 (fun wx => wx.cell? ⟨w.heap.size, 2, none⟩ = some (.slice (some ad) cs.length ca) ∧ wx.cell? ⟨(ad.add (j * 3)).block, (ad.add (j * 3)).off + 2, none⟩ = some (.string (rd_TGCell cs j).f2) ∧ wx.cell? ⟨w.heap.size + 1, 2, none⟩ = some (.string b)) (go_keep) (fail)
            all_goals
              have d0 := blk_cell (blk_drew HDX3.out) 0
              have d1 := blk_cell (blk_drew HDX3.out) 1
              have d2 := blk_cell (blk_drew HDX3.out) 2
              have x0 := blk_cell (blk_drew HAX3.out) 0
              have x1 := blk_cell (blk_drew HAX3.out) 1
              have x2 := blk_cell (blk_drew HAX3.out) 2
              have x3 := blk_cell (blk_drew HAX3.out) 3
              have r0 := blk_cell (blk_drew HRX3.out) 0
              have r1 := blk_cell (blk_drew HRX3.out) 1
              have r2 := blk_cell (blk_drew HRX3.out) 2
              have g0 := blk_frozen (blk_drew HRX3.out) 0
              have g1 := blk_frozen (blk_drew HRX3.out) 1
              have g2 := blk_frozen (blk_drew HRX3.out) 2
              go_wp2_with fail
              refine (rupd2_calls (below_drew HBW3.out) (Kd.R_drew HR3.out) HV.out id lsn a c).mono ?_
              rintro e w9 ⟨v9, rfl, hR9, hb9, hk9, hv9⟩
              obtain ⟨A9, c9, rfl⟩ := Kd.R_slice hR9; have HV9 := Aside0.mk hv9; clear hv9
              have HRX9 := Aside0.mk (blk_kept (blk_drew HRX3.out) hk9 (fun h => by have := h.2; have := HL2.out; omega))
              have HR9 := Aside0.mk hR9
              have HB9 := Aside0.mk hb9
              have HK9 := Aside0.mk ((Kept.of_below HS3.out P).drew.then_ hk9 (fun q hq => .inl hq.1))
              have HF := Aside0.mk (show ∀ q, ((P q ∧ q < w.heap.size) ∨ w3.heap.size ≤ q) → q ≠ B2 from fun q hq => by have := HL2.out; have := HL33.out; rcases hq with h | h <;> omega)
              have HO := Aside0.mk (show ∀ q, ((P q ∧ q < w.heap.size) ∨ w3.heap.size ≤ q) → (P q ∨ w.heap.size ≤ q) from fun q hq => by have := HS3.out.size; exact hq.elim (fun h => .inl h.1) (fun h => .inr (by omega)))
              have r0 := blk_cell HRX9.out 0
              have r1 := blk_cell HRX9.out 1
              have r2 := blk_cell HRX9.out 2
              have g0 := blk_frozen HRX9.out 0
              have g1 := blk_frozen HRX9.out 1
              have g2 := blk_frozen HRX9.out 2
              clear hR9 hb9 hk9
              go_wp2_with fail
              refine bodyPost_ret (results_ct rfl _ _ B2 46 #[.int .i64 id, .int .u64 lsn, .slice A9 (upd cs a c).1.length c9] (0, 0) _ rfl (blk_put (cs' := #[.int .i64 id, .int .u64 lsn, .slice A9 (upd cs a c).1.length c9]) (blk_put (cs' := #[.int .i64 id, .int .u64 lsn, .slice none 0 0]) (blk_put (cs' := #[.int .i64 id, .int .u64 0, .slice none 0 0]) HRX9.out 0 (.int .i64 id) rfl) 1 (.int .u64 lsn) rfl) 2 (.slice A9 (upd cs a c).1.length c9) rfl) Try.underlying46 rfl (by kernel_rfl)) rfl ?_
              refine ⟨.slice A9 (upd cs a c).1.length c9, by rw [HD.out]; rfl, ?_, (below_set (g := B2) (j := 2) (below_set (g := B2) (j := 1) (below_set (g := B2) (j := 0) HB9.out HL.out) HL.out) HL.out), (Kept.setCell (Kept.setCell (Kept.setCell HK9.out (p := ⟨B2, 0, none⟩) (.inr HL2.out) (.int .i64 id)) (p := ⟨B2, 1, none⟩) (.inr HL2.out) (.int .u64 lsn)) (p := ⟨B2, 2, none⟩) (.inr HL2.out) (.slice A9 (upd cs a c).1.length c9)), by rw [HD.out]; exact HV9.out⟩
              rw [HD.out]
              exact Kd.R_mono (Kd.R_far (p := ⟨B2, 2, none⟩) (Kd.R_far (p := ⟨B2, 1, none⟩) (Kd.R_far (p := ⟨B2, 0, none⟩) HR9.out (fun q hq => HF.out q hq) (.int .i64 id)) (fun q hq => HF.out q hq) (.int .u64 lsn)) (fun q hq => HF.out q hq) (.slice A9 (upd cs a c).1.length c9)) (fun q hq => HO.out q hq)
          · have HD := Aside0.mk (show actDo cs k a b c = del cs a from by unfold actDo; rw [hm, if_pos rfl, if_neg k1, if_pos hW, if_neg k2])
            have HV100 := Aside0.mk (show cs.length ≤ 100 from by have := HV.out.len; omega)
            clear hm hf hj hW
            go_wp2_with fail
            go_region_held3 (fun wx => wx.cell? ⟨w.heap.size, 2, none⟩ = some (.slice (some ad) cs.length ca) ∧ wx.cell? ⟨(ad.add (j * 3)).block, (ad.add (j * 3)).off + 2, none⟩ = some (.string (rd_TGCell cs j).f2) ∧ wx.cell? ⟨w.heap.size + 1, 2, none⟩ = some (.string b)) (go_keep) (fail)
            all_goals
              have d0 := blk_cell (blk_drew HDX3.out) 0
              have d1 := blk_cell (blk_drew HDX3.out) 1
              have d2 := blk_cell (blk_drew HDX3.out) 2
              have x0 := blk_cell (blk_drew HAX3.out) 0
              have x1 := blk_cell (blk_drew HAX3.out) 1
              have x2 := blk_cell (blk_drew HAX3.out) 2
              have x3 := blk_cell (blk_drew HAX3.out) 3
              have r0 := blk_cell (blk_drew HRX3.out) 0
              have r1 := blk_cell (blk_drew HRX3.out) 1
              have r2 := blk_cell (blk_drew HRX3.out) 2
              have g0 := blk_frozen (blk_drew HRX3.out) 0
              have g1 := blk_frozen (blk_drew HRX3.out) 1
              have g2 := blk_frozen (blk_drew HRX3.out) 2
              go_wp2_with fail
              refine (rdel_calls (below_drew HBW3.out) (Kd.R_drew HR3.out) HV100.out id lsn a).mono ?_
              rintro e w9 ⟨v9, rfl, hR9, hb9, hk9⟩
              obtain ⟨A9, c9, rfl⟩ := Kd.R_slice hR9
              have HRX9 := Aside0.mk (blk_kept (blk_drew HRX3.out) hk9 (fun h => by have := h.2; have := HL2.out; omega))
              have HR9 := Aside0.mk hR9
              have HB9 := Aside0.mk hb9
              have HK9 := Aside0.mk ((Kept.of_below HS3.out P).drew.then_ hk9 (fun q hq => .inl hq.1))
              have HF := Aside0.mk (show ∀ q, ((P q ∧ q < w.heap.size) ∨ w3.heap.size ≤ q) → q ≠ B2 from fun q hq => by have := HL2.out; have := HL33.out; rcases hq with h | h <;> omega)
              have HO := Aside0.mk (show ∀ q, ((P q ∧ q < w.heap.size) ∨ w3.heap.size ≤ q) → (P q ∨ w.heap.size ≤ q) from fun q hq => by have := HS3.out.size; exact hq.elim (fun h => .inl h.1) (fun h => .inr (by omega)))
              have r0 := blk_cell HRX9.out 0
              have r1 := blk_cell HRX9.out 1
              have r2 := blk_cell HRX9.out 2
              have g0 := blk_frozen HRX9.out 0
              have g1 := blk_frozen HRX9.out 1
              have g2 := blk_frozen HRX9.out 2
              clear hR9 hb9 hk9
              go_wp2_with fail
              refine bodyPost_ret (results_ct rfl _ _ B2 46 #[.int .i64 id, .int .u64 lsn, .slice A9 (del cs a).1.length c9] (0, 0) _ rfl (blk_put (cs' := #[.int .i64 id, .int .u64 lsn, .slice A9 (del cs a).1.length c9]) (blk_put (cs' := #[.int .i64 id, .int .u64 lsn, .slice none 0 0]) (blk_put (cs' := #[.int .i64 id, .int .u64 0, .slice none 0 0]) HRX9.out 0 (.int .i64 id) rfl) 1 (.int .u64 lsn) rfl) 2 (.slice A9 (del cs a).1.length c9) rfl) Try.underlying46 rfl (by kernel_rfl)) rfl ?_
              refine ⟨.slice A9 (del cs a).1.length c9, by rw [HD.out]; rfl, ?_, (below_set (g := B2) (j := 2) (below_set (g := B2) (j := 1) (below_set (g := B2) (j := 0) HB9.out HL.out) HL.out) HL.out), (Kept.setCell (Kept.setCell (Kept.setCell HK9.out (p := ⟨B2, 0, none⟩) (.inr HL2.out) (.int .i64 id)) (p := ⟨B2, 1, none⟩) (.inr HL2.out) (.int .u64 lsn)) (p := ⟨B2, 2, none⟩) (.inr HL2.out) (.slice A9 (del cs a).1.length c9)), by rw [HD.out]; intro hne; exact absurd (del_ok cs a (by have := HFN.out; omega)) hne⟩
              rw [HD.out]
              exact Kd.R_mono (Kd.R_far (p := ⟨B2, 2, none⟩) (Kd.R_far (p := ⟨B2, 1, none⟩) (Kd.R_far (p := ⟨B2, 0, none⟩) HR9.out (fun q hq => HF.out q hq) (.int .i64 id)) (fun q hq => HF.out q hq) (.int .u64 lsn)) (fun q hq => HF.out q hq) (.slice A9 (del cs a).1.length c9)) (fun q hq => HO.out q hq)
theorem rdo_calls (hB : Below w0.heap.size w0 w) (hR : Kd.R kGCell 86 w w0.heap.size P v cs) (hv : Valid cs) (id lsn k : Int) (a b c : ByteArray) (ha : a.size ≤ 140737488351232) (hb : b.size ≤ 140737488351232) (hc : c.size ≤ 140737488351232) :
    Calls Try.prog 20 #[.agg #[.int .i64 id, .int .u64 lsn, v], .agg #[.int .i64 k, .string a, .string b, .string c]] w fun e w' => ∃ v', e = .returned (.tuple #[.agg #[.int .i64 id, .int .u64 lsn, v'], .int .i64 (actDo cs k a b c).2]) ∧
      Kd.R kGCell 86 w' w0.heap.size (fun k => P k ∨ w.heap.size ≤ k) v' (actDo cs k a b c).1 ∧ Below w0.heap.size w0 w' ∧ Kept w w' P := by
  refine (rdo2_calls hB hR hv id lsn k a b c ha hb hc).mono ?_
  rintro e w' ⟨v', rfl, r1, r2, r3, _⟩
  exact ⟨v', rfl, r1, r2, r3⟩
end
end Go.Proofs.Ytidgfigfebkieaa
end
section
namespace Go.Proofs.Ytidgfigfebkieaa.Rf
open Go.RowKit Go.Proofs.YtidgfigfebkieaaW.PrintWords Go.Proofs.YtidgfigfebkieaaW.PrintLast Go.Proofs.YtidgfigfebkieaaW.PrintMore
set_option linter.unusedVariables false
structure SGPair where
  f0 : ByteArray
  f1 : ByteArray
def zGPair : SGPair := ⟨(⟨#[]⟩ : ByteArray), (⟨#[]⟩ : ByteArray)⟩
def kGPair : Kd SGPair := Kd.iso (Kd.pair Kd.string Kd.string) (fun x : SGPair => (x.f0, x.f1))
theorem kGPair_open {w : World} {x : SGPair} {cs : List Value} (h : kGPair.K w x cs) : cs = [.string x.f0, .string x.f1] := by
  obtain ⟨_, _, rfl, rfl, rfl⟩ := h
  exact rfl
theorem kGPair_openM {w : World} {base : Nat} {ok : Nat → Prop} {x : SGPair} {cs : List Value} (h : kGPair.M w base ok x cs) : cs = [.string x.f0, .string x.f1] := by
  obtain ⟨_, _, rfl, rfl, rfl⟩ := h
  exact rfl
theorem kGPair_mk (w : World) (x : SGPair)  : kGPair.K w x [.string x.f0, .string x.f1] := ⟨[.string x.f0], [.string x.f1], rfl, rfl, rfl⟩
theorem kGPair_mkM (w : World) (base : Nat) (ok : Nat → Prop) (x : SGPair)  : kGPair.M w base ok x [.string x.f0, .string x.f1] := ⟨[.string x.f0], [.string x.f1], rfl, rfl, rfl⟩
def rd_TGPair (xs : List SGPair) (i : Int) : SGPair := xs.getD i.toNat zGPair
theorem at_TGPair {w : World} {A : Option Addr} {n : Nat} {xs : List SGPair} (h : Kd.C kGPair w A n xs) (i : Int) (h0 : 0 ≤ i) (h1 : i < n) : ∃ ad , A = some ad ∧ w.cell? (ad.add (i.toNat * 2)) = some (.string (rd_TGPair xs i).f0) ∧ w.cell? ⟨(ad.add (i.toNat * 2)).block, (ad.add (i.toNat * 2)).off + 1, none⟩ = some (.string (rd_TGPair xs i).f1) := by
  obtain ⟨ad, c, e, _, hK, hc0⟩ := Kd.C_get h zGPair i h0 h1
  have hc : ∀ j u, c[j]? = some u → w.cell? (ad.add (i.toNat * 2 + j)) = some u := hc0
  obtain rfl := kGPair_open hK
  exact ⟨ad, e, hc 0 _ rfl, by rw [← add_field _ _ 1 (by omega)]; exact hc 1 _ rfl⟩
structure SGAct where
  f0 : Int
  f1 : ByteArray
  f2 : ByteArray
  f3 : ByteArray
def zGAct : SGAct := ⟨0, (⟨#[]⟩ : ByteArray), (⟨#[]⟩ : ByteArray), (⟨#[]⟩ : ByteArray)⟩
def kGAct : Kd SGAct := Kd.iso (Kd.pair (Kd.int .i64) (Kd.pair Kd.string (Kd.pair Kd.string Kd.string))) (fun x : SGAct => (x.f0, x.f1, x.f2, x.f3))
theorem kGAct_open {w : World} {x : SGAct} {cs : List Value} (h : kGAct.K w x cs) : cs = [.int .i64 x.f0, .string x.f1, .string x.f2, .string x.f3] := by
  obtain ⟨_, _, rfl, rfl, ⟨_, _, rfl, rfl, ⟨_, _, rfl, rfl, rfl⟩⟩⟩ := h
  exact rfl
theorem kGAct_mk (w : World) (x : SGAct) : kGAct.K w x [.int .i64 x.f0, .string x.f1, .string x.f2, .string x.f3] := ⟨[.int .i64 x.f0], [.string x.f1, .string x.f2, .string x.f3], rfl, rfl, ⟨[.string x.f1], [.string x.f2, .string x.f3], rfl, rfl, ⟨[.string x.f2], [.string x.f3], rfl, rfl, rfl⟩⟩⟩
def rd_TGAct (xs : List SGAct) (i : Int) : SGAct := xs.getD i.toNat zGAct
theorem at_TGAct {w : World} {A : Option Addr} {n : Nat} {xs : List SGAct} (h : Kd.C kGAct w A n xs) (i : Int) (h0 : 0 ≤ i) (h1 : i < n) : ∃ ad , A = some ad ∧ w.cell? (ad.add (i.toNat * 4)) = some (.int .i64 (rd_TGAct xs i).f0) ∧ w.cell? ⟨(ad.add (i.toNat * 4)).block, (ad.add (i.toNat * 4)).off + 1, none⟩ = some (.string (rd_TGAct xs i).f1) ∧ w.cell? ⟨(ad.add (i.toNat * 4)).block, (ad.add (i.toNat * 4)).off + 2, none⟩ = some (.string (rd_TGAct xs i).f2) ∧ w.cell? ⟨(ad.add (i.toNat * 4)).block, (ad.add (i.toNat * 4)).off + 3, none⟩ = some (.string (rd_TGAct xs i).f3) := by
  obtain ⟨ad, c, e, _, hK, hc0⟩ := Kd.C_get h zGAct i h0 h1
  have hc : ∀ j u, c[j]? = some u → w.cell? (ad.add (i.toNat * 4 + j)) = some u := hc0
  obtain rfl := kGAct_open hK
  exact ⟨ad, e, hc 0 _ rfl, by rw [← add_field _ _ 1 (by omega)]; exact hc 1 _ rfl, by rw [← add_field _ _ 2 (by omega)]; exact hc 2 _ rfl, by rw [← add_field _ _ 3 (by omega)]; exact hc 3 _ rfl⟩
end Go.Proofs.Ytidgfigfebkieaa.Rf
end
section
namespace Go.Proofs.Ytidgfigfebkieaa
open Go.RowKit Go.Proofs.YtidgfigfebkieaaW.PrintWords Go.Proofs.YtidgfigfebkieaaW.PrintLast Go.Proofs.YtidgfigfebkieaaW.PrintMore
open Rf
set_option linter.unusedVariables false
set_option linter.unusedSimpArgs false
theorem pair_at {w : World} {A : Option Addr} {n : Nat} {xs : List SGPair} (h : Kd.C kGPair w A n xs) (k : Nat) (h1 : k < n) : ∃ ad, A = some ad ∧ w.cell? (ad.add (k * 2)) = some (.string (rd_TGPair xs k).f0) ∧ w.cell? ⟨(ad.add (k * 2)).block, (ad.add (k * 2)).off + 1, none⟩ = some (.string (rd_TGPair xs k).f1) := by
  have := at_TGPair h (k : Int) (by omega) (by omega)
  rwa [Int.toNat_natCast] at this
/-- The page has cs, the document cs'. -/
structure Twin (w0 w : World) (B : Nat → Prop) (g id lsn : Nat) (cs cs' : List SGCell) (v : Value) : Prop where
  both : ∃ ok, Here w0 w ok g id lsn cs ∧ (∀ k, ok k → k < w.heap.size ∧ ¬ B k) ∧ Kd.R kGCell 86 w w0.heap.size (fun k => ¬ ok k ∧ k < w.heap.size ∧ ¬ B k) v cs'
  fix : ∀ k, B k → k < w.heap.size
section
variable {w0 w : World} {B : Nat → Prop} {g id lsn : Nat} {cs cs' : List SGCell} {v : Value}
theorem Twin.next {w' : World} (h : Twin w0 w B g id lsn cs cs' v) (hb : Below w.heap.size w w') : Twin w0 w' B g id lsn cs cs' v := by
  obtain ⟨⟨ok, h1, h2, h3⟩, h4⟩ := h
  have hs := hb.size
  exact ⟨⟨ok, h1.next hb, fun k hk => ⟨by have := (h2 k hk).1; omega, (h2 k hk).2⟩, Kd.R_mono (Kd.R_below h3 hb) (fun k hk => ⟨hk.1, by have := hk.2.1; omega, hk.2.2⟩)⟩, fun k hk => by have := h4 k hk; omega⟩
/-- New blocks are set apart. -/
theorem Twin.apart {w' : World} {B' : Nat → Prop} (h : Twin w0 w B g id lsn cs cs' v) (hb : Below w.heap.size w w') (hB : ∀ k, B' k → B k ∨ (w.heap.size ≤ k ∧ k < w'.heap.size)) : Twin w0 w' B' g id lsn cs cs' v := by
  obtain ⟨⟨ok, h1, h2, h3⟩, h4⟩ := h
  have hs := hb.size
  refine ⟨⟨ok, h1.next hb, fun k hk => ⟨by have := (h2 k hk).1; omega, fun h => ?_⟩, Kd.R_mono (Kd.R_below h3 hb) (fun k hk => ⟨hk.1, by have := hk.2.1; omega, fun h => ?_⟩)⟩, fun k hk => ?_⟩
  · rcases hB k h with h | h
    · exact (h2 k hk).2 h
    · have := (h2 k hk).1; omega
  · rcases hB k h with h | h
    · exact hk.2.2 h
    · have := hk.2.1; omega
  · rcases hB k hk with h | h
    · have := h4 k h; omega
    · exact h.2
theorem Twin.bel (h : Twin w0 w B g id lsn cs cs' v) : Below w0.heap.size w0 w := by
  obtain ⟨⟨ok, h1, _⟩, _⟩ := h
  exact h1.bel
theorem Twin.val (h : Twin w0 w B g id lsn cs cs' v) : Valid cs := by
  obtain ⟨⟨ok, h1, _⟩, _⟩ := h
  exact h1.val
theorem Twin.row (h : Twin w0 w B g id lsn cs cs' v) : ∃ A c, v = .slice A cs'.length c ∧ cs'.length ≤ c ∧ Kd.C kGCell w A cs'.length cs' := by
  obtain ⟨⟨ok, h1, h2, h3⟩, _⟩ := h
  exact Kd.R_reads h3
/-- The page has changed. -/
theorem twin_page {ok : Nat → Prop} {w' : World} {lsn' : Nat} {cs2 : List SGCell} (h2 : ∀ k, ok k → k < w.heap.size ∧ ¬ B k) (h3 : Kd.R kGCell 86 w w0.heap.size (fun k => ¬ ok k ∧ k < w.heap.size ∧ ¬ B k) v cs') (h4 : ∀ k, B k → k < w.heap.size)
    (hh : Here w0 w' (fun k => ok k ∨ w.heap.size ≤ k) g id lsn' cs2) (hk : Kept w w' ok) : Twin w0 w' B g id lsn' cs2 cs' v ∧ ∀ k, B k → w'.heap[k]? = w.heap[k]? := by
  have hs := hk.1
  refine ⟨⟨⟨_, hh.bound, fun k hk => ⟨hk.2, fun h => ?_⟩, Kd.R_mono (Kd.R_kept h3 hk (fun k h => h.1)) (fun k h => ⟨fun h' => ?_, by omega, h.2.2⟩)⟩, fun k hk => by have := h4 k hk; omega⟩, fun k h => hk.2 k (h4 k h) (fun ho => (h2 k ho).2 h)⟩
  · rcases hk.1 with ho | ho
    · exact (h2 k ho).2 h
    · have := h4 k h; omega
  · rcases h'.1 with h' | h'
    · exact h.1 h'
    · omega
/-- The document has changed. -/
theorem twin_doc {ok : Nat → Prop} {w' : World} {v' : Value} {ds : List SGCell} (h1 : Here w0 w ok g id lsn cs) (h2 : ∀ k, ok k → k < w.heap.size ∧ ¬ B k) (h4 : ∀ k, B k → k < w.heap.size)
    (r1 : Kd.R kGCell 86 w' w0.heap.size (fun k => (¬ ok k ∧ k < w.heap.size ∧ ¬ B k) ∨ w.heap.size ≤ k) v' ds) (r2 : Below w0.heap.size w0 w') (r3 : Kept w w' (fun k => ¬ ok k ∧ k < w.heap.size ∧ ¬ B k)) : Twin w0 w' B g id lsn cs ds v' ∧ ∀ k, B k → w'.heap[k]? = w.heap[k]? := by
  have hs := r3.1
  refine ⟨⟨⟨ok, h1.kept r3 (fun k hk h => h.1 hk) r2, fun k hk => ⟨by have := (h2 k hk).1; omega, (h2 k hk).2⟩, Kd.R_mono (Kd.R_bound r1) (fun k hk => ⟨fun ho => ?_, hk.2.2.1, fun hb => ?_⟩)⟩, fun k hk => by have := h4 k hk; omega⟩, fun k h => r3.2 k (h4 k h) (fun hn => hn.2.2 h)⟩
  · rcases hk.1 with h | h
    · exact h.1 ho
    · have := (h2 k ho).1; omega
  · rcases hk.1 with h | h
    · exact h.2.2 hb
    · have := h4 k hb; omega
theorem Twin.insert (h : Twin w0 w B g id lsn cs cs' v) (key value : ByteArray) : Calls Try.prog 30 #[.pointer (some ⟨g, 0, none⟩), .string key, .string value] w fun e w' => e = .returned (.int .i64 (ins cs key value).2) ∧ Twin w0 w' B g id lsn (ins cs key value).1 cs' v ∧ ∀ k, B k → w'.heap[k]? = w.heap[k]? := by
  obtain ⟨⟨ok, h1, h2, h3⟩, h4⟩ := h
  refine (h1.insert key value).mono ?_
  rintro e w' ⟨rfl, hh, hk⟩
  exact ⟨rfl, twin_page h2 h3 h4 hh hk⟩
theorem Twin.rins (h : Twin w0 w B g id lsn cs cs' v) (hv : Valid cs') (key value : ByteArray) : Calls Try.prog 31 #[.agg #[.int .i64 id, .int .u64 lsn, v], .string key, .string value] w fun e w' => ∃ v', e = .returned (.tuple #[.agg #[.int .i64 id, .int .u64 lsn, v'], .int .i64 (ins cs' key value).2]) ∧ Twin w0 w' B g id lsn cs (ins cs' key value).1 v' ∧ ∀ k, B k → w'.heap[k]? = w.heap[k]? := by
  obtain ⟨⟨ok, h1, h2, h3⟩, h4⟩ := h
  refine (rins_calls h1.bel h3 hv id lsn key value).mono ?_
  rintro e w' ⟨v', rfl, r1, r2, r3⟩
  exact ⟨v', rfl, twin_doc h1 h2 h4 r1 r2 r3⟩
end
end Go.Proofs.Ytidgfigfebkieaa
end
section
namespace Go.Proofs.Ytidgfigfebkieaa
open Go.RowKit Go.Proofs.YtidgfigfebkieaaW.PrintWords Go.Proofs.YtidgfigfebkieaaW.PrintLast Go.Proofs.YtidgfigfebkieaaW.PrintMore
open Rf
set_option linter.unusedVariables false
set_option linter.unusedSimpArgs false
theorem Twin.set {w0 w : World} {B : Nat → Prop} {g id lsn : Nat} {cs cs' : List SGCell} {v : Value} (h : Twin w0 w B g id lsn cs cs' v) {q : Addr} (hq : B q.block) (hl : w0.heap.size ≤ q.block) (u : Value) : Twin w0 (w.setCell q u) B g id lsn cs cs' v := by
  obtain ⟨⟨ok, h1, h2, h3⟩, h4⟩ := h
  have hs : (w.setCell q u).heap.size = w.heap.size := by simp [World.setCell]
  refine ⟨⟨ok, h1.kept (Kept.setCell (Kept.refl w (fun k => k = q.block)) (.inl rfl) u) (fun k hk e => (h2 k hk).2 (by rw [e]; exact hq)) (h1.bel.setCell hl u), fun k hk => by rw [hs]; exact h2 k hk, ?_⟩, fun k hk => by rw [hs]; exact h4 k hk⟩
  rw [hs]
  exact Kd.R_far h3 (fun k hk e => hk.2.2 (by rw [e]; exact hq)) u
theorem pair_mem (xs : List SGPair) (k : Nat) (h : k < xs.length) : rd_TGPair xs k ∈ xs := by
  simp [rd_TGPair, List.getD_eq_getElem?_getD, List.getElem?_eq_getElem h]
set_option maxRecDepth 100000 in
set_option maxHeartbeats 4000000 in
theorem pair_calls (w : World) (id : Nat) (hid : id < 16) (l : List SGPair) (A : Option Addr) (c : Nat) (hC : Kd.C kGPair w A l.length l) (hl : l.length ≤ 9223372036854775807) (hsz : ∀ x ∈ l, x.f0.size ≤ 140737488351232 ∧ x.f1.size ≤ 140737488351232) :
    Calls Try.prog 17 #[.int .i64 id, .slice A l.length c] w fun e w' => ∃ g cs v, e = .returned (.tuple #[.pointer (some ⟨g, 0, none⟩), .agg #[.int .i64 id, .int .u64 0, v]]) ∧ Twin w w' (fun _ => False) g id 0 cs cs v := by
  have HC := Aside0.mk hC
  have HZ := Aside0.mk hsz
  clear hC hsz
  go_enter Try.func17, Try.ntmps17
  go_wp2_with fail
  have hb0 : Below w.heap.size w (w.alloc (.cells #[.int .i64 0, .int .u64 0, .slice none 0 0] 46)) := below_alloc (Below.refl _ _) _
  have hrx := heap_alloc_new w (.cells #[.int .i64 0, .int .u64 0, .slice none 0 0] 46)
  generalize w.alloc (.cells #[.int .i64 0, .int .u64 0, .slice none 0 0] 46) = wb at hb0 hrx ⊢
  refine (new_ok id wb (by omega) (by omega)).mono ?_
  rintro e w1 ⟨rfl, hp, hb⟩
  have hh1 : Here w w1 _ wb.heap.size id 0 [] := ⟨hp _ hb0.size, below_then hb0 hb0.size hb, Valid.nil, hid, by decide⟩
  have hrx1 := blk_below hrx hb
  have hsz1 := hb.size
  have hlt0 := blk_lt hrx
  clear hp hb hb0 hrx
  go_wp2_with fail
  have hb2 : Below w1.heap.size w1 (w1.alloc (.cells #[.int .i64 id, .int .u64 0, .slice none 0 0] 46)) := below_alloc (Below.refl _ _) _
  have hdx := heap_alloc_new w1 (.cells #[.int .i64 id, .int .u64 0, .slice none 0 0] 46)
  have hrx2 := blk_below hrx1 hb2
  generalize w1.alloc (.cells #[.int .i64 id, .int .u64 0, .slice none 0 0] 46) = w2 at hb2 hdx hrx2 ⊢
  obtain ⟨RB, hRB⟩ : ∃ x, x = w.heap.size := ⟨_, rfl⟩
  obtain ⟨DB, hDB⟩ : ∃ x, x = w1.heap.size := ⟨_, rfl⟩
  have HT := Aside0.mk (show Twin w w2 (fun k => k = RB ∨ k = DB) wb.heap.size id 0 [] [] (.slice none 0 0) from by
    have hbd := (hh1.mono (ok' := fun k => wb.heap.size ≤ k) (fun k hk => hk)).bound
    refine Twin.apart (B := fun k => k = RB) (w := w1) ⟨⟨_, hbd, fun k hk => ⟨hk.2, fun e => by have := hk.1; omega⟩, Kd.R_nil _ _ _ _ _⟩, fun k hk => by omega⟩ hb2 (fun k hk => ?_)
    rcases hk with hk | hk
    · exact .inl hk
    · exact .inr ⟨by omega, by have := blk_lt hdx; omega⟩)
  rw [← hRB] at hrx2 ⊢
  rw [← hDB] at hdx ⊢
  have HRX := Aside0.mk hrx2
  have HDX := Aside0.mk hdx
  have HL := Aside0.mk (show w.heap.size ≤ RB ∧ w.heap.size ≤ DB ∧ RB ≠ DB from by omega)
  clear hh1 hrx1 hsz1 hlt0 hb2 hdx hrx2 hRB hDB
  go_wp2_with fail
  go_loopg [9] l.length (fun gk v9 wr => ∃ (k : Nat) (cs : List SGCell) (v : Value), Aside0 (k + gk = l.length) ∧ v9 = .int .i64 k ∧ k ≤ l.length ∧ Aside0 (Twin w wr (fun k => k = RB ∨ k = DB) wb.heap.size id 0 cs cs v) ∧ Aside0 (wr.heap[RB]? = some (.cells #[.int .i64 0, .int .u64 0, .slice none 0 0] 46)) ∧ Aside0 (wr.heap[DB]? = some (.cells #[.int .i64 id, .int .u64 0, v] 46)))
  case atStart => exact ⟨0, [], _, ⟨by omega⟩, rfl, by omega, HT, HRX, HDX⟩
  case round =>
    obtain ⟨k, cs, v, Hk, rfl, hkl, HT, HRX, HDX⟩ := hrel
    obtain ⟨Av, cv, rfl, _, _⟩ := HT.out.row
    have d0 := blk_cell HDX.out 0
    have d1 := blk_cell HDX.out 1
    have d2 := blk_cell HDX.out 2
    by_cases hend : k < l.length ∧ k < 70
    · obtain ⟨hlt, h70⟩ := hend
      have hd70 : decide ((k : Int) < 70) = true := by simp; omega
      obtain ⟨ad, rfl, hx0, hx1⟩ := pair_at (Kd.C_below HC.out HT.out.bel) k hlt
      have hz := HZ.out _ (pair_mem l k hlt)
      have hw : IntKind.i64.wrap (((rd_TGPair l k).f0.size : Int) + ((rd_TGPair l k).f1.size : Int)) = ((rd_TGPair l k).f0.size : Int) + ((rd_TGPair l k).f1.size : Int) := i64w (by omega) (by omega)
      have HTd := Aside0.mk (HT.out.next (below_drew (Below.refl _ _)))
      have HRXd := Aside0.mk (blk_drew HRX.out)
      have HDXd := Aside0.mk (blk_drew HDX.out)
      by_cases hs : (rd_TGPair l k).f0.size + (rd_TGPair l k).f1.size ≤ 1000
      · go_wp2_with fail
        go_region_held3 (fun wx => wx.cell? (ad.add (k * 2)) = some (.string (rd_TGPair l k).f0) ∧ wx.cell? ⟨(ad.add (k * 2)).block, (ad.add (k * 2)).off + 1, none⟩ = some (.string (rd_TGPair l k).f1)) (go_keep) (fail)
        all_goals
          go_wp2_with fail
          go_region_held3 (fun wx => wx.cell? (ad.add (k * 2)) = some (.string (rd_TGPair l k).f0) ∧ wx.cell? ⟨(ad.add (k * 2)).block, (ad.add (k * 2)).off + 1, none⟩ = some (.string (rd_TGPair l k).f1)) (go_keep) ((go_at_call 30; refine ((HTd.out.next (below_drew (Below.refl _ _))).insert _ _).mono ?_; rintro e w3 ⟨rfl, hT, hB⟩; have HT2 := Aside0.mk hT; have HRX2 := Aside0.mk ((hB RB (.inl rfl)).trans (blk_drew HRXd.out)); have HDX2 := Aside0.mk ((hB DB (.inr rfl)).trans (blk_drew HDXd.out)); clear hT hB; have q := pair_at (Kd.C_below HC.out HT2.out.bel) k hlt; obtain ⟨ad2, ea2, y0, y1⟩ := q; cases ea2))
          all_goals
            have e0 := blk_cell HDX2.out 0
            have e1 := blk_cell HDX2.out 1
            have e2 := blk_cell HDX2.out 2
            go_wp2_with fail
            have HV := Aside0.mk HT.out.val
            clear e0 e1 e2 d0 d1 d2
            have e0 := blk_cell (blk_drew HDX2.out) 0
            have e1 := blk_cell (blk_drew HDX2.out) 1
            have e2 := blk_cell (blk_drew HDX2.out) 2
            have y0d : w3.drew.cell? (ad.add (k * 2)) = some (.string (rd_TGPair l k).f0) := y0
            have y1d : w3.drew.cell? ⟨(ad.add (k * 2)).block, (ad.add (k * 2)).off + 1, none⟩ = some (.string (rd_TGPair l k).f1) := y1
            go_region_with ((go_at_call 31; refine ((HT2.out.next (below_drew (Below.refl _ _))).rins HV.out _ _).mono ?_; rintro e w5 ⟨v5, rfl, hT, hB⟩; have q := hT.row; obtain ⟨A5, c5, rfl, _, _⟩ := q; have HT5 := Aside0.mk hT; have HRX5 := Aside0.mk ((hB RB (.inl rfl)).trans (blk_drew HRX2.out)); have HDX5 := Aside0.mk ((hB DB (.inr rfl)).trans (blk_drew HDX2.out)); have u0 := blk_cell HDX5.out 0; have u1 := blk_cell HDX5.out 1; have u2 := blk_cell HDX5.out 2; have s0 := blk_frozen HDX5.out 0; have s1 := blk_frozen HDX5.out 1; have s2 := blk_frozen HDX5.out 2; clear hT hB))
            all_goals
              go_wp2_with fail
              go_roundg (gk - 1)
              case measure => have := Hk.out; omega
              case rel => exact ⟨k + 1, _, _, ⟨by have := Hk.out; omega⟩, by simp, by omega, ⟨(Twin.set (Twin.set (Twin.set HT5.out (q := ⟨DB, 0, none⟩) (.inr rfl) HL.out.2.1 (.int .i64 id)) (q := ⟨DB, 1, none⟩) (.inr rfl) HL.out.2.1 (.int .u64 0)) (q := ⟨DB, 2, none⟩) (.inr rfl) HL.out.2.1 (.slice A5 (ins cs (rd_TGPair l k).f0 (rd_TGPair l k).f1).1.length c5))⟩, ⟨(blk_far (blk_far (blk_far HRX5.out (p := ⟨DB, 0, none⟩) HL.out.2.2 (.int .i64 id)) (p := ⟨DB, 1, none⟩) HL.out.2.2 (.int .u64 0)) (p := ⟨DB, 2, none⟩) HL.out.2.2 (.slice A5 (ins cs (rd_TGPair l k).f0 (rd_TGPair l k).f1).1.length c5))⟩, ⟨(blk_put (cs' := #[.int .i64 id, .int .u64 0, .slice A5 (ins cs (rd_TGPair l k).f0 (rd_TGPair l k).f1).1.length c5]) (blk_put (cs' := #[.int .i64 id, .int .u64 0, .slice Av cs.length cv]) (blk_put (cs' := #[.int .i64 id, .int .u64 0, .slice Av cs.length cv]) HDX5.out 0 (.int .i64 id) rfl) 1 (.int .u64 0) rfl) 2 (.slice A5 (ins cs (rd_TGPair l k).f0 (rd_TGPair l k).f1).1.length c5) rfl)⟩⟩
      · go_wp2_with fail
        go_region_held3 (fun wx => wx.cell? (ad.add (k * 2)) = some (.string (rd_TGPair l k).f0) ∧ wx.cell? ⟨(ad.add (k * 2)).block, (ad.add (k * 2)).off + 1, none⟩ = some (.string (rd_TGPair l k).f1)) (go_keep) (fail)
        all_goals
          go_wp2_with fail
          go_roundg (gk - 1)
          case measure => have := Hk.out; omega
          case rel => exact ⟨k + 1, cs, _, ⟨by have := Hk.out; omega⟩, by simp, by omega, HTd, HRXd, HDXd⟩
    · have hend2 : ¬ k < l.length ∨ ¬ k < 70 := by omega
      have r0 := blk_cell HRX.out 0
      have r1 := blk_cell HRX.out 1
      have r2 := blk_cell HRX.out 2
      have g0 := blk_frozen HRX.out 0
      have g1 := blk_frozen HRX.out 1
      have g2 := blk_frozen HRX.out 2
      go_wp2_with fail
      all_goals
        go_region_with (fail)
        all_goals
          go_wp2_with fail
          refine bodyPost_ret (results_tc rfl _ _ RB 46 #[.int .i64 id, .int .u64 0, .slice Av cs.length cv] (0, 0) _ rfl (by first | exact (blk_put (cs' := #[.int .i64 id, .int .u64 0, .slice Av cs.length cv]) (blk_put (cs' := #[.int .i64 id, .int .u64 0, .slice none 0 0]) (blk_put (cs' := #[.int .i64 id, .int .u64 0, .slice none 0 0]) (blk_drew HRX.out) 0 (.int .i64 id) rfl) 1 (.int .u64 0) rfl) 2 (.slice Av cs.length cv) rfl) | exact blk_drew (blk_put (cs' := #[.int .i64 id, .int .u64 0, .slice Av cs.length cv]) (blk_put (cs' := #[.int .i64 id, .int .u64 0, .slice none 0 0]) (blk_put (cs' := #[.int .i64 id, .int .u64 0, .slice none 0 0]) HRX.out 0 (.int .i64 id) rfl) 1 (.int .u64 0) rfl) 2 (.slice Av cs.length cv) rfl)) Try.underlying46 rfl (by kernel_rfl)) rfl ?_
          refine ⟨wb.heap.size, cs, .slice Av cs.length cv, rfl, ?_⟩
          have HTE := (Twin.set (Twin.set (Twin.set HT.out (q := ⟨RB, 0, none⟩) (.inl rfl) HL.out.1 (.int .i64 id)) (q := ⟨RB, 1, none⟩) (.inl rfl) HL.out.1 (.int .u64 0)) (q := ⟨RB, 2, none⟩) (.inl rfl) HL.out.1 (.slice Av cs.length cv))
          exact HTE.apart (below_drew (Below.refl _ _)) (fun k h => h.elim)
end Go.Proofs.Ytidgfigfebkieaa
end
section
namespace Go.Proofs.Ytidgfigfebkieaa
open Go.RowKit Go.Proofs.YtidgfigfebkieaaW.PrintWords Go.Proofs.YtidgfigfebkieaaW.PrintLast Go.Proofs.YtidgfigfebkieaaW.PrintMore
open Rf
set_option linter.unusedVariables false
set_option linter.unusedSimpArgs false
section
variable {w0 w : World} {P : Nat → Prop} {v : Value} {cs : List SGCell}
theorem box_end {w' : World} {Q : Nat → Prop} {B2 : Nat} {A : Option Addr} {n c : Nat} {xs : List SGCell} (hR : Kd.R kGCell 86 w' w0.heap.size Q (.slice A n c) xs) (hQ : ∀ q, Q q → q ≠ B2) (hO : ∀ q, Q q → P q ∨ w.heap.size ≤ q)
    (hl : w0.heap.size ≤ B2) (hl2 : w.heap.size ≤ B2) (hb : Below w0.heap.size w0 w') (hk : Kept w w' P) (x y z : Value) :
    Kd.R kGCell 86 (((w'.setCell ⟨B2, 0, none⟩ x).setCell ⟨B2, 1, none⟩ y).setCell ⟨B2, 2, none⟩ z) w0.heap.size (fun k => P k ∨ w.heap.size ≤ k) (.slice A n c) xs ∧ Below w0.heap.size w0 (((w'.setCell ⟨B2, 0, none⟩ x).setCell ⟨B2, 1, none⟩ y).setCell ⟨B2, 2, none⟩ z) ∧
      Kept w (((w'.setCell ⟨B2, 0, none⟩ x).setCell ⟨B2, 1, none⟩ y).setCell ⟨B2, 2, none⟩ z) P :=
  ⟨Kd.R_mono (Kd.R_far (p := ⟨B2, 2, none⟩) (Kd.R_far (p := ⟨B2, 1, none⟩) (Kd.R_far (p := ⟨B2, 0, none⟩) hR (fun q hq => hQ q hq) x) (fun q hq => hQ q hq) y) (fun q hq => hQ q hq) z) (fun q hq => hO q hq),
    below_set (g := B2) (j := 2) (below_set (g := B2) (j := 1) (below_set (g := B2) (j := 0) hb hl) hl) hl,
    Kept.setCell (Kept.setCell (Kept.setCell hk (p := ⟨B2, 0, none⟩) (.inr hl2) x) (p := ⟨B2, 1, none⟩) (.inr hl2) y) (p := ⟨B2, 2, none⟩) (.inr hl2) z⟩
set_option maxRecDepth 100000 in
set_option maxHeartbeats 4000000 in
theorem rredo_calls (hB : Below w0.heap.size w0 w) (hR : Kd.R kGCell 86 w w0.heap.size P v cs) (hv : Valid cs) (id lsn : Nat) (r : SGRec) (h0 : 0 ≤ r.f1) (hl : r.f1 < 18446744073709551616) (ha : r.f7.size ≤ 140737488351232) (hb : r.f8.size ≤ 140737488351232) (hc : r.f9.size ≤ 140737488351232) :
    Calls Try.prog 24 #[.agg #[.int .i64 id, .int .u64 lsn, v], .agg r.out.toArray] w fun e w' => ∃ v', e = .returned (.tuple #[.agg #[.int .i64 id, .int .u64 (redoP id lsn cs r).2.1, v'], .bool (redoP id lsn cs r).2.2.1, .int .i64 (redoP id lsn cs r).2.2.2]) ∧
      Kd.R kGCell 86 w' w0.heap.size (fun k => P k ∨ w.heap.size ≤ k) v' (redoP id lsn cs r).1 ∧ Below w0.heap.size w0 w' ∧ Kept w w' P := by
  have HB := Aside0.mk hB
  have HR := Aside0.mk (show Kd.R kGCell 86 w w0.heap.size (fun k => P k ∧ k < w.heap.size) v cs from Kd.R_mono (Kd.R_bound hR) (fun k hk => ⟨hk.1, hk.2.2.1⟩))
  have HV := Aside0.mk hv
  obtain ⟨A, ca, rfl⟩ := Kd.R_slice hR
  clear hB hR hv
  obtain ⟨k, ls, tx, pv, un, pg, ak, a, b, c, ⟨At, lt, ct⟩, ⟨Ad, ld, cd⟩⟩ := r
  dsimp only [SGRec.out] at *
  go_enter Try.func24, Try.ntmps24
  go_wp2_with fail
  have hb0 : Below w.heap.size w (((w.alloc (.cells #[.int .i64 id, .int .u64 lsn, .slice A cs.length ca] 46)).alloc (.cells #[.int .i64 k, .int .u64 ls, .int .i64 tx, .int .u64 pv, .int .u64 un, .int .i64 pg, .int .i64 ak, .string a, .string b, .string c, .slice At lt ct, .slice Ad ld cd] 34)).alloc (.cells #[.int .i64 0, .int .u64 0, .slice none 0 0] 46)) := below_alloc (below_alloc (below_alloc (Below.refl _ _) _) _) _
  have hdx : (((w.alloc (.cells #[.int .i64 id, .int .u64 lsn, .slice A cs.length ca] 46)).alloc (.cells #[.int .i64 k, .int .u64 ls, .int .i64 tx, .int .u64 pv, .int .u64 un, .int .i64 pg, .int .i64 ak, .string a, .string b, .string c, .slice At lt ct, .slice Ad ld cd] 34)).alloc (.cells #[.int .i64 0, .int .u64 0, .slice none 0 0] 46)).heap[w.heap.size]? = some (.cells #[.int .i64 id, .int .u64 lsn, .slice A cs.length ca] 46) := blk_alloc (blk_alloc (heap_alloc_new w _) _) _
  have hax : (((w.alloc (.cells #[.int .i64 id, .int .u64 lsn, .slice A cs.length ca] 46)).alloc (.cells #[.int .i64 k, .int .u64 ls, .int .i64 tx, .int .u64 pv, .int .u64 un, .int .i64 pg, .int .i64 ak, .string a, .string b, .string c, .slice At lt ct, .slice Ad ld cd] 34)).alloc (.cells #[.int .i64 0, .int .u64 0, .slice none 0 0] 46)).heap[w.heap.size + 1]? = some (.cells #[.int .i64 k, .int .u64 ls, .int .i64 tx, .int .u64 pv, .int .u64 un, .int .i64 pg, .int .i64 ak, .string a, .string b, .string c, .slice At lt ct, .slice Ad ld cd] 34) := by
    have := blk_alloc (heap_alloc_new (w.alloc (.cells #[.int .i64 id, .int .u64 lsn, .slice A cs.length ca] 46)) (.cells #[.int .i64 k, .int .u64 ls, .int .i64 tx, .int .u64 pv, .int .u64 un, .int .i64 pg, .int .i64 ak, .string a, .string b, .string c, .slice At lt ct, .slice Ad ld cd] 34)) (.cells #[.int .i64 0, .int .u64 0, .slice none 0 0] 46)
    simpa using this
  have hrx : (((w.alloc (.cells #[.int .i64 id, .int .u64 lsn, .slice A cs.length ca] 46)).alloc (.cells #[.int .i64 k, .int .u64 ls, .int .i64 tx, .int .u64 pv, .int .u64 un, .int .i64 pg, .int .i64 ak, .string a, .string b, .string c, .slice At lt ct, .slice Ad ld cd] 34)).alloc (.cells #[.int .i64 0, .int .u64 0, .slice none 0 0] 46)).heap[w.heap.size + 1 + 1]? = some (.cells #[.int .i64 0, .int .u64 0, .slice none 0 0] 46) := by
    have := heap_alloc_new ((w.alloc (.cells #[.int .i64 id, .int .u64 lsn, .slice A cs.length ca] 46)).alloc (.cells #[.int .i64 k, .int .u64 ls, .int .i64 tx, .int .u64 pv, .int .u64 un, .int .i64 pg, .int .i64 ak, .string a, .string b, .string c, .slice At lt ct, .slice Ad ld cd] 34)) (.cells #[.int .i64 0, .int .u64 0, .slice none 0 0] 46)
    simpa using this
  generalize ((w.alloc (.cells #[.int .i64 id, .int .u64 lsn, .slice A cs.length ca] 46)).alloc (.cells #[.int .i64 k, .int .u64 ls, .int .i64 tx, .int .u64 pv, .int .u64 un, .int .i64 pg, .int .i64 ak, .string a, .string b, .string c, .slice At lt ct, .slice Ad ld cd] 34)).alloc (.cells #[.int .i64 0, .int .u64 0, .slice none 0 0] 46) = w1 at hb0 hdx hax hrx ⊢
  obtain ⟨B2, hB2⟩ : ∃ x, x = w.heap.size + 1 + 1 := ⟨_, rfl⟩
  rw [← hB2] at hrx ⊢
  have HB2 := Aside0.mk hB2
  clear hB2
  refine (flotillaref05_Changes.calls k (decide (k = 1 ∨ k = 2)) w1 (by unfold flotillaref05_Changes.f; by_cases k1 : k = 1 <;> simp [k1] <;> rw [Bool.eq_iff_iff]; simp)).mono ?_
  rintro e w2 ⟨rfl, hd2⟩
  have hb2 := hd2.below
  have HS := Aside0.mk (below_then hb0 hb0.size hb2)
  have HBW := Aside0.mk (below_then HB.out HB.out.size HS.out)
  have HDX := Aside0.mk (blk_below hdx hb2)
  have HAX := Aside0.mk (blk_below hax hb2)
  have HRX := Aside0.mk (blk_below hrx hb2)
  have HR2 := Aside0.mk (Kd.R_below HR.out HS.out)
  have HL := Aside0.mk (show w0.heap.size ≤ B2 from by have := HB.out.size; have := HB2.out; omega)
  have HL2 := Aside0.mk (show w.heap.size ≤ B2 from by have := HB2.out; omega)
  have HL3 := Aside0.mk (blk_lt HRX.out)
  have HF := Aside0.mk (show ∀ q, (P q ∧ q < w.heap.size) → q ≠ B2 from fun q hq => by have := HL2.out; omega)
  have HO := Aside0.mk (show ∀ q, (P q ∧ q < w.heap.size) → (P q ∨ w.heap.size ≤ q) from fun q hq => .inl hq.1)
  clear hb0 hdx hax hrx hb2 hd2
  have d0 := blk_cell HDX.out 0
  have d1 := blk_cell HDX.out 1
  have d2 := blk_cell HDX.out 2
  have x0 := blk_cell HAX.out 0
  have x1 := blk_cell HAX.out 1
  have x5 := blk_cell HAX.out 5
  have x6 := blk_cell HAX.out 6
  have x7 := blk_cell HAX.out 7
  have x8 := blk_cell HAX.out 8
  have x9 := blk_cell HAX.out 9
  have r0 := blk_cell HRX.out 0
  have r1 := blk_cell HRX.out 1
  have r2 := blk_cell HRX.out 2
  have g0 := blk_frozen HRX.out 0
  have g1 := blk_frozen HRX.out 1
  have g2 := blk_frozen HRX.out 2
  by_cases hch : k = 1 ∨ k = 2
  · have hcv : decide (k = 1 ∨ k = 2) = true := by simpa using hch
    rw [hcv]
    by_cases hp : pg = id
    · subst hp
      have e5 : ((id : Int) != (id : Int)) = false := by simp
      by_cases hll : ls ≤ lsn
      · have HD := Aside0.mk (show redoP id lsn cs ⟨k, ls, tx, pv, un, id, ak, a, b, c, (At, lt, ct), (Ad, ld, cd)⟩ = (cs, lsn, false, 0) from by unfold redoP; rw [if_neg (by simp; omega), if_pos hll])
        have e6 : decide (ls ≤ (lsn : Int)) = true := by simpa using hll
        clear hch hcv hll
        go_wp2_with fail
        refine bodyPost_ret (results_ctt rfl _ _ B2 46 #[.int .i64 id, .int .u64 lsn, .slice A cs.length ca] (0, 0) _ rfl (blk_put (cs' := #[.int .i64 id, .int .u64 lsn, .slice A cs.length ca]) (blk_put (cs' := #[.int .i64 id, .int .u64 lsn, .slice none 0 0]) (blk_put (cs' := #[.int .i64 id, .int .u64 0, .slice none 0 0]) HRX.out 0 (.int .i64 id) rfl) 1 (.int .u64 lsn) rfl) 2 (.slice A cs.length ca) rfl) Try.underlying46 rfl (by kernel_rfl)) rfl ?_
        exact ⟨_, by rw [HD.out]; rfl, by rw [HD.out]; exact (box_end HR2.out HF.out HO.out HL.out HL2.out HBW.out (Kept.of_below HS.out P) _ _ _).1, (box_end HR2.out HF.out HO.out HL.out HL2.out HBW.out (Kept.of_below HS.out P) _ _ _).2⟩
      · have HD := Aside0.mk (show redoP id lsn cs ⟨k, ls, tx, pv, un, id, ak, a, b, c, (At, lt, ct), (Ad, ld, cd)⟩ = if (actDo cs ak a b c).2 ≠ 0 then ((actDo cs ak a b c).1, lsn, false, (actDo cs ak a b c).2) else ((actDo cs ak a b c).1, ls.toNat, true, 0) from by unfold redoP; rw [if_neg (by simp; omega), if_neg (by simp; omega)])
        have e6 : decide (ls ≤ (lsn : Int)) = false := by simpa using hll
        clear hch hcv hll
        go_wp2_with fail
        refine (rdo2_calls HBW.out HR2.out HV.out id lsn ak a b c ha hb hc).mono ?_
        rintro e w3 ⟨v3, rfl, hR3, hb3, hk3, hv3⟩
        have HDX3 := Aside0.mk (blk_kept HDX.out hk3 (fun h => by have := h.2; omega))
        have HAX3 := Aside0.mk (blk_kept HAX.out hk3 (fun h => by have := h.2; omega))
        have HRX3 := Aside0.mk (blk_kept HRX.out hk3 (fun h => by have := h.2; have := HL2.out; omega))
        have HB3 := Aside0.mk hb3
        have HK3 := Aside0.mk ((Kept.of_below HS.out P).then_ hk3 (fun q hq => .inl hq.1))
        have HF3 := Aside0.mk (show ∀ q, ((P q ∧ q < w.heap.size) ∨ w2.heap.size ≤ q) → q ≠ B2 from fun q hq => by have := HL2.out; have := HL3.out; rcases hq with h | h <;> omega)
        have HO3 := Aside0.mk (show ∀ q, ((P q ∧ q < w.heap.size) ∨ w2.heap.size ≤ q) → (P q ∨ w.heap.size ≤ q) from fun q hq => by have := HS.out.size; exact hq.elim (fun h => .inl h.1) (fun h => .inr (by omega)))
        clear d0 d1 d2 x0 x1 x5 x6 x7 x8 x9 r0 r1 r2 g0 g1 g2
        have d0 : ∀ o, (w3.alloc o).cell? ⟨w.heap.size, 0, none⟩ = some (.int .i64 id) := fun o => blk_cell (blk_alloc HDX3.out o) 0
        have d1 : ∀ o, (w3.alloc o).cell? ⟨w.heap.size, 1, none⟩ = some (.int .u64 lsn) := fun o => blk_cell (blk_alloc HDX3.out o) 1
        have d2 : ∀ o, (w3.alloc o).cell? ⟨w.heap.size, 2, none⟩ = some (.slice A cs.length ca) := fun o => blk_cell (blk_alloc HDX3.out o) 2
        have x0 : ∀ o, (w3.alloc o).cell? ⟨(w.heap.size + 1), 0, none⟩ = some (.int .i64 k) := fun o => blk_cell (blk_alloc HAX3.out o) 0
        have x1 : ∀ o, (w3.alloc o).cell? ⟨(w.heap.size + 1), 1, none⟩ = some (.int .u64 ls) := fun o => blk_cell (blk_alloc HAX3.out o) 1
        have x5 : ∀ o, (w3.alloc o).cell? ⟨(w.heap.size + 1), 5, none⟩ = some (.int .i64 id) := fun o => blk_cell (blk_alloc HAX3.out o) 5
        have x6 : ∀ o, (w3.alloc o).cell? ⟨(w.heap.size + 1), 6, none⟩ = some (.int .i64 ak) := fun o => blk_cell (blk_alloc HAX3.out o) 6
        have x7 : ∀ o, (w3.alloc o).cell? ⟨(w.heap.size + 1), 7, none⟩ = some (.string a) := fun o => blk_cell (blk_alloc HAX3.out o) 7
        have x8 : ∀ o, (w3.alloc o).cell? ⟨(w.heap.size + 1), 8, none⟩ = some (.string b) := fun o => blk_cell (blk_alloc HAX3.out o) 8
        have x9 : ∀ o, (w3.alloc o).cell? ⟨(w.heap.size + 1), 9, none⟩ = some (.string c) := fun o => blk_cell (blk_alloc HAX3.out o) 9
        have r0 : ∀ o, (w3.alloc o).cell? ⟨B2, 0, none⟩ = some (.int .i64 0) := fun o => blk_cell (blk_alloc HRX3.out o) 0
        have r1 : ∀ o, (w3.alloc o).cell? ⟨B2, 1, none⟩ = some (.int .u64 0) := fun o => blk_cell (blk_alloc HRX3.out o) 1
        have r2 : ∀ o, (w3.alloc o).cell? ⟨B2, 2, none⟩ = some (.slice none 0 0) := fun o => blk_cell (blk_alloc HRX3.out o) 2
        have g0 := fun o => blk_frozen (blk_alloc HRX3.out o) 0
        have g1 := fun o => blk_frozen (blk_alloc HRX3.out o) 1
        have g2 := fun o => blk_frozen (blk_alloc HRX3.out o) 2
        have hne3 : B2 ≠ w3.heap.size := by have := blk_lt HRX3.out; omega
        clear hb3 hk3
        by_cases hd : (actDo cs ak a b c).2 = 0
        · rw [if_neg (by simpa using hd)] at HD
          rw [hd]
          obtain ⟨A3, c3, rfl⟩ := Kd.R_slice hR3
          have HR3 := Aside0.mk hR3
          clear hR3 hv3 hd
          go_wp2_with fail
          refine bodyPost_ret (results_ctt rfl _ _ B2 46 #[.int .i64 id, .int .u64 ls, .slice A3 (actDo cs ak a b c).1.length c3] (0, 0) _ rfl (blk_put (cs' := #[.int .i64 id, .int .u64 ls, .slice A3 (actDo cs ak a b c).1.length c3]) (blk_put (cs' := #[.int .i64 id, .int .u64 ls, .slice none 0 0]) (blk_put (cs' := #[.int .i64 id, .int .u64 0, .slice none 0 0]) (blk_alloc HRX3.out _) 0 (.int .i64 id) rfl) 1 (.int .u64 ls) rfl) 2 (.slice A3 (actDo cs ak a b c).1.length c3) rfl) Try.underlying46 rfl (by kernel_rfl)) rfl ?_
          exact ⟨_, by rw [HD.out]; simp only [Int.toNat_of_nonneg h0]; rfl, by rw [HD.out]; exact (box_end (Kd.R_alloc HR3.out _) HF3.out HO3.out HL.out HL2.out (below_alloc HB3.out _) (Kept.alloc HK3.out _) _ _ _).1, (box_end (Kd.R_alloc HR3.out _) HF3.out HO3.out HL.out HL2.out (below_alloc HB3.out _) (Kept.alloc HK3.out _) _ _ _).2⟩
        · rw [if_pos (by simpa using hd)] at HD
          obtain rfl := hv3 hd
          have HR3 := Aside0.mk hR3
          have e7 : ((actDo cs ak a b c).2 != 0) = true := by simpa using hd
          clear hR3 hv3 hd
          go_wp2_with fail
          refine bodyPost_ret (results_ctt rfl _ _ B2 46 #[.int .i64 id, .int .u64 lsn, .slice A cs.length ca] (0, 0) _ rfl (blk_put (cs' := #[.int .i64 id, .int .u64 lsn, .slice A cs.length ca]) (blk_put (cs' := #[.int .i64 id, .int .u64 lsn, .slice none 0 0]) (blk_put (cs' := #[.int .i64 id, .int .u64 0, .slice none 0 0]) (blk_alloc HRX3.out _) 0 (.int .i64 id) rfl) 1 (.int .u64 lsn) rfl) 2 (.slice A cs.length ca) rfl) Try.underlying46 rfl (by kernel_rfl)) rfl ?_
          exact ⟨_, by rw [HD.out]; rfl, by rw [HD.out]; exact (box_end (Kd.R_alloc HR3.out _) HF3.out HO3.out HL.out HL2.out (below_alloc HB3.out _) (Kept.alloc HK3.out _) _ _ _).1, (box_end (Kd.R_alloc HR3.out _) HF3.out HO3.out HL.out HL2.out (below_alloc HB3.out _) (Kept.alloc HK3.out _) _ _ _).2⟩
    · have e5 : (pg != (id : Int)) = true := by simpa using hp
      have HD := Aside0.mk (show redoP id lsn cs ⟨k, ls, tx, pv, un, pg, ak, a, b, c, (At, lt, ct), (Ad, ld, cd)⟩ = (cs, lsn, false, 1) from by unfold redoP; rw [if_pos (.inr hp)])
      clear hch hcv hp
      go_wp2_with fail
      refine bodyPost_ret (results_ctt rfl _ _ B2 46 #[.int .i64 id, .int .u64 lsn, .slice A cs.length ca] (0, 0) _ rfl (blk_put (cs' := #[.int .i64 id, .int .u64 lsn, .slice A cs.length ca]) (blk_put (cs' := #[.int .i64 id, .int .u64 lsn, .slice none 0 0]) (blk_put (cs' := #[.int .i64 id, .int .u64 0, .slice none 0 0]) HRX.out 0 (.int .i64 id) rfl) 1 (.int .u64 lsn) rfl) 2 (.slice A cs.length ca) rfl) Try.underlying46 rfl (by kernel_rfl)) rfl ?_
      exact ⟨_, by rw [HD.out]; rfl, by rw [HD.out]; exact (box_end HR2.out HF.out HO.out HL.out HL2.out HBW.out (Kept.of_below HS.out P) _ _ _).1, (box_end HR2.out HF.out HO.out HL.out HL2.out HBW.out (Kept.of_below HS.out P) _ _ _).2⟩
  · have hcv : decide (k = 1 ∨ k = 2) = false := by simpa using hch
    rw [hcv]
    have HD := Aside0.mk (show redoP id lsn cs ⟨k, ls, tx, pv, un, pg, ak, a, b, c, (At, lt, ct), (Ad, ld, cd)⟩ = (cs, lsn, false, 1) from by unfold redoP; rw [if_pos (.inl ⟨fun h => hch (.inl h), fun h => hch (.inr h)⟩)])
    clear hch hcv
    go_wp2_with fail
    refine bodyPost_ret (results_ctt rfl _ _ B2 46 #[.int .i64 id, .int .u64 lsn, .slice A cs.length ca] (0, 0) _ rfl (blk_put (cs' := #[.int .i64 id, .int .u64 lsn, .slice A cs.length ca]) (blk_put (cs' := #[.int .i64 id, .int .u64 lsn, .slice none 0 0]) (blk_put (cs' := #[.int .i64 id, .int .u64 0, .slice none 0 0]) HRX.out 0 (.int .i64 id) rfl) 1 (.int .u64 lsn) rfl) 2 (.slice A cs.length ca) rfl) Try.underlying46 rfl (by kernel_rfl)) rfl ?_
    exact ⟨_, by rw [HD.out]; rfl, by rw [HD.out]; exact (box_end HR2.out HF.out HO.out HL.out HL2.out HBW.out (Kept.of_below HS.out P) _ _ _).1, (box_end HR2.out HF.out HO.out HL.out HL2.out HBW.out (Kept.of_below HS.out P) _ _ _).2⟩
end
end Go.Proofs.Ytidgfigfebkieaa
end
section
namespace Go.Proofs.Ytidgfigfebkieaa
open Go.RowKit Go.Proofs.YtidgfigfebkieaaW.PrintWords Go.Proofs.YtidgfigfebkieaaW.PrintLast Go.Proofs.YtidgfigfebkieaaW.PrintMore
open Rf
set_option linter.unusedVariables false
set_option linter.unusedSimpArgs false
theorem rec_at {w : World} {A : Option Addr} {n : Nat} {xs : List SGRec} (h : Kd.C kGRec w A n xs) (k : Nat) (h1 : k < n) : ∃ ad : Addr, A = some ad ∧ w.cell? (ad.add (k * 12)) = some (.int .i64 (rd_TGRec xs k).f0) ∧ w.cell? ⟨(ad.add (k * 12)).block, (ad.add (k * 12)).off + 1, none⟩ = some (.int .u64 (rd_TGRec xs k).f1) ∧ w.cell? ⟨(ad.add (k * 12)).block, (ad.add (k * 12)).off + 2, none⟩ = some (.int .i64 (rd_TGRec xs k).f2) ∧ w.cell? ⟨(ad.add (k * 12)).block, (ad.add (k * 12)).off + 3, none⟩ = some (.int .u64 (rd_TGRec xs k).f3) ∧ w.cell? ⟨(ad.add (k * 12)).block, (ad.add (k * 12)).off + 4, none⟩ = some (.int .u64 (rd_TGRec xs k).f4) ∧ w.cell? ⟨(ad.add (k * 12)).block, (ad.add (k * 12)).off + 5, none⟩ = some (.int .i64 (rd_TGRec xs k).f5) ∧ w.cell? ⟨(ad.add (k * 12)).block, (ad.add (k * 12)).off + 6, none⟩ = some (.int .i64 (rd_TGRec xs k).f6) ∧ w.cell? ⟨(ad.add (k * 12)).block, (ad.add (k * 12)).off + 7, none⟩ = some (.string (rd_TGRec xs k).f7) ∧ w.cell? ⟨(ad.add (k * 12)).block, (ad.add (k * 12)).off + 8, none⟩ = some (.string (rd_TGRec xs k).f8) ∧ w.cell? ⟨(ad.add (k * 12)).block, (ad.add (k * 12)).off + 9, none⟩ = some (.string (rd_TGRec xs k).f9) ∧ w.cell? ⟨(ad.add (k * 12)).block, (ad.add (k * 12)).off + 10, none⟩ = some (.slice (rd_TGRec xs k).f10.1 (rd_TGRec xs k).f10.2.1 (rd_TGRec xs k).f10.2.2) ∧ w.cell? ⟨(ad.add (k * 12)).block, (ad.add (k * 12)).off + 11, none⟩ = some (.slice (rd_TGRec xs k).f11.1 (rd_TGRec xs k).f11.2.1 (rd_TGRec xs k).f11.2.2) := by
  obtain ⟨ad, c, e, _, hK, hc0⟩ := Kd.C_get h zGRec k (by omega) (by omega)
  obtain rfl := kGRec_open hK
  rw [Int.toNat_natCast] at hc0
  have hc : ∀ j u, (rd_TGRec xs k).out[j]? = some u → w.cell? (ad.add (k * 12 + j)) = some u := hc0
  exact ⟨ad, e, hc 0 _ rfl, by rw [← add_field _ _ 1 (by omega)]; exact hc 1 _ rfl, by rw [← add_field _ _ 2 (by omega)]; exact hc 2 _ rfl, by rw [← add_field _ _ 3 (by omega)]; exact hc 3 _ rfl, by rw [← add_field _ _ 4 (by omega)]; exact hc 4 _ rfl, by rw [← add_field _ _ 5 (by omega)]; exact hc 5 _ rfl, by rw [← add_field _ _ 6 (by omega)]; exact hc 6 _ rfl, by rw [← add_field _ _ 7 (by omega)]; exact hc 7 _ rfl, by rw [← add_field _ _ 8 (by omega)]; exact hc 8 _ rfl, by rw [← add_field _ _ 9 (by omega)]; exact hc 9 _ rfl, by rw [← add_field _ _ 10 (by omega)]; exact hc 10 _ rfl, by rw [← add_field _ _ 11 (by omega)]; exact hc 11 _ rfl⟩
theorem rec_mem (xs : List SGRec) (k : Nat) (h : k < xs.length) : rd_TGRec xs k ∈ xs := by
  simp [rd_TGRec, List.getD_eq_getElem?_getD, List.getElem?_eq_getElem h]
/-- What an argument's record is like. -/
structure OkRec (x : SGRec) : Prop where
  lo : 0 ≤ x.f1
  hi : x.f1 < 18446744073709551616
  s7 : x.f7.size ≤ 140737488351232
  s8 : x.f8.size ≤ 140737488351232
  s9 : x.f9.size ≤ 140737488351232
section
variable {w0 w : World} {B : Nat → Prop} {g id lsn : Nat} {cs cs' : List SGCell} {v : Value}
theorem Twin.redo (h : Twin w0 w B g id lsn cs cs' v) (r : SGRec) (hr : OkRec r) :
    Calls Try.prog 25 #[.pointer (some ⟨g, 0, none⟩), .agg r.out.toArray] w fun e w' => e = .returned (.tuple #[.bool (redoP id lsn cs r).2.2.1, .int .i64 (redoP id lsn cs r).2.2.2]) ∧ Twin w0 w' B g id (redoP id lsn cs r).2.1 (redoP id lsn cs r).1 cs' v ∧ ∀ k, B k → w'.heap[k]? = w.heap[k]? := by
  obtain ⟨⟨ok, h1, h2, h3⟩, h4⟩ := h
  refine (redo_calls h1 r hr.lo hr.hi hr.s7 hr.s8 hr.s9).mono ?_
  rintro e w' ⟨rfl, hA⟩
  exact ⟨rfl, twin_page h2 h3 h4 hA.here hA.kept⟩
theorem Twin.rredo (h : Twin w0 w B g id lsn cs cs' v) (hv : Valid cs') (r : SGRec) (hr : OkRec r) (l' : Nat) :
    Calls Try.prog 24 #[.agg #[.int .i64 id, .int .u64 l', v], .agg r.out.toArray] w fun e w' => ∃ v', e = .returned (.tuple #[.agg #[.int .i64 id, .int .u64 (redoP id l' cs' r).2.1, v'], .bool (redoP id l' cs' r).2.2.1, .int .i64 (redoP id l' cs' r).2.2.2]) ∧ Twin w0 w' B g id lsn cs (redoP id l' cs' r).1 v' ∧ ∀ k, B k → w'.heap[k]? = w.heap[k]? := by
  obtain ⟨⟨ok, h1, h2, h3⟩, h4⟩ := h
  refine (rredo_calls h1.bel h3 hv id l' r hr.lo hr.hi hr.s7 hr.s8 hr.s9).mono ?_
  rintro e w' ⟨v', rfl, r1, r2, r3⟩
  exact ⟨v', rfl, twin_doc h1 h2 h4 r1 r2 r3⟩
end
set_option maxRecDepth 100000 in
set_option maxHeartbeats 1000000 in
theorem redo_nil (w : World) (r : SGRec) : Calls Try.prog 25 #[.pointer none, .agg r.out.toArray] w fun e w' => e = .returned (.tuple #[.bool false, .int .i64 1]) ∧ Below w.heap.size w w' := by
  obtain ⟨k, ls, tx, pv, un, pg, ak, a, b, c, ⟨At, lt, ct⟩, ⟨Ad, ld, cd⟩⟩ := r
  dsimp only [SGRec.out] at *
  go_enter Try.func25, Try.ntmps25
  go_wp2_with fail
  refine start_ (n := 19) (S := fun _ => True) (ds := []) #[false, false, false, false, false, false, false, false, false, false, false, false, false, false, false, false, false, false, false] (by kernel_rfl) rfl rfl (trivial) (fun hHeld => ?_)
  refine pure_ (i := 0) (N := some 7) (v := ?_) (a' := ?_) #[true, false, false, false, false, false, false, false, false, false, false, false, false, false, false, false, false, false, false] rfl rfl (by kernel_rfl) (fun _ _ _ h => h) (Or.inl ⟨by rfl, ?_⟩) ?_ ?_
  rotate_left
  · intro w'
    go_simp
    all_goals (with_reducible rfl)
  rotate_left
  · simp only [Act.put, List.setIfInBounds_toArray, List.set_cons_zero, List.set_cons_succ, i64_w, i32_w]
    rfl
  refine pure_ (i := 1) (N := some 8) (v := ?_) (a' := ?_) #[true, true, false, false, false, false, false, false, false, false, false, false, false, false, false, false, false, false, false] rfl rfl (by kernel_rfl) (fun _ _ _ h => h) (Or.inl ⟨by rfl, ?_⟩) ?_ ?_
  rotate_left
  · intro w'
    go_simp
    all_goals (with_reducible rfl)
  rotate_left
  · simp only [Act.put, List.setIfInBounds_toArray, List.set_cons_zero, List.set_cons_succ, i64_w, i32_w]
    rfl
  refine pure_ (i := 2) (N := some 9) (v := ?_) (a' := ?_) #[true, true, true, false, false, false, false, false, false, false, false, false, false, false, false, false, false, false, false] rfl rfl (by kernel_rfl) (fun _ _ _ h => h) (Or.inl ⟨by rfl, ?_⟩) ?_ ?_
  rotate_left
  · intro w'
    go_simp
    all_goals (with_reducible rfl)
  rotate_left
  · simp only [Act.put, List.setIfInBounds_toArray, List.set_cons_zero, List.set_cons_succ, i64_w, i32_w]
    rfl
  refine pure_ (i := 3) (N := some 10) (v := undef) (a' := ?_) #[true, true, true, true, false, false, false, false, false, false, false, false, false, false, false, false, false, false, false] rfl rfl (by kernel_rfl) (fun _ _ _ h => h) (Or.inr ⟨by rfl, rfl⟩) ?_ ?_
  rotate_left
  · simp only [Act.put, List.setIfInBounds_toArray, List.set_cons_zero, List.set_cons_succ, i64_w, i32_w]
    rfl
  refine pure_ (i := 4) (N := some 11) (v := undef) (a' := ?_) #[true, true, true, true, true, false, false, false, false, false, false, false, false, false, false, false, false, false, false] rfl rfl (by kernel_rfl) (fun _ _ _ h => h) (Or.inr ⟨by rfl, rfl⟩) ?_ ?_
  rotate_left
  · simp only [Act.put, List.setIfInBounds_toArray, List.set_cons_zero, List.set_cons_succ, i64_w, i32_w]
    rfl
  refine pure_ (i := 5) (N := some 12) (v := undef) (a' := ?_) #[true, true, true, true, true, true, false, false, false, false, false, false, false, false, false, false, false, false, false] rfl rfl (by kernel_rfl) (fun _ _ _ h => h) (Or.inr ⟨by rfl, rfl⟩) ?_ ?_
  rotate_left
  · simp only [Act.put, List.setIfInBounds_toArray, List.set_cons_zero, List.set_cons_succ, i64_w, i32_w]
    rfl
  refine pure_ (i := 6) (N := some 13) (v := undef) (a' := ?_) #[true, true, true, true, true, true, true, false, false, false, false, false, false, false, false, false, false, false, false] rfl rfl (by kernel_rfl) (fun _ _ _ h => h) (Or.inr ⟨by rfl, rfl⟩) ?_ ?_
  rotate_left
  · simp only [Act.put, List.setIfInBounds_toArray, List.set_cons_zero, List.set_cons_succ, i64_w, i32_w]
    rfl
  refine pure_ (i := 7) (N := some 14) (v := undef) (a' := ?_) #[true, true, true, true, true, true, true, true, false, false, false, false, false, false, false, false, false, false, false] rfl rfl (by kernel_rfl) (fun _ _ _ h => h) (Or.inr ⟨by rfl, rfl⟩) ?_ ?_
  rotate_left
  · simp only [Act.put, List.setIfInBounds_toArray, List.set_cons_zero, List.set_cons_succ, i64_w, i32_w]
    rfl
  refine pure_ (i := 8) (N := some 15) (v := undef) (a' := ?_) #[true, true, true, true, true, true, true, true, true, false, false, false, false, false, false, false, false, false, false] rfl rfl (by kernel_rfl) (fun _ _ _ h => h) (Or.inr ⟨by rfl, rfl⟩) ?_ ?_
  rotate_left
  · simp only [Act.put, List.setIfInBounds_toArray, List.set_cons_zero, List.set_cons_succ, i64_w, i32_w]
    rfl
  refine pure_ (i := 9) (N := some 16) (v := undef) (a' := ?_) #[true, true, true, true, true, true, true, true, true, true, false, false, false, false, false, false, false, false, false] rfl rfl (by kernel_rfl) (fun _ _ _ h => h) (Or.inr ⟨by rfl, rfl⟩) ?_ ?_
  rotate_left
  · simp only [Act.put, List.setIfInBounds_toArray, List.set_cons_zero, List.set_cons_succ, i64_w, i32_w]
    rfl
  refine pure_ (i := 10) (N := some 17) (v := undef) (a' := ?_) #[true, true, true, true, true, true, true, true, true, true, true, false, false, false, false, false, false, false, false] rfl rfl (by kernel_rfl) (fun _ _ _ h => h) (Or.inr ⟨by rfl, rfl⟩) ?_ ?_
  rotate_left
  · simp only [Act.put, List.setIfInBounds_toArray, List.set_cons_zero, List.set_cons_succ, i64_w, i32_w]
    rfl
  refine pure_ (i := 11) (N := some 18) (v := ?_) (a' := ?_) #[true, true, true, true, true, true, true, true, true, true, true, true, false, false, false, false, false, false, false] rfl rfl (by kernel_rfl) (fun _ _ _ h => h) (Or.inl ⟨by rfl, ?_⟩) ?_ ?_
  rotate_left
  · intro w'
    go_simp
    all_goals (with_reducible rfl)
  rotate_left
  · simp only [Act.put, List.setIfInBounds_toArray, List.set_cons_zero, List.set_cons_succ, i64_w, i32_w]
    rfl
  refine pure_ (i := 12) (N := some 19) (v := ?_) (a' := ?_) #[true, true, true, true, true, true, true, true, true, true, true, true, true, false, false, false, false, false, false] rfl rfl (by kernel_rfl) (fun _ _ _ h => h) (Or.inl ⟨by rfl, ?_⟩) ?_ ?_
  rotate_left
  · intro w'
    go_simp
    all_goals (with_reducible rfl)
  rotate_left
  · simp only [Act.put, List.setIfInBounds_toArray, List.set_cons_zero, List.set_cons_succ, i64_w, i32_w]
    rfl
  refine pure_ (i := 13) (N := some 20) (v := undef) (a' := ?_) #[true, true, true, true, true, true, true, true, true, true, true, true, true, true, false, false, false, false, false] rfl rfl (by kernel_rfl) (fun _ _ _ h => h) (Or.inr ⟨by rfl, rfl⟩) ?_ ?_
  rotate_left
  · simp only [Act.put, List.setIfInBounds_toArray, List.set_cons_zero, List.set_cons_succ, i64_w, i32_w]
    rfl
  refine pure_ (i := 15) (N := some 22) (v := undef) (a' := ?_) #[true, true, true, true, true, true, true, true, true, true, true, true, true, true, false, true, false, false, false] rfl rfl (by kernel_rfl) (fun _ _ _ h => h) (Or.inr ⟨by rfl, rfl⟩) ?_ ?_
  rotate_left
  · simp only [Act.put, List.setIfInBounds_toArray, List.set_cons_zero, List.set_cons_succ, i64_w, i32_w]
    rfl
  refine pure_ (i := 14) (N := some 21) (v := undef) (a' := ?_) #[true, true, true, true, true, true, true, true, true, true, true, true, true, true, true, true, false, false, false] rfl rfl (by kernel_rfl) (fun _ _ _ h => h) (Or.inr ⟨by rfl, rfl⟩) ?_ ?_
  rotate_left
  · simp only [Act.put, List.setIfInBounds_toArray, List.set_cons_zero, List.set_cons_succ, i64_w, i32_w]
    rfl
  refine one_ (i := 16) (N := some 23) #[true, true, true, true, true, true, true, true, true, true, true, true, true, true, true, true, true, false, false] rfl rfl (by kernel_rfl) (by decide) (fun K hK => ?_)
  refine skip_ (by rfl) ?_
  refine hK.out _ _ hHeld (fun hHeld => ?_)
  clear hK K
  (try simp only [Act.put, List.setIfInBounds_toArray, List.set_cons_zero, List.set_cons_succ])
  refine pure_ (i := 17) (N := some 24) (v := undef) (a' := ?_) #[true, true, true, true, true, true, true, true, true, true, true, true, true, true, true, true, true, true, false] rfl rfl (by kernel_rfl) (fun _ _ _ h => h) (Or.inr ⟨by rfl, rfl⟩) ?_ ?_
  rotate_left
  · simp only [Act.put, List.setIfInBounds_toArray, List.set_cons_zero, List.set_cons_succ, i64_w, i32_w]
    rfl
  refine pure_ (i := 18) (N := some 25) (v := ?_) (a' := ?_) #[true, true, true, true, true, true, true, true, true, true, true, true, true, true, true, true, true, true, true] rfl rfl (by kernel_rfl) (fun _ _ _ h => h) (Or.inl ⟨by rfl, ?_⟩) ?_ ?_
  rotate_left
  · intro w'
    go_simp
    all_goals (with_reducible rfl)
  rotate_left
  · simp only [Act.put, List.setIfInBounds_toArray, List.set_cons_zero, List.set_cons_succ, i64_w, i32_w]
    rfl
  refine done_ (by kernel_rfl) ?_
  go_wp2_with fail
  go_ret2
  exact ⟨rfl, below_drew (below_alloc (Below.refl _ _) _)⟩
end Go.Proofs.Ytidgfigfebkieaa
end
section
namespace Go.Proofs.Ytidgfigfebkieaa
open Go.RowKit Go.Proofs.YtidgfigfebkieaaW.PrintWords Go.Proofs.YtidgfigfebkieaaW.PrintLast Go.Proofs.YtidgfigfebkieaaW.PrintMore
open Rf Go.ChangeMaps
set_option linter.unusedVariables false
set_option linter.unusedSimpArgs false
attribute [local go_sem high] yund
attribute [local go_sem high] eqA24
theorem short_calls (k : Int) (a b c : ByteArray) (w : World) (ha : a.size ≤ 140737488351232) (hb : b.size ≤ 140737488351232) (hc : c.size ≤ 140737488351232) :
    Calls Try.prog 9 #[.agg #[.int .i64 k, .string a, .string b, .string c]] w fun e w' => e = .returned (.bool (decide (a.size + b.size + c.size ≤ 1000))) ∧ Below w.heap.size w w' := by
  refine flotillalaw07_short.calls k a b c _ w ?_
  unfold flotillalaw07_short.f
  rw [w64 (x := (a.size : Int) + (b.size : Int)) (by omega) (by omega), w64 (by omega) (by omega)]
  congr 1
  rw [decide_eq_decide]
  omega
theorem refturn_calls (k : Int) (a b c : ByteArray) (w : World) : Calls Try.prog 12 #[.agg #[.int .i64 k, .string a, .string b, .string c]] w fun e w' => e = .returned (actV (actTurn k a b c)) ∧ Below w.heap.size w w' :=
  flotillaref07_Turn.calls k a b c _ _ _ _ w (refTurn k a b c)
theorem turn_may {k : Int} {a b c : ByteArray} (h : actMay k a b c = true) : actMay (turnK k) a c b = true := by
  have hf := may_fits h
  have h2 : fits a c b = true := (fits_iff a c b).2 ⟨hf.1, hf.2.1, hf.2.2.2, hf.2.2.1⟩
  rcases may_kind h with rfl | rfl | rfl
  · unfold actMay at h ⊢; rw [h2]; rw [Bool.and_eq_true] at h; exact h.2
  · unfold actMay; rw [h2]; rfl
  · unfold actMay at h ⊢; rw [h2]; rw [Bool.and_eq_true] at h; exact h.2
theorem turn_turn {k : Int} {a b c : ByteArray} (h : actMay k a b c = true) : actTurn (turnK k) a c b = (k, a, b, c) := by
  unfold actTurn
  rw [turn_may h, if_pos rfl]
  rcases may_kind h with rfl | rfl | rfl <;> rfl
end Go.Proofs.Ytidgfigfebkieaa
end
