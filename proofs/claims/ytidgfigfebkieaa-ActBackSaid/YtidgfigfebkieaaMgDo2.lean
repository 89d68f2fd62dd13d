/- The calls of page's writing functions: Insert, Update, Delete. 
The call of page's Update. 
The call of page's Delete. 
The calls of page's New, Cells, Clone. 
PLAIN: what Insert, Update and Delete leave is a page again. 
PLAIN: what the references' functions come to: numbers, cells, free bytes, sums. 
A page that stands: what its calls answer, and what they keep. 
A nil page's answers. 
The calls of act's was, Do. 
Layer 7: lives; ActTurns' walk. -/
import Derived.Test.YtidgfigfebkieaaMgDo1
import Derived.BigRegion
import Derived.Deep.RegionLaw
import Derived.Deep.RegionHeld3
import Derived.Test.YtidgfigfebkieaaRf0
import Derived.Laws.BitsAllLaws
import Derived.WalkLawsBesides
section
namespace Go.Proofs.Ytidgfigfebkieaa
open Go.RowKit Go.Proofs.YtidgfigfebkieaaW.PrintWords Go.Proofs.YtidgfigfebkieaaW.PrintLast Go.Proofs.YtidgfigfebkieaaW.PrintMore
open Rf
set_option linter.unusedVariables false
set_option linter.unusedSimpArgs false

/-- A page of the call's own, at block g. -/
structure IsPg (w : World) (base : Nat) (ok : Nat → Prop) (g : Nat) (id lsn : Int) (cs : List SGCell) : Prop where
  low : base ≤ g
  mine : ok g
  held : ∃ v, PgAt w g id lsn v ∧ Kd.R kGCell 86 w base (fun k => ok k ∧ k ≠ g) v cs

theorem IsPg.stored {w : World} {base : Nat} {ok : Nat → Prop} {g : Nat} {id lsn : Int} {v v1 : Value} {cs : List SGCell} (hlow : base ≤ g) (hm : ok g) (h : PgAt w g id lsn v)
    (hR : Kd.R kGCell 86 w base (fun k => ok k ∧ k ≠ g) v1 cs) : IsPg (w.setCell ⟨g, 2, none⟩ v1) base ok g id lsn cs :=
  ⟨hlow, hm, v1, blk_set h 2 v1, Kd.R_far (p := ⟨g, 2, none⟩) hR (fun _ hk => hk.2) v1⟩
theorem IsPg.mono {w : World} {base : Nat} {ok ok' : Nat → Prop} {g : Nat} {id lsn : Int} {cs : List SGCell} (h : IsPg w base ok g id lsn cs) (hok : ∀ k, ok k → ok' k) : IsPg w base ok' g id lsn cs := by
  obtain ⟨h1, h2, v, h3, h4⟩ := h
  exact ⟨h1, hok _ h2, v, h3, Kd.R_mono h4 (fun k hk => ⟨hok k hk.1, hk.2⟩)⟩
theorem IsPg.below {w w' : World} {base : Nat} {ok : Nat → Prop} {g : Nat} {id lsn : Int} {cs : List SGCell} (h : IsPg w base ok g id lsn cs) (hb : Below w.heap.size w w') : IsPg w' base ok g id lsn cs := by
  obtain ⟨h1, h2, v, h3, h4⟩ := h
  exact ⟨h1, h2, v, h3.below hb, Kd.R_below h4 hb⟩
theorem IsPg.kept {w w' : World} {base : Nat} {ok S : Nat → Prop} {g : Nat} {id lsn : Int} {cs : List SGCell} (h : IsPg w base ok g id lsn cs) (hk : Kept w w' S) (hne : ∀ k, ok k → ¬ S k) : IsPg w' base ok g id lsn cs := by
  obtain ⟨h1, h2, v, h3, h4⟩ := h
  exact ⟨h1, h2, v, blk_kept h3 hk (hne g h2), Kd.R_kept h4 hk (fun k hk => hne k hk.1)⟩

/-- A whole element of a row is written. -/
theorem row_put {w : World} {base go n c : Nat} {ok : Nat → Prop} {cs : List SGCell} (h : Kd.R kGCell 86 w base ok (.slice (some ⟨go, 0, none⟩) n c) cs) (i : Nat) (hi : i < cs.length) (x : SGCell) :
    Kd.R kGCell 86 (((w.setCell ⟨go, i * 3, none⟩ (.bool x.f0)).setCell ⟨go, i * 3 + 1, none⟩ (.string x.f1)).setCell ⟨go, i * 3 + 2, none⟩ (.string x.f2)) base ok (.slice (some ⟨go, 0, none⟩) n c) (cs.set i x) ∧
      w.grownBy (((w.setCell ⟨go, i * 3, none⟩ (.bool x.f0)).setCell ⟨go, i * 3 + 1, none⟩ (.string x.f1)).setCell ⟨go, i * 3 + 2, none⟩ (.string x.f2)) (some go) := by
  have hn := (Kd.R_reads' h).1
  obtain ⟨ad, ea, hx0, hx1, hx2⟩ := cell_at (Kd.R_reads' h).2.2 i hi
  cases ea
  simp only [add_plain] at hx0 hx1 hx2
  have hs := Kd.R_seg (okp := fun _ => False) (seg := [.bool x.f0, .string x.f1, .string x.f2]) (j := 0) (c := [.bool (rd_TGCell cs i).f0, .string (rd_TGCell cs i).f1, .string (rd_TGCell cs i).f2]) (x' := x) h (i : Int) (by omega) (by omega) rfl
    (fun j u hu => by
      rw [Int.toNat_natCast]
      match j, hu with
      | 0, hu => rw [← Option.some.inj hu]; exact hx0
      | 1, hu => rw [← Option.some.inj hu]; exact hx1
      | 2, hu => rw [← Option.some.inj hu]; exact hx2) (Nat.le_refl 3) (kGCell_mkM _ _ _ x) (fun _ hk => hk.elim)
  rw [Int.toNat_natCast] at hs
  exact hs

/-- Nothing was changed. -/
theorem IsPg.same {w0 w w' : World} {ok : Nat → Prop} {g : Nat} {id lsn : Int} {cs : List SGCell} (h : IsPg w w0.heap.size ok g id lsn cs) (hB : Below w0.heap.size w0 w) (hb : Below w.heap.size w w') :
    IsPg w' w0.heap.size (fun k => ok k ∨ w.heap.size ≤ k) g id lsn cs ∧ Below w0.heap.size w0 w' ∧ Kept w w' ok :=
  ⟨(h.below hb).mono (fun _ hk => .inl hk), below_then hB hB.size hb, Kept.of_below hb ok⟩

set_option maxHeartbeats 1000000 in
theorem insert_calls (w0 w : World) (ok : Nat → Prop) (g : Nat) (id lsn : Int) (cs : List SGCell) (key value : ByteArray)
    (hB : Below w0.heap.size w0 w) (hp : IsPg w w0.heap.size ok g id lsn cs) (hS : Small cs) (hl : cs.length ≤ 64) :
    Calls Try.prog 30 #[.pointer (some ⟨g, 0, none⟩), .string key, .string value] w fun e w' => e = .returned (.int .i64 (ins cs key value).2) ∧
      IsPg w' w0.heap.size (fun k => ok k ∨ w.heap.size ≤ k) g id lsn (ins cs key value).1 ∧ Below w0.heap.size w0 w' ∧ Kept w w' ok := by
  have HP := Aside0.mk hp
  obtain ⟨hlow, hmine, v, hat, hR⟩ := hp
  obtain ⟨A, c, rfl, hlc, hC⟩ := Kd.R_reads hR
  have HAT := Aside0.mk hat
  have HR := Aside0.mk hR
  have HC := Aside0.mk hC
  have HS := Aside0.mk hS
  have HB := Aside0.mk hB
  have hg2 : w.cell? ⟨g, 2, none⟩ = some (.slice A cs.length c) := blk_cell HAT.out 2
  clear hat hR hC hB hS
  by_cases hm : mayB key value = true
  · by_cases hf : 0 ≤ fnd cs key
    · have HI := Aside0.mk (show ins cs key value = (cs, 9) by unfold ins; rw [if_pos hm, if_pos hf])
      have hf' : decide (0 ≤ fnd cs key) = true := by simpa using hf
      go_enter Try.func30, Try.ntmps30
      go_wp2_with fail
      refine (may_calls _ _ _).mono ?_
      rintro e w1 ⟨rfl, hd1⟩
      rw [hm]
      go_wp2_with fail
      refine (find_calls w1 g id lsn A c cs key (HAT.out.below hd1.below) (Kd.C_below HC.out hd1.below) (by omega)).mono ?_
      rintro e w2 ⟨rfl, hb2⟩
      have HB2 := Aside0.mk (bel_trans hd1.below hb2)
      go_wp2
      go_ret
      rw [HI.out]
      exact ⟨rfl, HP.out.same HB.out HB2.out⟩
    · go_enter Try.func30, Try.ntmps30
      go_wp2_with fail
      refine (may_calls _ _ _).mono ?_
      rintro e w1 ⟨rfl, hd1⟩
      rw [hm]
      go_wp2_with fail
      refine (find_calls w1 g id lsn A c cs key (HAT.out.below hd1.below) (Kd.C_below HC.out hd1.below) (by omega)).mono ?_
      rintro e w2 ⟨rfl, hb2⟩
      have HB2 := Aside0.mk (bel_trans hd1.below hb2)
      have HAT2 := Aside0.mk (HAT.out.below HB2.out)
      have HC2 := Aside0.mk (Kd.C_below HC.out HB2.out)
      have hg2' : w2.cell? ⟨g, 2, none⟩ = some (.slice A cs.length c) := blk_cell HAT2.out 2
      go_wp2
      go_loopg [7] cs.length (fun gk v7 wr => ∃ k : Nat, Aside0 (k + gk = cs.length) ∧ v7 = .int .i64 k ∧ k ≤ frs cs ∧ Aside0 (w2 = wr))
      case atStart => exact ⟨0, ⟨by omega⟩, rfl, by omega, ⟨rfl⟩⟩
      case round =>
        obtain ⟨k, Hk, rfl, hkf, Hw⟩ := hrel
        obtain rfl := Hw.out
        clear Hw
        have hfl := frs_le cs
        by_cases hlt : k < frs cs
        · obtain ⟨ad, ea, hx0, hx1, hx2⟩ := cell_at HC2.out k (by omega)
          cases ea
          rw [frs_used cs k hlt] at hx0
          have hlt' : k < cs.length := by omega
          go_wp2
          go_roundg (gk - 1)
          case measure => have := Hk.out; omega
          case rel => exact ⟨k + 1, ⟨by have := Hk.out; omega⟩, by go_num, by omega, ⟨rfl⟩⟩
        · obtain rfl : k = frs cs := by omega
          clear hlt hkf hfl
          -- the slot is known: the two ways part on whether it is a new one
          have hfr : frs cs ≤ cs.length := frs_le cs
          have hz : csz (cel key value) ≤ 100 := by have := (mayB_iff key value).1 hm; rw [csz_cel]; omega
          have hkz : (cel key value).f1.size ≤ 1000 := by have := (mayB_iff key value).1 hm; show key.size ≤ 1000; omega
          have hvz : (cel key value).f2.size ≤ 1000 := by have := (mayB_iff key value).1 hm; show value.size ≤ 1000; omega
          by_cases hend : cs.length ≤ frs cs
          · have hend2 : frs cs = cs.length := by omega
            have HE := Aside0.mk hend2
            rw [hend2]
            clear hend hend2 hfr
            go_wp2_with fail
            refine (size_calls (cel key value) _ hkz hvz).mono ?_
            rintro e w3 ⟨rfl, hb3⟩
            have HB3 := Aside0.mk (bel_trans HB2.out (bel_trans (below_alloc (Below.refl _ w2) _) hb3))
            have HX3 := Aside0.mk (show w3.heap[w2.heap.size]? = some (.cells #[.bool true, .string key, .string value] 86 (0, 0)) from (hb3.block _ (by simp)).trans (heap_alloc_new w2 _))
            clear hb3
            have HAT3 := Aside0.mk (HAT.out.below HB3.out)
            have HC3 := Aside0.mk (Kd.C_below HC.out HB3.out)
            have hg3 : w3.cell? ⟨g, 2, none⟩ = some (.slice A cs.length c) := blk_cell HAT3.out 2
            by_cases h64 : cs.length = 64
            · have HI := Aside0.mk (show ins cs key value = (cs, 7) by
                unfold ins
                rw [if_pos hm, if_neg (by omega), if_pos (.inl (by rw [HE.out]; exact h64))])
              have h64' : ((cs.length : Int) == 64) = true := by simp; omega
              clear h64
              go_wp2
              go_ret
              rw [HI.out]
              exact ⟨rfl, HP.out.same HB.out HB3.out⟩
            · have h64' : ((cs.length : Int) == 64) = false := by simp; omega
              have H64 := Aside0.mk h64
              clear h64
              go_wp2_with fail
              refine (free_calls w3 g id lsn A c cs HAT3.out HC3.out HS.out).mono ?_
              rintro e w4 ⟨rfl, hb4⟩
              have HB4 := Aside0.mk (bel_trans HB3.out hb4)
              have HX4 := Aside0.mk ((hb4.block _ (blk_lt HX3.out)).trans HX3.out)
              clear hb4
              have HAT4 := Aside0.mk (HAT.out.below HB4.out)
              have HR4 := Aside0.mk (Kd.R_mono (Kd.R_below HR.out HB4.out) (fun k hk => (⟨.inl hk.1, hk.2⟩ : (ok k ∨ w.heap.size ≤ k) ∧ k ≠ g)))
              have HBw4 := Aside0.mk (below_then HB.out HB.out.size HB4.out)
              have hsz := HBw4.out.size
              have hg4 : w4.cell? ⟨g, 2, none⟩ = some (.slice A cs.length c) := blk_cell HAT4.out 2
              have hy0 := blk_cell HX4.out 0
              have hy1 := blk_cell HX4.out 1
              have hy2 := blk_cell HX4.out 2
              by_cases hroom : free cs < (csz (cel key value) : Int) + 4
              · have HI := Aside0.mk (show ins cs key value = (cs, 7) by
                  unfold ins insNeed
                  rw [if_pos hm, if_neg (by omega), if_pos (.inr (by rw [if_pos HE.out]; rw [csz_cel] at hroom; omega))])
                go_wp2
                go_ret
                rw [HI.out]
                exact ⟨rfl, HP.out.same HB.out HB4.out⟩
              · have HI := Aside0.mk (show ins cs key value = (cs ++ [cel key value], 0) by
                  unfold ins insAt insNeed
                  rw [if_pos hm, if_neg (by omega), if_neg (by rw [if_pos HE.out, HE.out]; rw [csz_cel] at hroom; have := H64.out; omega), if_pos HE.out])
                have hg4a : ∀ o, (w4.alloc o).cell? ⟨g, 2, none⟩ = some (.slice A cs.length c) := fun o => blk_cell (blk_alloc HAT4.out o) 2
                have hlen : (cs ++ [cel key value]).length = cs.length + 1 := by simp
                go_wp2_with fail
                go_region_law (refine R_append_drew kGCell (w0 := w0) (W := w4) w0.heap.size (by rfl) (.tmp 74) (.tmp 76) 44 86 (.agg #[(.bool false), (.string ⟨#[]⟩), (.string ⟨#[]⟩)]) 40 (by rfl) Try.underlying44 Rf.info86 rfl (by decide) (by omega) (.slice A cs.length c) cs (cel key value) [.bool true, .string key, .string value] (fun k => (ok k ∨ w.heap.size ≤ k) ∧ k ≠ g) (fun _ => False) (by rfl) (by rfl) (kGCell_mkM _ _ _ (cel key value)) (fun _ hk => hk.elim) ?hfr HR4.out HBw4.out hsz (by omega) ?_; (case hfr => intro k hk; exact ⟨.inr (by have := HB4.out.size; omega), by have := blk_lt HAT4.out; omega⟩); intro v1 w5 ho hb hg hat; obtain ⟨A1, c1, hv1⟩ := Kd.R_slice ho; rw [hlen] at hv1; rw [hv1]; rw [hv1] at ho; have HAT5 := Aside0.mk (blk_grown HAT4.out hg (Kd.R_ne HR4.out HAT4.out (by decide))); have hg5 : w5.cell? ⟨g, 2, none⟩ = some (.slice A cs.length c) := blk_cell HAT5.out 2; have hf5 := blk_frozen HAT5.out 2; have HO := Aside0.mk ho; have HG5 := Aside0.mk hg; have HB5 := Aside0.mk hb; clear ho hat hv1 hg hb)
                all_goals
                  go_wp2
                  go_ret
                  rw [HI.out]
                  refine ⟨rfl, IsPg.stored hlow (.inl hmine) HAT5.out HO.out, HB5.out.setCell hlow _, ?_⟩
                  exact ((Kept.of_grown HG5.out (Kept.of_below HB4.out ok) (fun k hk => .inl (HR.out.1 k hk).1)).setCell (.inl hmine) _)
          · obtain ⟨go, cap, ev, hgo, hgl, cells, hgc⟩ := Kd.R_form HR.out (by omega)
            obtain ⟨rfl, rfl⟩ : A = some ⟨go, 0, none⟩ ∧ c = cap := by injection ev with e1 e2 e3; exact ⟨e1, e3⟩
            clear ev
            obtain ⟨ad, ea, hx0, hx1, hx2⟩ := cell_at HC2.out (frs cs) (by omega)
            cases ea
            simp only [add_plain] at hx0 hx1 hx2
            rw [frs_free cs (by omega)] at hx0
            have hend' : frs cs < cs.length := by omega
            have hne : ((frs cs : Int) == (cs.length : Int)) = false := by simp; omega
            have hne' : (frs cs == cs.length) = false := by simp; omega
            go_wp2_with fail
            refine (size_calls (cel key value) _ hkz hvz).mono ?_
            rintro e w3 ⟨rfl, hb3⟩
            have HB3 := Aside0.mk (bel_trans HB2.out (bel_trans (below_alloc (Below.refl _ w2) _) hb3))
            have HX3 := Aside0.mk (show w3.heap[w2.heap.size]? = some (.cells #[.bool true, .string key, .string value] 86 (0, 0)) from (hb3.block _ (by simp)).trans (heap_alloc_new w2 _))
            clear hb3
            have HAT3 := Aside0.mk (HAT.out.below HB3.out)
            have HC3 := Aside0.mk (Kd.C_below HC.out HB3.out)
            have hg3 : w3.cell? ⟨g, 2, none⟩ = some (.slice (some ⟨go, 0, none⟩) cs.length c) := blk_cell HAT3.out 2
            have h64 : ((frs cs : Int) == 64) = false := by simp; omega
            go_wp2_with fail
            refine (free_calls w3 g id lsn (some ⟨go, 0, none⟩) c cs HAT3.out HC3.out HS.out).mono ?_
            rintro e w4 ⟨rfl, hb4⟩
            have HB4 := Aside0.mk (bel_trans HB3.out hb4)
            have HX4 := Aside0.mk ((hb4.block _ (blk_lt HX3.out)).trans HX3.out)
            clear hb4
            have HAT4 := Aside0.mk (HAT.out.below HB4.out)
            have HR4 := Aside0.mk (Kd.R_mono (Kd.R_below HR.out HB4.out) (fun k hk => (⟨.inl hk.1, hk.2⟩ : (ok k ∨ w.heap.size ≤ k) ∧ k ≠ g)))
            have HBw4 := Aside0.mk (below_then HB.out HB.out.size HB4.out)
            have hsz := HBw4.out.size
            have hg4 : w4.cell? ⟨g, 2, none⟩ = some (.slice (some ⟨go, 0, none⟩) cs.length c) := blk_cell HAT4.out 2
            have hy0 := blk_cell HX4.out 0
            have hy1 := blk_cell HX4.out 1
            have hy2 := blk_cell HX4.out 2
            by_cases hroom : free cs < (csz (cel key value) : Int)
            · have HI := Aside0.mk (show ins cs key value = (cs, 7) by
                unfold ins insNeed
                rw [if_pos hm, if_neg (by omega), if_pos (.inr (by rw [if_neg (by omega)]; rw [csz_cel] at hroom; omega))])
              go_wp2
              go_ret
              rw [HI.out]
              exact ⟨rfl, HP.out.same HB.out HB4.out⟩
            · obtain ⟨ad, ea, hz0, hz1, hz2⟩ := cell_at (Kd.R_reads' HR4.out).2.2 (frs cs) (by omega)
              cases ea
              simp only [add_plain] at hz0 hz1 hz2
              have hgc4 : w4.heap[go]? = some (.cells cells 86 (0, 0)) := (HB4.out.block go hgl).trans hgc
              have hf0 := blk_frozen hgc4 (frs cs * 3)
              have hf1 := blk_frozen hgc4 (frs cs * 3 + 1)
              have hf2 := blk_frozen hgc4 (frs cs * 3 + 2)
              go_wp2
              go_region
              all_goals
                go_wp2
                go_ret
                have HI : ins cs key value = (cs.set (frs cs) (cel key value), 0) := by
                  unfold ins insAt insNeed
                  rw [if_pos hm, if_neg (by omega), if_neg (by rw [if_neg (by omega)]; rw [csz_cel] at hroom; omega), if_neg (by omega)]
                rw [HI]
                have hrow := row_put HR4.out (frs cs) (by omega) (cel key value)
                refine ⟨rfl, ⟨hlow, .inl hmine, _, blk_drew (blk_grown HAT4.out hrow.2 (Kd.R_ne HR4.out HAT4.out (by decide))), Kd.R_drew hrow.1⟩, (HBw4.out.grown hrow.2 hsz (fun k hk => by injection hk with hk; omega)).drew, ?_⟩
                exact (Kept.of_grown hrow.2 (Kept.of_below HB4.out ok) (fun k hk => .inl (HR.out.1 k hk).1)).drew
  · have hm' : mayB key value = false := by simpa using hm
    have HI := Aside0.mk (show ins cs key value = (cs, 1) by unfold ins; rw [if_neg hm])
    go_enter Try.func30, Try.ntmps30
    go_wp2_with fail
    refine (may_calls _ _ _).mono ?_
    rintro e w1 ⟨rfl, hd1⟩
    rw [hm']
    go_wp2
    go_ret
    rw [HI.out]
    exact ⟨rfl, HP.out.same HB.out hd1.below⟩
end Go.Proofs.Ytidgfigfebkieaa
end
section
namespace Go.Proofs.Ytidgfigfebkieaa
open Go.RowKit Go.Proofs.YtidgfigfebkieaaW.PrintWords Go.Proofs.YtidgfigfebkieaaW.PrintLast Go.Proofs.YtidgfigfebkieaaW.PrintMore
open Rf
set_option linter.unusedVariables false
set_option linter.unusedSimpArgs false

/-- The third cell of an element is written. -/
theorem row_put2 {w : World} {base go n c : Nat} {ok : Nat → Prop} {cs : List SGCell} (h : Kd.R kGCell 86 w base ok (.slice (some ⟨go, 0, none⟩) n c) cs) (i : Nat) (hi : i < cs.length) (v : ByteArray) :
    Kd.R kGCell 86 (w.setCell ⟨go, i * 3 + 2, none⟩ (.string v)) base ok (.slice (some ⟨go, 0, none⟩) n c) (updAt cs i v) ∧
      w.grownBy (w.setCell ⟨go, i * 3 + 2, none⟩ (.string v)) (some go) := by
  have hn := (Kd.R_reads' h).1
  obtain ⟨ad, ea, hx0, hx1, hx2⟩ := cell_at (Kd.R_reads' h).2.2 i hi
  cases ea
  simp only [add_plain] at hx0 hx1 hx2
  have hs := Kd.R_seg (okp := fun _ => False) (seg := [.string v]) (j := 2) (c := [.bool (rd_TGCell cs i).f0, .string (rd_TGCell cs i).f1, .string (rd_TGCell cs i).f2]) (x' := ⟨(rd_TGCell cs i).f0, (rd_TGCell cs i).f1, v⟩) h (i : Int) (by omega) (by omega) rfl
    (fun j u hu => by
      rw [Int.toNat_natCast]
      match j, hu with
      | 0, hu => rw [← Option.some.inj hu]; exact hx0
      | 1, hu => rw [← Option.some.inj hu]; exact hx1
      | 2, hu => rw [← Option.some.inj hu]; exact hx2) (Nat.le_refl 3) (kGCell_mkM _ _ _ _) (fun _ hk => hk.elim)
  rw [Int.toNat_natCast] at hs
  exact hs

set_option maxHeartbeats 1000000 in
theorem update_calls (w0 w : World) (ok : Nat → Prop) (g : Nat) (id lsn : Int) (cs : List SGCell) (key value : ByteArray)
    (hB : Below w0.heap.size w0 w) (hp : IsPg w w0.heap.size ok g id lsn cs) (hS : Small cs) :
    Calls Try.prog 52 #[.pointer (some ⟨g, 0, none⟩), .string key, .string value] w fun e w' => e = .returned (.int .i64 (upd cs key value).2) ∧
      IsPg w' w0.heap.size (fun k => ok k ∨ w.heap.size ≤ k) g id lsn (upd cs key value).1 ∧ Below w0.heap.size w0 w' ∧ Kept w w' ok := by
  have HP := Aside0.mk hp
  obtain ⟨hlow, hmine, v, hat, hR⟩ := hp
  obtain ⟨A, c, rfl, hlc, hC⟩ := Kd.R_reads hR
  have HAT := Aside0.mk hat
  have HR := Aside0.mk hR
  have HC := Aside0.mk hC
  have HS := Aside0.mk hS
  have HB := Aside0.mk hB
  have hl := hS.1
  have hg2 : w.cell? ⟨g, 2, none⟩ = some (.slice A cs.length c) := blk_cell HAT.out 2
  clear hat hR hC hB hS
  by_cases hm : mayB key value = true
  · by_cases hf : fnd cs key < 0
    · have HI := Aside0.mk (show upd cs key value = (cs, 8) by unfold upd; rw [if_pos hm, if_pos hf])
      go_enter Try.func52, Try.ntmps52
      go_wp2_with fail
      refine (may_calls _ _ _).mono ?_
      rintro e w1 ⟨rfl, hd1⟩
      rw [hm]
      go_wp2_with fail
      refine (find_calls w1 g id lsn A c cs key (HAT.out.below hd1.below) (Kd.C_below HC.out hd1.below) (by omega)).mono ?_
      rintro e w2 ⟨rfl, hb2⟩
      have HB2 := Aside0.mk (bel_trans hd1.below hb2)
      go_wp2
      go_ret
      rw [HI.out]
      exact ⟨rfl, HP.out.same HB.out HB2.out⟩
    · have hfl := fnd_lt cs key
      obtain ⟨j, hj⟩ := Int.eq_ofNat_of_zero_le (show 0 ≤ fnd cs key by omega)
      have HJ := Aside0.mk hj
      rw [hj] at hfl hf
      obtain ⟨go, cap, ev, hgo, hgl, cells, hgc⟩ := Kd.R_form HR.out (by omega)
      obtain ⟨rfl, rfl⟩ : A = some ⟨go, 0, none⟩ ∧ c = cap := by injection ev with e1 e2 e3; exact ⟨e1, e3⟩
      clear ev hj
      have hjl : j < cs.length := by omega
      have hvz : value.size ≤ 32 := ((mayB_iff key value).1 hm).2.2
      have hoz : (rd_TGCell cs j).f2.size ≤ 1000 := (HS.out.2 _ (rd_mem cs j hjl)).2
      have htl := tot_le cs HS.out
      go_enter Try.func52, Try.ntmps52
      go_wp2_with fail
      refine (may_calls _ _ _).mono ?_
      rintro e w1 ⟨rfl, hd1⟩
      rw [hm]
      go_wp2_with fail
      refine (find_calls w1 g id lsn _ c cs key (HAT.out.below hd1.below) (Kd.C_below HC.out hd1.below) (by omega)).mono ?_
      rintro e w2 ⟨rfl, hb2⟩
      have HB2 := Aside0.mk (bel_trans hd1.below hb2)
      clear hd1 hb2
      rw [HJ.out]
      have HAT2 := Aside0.mk (HAT.out.below HB2.out)
      have HC2 := Aside0.mk (Kd.C_below HC.out HB2.out)
      have hg2' : w2.cell? ⟨g, 2, none⟩ = some (.slice (some ⟨go, 0, none⟩) cs.length c) := blk_cell HAT2.out 2
      obtain ⟨ad, ea, hz0, hz1, hz2⟩ := cell_at HC2.out j hjl
      cases ea
      simp only [add_plain] at hz0 hz1 hz2
      clear hz0 hz1
      have hwr : IntKind.i64.wrap ((value.size : Int) - ((rd_TGCell cs j).f2.size : Int)) = (value.size : Int) - ((rd_TGCell cs j).f2.size : Int) := i64w (by omega) (by omega)
      go_wp2_with fail
      go_region_held3 (fun w' => w'.cell? ⟨g, 2, none⟩ = some (.slice (some ⟨go, 0, none⟩) cs.length c) ∧ w'.cell? ⟨go, j * 3 + 2, none⟩ = some (.string (rd_TGCell cs j).f2)) (first | go_keep | (go_split_ands; exact ⟨pw_cell_below hb4 hg2', pw_cell_below hb4 hz2⟩))
        (first | (go_at_call 58; refine (free_calls _ g id lsn _ c cs (blk_drew HAT2.out) (Kd.C_below HC2.out (below_drew (Below.refl _ _))) HS.out).mono ?_; rintro e w4 ⟨rfl, hb4⟩))
      clear hwr
      have HB4 := Aside0.mk (bel_trans HB2.out (below_then (below_drew (Below.refl _ _)) (Nat.le_refl _) hb4))
      have HAT4 := Aside0.mk (HAT.out.below HB4.out)
      have HR4 := Aside0.mk (Kd.R_mono (Kd.R_below HR.out HB4.out) (fun k hk => (⟨.inl hk.1, hk.2⟩ : (ok k ∨ w.heap.size ≤ k) ∧ k ≠ g)))
      have HBw4 := Aside0.mk (below_then HB.out HB.out.size HB4.out)
      have hsz := HBw4.out.size
      have hg4 : w4.cell? ⟨g, 2, none⟩ = some (.slice (some ⟨go, 0, none⟩) cs.length c) := blk_cell HAT4.out 2
      have hgc4 : w4.heap[go]? = some (.cells cells 86 (0, 0)) := (HB4.out.block go hgl).trans hgc
      have hf2 := blk_frozen hgc4 (j * 3 + 2)
      obtain ⟨ad, ea, hq0, hq1, hq2⟩ := cell_at (Kd.R_reads' HR4.out).2.2 j hjl
      cases ea
      simp only [add_plain] at hq0 hq1 hq2
      clear hq0 hq1
      by_cases hroom : free cs < (value.size : Int) - ((rd_TGCell cs j).f2.size : Int)
      · have HI := Aside0.mk (show upd cs key value = (cs, 7) by
          unfold upd
          rw [if_pos hm, HJ.out, if_neg (by omega), if_pos hroom])
        go_wp2
        go_ret
        rw [HI.out]
        exact ⟨rfl, HP.out.same HB.out HB4.out⟩
      · have HI := Aside0.mk (show upd cs key value = (updAt cs j value, 0) by
          unfold upd
          rw [if_pos hm, HJ.out, if_neg (by omega), if_neg hroom, Int.toNat_natCast])
        go_wp2
        go_ret
        rw [HI.out]
        have hrow := row_put2 HR4.out j hjl value
        refine ⟨rfl, ⟨hlow, .inl hmine, _, blk_grown HAT4.out hrow.2 (Kd.R_ne HR4.out HAT4.out (by decide)), hrow.1⟩, HBw4.out.grown hrow.2 hsz (fun k hk => by injection hk with hk; omega), ?_⟩
        exact Kept.of_grown hrow.2 (Kept.of_below HB4.out ok) (fun k hk => .inl (HR.out.1 k hk).1)
  · have hm' : mayB key value = false := by simpa using hm
    have HI := Aside0.mk (show upd cs key value = (cs, 1) by unfold upd; rw [if_neg hm])
    go_enter Try.func52, Try.ntmps52
    go_wp2_with fail
    refine (may_calls _ _ _).mono ?_
    rintro e w1 ⟨rfl, hd1⟩
    rw [hm']
    go_wp2
    go_ret
    rw [HI.out]
    exact ⟨rfl, HP.out.same HB.out hd1.below⟩
end Go.Proofs.Ytidgfigfebkieaa
end
section
namespace Go.Proofs.Ytidgfigfebkieaa
open Go.RowKit Go.Proofs.YtidgfigfebkieaaW.PrintWords Go.Proofs.YtidgfigfebkieaaW.PrintLast Go.Proofs.YtidgfigfebkieaaW.PrintMore
open Rf
set_option linter.unusedVariables false
set_option linter.unusedSimpArgs false

/-! A row of cells as one list of values. -/
def cv (c : SGCell) : List Value := [.bool c.f0, .string c.f1, .string c.f2]
def flat (cs : List SGCell) : List Value := cs.flatMap cv
theorem flat_length (cs : List SGCell) : (flat cs).length = cs.length * 3 := by
  induction cs with
  | nil => rfl
  | cons c cs ih => simp only [flat, List.flatMap_cons, List.length_append, List.length_cons]; have : (List.flatMap cv cs).length = cs.length * 3 := ih; rw [this]; simp [cv]; omega
theorem flat_append (a b : List SGCell) : flat (a ++ b) = flat a ++ flat b := by simp [flat]
theorem flat_take (cs : List SGCell) (k : Nat) (hk : k ≤ cs.length) : flat (cs.take k) = (flat cs).take (k * 3) := by
  have h : flat cs = flat (cs.take k) ++ flat (cs.drop k) := by rw [← flat_append, List.take_append_drop]
  rw [h, List.take_left' (by rw [flat_length, List.length_take]; congr 1; omega)]
theorem flat_drop (cs : List SGCell) (k : Nat) (hk : k ≤ cs.length) : flat (cs.drop k) = (flat cs).drop (k * 3) := by
  have h : flat cs = flat (cs.take k) ++ flat (cs.drop k) := by rw [← flat_append, List.take_append_drop]
  rw [h, List.drop_left' (by rw [flat_length, List.length_take]; congr 1; omega)]
theorem flat_one (cs : List SGCell) : ∀ u ∈ flat cs, u.oneCell' = true := by
  intro u hu
  simp only [flat, List.mem_flatMap] at hu
  obtain ⟨c, _, hc⟩ := hu
  simp only [cv, List.mem_cons, List.not_mem_nil, or_false] at hc
  rcases hc with rfl | rfl | rfl <;> rfl
theorem reps_flat {R : SGCell → List Value → Prop} (hR : ∀ p c, R p c → c = cv p) (cs : List SGCell) (xs : List Value) (h : Reps R 3 cs xs) : xs = flat cs := by
  induction cs generalizing xs with
  | nil => have := h.1; simp at this; subst this; rfl
  | cons c cs ih =>
    have h0 := hR _ _ (h.2 0 c rfl)
    simp only [Nat.zero_mul, List.drop_zero] at h0
    have hl := h.1
    simp only [List.length_cons] at hl
    have h1 : Reps R 3 cs (xs.drop 3) := by
      refine ⟨by rw [List.length_drop]; omega, fun j p hj => ?_⟩
      have := h.2 (j + 1) p hj
      rw [List.drop_drop]
      rw [Nat.add_mul, Nat.add_comm] at this
      exact this
    rw [← List.take_append_drop 3 xs, h0, ih _ h1]
    rfl
theorem flat_reps {R : SGCell → List Value → Prop} (hR : ∀ p, R p (cv p)) (cs : List SGCell) : Reps R 3 cs (flat cs) := by
  refine ⟨flat_length cs, fun j p hj => ?_⟩
  obtain ⟨hl, hp⟩ := List.getElem?_eq_some_iff.1 hj
  rw [← flat_drop cs j (by omega), List.drop_eq_getElem_cons hl]
  show R p ((cv cs[j] ++ flat (cs.drop (j + 1))).take 3)
  rw [hp]
  exact hR p
theorem R_flat {e : TypeId} {w : World} {base : Nat} {ok : Nat → Prop} {v : Value} {cs : List SGCell} (h : Kd.R kGCell e w base ok v cs) : w.ownsRow base e 3 v cs.length (flat cs) := by
  obtain ⟨_, inner, ho, hr⟩ := h
  have := reps_flat (fun p c hc => kGCell_openM hc) cs inner hr
  subst this
  exact ho
theorem R_of_flat {e : TypeId} {w : World} {base : Nat} {ok : Nat → Prop} {v : Value} {cs : List SGCell} (hok : ∀ k, v.ownBlock = some k → ok k) (h : w.ownsRow base e 3 v cs.length (flat cs)) : Kd.R kGCell e w base ok v cs :=
  ⟨hok, flat cs, h, flat_reps (fun p => kGCell_mkM _ _ _ p) cs⟩

/-- The elements behind j go one to the front. -/
theorem row_del {w : World} {base go n c : Nat} {ok : Nat → Prop} {cs : List SGCell} (h : Kd.R kGCell 86 w base ok (.slice (some ⟨go, 0, none⟩) n c) cs) (j : Nat) (hj : j < cs.length) :
    Kd.R kGCell 86 (w.setCells go (j * 3) (flat (cs.drop (j + 1)))) base ok (.slice (some ⟨go, 0, none⟩) (n - 1) c) (delAt cs j) ∧
      w.grownBy (w.setCells go (j * 3) (flat (cs.drop (j + 1)))) (some go) ∧
      (∀ q u, (flat (cs.drop (j + 1)))[q]? = some u → w.cell? ⟨go, (j + 1) * 3 + q, none⟩ = some u) ∧
      (∀ q, q < (flat (cs.drop (j + 1))).length → (w.cell? ⟨go, j * 3 + q, none⟩).isSome = true ∧ w.frozen? ⟨go, j * 3 + q, none⟩ = false) := by
  have hn := (Kd.R_reads' h).1
  have hf := R_flat h
  have hok := h.1
  obtain ⟨hlen, hrest⟩ := hf
  rcases hrest with ⟨hv, _⟩ | ⟨g', cap, cur, hv, hb, hh, hnc, hcm, hcs, ht⟩
  · cases hv
  injection hv with ha hnn hc
  injection ha with ha
  injection ha with hg
  subst hg; subst hc
  have hdl : (delAt cs j).length = n - 1 := by simp [delAt]; omega
  have hml : (flat (cs.drop (j + 1))).length = (n - (j + 1)) * 3 := by rw [flat_length, List.length_drop, hn]
  have hcs' : cur.toList.length = c * 3 := by rw [Array.length_toList, hcs]
  have hfit : j * 3 + (flat (cs.drop (j + 1))).length ≤ cur.size := by
    rw [hml, hcs]
    have : n * 3 ≤ c * 3 := Nat.mul_le_mul_right _ (by omega)
    omega
  have hcell : ∀ i, i < n * 3 → w.cell? ⟨go, i, none⟩ = (flat cs)[i]? := by
    intro i hi
    rw [cell_of_row w go i cur 86 (0, 0) hh, ← ht, List.getElem?_take, if_pos (by rw [← hn]; omega)]
    simp
  obtain ⟨cur', h3, h4, h5⟩ := setCells_row (flat (cs.drop (j + 1))) (j * 3) w cur hh hfit
  obtain ⟨s1, s2, s3, s4⟩ := setCells_same go (flat (cs.drop (j + 1))) (j * 3) w
  refine ⟨R_of_flat (fun k hk => hok k hk) ⟨by rw [flat_length], .inr ⟨go, c, cur', by rw [hdl], hb, h3, by omega, hcm, by rw [h4, hcs], ?_⟩⟩,
    ⟨s1, s2, s3, by rw [s4]; exact Nat.le_refl _, fun k _ hk => setCells_far _ _ k (fun he => hk (by rw [he]))⟩, ?_, ?_⟩
  · rw [h5, hdl]
    have e1 : cur.toList.take (j * 3) = flat (cs.take j) := by
      rw [flat_take cs j (by omega), ← ht, List.take_take]
      congr 1
      have : j * 3 ≤ cs.length * 3 := Nat.mul_le_mul_right _ (by omega)
      omega
    rw [e1, show delAt cs j = cs.take j ++ cs.drop (j + 1) from rfl, flat_append]
    rw [List.take_left' (by rw [List.length_append, hml, flat_length, List.length_take]; omega)]
  · intro q u hu
    have hq : q < (flat (cs.drop (j + 1))).length := (List.getElem?_eq_some_iff.1 hu).1
    rw [hcell _ (by rw [hml] at hq; omega)]
    rw [flat_drop cs (j + 1) (by omega), List.getElem?_drop] at hu
    exact hu
  · intro q hq
    refine ⟨?_, blk_frozen hh _⟩
    rw [hcell _ (by rw [hml] at hq; omega), List.getElem?_eq_getElem (by rw [flat_length]; rw [hml] at hq; omega)]
    rfl

set_option maxHeartbeats 1000000 in
theorem delete_calls (w0 w : World) (ok : Nat → Prop) (g : Nat) (id lsn : Int) (cs : List SGCell) (key : ByteArray)
    (hB : Below w0.heap.size w0 w) (hp : IsPg w w0.heap.size ok g id lsn cs) (hl : cs.length ≤ 1000) :
    Calls Try.prog 55 #[.pointer (some ⟨g, 0, none⟩), .string key] w fun e w' => e = .returned (.int .i64 (del cs key).2) ∧
      IsPg w' w0.heap.size (fun k => ok k ∨ w.heap.size ≤ k) g id lsn (del cs key).1 ∧ Below w0.heap.size w0 w' ∧ Kept w w' ok := by
  have HP := Aside0.mk hp
  obtain ⟨hlow, hmine, v, hat, hR⟩ := hp
  obtain ⟨A, c, rfl, hlc, hC⟩ := Kd.R_reads hR
  have HAT := Aside0.mk hat
  have HR := Aside0.mk hR
  have HC := Aside0.mk hC
  have HB := Aside0.mk hB
  have hg2 : w.cell? ⟨g, 2, none⟩ = some (.slice A cs.length c) := blk_cell HAT.out 2
  clear hat hR hC hB
  by_cases hf : fnd cs key < 0
  · have HI := Aside0.mk (show del cs key = (cs, 8) by unfold del; rw [if_pos hf])
    go_enter Try.func55, Try.ntmps55
    go_wp2_with fail
    refine (find_calls w g id lsn A c cs key HAT.out HC.out (by omega)).mono ?_
    rintro e w2 ⟨rfl, hb2⟩
    go_wp2
    go_ret
    rw [HI.out]
    exact ⟨rfl, HP.out.same HB.out hb2⟩
  · have hfl := fnd_lt cs key
    obtain ⟨j, hj⟩ := Int.eq_ofNat_of_zero_le (show 0 ≤ fnd cs key by omega)
    have HJ := Aside0.mk hj
    rw [hj] at hfl hf
    obtain ⟨go, cap, ev, hgo, hgl, cells, hgc⟩ := Kd.R_form HR.out (by omega)
    obtain ⟨rfl, rfl⟩ : A = some ⟨go, 0, none⟩ ∧ c = cap := by injection ev with e1 e2 e3; exact ⟨e1, e3⟩
    clear ev hj
    have hjl : j < cs.length := by omega
    obtain ⟨i0, hi0, hz0, hz1, hz2⟩ := info_parts Rf.info86
    have HI0 := Aside0.mk hi0
    have HZ1 := Aside0.mk hz1
    clear hi0 hz0 hz1 hz2
    have hwr : IntKind.i64.wrap ((j : Int) + 1) = (j : Int) + 1 := i64w (by omega) (by omega)
    have hp0 : (0 : Int) ≤ (j : Int) + 1 := by omega
    have hp1 : (j : Int) + 1 ≤ (cs.length : Int) := by omega
    have hp2 : ((j : Int) + 1).toNat = j + 1 := by omega
    have hjc : j ≤ c := by omega
    go_enter Try.func55, Try.ntmps55
    go_wp2_with fail
    refine (find_calls w g id lsn _ c cs key HAT.out HC.out (by omega)).mono ?_
    rintro e w2 ⟨rfl, hb2⟩
    have HB2 := Aside0.mk hb2
    clear hb2
    rw [HJ.out]
    have HAT2 := Aside0.mk (HAT.out.below HB2.out)
    have hg2' : w2.cell? ⟨g, 2, none⟩ = some (.slice (some ⟨go, 0, none⟩) cs.length c) := blk_cell HAT2.out 2
    have HR2 := Aside0.mk (Kd.R_drew (Kd.R_mono (Kd.R_below HR.out HB2.out) (fun k hk => (⟨.inl hk.1, hk.2⟩ : (ok k ∨ w.heap.size ≤ k) ∧ k ≠ g))))
    obtain ⟨hrow, hgr, hnews, hspare⟩ := row_del HR2.out j hjl
    have HROW := Aside0.mk hrow
    have HGR := Aside0.mk hgr
    have HSP := Aside0.mk hspare
    obtain ⟨A2, hA2, hcells⟩ : ∃ A2 : Addr, (if c = j + 1 then some (⟨go, 0, none⟩ : Addr) else some ⟨go, (j + 1) * 3, none⟩) = some A2 ∧ ∀ q u, (flat (cs.drop (j + 1)))[q]? = some u → w2.drew.cell? (A2.add q) = some u := by
      by_cases hcj : c = j + 1
      · exact ⟨_, by rw [if_pos hcj], fun q u hu => by rw [List.drop_eq_nil_of_le (by omega)] at hu; simp [flat] at hu⟩
      · exact ⟨_, by rw [if_neg hcj], fun q u hu => by
          have := hnews q u hu
          unfold Addr.add
          split
          · rename_i hq; subst hq; simpa using this
          · exact this⟩
    have HCE := Aside0.mk hcells
    have HONE := Aside0.mk (flat_one (cs.drop (j + 1)))
    have HLEN := Aside0.mk (show (flat (cs.drop (j + 1))).length = (cs.length - (j + 1)) * 3 by rw [flat_length, List.length_drop])
    obtain ⟨w5, hw5⟩ : ∃ w5, w2.drew.setCells go (j * 3) (flat (cs.drop (j + 1))) = w5 := ⟨_, rfl⟩
    rw [hw5] at hrow hgr
    clear HROW HGR
    have HROW := Aside0.mk hrow
    have HGR := Aside0.mk hgr
    have HW5 := Aside0.mk hw5
    have HAT5 := Aside0.mk (blk_grown (blk_drew HAT2.out) hgr (Kd.R_ne HR2.out (blk_drew HAT2.out) (by decide)))
    have hg5 : w5.cell? ⟨g, 2, none⟩ = some (.slice (some ⟨go, 0, none⟩) cs.length c) := blk_cell HAT5.out 2
    have hf5 := blk_frozen HAT5.out 2
    clear hrow hgr hw5 hnews hspare hcells
    have hroom : j + (cs.length - (j + 1)) ≤ c := by omega
    go_wp2_with fail
    go_region_law (refine step_append_room rfl (.tmp 20) (.tmp 27) 44 rfl 86 i0 3 Try.underlying44 HI0.out HZ1.out go 0 j c (by simp [Act.eval, Act.put]) A2 (cs.length - (j + 1)) (c - (j + 1)) (flat (cs.drop (j + 1))) (by simp [Act.eval, Act.put, hA2]) HLEN.out HCE.out HONE.out hroom (by rw [Nat.zero_add]; exact HSP.out) ?_; rw [Nat.zero_add, HW5.out])
    all_goals
      have hm : j + (cs.length - (j + 1)) = (delAt cs j).length := by simp [delAt]; omega
      have hm2 : cs.length - 1 = (delAt cs j).length := by simp [delAt]; omega
      rw [hm]
      obtain ⟨w6, hw6⟩ : ∃ w6, w5.setCell ⟨g, 2, none⟩ (.slice (some ⟨go, 0, none⟩) (delAt cs j).length c) = w6 := ⟨_, rfl⟩
      rw [hw6]
      have hB5 : Below w0.heap.size w0 w5 := (below_drew (below_then HB.out HB.out.size HB2.out)).grown HGR.out (below_then HB.out HB.out.size HB2.out).size (fun k hk => by injection hk with hk; omega)
      have HAT6 : Aside0 (PgAt w6 g id lsn (.slice (some ⟨go, 0, none⟩) (delAt cs j).length c)) := ⟨by rw [← hw6]; exact blk_set HAT5.out 2 _⟩
      have HR6 : Aside0 (Kd.R kGCell 86 w6 w0.heap.size (fun k => (ok k ∨ w.heap.size ≤ k) ∧ k ≠ g) (.slice (some ⟨go, 0, none⟩) (delAt cs j).length c) (delAt cs j)) := ⟨by rw [← hw6, ← hm2]; exact Kd.R_far (p := ⟨g, 2, none⟩) HROW.out (fun _ hk => hk.2) _⟩
      have HB6 : Aside0 (Below w0.heap.size w0 w6) := ⟨by rw [← hw6]; exact hB5.setCell hlow _⟩
      have HK6 : Aside0 (Kept w w6 ok) := ⟨by rw [← hw6]; exact (Kept.of_grown HGR.out (Kept.of_below HB2.out ok).drew (fun k hk => .inl (HR.out.1 k hk).1)).setCell (.inl hmine) _⟩
      have HD := Aside0.mk (show del cs key = (trim (delAt cs j), 0) by unfold del; rw [HJ.out, if_neg (by omega), Int.toNat_natCast])
      have hdl : (delAt cs j).length ≤ 1000 := by omega
      have hg6 : w6.cell? ⟨g, 2, none⟩ = some (.slice (some ⟨go, 0, none⟩) (delAt cs j).length c) := blk_cell HAT6.out 2
      clear HW5 HAT5 hg5 hf5 HROW HGR hw6 hm hm2 hB5 HCE HONE HLEN HSP hA2 hroom
      go_wp2
      go_loopg [6] (delAt cs j).length (fun gk v6 wr => ∃ cs' : List SGCell, v6 = .int .i64 cs'.length ∧ cs'.length ≤ 1000 ∧ Aside0 (cs'.length = gk) ∧ Aside0 (trim (delAt cs j) = trimN gk cs') ∧ Aside0 (PgAt wr g id lsn (.slice (some ⟨go, 0, none⟩) cs'.length c)) ∧ Aside0 (Kd.R kGCell 86 wr w0.heap.size (fun k => (ok k ∨ w.heap.size ≤ k) ∧ k ≠ g) (.slice (some ⟨go, 0, none⟩) cs'.length c) cs') ∧ Aside0 (Below w0.heap.size w0 wr) ∧ Aside0 (Kept w wr ok))
      case atStart => exact ⟨_, rfl, hdl, ⟨rfl⟩, ⟨rfl⟩, HAT6, HR6, HB6, HK6⟩
      case round =>
        clear HAT6 HR6 HB6 HK6 hg6
        obtain ⟨cs', rfl, hl', Hn, HT, HATr, HRr, HBr, HKr⟩ := hrel
        have hgr : wr.cell? ⟨g, 2, none⟩ = some (.slice (some ⟨go, 0, none⟩) cs'.length c) := blk_cell HATr.out 2
        have hfr := blk_frozen HATr.out 2
        by_cases hz : cs'.length = 0
        · have HF := Aside0.mk (show del cs key = (cs', 0) by rw [HD.out, HT.out, trimN_zero _ _ hz])
          rw [hz]
          go_wp2
          go_ret
          rw [HF.out]
          exact ⟨rfl, ⟨hlow, .inl hmine, _, HATr.out, HRr.out⟩, HBr.out, HKr.out⟩
        · obtain ⟨m, hm⟩ : ∃ m, cs'.length = m + 1 := ⟨cs'.length - 1, by omega⟩
          have HM := Aside0.mk hm
          have hmc : m < c := by have := (Kd.R_reads' HRr.out).2.1; omega
          obtain ⟨ad, ea, hq0, hq1, hq2⟩ := cell_at (Kd.R_reads' HRr.out).2.2 m (by omega)
          cases ea
          simp only [add_plain] at hq0 hq1 hq2
          clear hq1 hq2
          rw [hm] at hgr hl'
          rw [hm]
          clear hz hm
          cases hu : (rd_TGCell cs' m).f0 with
          | true =>
            rw [hu] at hq0
            have HF := Aside0.mk (show del cs key = (cs', 0) by rw [HD.out, HT.out, trimN_used _ _ m HM.out hu])
            clear hu
            go_wp2
            go_ret
            rw [HF.out]
            exact ⟨rfl, ⟨hlow, .inl hmine, _, HATr.out, HRr.out⟩, HBr.out, HKr.out⟩
          | false =>
            rw [hu] at hq0
            have HU := Aside0.mk hu
            clear hu
            go_wp2
            go_roundg (gk - 1)
            case measure => have := Hn.out; have := HM.out; omega
            case rel =>
              have htl : (cs'.take m).length = m := by rw [List.length_take]; have := HM.out; omega
              refine ⟨cs'.take m, by rw [htl], by omega, ⟨by have := Hn.out; have := HM.out; omega⟩, ⟨?_⟩, ⟨?_⟩, ⟨?_⟩, ⟨HBr.out.setCell hlow _⟩, ⟨HKr.out.setCell (.inl hmine) _⟩⟩
              · rw [HT.out, show gk = (gk - 1) + 1 by have := Hn.out; have := HM.out; omega, trimN_free _ _ m HM.out HU.out, Nat.add_sub_cancel]
              · rw [htl]; exact blk_set HATr.out 2 _
              · rw [htl]; exact Kd.R_far (p := ⟨g, 2, none⟩) (Kd.R_take HRr.out (by have := HM.out; omega)) (fun _ hk => hk.2) _
end Go.Proofs.Ytidgfigfebkieaa
end
section
namespace Go.Proofs.Ytidgfigfebkieaa
open Go.RowKit Go.Proofs.YtidgfigfebkieaaW.PrintWords Go.Proofs.YtidgfigfebkieaaW.PrintLast Go.Proofs.YtidgfigfebkieaaW.PrintMore
open Rf
set_option linter.unusedVariables false
set_option linter.unusedSimpArgs false

theorem R_empty (w : World) (base e : Nat) (hb : base ≤ w.heap.size) (ok : Nat → Prop) (hok : ok w.heap.size) :
    Kd.R kGCell e (w.alloc (.cells #[] e)) base ok (.slice (some ⟨w.heap.size, 0, none⟩) 0 0) [] := by
  refine R_of_flat (fun k hk => ?_) ?_
  · have : w.heap.size = k := by simpa [Value.ownBlock] using hk
    rw [← this]; exact hok
  · exact World.ownsRow_lit (base := base) (e := e) (size := 3) w #[] 0 hb (by simp [maxLen]) rfl

theorem new_bad (id : Int) (w : World) (h : id < 0 ∨ 16 ≤ id) :
    Calls Try.prog 28 #[.int .i64 id] w fun e w' => e = .returned (.tuple #[.pointer none, .int .i64 1]) ∧ w = w' := by
  by_cases h0 : id < 0
  · go_enter Try.func28, Try.ntmps28
    go_wp2
    go_ret2
    exact ⟨rfl, rfl⟩
  · have h1 : 16 ≤ id := by omega
    go_enter Try.func28, Try.ntmps28
    go_wp2
    go_ret2
    exact ⟨rfl, rfl⟩
theorem new_raw (id : Int) (w : World) (h0 : 0 ≤ id) (h1 : id < 16) :
    Calls Try.prog 28 #[.int .i64 id] w fun e w' => e = .returned (.tuple #[.pointer (some ⟨w.heap.size, 0, none⟩), .int .i64 0]) ∧ w.alloc (.cells #[.int .i64 id, .int .u64 0, .slice none 0 0] 84) = w' := by
  go_enter Try.func28, Try.ntmps28
  go_wp2
  go_ret2
  exact ⟨rfl, rfl⟩
theorem new_ok (id : Int) (w : World) (h0 : 0 ≤ id) (h1 : id < 16) :
    Calls Try.prog 28 #[.int .i64 id] w fun e w' => e = .returned (.tuple #[.pointer (some ⟨w.heap.size, 0, none⟩), .int .i64 0]) ∧
      (∀ base, base ≤ w.heap.size → IsPg w' base (fun k => w.heap.size ≤ k) w.heap.size id 0 []) ∧ Below w.heap.size w w' := by
  refine (new_raw id w h0 h1).mono ?_
  rintro e w' ⟨rfl, rfl⟩
  exact ⟨rfl, fun base hb => ⟨hb, Nat.le_refl _, _, heap_alloc_new w _, Kd.R_nil _ _ _ _ _⟩, below_alloc (Below.refl _ _) _⟩

set_option maxHeartbeats 400000 in
theorem cells_calls (w : World) (g : Nat) (id lsn : Int) (A : Option Addr) (c : Nat) (cs : List SGCell)
    (hp : PgAt w g id lsn (.slice A cs.length c)) (hC : Kd.C kGCell w A cs.length cs) (hl : cs.length ≤ 1000) :
    Calls Try.prog 44 #[.pointer (some ⟨g, 0, none⟩)] w fun e w' => ∃ v, e = .returned v ∧ Kd.R kGCell 86 w' w.heap.size (fun k => w.heap.size ≤ k) v cs ∧ Below w.heap.size w w' := by
  have hg2 : ∀ o, (w.alloc o).cell? ⟨g, 2, none⟩ = some (.slice A cs.length c) := fun o => blk_cell (blk_alloc hp o) 2
  have HC := Aside0.mk hC
  clear hC hp
  go_enter Try.func44, Try.ntmps44
  go_wp2_with (at_builtin; refine Kd.R_append_rows kGCell (w0 := w) w.heap.size rfl (.tmp 5) (.tmp 9) 44 86 (.agg #[(.bool false), (.string ⟨#[]⟩), (.string ⟨#[]⟩)]) 40 rfl Try.underlying44 Rf.info86 rfl (by decide) (by omega) (.slice (some ⟨w.heap.size, 0, none⟩) 0 0) [] cs A cs.length c (fun k => w.heap.size ≤ k) (fun _ => False) rfl rfl (R_empty w _ _ (Nat.le_refl _) _ (Nat.le_refl _)) (Kd.C_below HC.out (below_alloc (Below.refl _ _) _)) (fun x cs h => by rw [kGCell_open h]; exact kGCell_mkM _ _ _ x) (fun _ hk => hk.elim) (fun k hk => by simp at hk; omega) (below_alloc (Below.refl _ _) _) (by simp) (by simp; omega) ?_; intro v1 w1 ho hb hg hat)
  go_ret
  exact ⟨_, rfl, ho, hb⟩

set_option maxHeartbeats 1000000 in
theorem clone_calls (w0 w : World) (g : Nat) (id lsn : Int) (A : Option Addr) (c : Nat) (cs : List SGCell) (hB : Below w0.heap.size w0 w)
    (hp : PgAt w g id lsn (.slice A cs.length c)) (hC : Kd.C kGCell w A cs.length cs) (hl : cs.length ≤ 1000) :
    Calls Try.prog 35 #[.pointer (some ⟨g, 0, none⟩)] w fun e w' => ∃ g', e = .returned (.pointer (some ⟨g', 0, none⟩)) ∧ IsPg w' w0.heap.size (fun k => w.heap.size ≤ k) g' id lsn cs ∧ Below w.heap.size w w' := by
  have HAT := Aside0.mk hp
  have HB := Aside0.mk hB
  have HC := Aside0.mk hC
  have hg0 : w.cell? ⟨g, 0, none⟩ = some (.int .i64 id) := blk_cell hp 0
  have hg1 : w.cell? ⟨g, 1, none⟩ = some (.int .u64 lsn) := blk_cell hp 1
  have hg2 : w.cell? ⟨g, 2, none⟩ = some (.slice A cs.length c) := blk_cell hp 2
  have ha0 : ∀ o, (w.alloc o).cell? ⟨g, 0, none⟩ = some (.int .i64 id) := fun o => blk_cell (blk_alloc hp o) 0
  have ha1 : ∀ o, (w.alloc o).cell? ⟨g, 1, none⟩ = some (.int .u64 lsn) := fun o => blk_cell (blk_alloc hp o) 1
  have ha2 : ∀ o, (w.alloc o).cell? ⟨g, 2, none⟩ = some (.slice A cs.length c) := fun o => blk_cell (blk_alloc hp o) 2
  have hsz := hB.size
  clear hC hp hB
  go_enter Try.func35, Try.ntmps35
  go_wp2_with fail
  go_region_held3 (fun w' => w'.cell? ⟨g, 0, none⟩ = some (.int .i64 id) ∧ w'.cell? ⟨g, 1, none⟩ = some (.int .u64 lsn) ∧ w'.cell? ⟨g, 2, none⟩ = some (.slice A cs.length c)) (go_keep) ((refine Kd.R_append_rows_step kGCell (w0 := w) w.heap.size (by rfl) (.tmp 13) (.tmp 17) 44 86 (.agg #[(.bool false), (.string ⟨#[]⟩), (.string ⟨#[]⟩)]) 40 (by rfl) Try.underlying44 Rf.info86 rfl (by decide) (by omega) (.slice (some ⟨w.heap.size, 0, none⟩) 0 0) [] cs A cs.length c (fun k => w.heap.size ≤ k) (fun _ => False) (by rfl) (by rfl) (Kd.R_drew (R_empty w _ _ (Nat.le_refl _) _ (Nat.le_refl _))) (Kd.C_below HC.out (below_drew (below_alloc (Below.refl _ _) _))) (fun x cs h => by rw [kGCell_open h]; exact kGCell_mkM _ _ _ x) (fun _ hk => hk.elim) (fun k hk => by simp at hk; omega) (below_drew (below_alloc (Below.refl _ _) _)) (by simp) (by simp; omega) ?_; intro v1 w1 ho hb hg hat; rw [List.nil_append] at ho; obtain ⟨A1, c1, hv1⟩ := Kd.R_slice ho; rw [hv1]; rw [hv1] at ho; have HAT1 := Aside0.mk (HAT.out.below hb); have q0 := blk_cell HAT1.out 0; have q1 := blk_cell HAT1.out 1; have q2 := blk_cell HAT1.out 2; have HO := Aside0.mk ho; have HBB := Aside0.mk hb; clear ho hb hg hat hv1))
  all_goals
    go_wp2
    go_ret
    refine ⟨_, rfl, ⟨by have := HBB.out.size; omega, HBB.out.size, _, heap_alloc_new w1 _, ?_⟩, below_alloc HBB.out _⟩
    exact Kd.R_lower (Kd.R_mono (Kd.R_alloc (Kd.R_bound HO.out) _) (fun k hk => ⟨hk.1, by have := hk.2.2.1; omega⟩)) hsz
end Go.Proofs.Ytidgfigfebkieaa
end
section
namespace Go.Proofs.Ytidgfigfebkieaa
open Go.RowKit Go.Proofs.YtidgfigfebkieaaW.PrintWords Go.Proofs.YtidgfigfebkieaaW.PrintLast Go.Proofs.YtidgfigfebkieaaW.PrintMore
open Rf
set_option linter.unusedVariables false

theorem tot_set (cs : List SGCell) (i : Nat) (h : i < cs.length) (c : SGCell) : tot (cs.set i c) + csz cs[i] = tot cs + csz c := by
  induction cs generalizing i with
  | nil => simp at h
  | cons a r ih =>
    cases i with
    | zero => simp only [List.set_cons_zero, tot_cons, List.getElem_cons_zero]; omega
    | succ i =>
      have := ih i (by simpa using h)
      simp only [List.set_cons_succ, tot_cons, List.getElem_cons_succ]; omega
theorem fndN_none (key : ByteArray) (cs : List SGCell) (i : Nat) (h : fndN key cs i < 0) : ∀ c ∈ cs, hit key c = false := by
  induction cs generalizing i with
  | nil => simp
  | cons c r ih =>
    unfold fndN at h
    split at h
    · omega
    · rename_i hc
      intro x hx
      rcases List.mem_cons.1 hx with rfl | hx
      · simpa using hc
      · exact ih (i + 1) h x hx
theorem fnd_none (cs : List SGCell) (key : ByteArray) (h : fnd cs key < 0) (c : SGCell) (hc : c ∈ cs) (hu : c.f0 = true) : c.f1 ≠ key := by
  have := fndN_none key cs 0 h c hc
  unfold hit at this
  rw [hu, beq_toList] at this
  simpa using this
theorem fndN_hit (key : ByteArray) (cs : List SGCell) (i : Nat) (h : 0 ≤ fndN key cs i) : ∃ j, ∃ hj : j < cs.length, fndN key cs i = ((i + j : Nat) : Int) ∧ hit key cs[j] = true := by
  induction cs generalizing i with
  | nil => simp [fndN] at h
  | cons c r ih =>
    unfold fndN at h ⊢
    split
    · rename_i hc
      exact ⟨0, by simp, by simp, by simpa using hc⟩
    · rename_i hc
      rw [if_neg hc] at h
      obtain ⟨j, hj, e, hh⟩ := ih (i + 1) h
      exact ⟨j + 1, by simp; omega, by rw [e]; omega, by simpa using hh⟩
theorem fnd_hit (cs : List SGCell) (key : ByteArray) (h : 0 ≤ fnd cs key) : ∃ j, ∃ hj : j < cs.length, fnd cs key = (j : Int) ∧ cs[j].f0 = true ∧ cs[j].f1 = key := by
  obtain ⟨j, hj, e, hh⟩ := fndN_hit key cs 0 h
  refine ⟨j, hj, by rw [fnd, e]; simp, ?_⟩
  unfold hit at hh
  rw [beq_toList] at hh
  simpa using hh

theorem insAt_free (cs : List SGCell) (hz : ∀ c ∈ cs, c.f0 = false → c = zGCell) (key value : ByteArray) : free (insAt cs (cel key value)) = free cs - insNeed cs key value := by
  unfold insAt insNeed free
  have hle := frs_le cs
  split
  · rw [tot_append, tot_cons, tot_nil, csz_cel, List.length_append, List.length_singleton]; omega
  · have hlt : frs cs < cs.length := by omega
    have h := tot_set cs (frs cs) hlt (cel key value)
    have hf := frs_free cs hlt
    rw [rd_get cs _ hlt] at hf
    have h0 : csz cs[frs cs] = 0 := by unfold csz; rw [if_neg (by rw [hf]; simp)]
    rw [csz_cel] at h
    rw [List.length_set]; omega
theorem updAt_free (cs : List SGCell) (i : Nat) (hi : i < cs.length) (hu : cs[i].f0 = true) (value : ByteArray) : free (updAt cs i value) = free cs - ((value.size : Int) - (cs[i].f2.size : Int)) := by
  unfold updAt free
  have h := tot_set cs i hi ⟨(rd_TGCell cs i).f0, (rd_TGCell cs i).f1, value⟩
  rw [rd_get cs i hi] at h ⊢
  have h1 : csz cs[i] = 1 + cs[i].f1.size + cs[i].f2.size := by unfold csz; rw [if_pos hu]
  have h2 : csz ⟨cs[i].f0, cs[i].f1, value⟩ = 1 + cs[i].f1.size + value.size := by unfold csz; rw [if_pos (by simpa using hu)]
  rw [List.length_set]; omega

theorem Valid.getLast {cs : List SGCell} (h : Valid cs) (hn : 0 < cs.length) : (cs[cs.length - 1]'(by omega)).f0 = true :=
  h.last _ (by rw [List.getLast?_eq_getElem?, List.getElem?_eq_getElem])
theorem pw_get {cs : List SGCell} (h : cs.Pairwise fun a b => a.f0 = true → b.f0 = true → a.f1 ≠ b.f1) (i j : Nat) (hi : i < cs.length) (hj : j < cs.length) (hne : i ≠ j) (hu : cs[i].f0 = true) (hv : cs[j].f0 = true) : cs[i].f1 ≠ cs[j].f1 := by
  rw [List.pairwise_iff_getElem] at h
  rcases Nat.lt_or_gt_of_ne hne with hlt | hlt
  · exact h i j hi hj hlt hu hv
  · exact fun e => h j i hj hi hlt hv hu e.symm
/-- A used cell of another key, or the same, at one place. -/
theorem pw_set {cs : List SGCell} (h : cs.Pairwise fun a b => a.f0 = true → b.f0 = true → a.f1 ≠ b.f1) (i : Nat) (c : SGCell) (hc : ∀ j (hj : j < cs.length), j ≠ i → cs[j].f0 = true → cs[j].f1 ≠ c.f1) :
    (cs.set i c).Pairwise fun a b => a.f0 = true → b.f0 = true → a.f1 ≠ b.f1 := by
  rw [List.pairwise_iff_getElem]
  intro a b ha hb hab hu hv
  rw [List.length_set] at ha hb
  rw [List.getElem_set] at hu hv
  rw [List.getElem_set, List.getElem_set]
  by_cases e1 : i = a
  · rw [if_pos e1, if_neg (by omega)]
    rw [if_neg (by omega)] at hv
    exact fun e => hc b hb (by omega) hv e.symm
  · rw [if_neg e1] at hu ⊢
    by_cases e2 : i = b
    · rw [if_pos e2]
      exact hc a ha (by omega) hu
    · rw [if_neg e2] at hv ⊢
      exact pw_get h a b ha hb (by omega) hu hv
theorem Valid.insAt {cs : List SGCell} (h : Valid cs) (key value : ByteArray) (hm : mayB key value = true) (hf : fnd cs key < 0) (h64 : frs cs ≠ 64) (hr : insNeed cs key value ≤ free cs) : Valid (insAt cs (cel key value)) := by
  have hroom := insAt_free cs h.zero key value
  have hle := frs_le cs
  have hlen := h.len
  unfold Go.Proofs.Ytidgfigfebkieaa.insAt at hroom ⊢
  by_cases e : frs cs = cs.length
  · rw [if_pos e] at hroom ⊢
    refine ⟨by rw [List.length_append, List.length_singleton]; omega, ?_, ?_, ?_, ?_, by rw [hroom]; omega⟩
    · intro c hc hu
      rcases List.mem_append.1 hc with hc | hc
      · exact h.may c hc hu
      · rw [List.mem_singleton.1 hc]; exact hm
    · intro c hc hu
      rcases List.mem_append.1 hc with hc | hc
      · exact h.zero c hc hu
      · rw [List.mem_singleton.1 hc] at hu; simp [cel] at hu
    · rw [List.pairwise_append]
      refine ⟨h.once, List.pairwise_singleton _ _, ?_⟩
      intro a ha b hb hu _
      rw [List.mem_singleton.1 hb]
      exact fnd_none cs key hf a ha hu
    · intro c hc
      rw [List.getLast?_append] at hc
      simp at hc
      rw [← hc]; rfl
  · rw [if_neg e] at hroom ⊢
    have hlt : frs cs < cs.length := by omega
    have hfree := frs_free cs hlt
    rw [rd_get cs _ hlt] at hfree
    refine ⟨by rw [List.length_set]; omega, ?_, ?_, ?_, ?_, by rw [hroom]; omega⟩
    · intro c hc hu
      rcases List.mem_or_eq_of_mem_set hc with hc | rfl
      · exact h.may c hc hu
      · exact hm
    · intro c hc hu
      rcases List.mem_or_eq_of_mem_set hc with hc | rfl
      · exact h.zero c hc hu
      · simp [cel] at hu
    · exact pw_set h.once _ _ (fun j hj _ hu => fnd_none cs key hf _ (List.getElem_mem hj) hu)
    · intro c hc
      rw [List.getLast?_eq_getElem?, List.length_set, List.getElem?_set_ne, ← List.getLast?_eq_getElem?] at hc
      · exact h.last c hc
      · intro e2
        have := h.getLast (by omega)
        simp only [← e2] at this
        rw [hfree] at this; simp at this
theorem Valid.updAt {cs : List SGCell} (h : Valid cs) (key value : ByteArray) (hm : mayB key value = true) (j : Nat) (hj : j < cs.length) (hu : cs[j].f0 = true) (hk : cs[j].f1 = key) (hr : (value.size : Int) - (cs[j].f2.size : Int) ≤ free cs) : Valid (updAt cs j value) := by
  have hroom := updAt_free cs j hj hu value
  have hlen := h.len
  have hu2 := hu
  have hk2 := hk
  have e : Go.Proofs.Ytidgfigfebkieaa.updAt cs j value = cs.set j (cel key value) := by unfold Go.Proofs.Ytidgfigfebkieaa.updAt; rw [rd_get cs j hj, hu, hk]; rfl
  rw [e] at hroom ⊢
  refine ⟨by rw [List.length_set]; omega, ?_, ?_, ?_, ?_, by rw [hroom]; omega⟩
  · intro c hc hu
    rcases List.mem_or_eq_of_mem_set hc with hc | rfl
    · exact h.may c hc hu
    · exact hm
  · intro c hc hu
    rcases List.mem_or_eq_of_mem_set hc with hc | rfl
    · exact h.zero c hc hu
    · simp [cel] at hu
  · refine pw_set h.once _ _ (fun i hi hne hv => ?_)
    have := pw_get h.once i j hi hj hne hv hu2
    rw [hk2] at this
    exact this
  · intro c hc
    rw [List.getLast?_eq_getElem?, List.length_set, List.getElem?_set] at hc
    split at hc
    · rw [← Option.some.inj hc]; rfl
    · rw [← List.getLast?_eq_getElem?] at hc
      exact h.last c hc

theorem tot_sub {a b : List SGCell} (h : a.Sublist b) : tot a ≤ tot b := by
  induction h with
  | slnil => exact Nat.le_refl _
  | cons c _ ih => rw [tot_cons]; omega
  | cons_cons c _ ih => rw [tot_cons, tot_cons]; omega
theorem Valid.sub {a b : List SGCell} (h : Valid b) (hs : a.Sublist b) (hl : ∀ c, a.getLast? = some c → c.f0 = true) : Valid a := by
  have h1 := hs.length_le
  have h2 := tot_sub hs
  have h3 := h.len
  have h4 := h.room
  exact ⟨by omega, fun c hc => h.may c (hs.subset hc), fun c hc => h.zero c (hs.subset hc), h.once.sublist hs, hl, by unfold free at h4 ⊢; omega⟩
theorem trimN_sub (n : Nat) (cs : List SGCell) : (trimN n cs).Sublist cs := by
  induction n generalizing cs with
  | zero => exact List.Sublist.refl _
  | succ n ih =>
    unfold trimN
    split
    · exact List.Sublist.refl _
    · split
      · exact List.Sublist.refl _
      · exact (ih _).trans (List.take_sublist _ _)
theorem trimN_last (n : Nat) (cs : List SGCell) (hn : cs.length ≤ n) : ∀ c, (trimN n cs).getLast? = some c → c.f0 = true := by
  induction n generalizing cs with
  | zero => intro c hc; rw [trimN_zero 0 cs (by omega), List.length_eq_zero_iff.1 (by omega : cs.length = 0)] at hc; simp at hc
  | succ n ih =>
    intro c hc
    unfold trimN at hc
    split at hc
    · rename_i h0; rw [List.length_eq_zero_iff.1 h0] at hc; simp at hc
    · rename_i h0
      split at hc
      · rename_i hu
        rw [show ((cs.length : Int) - 1) = ((cs.length - 1 : Nat) : Int) by omega, rd_get cs _ (by omega)] at hu
        rw [List.getLast?_eq_getElem?, List.getElem?_eq_getElem (by omega)] at hc
        rw [← Option.some.inj hc]; exact hu
      · exact ih (cs.take (cs.length - 1)) (by rw [List.length_take]; omega) c hc
theorem delAt_sub (cs : List SGCell) (i : Nat) : (delAt cs i).Sublist cs := by
  unfold delAt
  conv => rhs; rw [← List.take_append_drop i cs]
  refine List.Sublist.append (List.Sublist.refl _) ?_
  rw [← List.drop_drop]
  exact List.drop_sublist _ _

theorem Valid.ins {cs : List SGCell} (h : Valid cs) (key value : ByteArray) : Valid (ins cs key value).1 := by
  unfold Go.Proofs.Ytidgfigfebkieaa.ins
  split
  · rename_i hm
    split
    · exact h
    · split
      · exact h
      · exact h.insAt key value hm (by omega) (by omega) (by omega)
  · exact h
theorem Valid.upd {cs : List SGCell} (h : Valid cs) (key value : ByteArray) : Valid (upd cs key value).1 := by
  unfold Go.Proofs.Ytidgfigfebkieaa.upd
  split
  · rename_i hm
    split
    · exact h
    · rename_i hf
      obtain ⟨j, hj, e, hu, hk⟩ := fnd_hit cs key (by omega)
      rw [e, rd_get cs j hj]
      split
      · exact h
      · exact h.updAt key value hm j hj hu hk (by omega)
  · exact h
theorem Valid.del {cs : List SGCell} (h : Valid cs) (key : ByteArray) : Valid (del cs key).1 := by
  unfold Go.Proofs.Ytidgfigfebkieaa.del
  split
  · exact h
  · exact h.sub ((trimN_sub _ _).trans (delAt_sub _ _)) (trimN_last _ _ (Nat.le_refl _))
theorem Valid.room4 {cs : List SGCell} (h : Valid cs) : 4 * cs.length + tot cs ≤ 496 := by
  have := h.room; unfold free at this; omega

/-- All slots are used: so it is where no page was parsed. -/
def Used (cs : List SGCell) : Prop := ∀ c ∈ cs, c.f0 = true
theorem Used.frs {cs : List SGCell} (h : Used cs) : frs cs = cs.length := by
  rcases Nat.lt_or_ge (Go.Proofs.Ytidgfigfebkieaa.frs cs) cs.length with hl | hl
  · have h1 := frs_free cs hl
    have h2 := h _ (rd_mem cs _ hl)
    rw [h1] at h2; simp at h2
  · have := frs_le cs; omega
theorem Used.ins {cs : List SGCell} (h : Used cs) (key value : ByteArray) : Used (ins cs key value).1 := by
  unfold Go.Proofs.Ytidgfigfebkieaa.ins
  split
  · split
    · exact h
    · split
      · exact h
      · unfold insAt
        rw [if_pos h.frs]
        intro c hc
        rcases List.mem_append.1 hc with hc | hc
        · exact h c hc
        · rw [List.mem_singleton.1 hc]; rfl
  · exact h
theorem Used.upd {cs : List SGCell} (h : Used cs) (key value : ByteArray) : Used (upd cs key value).1 := by
  unfold Go.Proofs.Ytidgfigfebkieaa.upd
  split
  · split
    · exact h
    · rename_i hf
      obtain ⟨j, hj, e, hu, hk⟩ := fnd_hit cs key (by omega)
      split
      · exact h
      · rw [e]
        unfold updAt
        rw [show ((j : Int)).toNat = j from rfl, rd_get cs j hj]
        intro c hc
        rcases List.mem_or_eq_of_mem_set hc with hc | rfl
        · exact h c hc
        · exact hu
  · exact h
theorem Used.sub {a b : List SGCell} (h : Used b) (hs : a.Sublist b) : Used a := fun c hc => h c (hs.subset hc)
theorem Used.del {cs : List SGCell} (h : Used cs) (key : ByteArray) : Used (del cs key).1 := by
  unfold Go.Proofs.Ytidgfigfebkieaa.del
  split
  · exact h
  · exact h.sub ((trimN_sub _ _).trans (delAt_sub _ _))
theorem trim_used (cs : List SGCell) (h : Used cs) : trim cs = cs := by
  unfold trim
  rcases Nat.eq_zero_or_pos cs.length with h0 | h0
  · exact trimN_zero _ _ h0
  · exact trimN_used _ cs (cs.length - 1) (by omega) (h _ (rd_mem cs _ (by omega)))
theorem fndN_append (key : ByteArray) (cs : List SGCell) (c : SGCell) (i : Nat) (h : fndN key cs i < 0) : fndN key (cs ++ [c]) i = if hit key c = true then ((i + cs.length : Nat) : Int) else -1 := by
  induction cs generalizing i with
  | nil => simp [fndN]
  | cons a r ih =>
    unfold fndN at h
    split at h
    · omega
    · rename_i ha
      have e : fndN key (a :: r ++ [c]) i = fndN key (r ++ [c]) (i + 1) := by
        rw [List.cons_append]; conv => lhs; unfold fndN
        rw [if_neg ha]
      rw [e, ih (i + 1) h, List.length_cons, show i + 1 + r.length = i + (r.length + 1) by omega]
theorem fnd_append (cs : List SGCell) (key value : ByteArray) (h : fnd cs key < 0) : fnd (cs ++ [cel key value]) key = cs.length := by
  unfold fnd
  rw [fndN_append key cs _ 0 h, if_pos (by unfold hit; simp [cel]), Nat.zero_add]
/-- A cell that was laid and taken away. -/
theorem del_append (cs : List SGCell) (hu : Used cs) (key value : ByteArray) (h : fnd cs key < 0) : del (cs ++ [cel key value]) key = (cs, 0) := by
  unfold del
  rw [fnd_append cs key value h, if_neg (by omega)]
  unfold delAt
  rw [Int.toNat_natCast, List.take_left, List.drop_eq_nil_of_le (by simp), List.append_nil, trim_used cs hu]
/-- What Insert does where all slots are used. -/
theorem ins_room (cs : List SGCell) (hu : Used cs) (hl : cs.length ≤ 64) (key value : ByteArray) (hm : mayB key value = true) (hf : fnd cs key < 0) :
    ((cs.length = 64 ∨ free cs < 1 + (key.size : Int) + (value.size : Int) + 4) ∧ ins cs key value = (cs, 7)) ∨
    ((cs.length < 64 ∧ 1 + (key.size : Int) + (value.size : Int) + 4 ≤ free cs) ∧ ins cs key value = (cs ++ [cel key value], 0) ∧ free (cs ++ [cel key value]) = free cs - (1 + (key.size : Int) + (value.size : Int) + 4)) := by
  have hfr := hu.frs
  have hn : insNeed cs key value = 1 + (key.size : Int) + (value.size : Int) + 4 := by unfold insNeed; rw [if_pos hfr]
  unfold ins
  rw [if_pos hm, if_neg (by omega), hn, hfr]
  by_cases hc : cs.length = 64 ∨ free cs < 1 + (key.size : Int) + (value.size : Int) + 4
  · left; exact ⟨hc, by rw [if_pos hc]⟩
  · right
    refine ⟨by omega, ?_, ?_⟩
    · rw [if_neg hc]; unfold insAt; rw [if_pos hfr]
    · unfold free; rw [tot_append, tot_cons, tot_nil, csz_cel, List.length_append, List.length_singleton]; omega
theorem Valid.free_le {cs : List SGCell} (h : Valid cs) : 0 ≤ free cs ∧ free cs ≤ 496 := by have := h.room; unfold free at this ⊢; omega
end Go.Proofs.Ytidgfigfebkieaa
end
section
namespace Go.Proofs.Ytidgfigfebkieaa
open Go.RowKit Go.Proofs.YtidgfigfebkieaaW.PrintWords Go.Proofs.YtidgfigfebkieaaW.PrintLast Go.Proofs.YtidgfigfebkieaaW.PrintMore
open Rf
set_option linter.unusedVariables false
set_option linter.unusedSimpArgs false

/-- Bytes as a string. -/
def mkS (L : List UInt8) : ByteArray := ⟨L.toArray⟩
theorem mkS_data (L : List UInt8) : (mkS L).data.toList = L := rfl
theorem mkS_size (L : List UInt8) : (mkS L).size = L.length := rfl
theorem mkS_of (s : ByteArray) : mkS s.data.toList = s := by apply ByteArray.ext; simp [mkS]
theorem mkS_append (a b : List UInt8) : mkS a ++ mkS b = mkS (a ++ b) := by
  apply ByteArray.ext
  rw [ByteArray.data_append]
  apply Array.ext'
  simp [mkS]
theorem mkS_app (a : List UInt8) (s : ByteArray) : mkS a ++ s = mkS (a ++ s.data.toList) := by
  conv => lhs; rw [← mkS_of s]
  exact mkS_append _ _
theorem mkS_toList (L : List UInt8) : (mkS L).toList = L := by rw [ByteArray.toList_eq]; rfl
theorem mkS_inj {a b : List UInt8} (h : mkS a = mkS b) : a = b := by rw [← mkS_data a, h, mkS_data]
theorem strOfNums_one (x : Nat) : strOfNums [(((x % 256 : Nat)) : Int)] = mkS [UInt8.ofNat x] := by
  apply ByteArray.ext
  apply Array.ext'
  have h : UInt8.ofNat (((x % 256 : Nat) : Int)).toNat = UInt8.ofNat x := by apply UInt8.toNat_inj.1; show (((x % 256 : Nat) : Int)).toNat % 256 = x % 256; omega
  simp only [strOfNums, mkS, List.map_cons, List.map_nil, h]

theorem le_one (x : Nat) : le x 1 = [UInt8.ofNat x] := by simp [le]
theorem num_loop (x m : Nat) (hx : x < 18446744073709551616) (hm : m ≤ 100) (d : Nat) : ∀ i, i + d = m →
    Ev (fun k => flotillaref01_Num.l0 k ((x / 2 ^ (8 * i) : Nat) : Int) m (mkS (le x i)) i) (mkS (le x m)) := by
  induction d with
  | zero =>
    intro i hi
    obtain rfl : i = m := by omega
    refine Ev.step (f := fun _ => some (mkS (le x i))) (fun k => ?_) (Ev.now _)
    simp only [flotillaref01_Num.l0]
    rw [if_neg (by omega)]
  | succ d ih =>
    intro i hi
    refine Ev.step (fun k => ?_) (ih (i + 1) (by omega))
    simp only [flotillaref01_Num.l0]
    have hb : x / 2 ^ (8 * i) < 18446744073709551616 := Nat.lt_of_le_of_lt (Nat.div_le_self _ _) hx
    generalize hy : x / 2 ^ (8 * i) = y at hb
    have e1 : Int.tmod (y : Int) 256 % 256 = ((y % 256 : Nat) : Int) := by
      rw [Int.tmod_eq_emod_of_nonneg (by omega)]; omega
    have e2 : IntKind.u64.wrap (Int.tdiv (y : Int) 256) = ((x / 2 ^ (8 * (i + 1)) : Nat) : Int) := by
      rw [Int.tdiv_eq_ediv_of_nonneg (by omega), u64w (by omega) (by omega), show 8 * (i + 1) = 8 * i + 8 by omega, Nat.pow_add, ← Nat.div_div_eq_div_mul, hy]
      omega
    rw [if_pos (by omega), e1, Option.bind_some, strOfNums_one, mkS_append, mkS_size, mkS_size, le_length, List.length_singleton, if_pos (by omega), e2, w64 (by omega) (by omega), ← hy, ← le_succ]
    rfl
theorem num_ev (x m : Nat) (hx : x < 18446744073709551616) (hm : m ≤ 100) : Ev (fun k => flotillaref01_Num.f k x m) (mkS (le x m)) := by
  have := num_loop x m hx hm m 0 (by omega)
  simp only [Nat.mul_zero, Nat.pow_zero, Nat.div_one] at this
  exact this

theorem cell_ev (c : SGCell) (h1 : c.f1.size ≤ 1000) (h2 : c.f2.size ≤ 1000) : Ev (fun k => flotillaref06_Cell.f k c.f0 c.f1 c.f2) (mkS (cellB c)) := by
  unfold flotillaref06_Cell.f cellB
  by_cases hc : c.f0 = true
  · simp only [hc, if_true]
    have hn := num_ev c.f1.size 1 (by omega) (by omega)
    refine Ev.bind (a := mkS (le c.f1.size 1)) ?_ ?_
    · rw [u64w (by omega) (by omega)]; exact hn
    · rw [mkS_size, le_length, if_pos (by omega), ByteArray.size_append, mkS_size, le_length, if_pos (by omega), le_one, mkS_app, mkS_app]
      exact Ev.now _
  · rw [if_neg hc]
    simp only [if_neg hc]
    exact Ev.now _

theorem free_loop (cs : List SGCell) (hS : Small cs) (id lsn : Int) (d : Nat) : ∀ i, i + d = cs.length →
    Ev (fun k => flotillaref06_Free.l0 k (496 - 4 * (cs.length : Int) - (tot (cs.take i) : Int)) i id lsn cs) (free cs) := by
  have hl := hS.1
  induction d with
  | zero =>
    intro i hi
    refine Ev.step (f := fun _ => some (free cs)) (fun k => ?_) (Ev.now _)
    simp only [flotillaref06_Free.l0]
    rw [if_neg (by omega), List.take_of_length_le (by omega)]
    rfl
  | succ d ih =>
    intro i hi
    have hil : i < cs.length := by omega
    have hm := hS.2 _ (rd_mem cs i hil)
    have ht := tot_take_le cs hS (i + 1)
    have hts := tot_take_succ cs i hil
    refine Ev.step (f := fun k => (flotillaref06_Cell.f k (rd_TGCell cs i).f0 (rd_TGCell cs i).f1 (rd_TGCell cs i).f2).bind fun t112 => flotillaref06_Free.l0 k (wrap64 (496 - 4 * (cs.length : Int) - (tot (cs.take i) : Int) - (t112.size : Int))) (wrap64 ((i : Int) + 1)) id lsn cs) (fun k => ?_) ?_
    · simp only [flotillaref06_Free.l0]
      rw [if_pos (by omega), if_pos (by omega)]
    · refine Ev.bind (cell_ev _ hm.1 hm.2) ?_
      rw [mkS_size, cellB_length, w64 (by omega) (by omega), w64 (by omega) (by omega)]
      have := ih (i + 1) (by omega)
      rw [hts] at this
      have e : 496 - 4 * (cs.length : Int) - (tot (cs.take i) : Int) - (csz (rd_TGCell cs i) : Int) = 496 - 4 * (cs.length : Int) - ((tot (cs.take i) + csz (rd_TGCell cs i) : Nat) : Int) := by omega
      rw [e]
      exact this
theorem free_ev (cs : List SGCell) (hS : Small cs) (id lsn : Int) : Ev (fun k => flotillaref06_Free.f k id lsn cs) (free cs) := by
  have hl := hS.1
  have := free_loop cs hS id lsn cs.length 0 (by omega)
  unfold flotillaref06_Free.f
  rw [w64 (x := 4 * (cs.length : Int)) (by omega) (by omega), w64 (by omega) (by omega)]
  simpa [tot] using this

theorem bt_get (s : ByteArray) (i : Nat) (h : i < s.data.toList.length) : bt s i = ((s.data.toList[i].toNat : Nat) : Int) := by
  have h2 : i < s.size := by rw [data_length] at h; exact h
  unfold bt
  rw [dif_pos (by simpa using h2)]
  simp only [Int.toNat_natCast]
  rfl
theorem rstep_lt {n x : Nat} (hn : n < 4294967296) : Crc.rstep n x < 4294967296 := by
  unfold Crc.rstep
  split
  · omega
  · exact Nat.xor_lt_two_pow (n := 32) (by omega) (by decide)
theorem more_bits (s : ByteArray) (i : Nat) (d : Nat) : ∀ (n x j : Nat), j + d = 8 → n < 4294967296 → x < 4294967296 → ∀ r, Ev (fun k => flotillaref02_More.l0 k s (Crc.rN d n x : Nat) (wrap64 ((i : Int) + 1))) r →
    Ev (fun k => flotillaref02_More.l1 k s (n : Int) i (x : Int) j) r := by
  induction d with
  | zero =>
    intro n x j hj hn hx r hr
    refine Ev.step (fun k => ?_) hr
    simp only [flotillaref02_More.l1, Crc.rN]
    rw [if_neg (by omega)]
  | succ d ih =>
    intro n x j hj hn hx r hr
    have hr' := ih (Crc.rstep n x) (x / 2) (j + 1) (by omega) (rstep_lt hn) (by omega) r hr
    refine Ev.step (fun k => ?_) hr'
    simp only [flotillaref02_More.l1]
    have e1 : Int.tmod (n : Int) 2 = ((n % 2 : Nat) : Int) := by rw [Int.tmod_eq_emod_of_nonneg (by omega)]; omega
    have e2 : Int.tmod (x : Int) 2 = ((x % 2 : Nat) : Int) := by rw [Int.tmod_eq_emod_of_nonneg (by omega)]; omega
    have e3 : Int.tdiv (n : Int) 2 % 4294967296 = ((n / 2 : Nat) : Int) := by rw [Int.tdiv_eq_ediv_of_nonneg (by omega)]; omega
    have e4 : Int.tdiv (x : Int) 2 % 4294967296 = ((x / 2 : Nat) : Int) := by rw [Int.tdiv_eq_ediv_of_nonneg (by omega)]; omega
    rw [if_pos (by omega), e1, e2, e3, e4, w64 (by omega) (by omega)]
    unfold Crc.rstep
    by_cases h : n % 2 = x % 2
    · rw [if_pos (by rw [h]), if_pos h]; rfl
    · rw [if_neg (by omega), if_neg h]
      have e5 : bits .xor .u32 ((n / 2 : Nat) : Int) 2197175160 = ((n / 2 ^^^ 2197175160 : Nat) : Int) := by
        rw [show (2197175160 : Int) = ((2197175160 : Nat) : Int) from rfl, u32_xor_nat _ _ (by omega) (by decide)]
      rw [e5]; rfl
theorem more_loop (s : ByteArray) (hs : s.size ≤ 1000000) (d : Nat) : ∀ (n i : Nat), i + d = s.size → n < 4294967296 →
    Ev (fun k => flotillaref02_More.l0 k s (n : Int) i) ((4294967295 - Crc.more n (s.data.toList.drop i) : Nat) : Int) := by
  induction d with
  | zero =>
    intro n i hi hn
    refine Ev.step (f := fun _ => some (((4294967295 - n : Nat)) : Int)) (fun k => ?_) ?_
    · simp only [flotillaref02_More.l0]
      rw [if_neg (by omega)]
      congr 1; omega
    · rw [List.drop_eq_nil_of_le (by rw [data_length]; omega)]
      exact Ev.now _
  | succ d ih =>
    intro n i hi hn
    have hil : i < s.data.toList.length := by rw [data_length]; omega
    have hx := (s.data.toList[i]).toNat_lt
    have ih' := ih (Crc.byte n (s.data.toList[i].toNat)) (i + 1) (by omega) (Crc.byte_lt hn hx)
    rw [List.drop_eq_getElem_cons hil]
    show Ev _ ((4294967295 - Crc.more (Crc.byte n (s.data.toList[i].toNat)) (s.data.toList.drop (i + 1)) : Nat) : Int)
    refine Ev.step (f := fun k => flotillaref02_More.l1 k s (n : Int) i ((s.data.toList[i].toNat : Nat) : Int) (0 : Nat)) (fun k => ?_) ?_
    · simp only [flotillaref02_More.l0]
      rw [if_pos (by omega), if_pos (by omega), bt_get s i hil, show ((s.data.toList[i].toNat : Nat) : Int) % 4294967296 = ((s.data.toList[i].toNat : Nat) : Int) by omega]
      rfl
    · refine more_bits s i 8 n _ 0 (by omega) hn (by omega) _ ?_
      rw [Crc.rN_8 n _ hx, w64 (by omega) (by omega)]
      exact ih'
theorem sum_ev (s : ByteArray) (hs : s.size ≤ 1000000) : Ev (fun k => flotillaref02_Sum.f k s) (Crc.sum s.data.toList : Int) := by
  unfold flotillaref02_Sum.f flotillaref02_More.f
  refine Ev.bind (a := (Crc.sum s.data.toList : Int)) ?_ (Ev.now _)
  have := more_loop s hs s.size 4294967295 0 (by omega) (by omega)
  rw [List.drop_zero] at this
  exact this
theorem four_f (n : Nat) (hn : n < 4294967296) : flotillaref02_Four.f n = some (mkS (le n 4)) := by
  unfold flotillaref02_Four.f
  have e0 : Int.tmod (n : Int) 256 % 256 = ((n % 256 : Nat) : Int) := by rw [Int.tmod_eq_emod_of_nonneg (by omega)]; omega
  have e1 : Int.tdiv (n : Int) 256 % 4294967296 % 256 = ((n / 256 % 256 : Nat) : Int) := by rw [Int.tdiv_eq_ediv_of_nonneg (by omega)]; omega
  have e2 : Int.tdiv (n : Int) 65536 % 4294967296 % 256 = ((n / 65536 % 256 : Nat) : Int) := by rw [Int.tdiv_eq_ediv_of_nonneg (by omega)]; omega
  have e3 : Int.tdiv (n : Int) 16777216 % 4294967296 % 256 = ((n / 16777216 % 256 : Nat) : Int) := by rw [Int.tdiv_eq_ediv_of_nonneg (by omega)]; omega
  rw [e0, e1, e2, e3]
  have h : ∀ x : Nat, UInt8.ofNat (((x % 256 : Nat) : Int)).toNat = UInt8.ofNat x := fun x => by apply UInt8.toNat_inj.1; show (((x % 256 : Nat) : Int)).toNat % 256 = x % 256; omega
  have h2 : le n 4 = [UInt8.ofNat n, UInt8.ofNat (n / 256), UInt8.ofNat (n / 65536), UInt8.ofNat (n / 16777216)] := by simp [le, List.range_succ]
  rw [h2]
  congr 1
  apply ByteArray.ext
  apply Array.ext'
  simp only [strOfNums, mkS, List.map_cons, List.map_nil, h]
end Go.Proofs.Ytidgfigfebkieaa
end
section
namespace Go.Proofs.Ytidgfigfebkieaa
open Go.RowKit Go.Proofs.YtidgfigfebkieaaW.PrintWords Go.Proofs.YtidgfigfebkieaaW.PrintLast Go.Proofs.YtidgfigfebkieaaW.PrintMore
open Rf
set_option linter.unusedVariables false
set_option linter.unusedSimpArgs false
theorem IsPg.reads {w : World} {base : Nat} {ok : Nat → Prop} {g : Nat} {id lsn : Int} {cs : List SGCell} (h : IsPg w base ok g id lsn cs) :
    ∃ A c, PgAt w g id lsn (.slice A cs.length c) ∧ Kd.C kGCell w A cs.length cs := by
  obtain ⟨_, _, v, h1, h2⟩ := h
  obtain ⟨A, c, rfl, _, hC⟩ := Kd.R_reads h2
  exact ⟨A, c, h1, hC⟩
theorem free_pg (w : World) (base : Nat) (ok : Nat → Prop) (g : Nat) (id lsn : Int) (cs : List SGCell) (h : IsPg w base ok g id lsn cs) (hS : Small cs) :
    Calls Try.prog 58 #[.pointer (some ⟨g, 0, none⟩)] w fun e w' => e = .returned (.int .i64 (free cs)) ∧ Below w.heap.size w w' := by
  obtain ⟨A, c, h1, h2⟩ := h.reads
  exact free_calls w g id lsn A c cs h1 h2 hS
theorem get_pg (w : World) (base : Nat) (ok : Nat → Prop) (g : Nat) (id lsn : Int) (cs : List SGCell) (key : ByteArray) (h : IsPg w base ok g id lsn cs) (hl : cs.length ≤ 1000) :
    Calls Try.prog 72 #[.pointer (some ⟨g, 0, none⟩), .string key] w fun e w' => e = .returned (.tuple #[.string (if fnd cs key < 0 then ⟨#[]⟩ else (rd_TGCell cs (fnd cs key)).f2), .bool (decide (0 ≤ fnd cs key))]) ∧ Below w.heap.size w w' := by
  obtain ⟨A, c, h1, h2⟩ := h.reads
  exact get_calls w g id lsn A c cs key h1 h2 hl
theorem bytes_pg (w : World) (base : Nat) (ok : Nat → Prop) (g id lsn : Nat) (cs : List SGCell) (h : IsPg w base ok g id lsn cs) (hS : Small cs) (hroom : 4 * cs.length + tot cs ≤ 496) (hid : id < 65536) (hlsn : lsn < 18446744073709551616) :
    Calls Try.prog 18 #[.pointer (some ⟨g, 0, none⟩)] w fun e w' => e = .returned (.slice (some ⟨w.heap.size, 0, none⟩) 512 512) ∧ BufAt w' w.heap.size (pgB id lsn cs) ∧ Below w.heap.size w w' := by
  obtain ⟨A, c, h1, h2⟩ := h.reads
  exact bytes_calls w g id lsn A c cs h1 h2 hS hroom hid hlsn
theorem cells_pg (w : World) (base : Nat) (ok : Nat → Prop) (g : Nat) (id lsn : Int) (cs : List SGCell) (h : IsPg w base ok g id lsn cs) (hl : cs.length ≤ 1000) :
    Calls Try.prog 44 #[.pointer (some ⟨g, 0, none⟩)] w fun e w' => ∃ v, e = .returned v ∧ Kd.R kGCell 86 w' w.heap.size (fun k => w.heap.size ≤ k) v cs ∧ Below w.heap.size w w' := by
  obtain ⟨A, c, h1, h2⟩ := h.reads
  exact cells_calls w g id lsn A c cs h1 h2 hl
theorem id_pg (w : World) (base : Nat) (ok : Nat → Prop) (g : Nat) (id lsn : Int) (cs : List SGCell) (h : IsPg w base ok g id lsn cs) :
    Calls Try.prog 41 #[.pointer (some ⟨g, 0, none⟩)] w fun e w' => e = .returned (.int .i64 id) ∧ w = w' := by
  obtain ⟨A, c, h1, h2⟩ := h.reads
  exact id_calls w g id lsn _ h1
theorem lsn_pg (w : World) (base : Nat) (ok : Nat → Prop) (g : Nat) (id lsn : Int) (cs : List SGCell) (h : IsPg w base ok g id lsn cs) :
    Calls Try.prog 42 #[.pointer (some ⟨g, 0, none⟩)] w fun e w' => e = .returned (.int .u64 lsn) ∧ w = w' := by
  obtain ⟨A, c, h1, h2⟩ := h.reads
  exact lsn_calls w g id lsn _ h1

theorem stamp_pg (w0 w : World) (ok : Nat → Prop) (g : Nat) (id lsn l : Int) (cs : List SGCell) (hB : Below w0.heap.size w0 w) (hp : IsPg w w0.heap.size ok g id lsn cs) :
    Calls Try.prog 43 #[.pointer (some ⟨g, 0, none⟩), .int .u64 l] w fun e w' => e = .returned (.tuple #[]) ∧ IsPg w' w0.heap.size ok g id l cs ∧ Below w0.heap.size w0 w' := by
  obtain ⟨hlow, hm, v, h1, h2⟩ := hp
  refine (stamp_calls w g id lsn l v h1).mono ?_
  rintro e w' ⟨rfl, rfl⟩
  exact ⟨rfl, ⟨hlow, hm, v, blk_set h1 1 _, Kd.R_far (p := ⟨g, 1, none⟩) h2 (fun _ hk => hk.2) _⟩, below_set hB hlow⟩
/-- What is true of a step's cell at a place of a list of steps. -/
theorem Small.big {cs : List SGCell} (h : Small cs) : cs.length ≤ 1000 := by have := h.1; omega
theorem IsPg.drew {w : World} {base : Nat} {ok : Nat → Prop} {g : Nat} {id lsn : Int} {cs : List SGCell} (h : IsPg w base ok g id lsn cs) : IsPg w.drew base ok g id lsn cs := by
  obtain ⟨a, b, v, h1, h2⟩ := h
  exact ⟨a, b, v, h1, Kd.R_drew h2⟩
theorem mkS_ints (L : List UInt8) : strOfNums (ints L) = mkS L := by
  apply ByteArray.ext
  apply Array.ext'
  have h : ∀ x : UInt8, UInt8.ofNat (((x.toNat : Nat) : Int)).toNat = x := fun x => by simp
  simp only [strOfNums, ints, mkS, List.map_map]
  conv => rhs; rw [← List.map_id L]
  refine List.map_congr_left (fun x _ => h x)
theorem buf_string {w : World} {g : Nat} {L : List UInt8} (h : BufAt w g L) (n : Nat) (hn : L.length = n) (hl : n ≤ 1000000) : (convert 49 9 (.slice (some ⟨g, 0, none⟩) n n)).run Try.prog w = .ok (.string (mkS L)) w := by
  have hr := h.reads 0 (Nat.zero_le _) (by omega)
  rw [Nat.sub_zero, List.drop_zero, hn] at hr
  rw [string_of_reads Try.underlying49 Try.underlying5 Try.underlying9 hr, mkS_ints]
theorem pg_string {w : World} {g id lsn : Nat} {cs : List SGCell} (h : BufAt w g (pgB id lsn cs)) (hv : Valid cs) : (convert 49 9 (.slice (some ⟨g, 0, none⟩) 512 512)).run Try.prog w = .ok (.string (mkS (pgB id lsn cs))) w :=
  buf_string h 512 (pgB_length id lsn cs hv.room4) (by omega)

/-- The call's own page, as it stands in a world behind w0. -/
structure Here (w0 w : World) (ok : Nat → Prop) (g : Nat) (id lsn : Nat) (cs : List SGCell) : Prop where
  pg : IsPg w w0.heap.size ok g id lsn cs
  bel : Below w0.heap.size w0 w
  val : Valid cs
  id16 : id < 16
  lsn64 : lsn < 18446744073709551616
theorem Here.drew {w0 w : World} {ok : Nat → Prop} {g id lsn : Nat} {cs : List SGCell} (h : Here w0 w ok g id lsn cs) : Here w0 w.drew ok g id lsn cs := ⟨h.pg.drew, below_drew h.bel, h.val, h.id16, h.lsn64⟩
theorem Here.next {w0 w w' : World} {ok : Nat → Prop} {g id lsn : Nat} {cs : List SGCell} (h : Here w0 w ok g id lsn cs) (hb : Below w.heap.size w w') : Here w0 w' ok g id lsn cs := ⟨h.pg.below hb, below_then h.bel h.bel.size hb, h.val, h.id16, h.lsn64⟩
section
variable {w0 w : World} {ok : Nat → Prop} {g id lsn : Nat} {cs : List SGCell}
theorem Here.free (h : Here w0 w ok g id lsn cs) : Calls Try.prog 58 #[.pointer (some ⟨g, 0, none⟩)] w fun e w' => e = .returned (.int .i64 (free cs)) ∧ Here w0 w' ok g id lsn cs ∧ Below w.heap.size w w' :=
  (free_pg w _ ok g id lsn cs h.pg h.val.small).mono (by rintro e w' ⟨rfl, hb⟩; exact ⟨rfl, h.next hb, hb⟩)
theorem Here.get (h : Here w0 w ok g id lsn cs) (key : ByteArray) : Calls Try.prog 72 #[.pointer (some ⟨g, 0, none⟩), .string key] w fun e w' => e = .returned (.tuple #[.string (if fnd cs key < 0 then ⟨#[]⟩ else (rd_TGCell cs (fnd cs key)).f2), .bool (decide (0 ≤ fnd cs key))]) ∧ Here w0 w' ok g id lsn cs ∧ Below w.heap.size w w' :=
  (get_pg w _ ok g id lsn cs key h.pg h.val.small.big).mono (by rintro e w' ⟨rfl, hb⟩; exact ⟨rfl, h.next hb, hb⟩)
theorem Here.bytes (h : Here w0 w ok g id lsn cs) : Calls Try.prog 18 #[.pointer (some ⟨g, 0, none⟩)] w fun e w' => e = .returned (.slice (some ⟨w.heap.size, 0, none⟩) 512 512) ∧ BufAt w' w.heap.size (pgB id lsn cs) ∧ Here w0 w' ok g id lsn cs ∧ Below w.heap.size w w' :=
  (bytes_pg w _ ok g id lsn cs h.pg h.val.small h.val.room4 (by have := h.id16; omega) h.lsn64).mono (by rintro e w' ⟨rfl, hf, hb⟩; exact ⟨rfl, hf, h.next hb, hb⟩)
theorem Here.cells (h : Here w0 w ok g id lsn cs) : Calls Try.prog 44 #[.pointer (some ⟨g, 0, none⟩)] w fun e w' => ∃ A c, e = .returned (.slice A cs.length c) ∧ Kd.R kGCell 86 w' w.heap.size (fun k => w.heap.size ≤ k) (.slice A cs.length c) cs ∧ Here w0 w' ok g id lsn cs ∧ Below w.heap.size w w' :=
  (cells_pg w _ ok g id lsn cs h.pg h.val.small.big).mono (by
    rintro e w' ⟨v, rfl, hR, hb⟩
    obtain ⟨A, c, rfl⟩ := Kd.R_slice hR
    exact ⟨A, c, rfl, hR, h.next hb, hb⟩)
theorem Here.insert (h : Here w0 w ok g id lsn cs) (key value : ByteArray) : Calls Try.prog 30 #[.pointer (some ⟨g, 0, none⟩), .string key, .string value] w fun e w' => e = .returned (.int .i64 (ins cs key value).2) ∧ Here w0 w' (fun k => ok k ∨ w.heap.size ≤ k) g id lsn (ins cs key value).1 ∧ Kept w w' ok :=
  (insert_calls w0 w ok g id lsn cs key value h.bel h.pg h.val.small h.val.len).mono (by rintro e w' ⟨rfl, hp, hb, hk⟩; exact ⟨rfl, ⟨hp, hb, h.val.ins key value, h.id16, h.lsn64⟩, hk⟩)
theorem Here.update (h : Here w0 w ok g id lsn cs) (key value : ByteArray) : Calls Try.prog 52 #[.pointer (some ⟨g, 0, none⟩), .string key, .string value] w fun e w' => e = .returned (.int .i64 (upd cs key value).2) ∧ Here w0 w' (fun k => ok k ∨ w.heap.size ≤ k) g id lsn (upd cs key value).1 ∧ Kept w w' ok :=
  (update_calls w0 w ok g id lsn cs key value h.bel h.pg h.val.small).mono (by rintro e w' ⟨rfl, hp, hb, hk⟩; exact ⟨rfl, ⟨hp, hb, h.val.upd key value, h.id16, h.lsn64⟩, hk⟩)
theorem Here.delete (h : Here w0 w ok g id lsn cs) (key : ByteArray) : Calls Try.prog 55 #[.pointer (some ⟨g, 0, none⟩), .string key] w fun e w' => e = .returned (.int .i64 (del cs key).2) ∧ Here w0 w' (fun k => ok k ∨ w.heap.size ≤ k) g id lsn (del cs key).1 ∧ Kept w w' ok :=
  (delete_calls w0 w ok g id lsn cs key h.bel h.pg h.val.small.big).mono (by rintro e w' ⟨rfl, hp, hb, hk⟩; exact ⟨rfl, ⟨hp, hb, h.val.del key, h.id16, h.lsn64⟩, hk⟩)
end
section
variable {w0 w : World} {ok : Nat → Prop} {g id lsn : Nat} {cs : List SGCell}
theorem Here.bound (h : Here w0 w ok g id lsn cs) : Here w0 w (fun k => ok k ∧ k < w.heap.size) g id lsn cs := by
  obtain ⟨⟨h1, h2, v, h3, h4⟩, hb, hv, hi, hl⟩ := h
  exact ⟨⟨h1, ⟨h2, blk_lt h3⟩, v, h3, Kd.R_mono (Kd.R_bound h4) (fun k hk => ⟨⟨hk.1.1, hk.2.2.1⟩, hk.1.2⟩)⟩, hb, hv, hi, hl⟩
theorem Here.mono {ok' : Nat → Prop} (h : Here w0 w ok g id lsn cs) (hk : ∀ k, ok k → ok' k) : Here w0 w ok' g id lsn cs := ⟨h.pg.mono hk, h.bel, h.val, h.id16, h.lsn64⟩
theorem Here.kept {w' : World} {S : Nat → Prop} (h : Here w0 w ok g id lsn cs) (hk : Kept w w' S) (hne : ∀ k, ok k → ¬ S k) (hb : Below w0.heap.size w0 w') : Here w0 w' ok g id lsn cs :=
  ⟨h.pg.kept hk hne, hb, h.val, h.id16, h.lsn64⟩
theorem Here.clone (h : Here w0 w ok g id lsn cs) : Calls Try.prog 35 #[.pointer (some ⟨g, 0, none⟩)] w fun e w' => ∃ g', e = .returned (.pointer (some ⟨g', 0, none⟩)) ∧ Here w0 w' (fun k => w.heap.size ≤ k) g' id lsn cs ∧ Below w.heap.size w w' := by
  obtain ⟨h1, h2, v, h3, h4⟩ := h.pg
  obtain ⟨A, c, rfl, hlc, hC⟩ := Kd.R_reads h4
  refine (clone_calls w0 w g id lsn A c cs h.bel h3 hC h.val.small.big).mono ?_
  rintro e w' ⟨g', rfl, hp, hb⟩
  exact ⟨g', rfl, ⟨hp, below_then h.bel h.bel.size hb, h.val, h.id16, h.lsn64⟩, hb⟩
theorem Here.stamp (h : Here w0 w ok g id lsn cs) (l : Nat) (hl : l < 18446744073709551616) : Calls Try.prog 43 #[.pointer (some ⟨g, 0, none⟩), .int .u64 l] w fun e w' => e = .returned (.tuple #[]) ∧ Here w0 w' ok g id l cs ∧ Kept w w' ok := by
  obtain ⟨h1, h2, v, h3, h4⟩ := h.pg
  refine (stamp_calls w g id lsn l v h3).mono ?_
  rintro e w' ⟨rfl, rfl⟩
  exact ⟨rfl, ⟨⟨h1, h2, v, blk_set h3 1 _, Kd.R_far (p := ⟨g, 1, none⟩) h4 (fun _ hk => hk.2) _⟩, below_set h.bel h1, h.val, h.id16, hl⟩, Kept.setCell (Kept.refl w ok) (p := ⟨g, 1, none⟩) (.inl h2) _⟩
end
theorem Here.grown {w0 w w' : World} {ok : Nat → Prop} {g id lsn : Nat} {cs : List SGCell} {row : Option Nat} (h : Here w0 w ok g id lsn cs) (hg : w.grownBy w' row) (hr : ∀ k, row = some k → ¬ ok k ∧ w0.heap.size ≤ k) : Here w0 w' ok g id lsn cs :=
  h.kept (Kept.of_grown hg (Kept.refl _ (fun k => row = some k)) (fun k e => .inl e)) (fun k hk e => (hr k e).1 hk) (h.bel.grown hg h.bel.size (fun g hg' => (hr g hg').2))
end Go.Proofs.Ytidgfigfebkieaa
end
section
namespace Go.Proofs.Ytidgfigfebkieaa
open Go.RowKit Go.Proofs.YtidgfigfebkieaaW.PrintWords Go.Proofs.YtidgfigfebkieaaW.PrintLast Go.Proofs.YtidgfigfebkieaaW.PrintMore
open Rf
set_option linter.unusedVariables false
set_option linter.unusedSimpArgs false

theorem get_nil (w : World) (k : ByteArray) : Calls Try.prog 72 #[.pointer none, .string k] w fun e w' => e = .returned (.tuple #[.string ⟨#[]⟩, .bool false]) ∧ Below w.heap.size w w' := by
  go_enter Try.func72, Try.ntmps72
  go_wp2
  go_ret2
  exact ⟨rfl, by repeat (first | exact Below.refl _ _ | apply below_alloc | apply below_drew)⟩
theorem insert_nil (w : World) (k v : ByteArray) : Calls Try.prog 30 #[.pointer none, .string k, .string v] w fun e w' => e = .returned (.int .i64 1) ∧ Below w.heap.size w w' := by
  go_enter Try.func30, Try.ntmps30
  go_wp2
  go_ret
  exact ⟨rfl, by repeat (first | exact Below.refl _ _ | apply below_alloc | apply below_drew)⟩
theorem update_nil (w : World) (k v : ByteArray) : Calls Try.prog 52 #[.pointer none, .string k, .string v] w fun e w' => e = .returned (.int .i64 1) ∧ Below w.heap.size w w' := by
  go_enter Try.func52, Try.ntmps52
  go_wp2
  go_ret
  exact ⟨rfl, by repeat (first | exact Below.refl _ _ | apply below_alloc | apply below_drew)⟩
theorem delete_nil (w : World) (k : ByteArray) : Calls Try.prog 55 #[.pointer none, .string k] w fun e w' => e = .returned (.int .i64 1) ∧ Below w.heap.size w w' := by
  go_enter Try.func55, Try.ntmps55
  go_wp2
  go_ret
  exact ⟨rfl, by repeat (first | exact Below.refl _ _ | apply below_alloc | apply below_drew)⟩
theorem bytes_nil (w : World) : Calls Try.prog 18 #[.pointer none] w fun e w' => e = .returned (.slice none 0 0) ∧ Below w.heap.size w w' := by
  go_enter Try.func18, Try.ntmps18
  go_wp2
  go_ret
  exact ⟨rfl, by repeat (first | exact Below.refl _ _ | apply below_alloc | apply below_drew)⟩
theorem cells_nil (w : World) : Calls Try.prog 44 #[.pointer none] w fun e w' => e = .returned (.slice none 0 0) ∧ Below w.heap.size w w' := by
  go_enter Try.func44, Try.ntmps44
  go_wp2
  go_ret
  exact ⟨rfl, by repeat (first | exact Below.refl _ _ | apply below_alloc | apply below_drew)⟩
theorem free_nil (w : World) : Calls Try.prog 58 #[.pointer none] w fun e w' => e = .returned (.int .i64 0) ∧ Below w.heap.size w w' := by
  go_enter Try.func58, Try.ntmps58
  go_wp2
  go_ret
  exact ⟨rfl, by repeat (first | exact Below.refl _ _ | apply below_alloc | apply below_drew)⟩
theorem id_nil (w : World) : Calls Try.prog 41 #[.pointer none] w fun e w' => e = .returned (.int .i64 0) ∧ Below w.heap.size w w' := by
  go_enter Try.func41, Try.ntmps41
  go_wp2
  go_ret
  exact ⟨rfl, by repeat (first | exact Below.refl _ _ | apply below_alloc | apply below_drew)⟩
theorem lsn_nil (w : World) : Calls Try.prog 42 #[.pointer none] w fun e w' => e = .returned (.int .u64 0) ∧ Below w.heap.size w w' := by
  go_enter Try.func42, Try.ntmps42
  go_wp2
  go_ret
  exact ⟨rfl, by repeat (first | exact Below.refl _ _ | apply below_alloc | apply below_drew)⟩
theorem clone_nil (w : World) : Calls Try.prog 35 #[.pointer none] w fun e w' => e = .returned (.pointer none) ∧ Below w.heap.size w w' := by
  go_enter Try.func35, Try.ntmps35
  go_wp2
  go_ret
  exact ⟨rfl, by repeat (first | exact Below.refl _ _ | apply below_alloc | apply below_drew)⟩
theorem stamp_nil (w : World) (l : Int) : Calls Try.prog 43 #[.pointer none, .int .u64 l] w fun e w' => e = .returned (.tuple #[]) ∧ Below w.heap.size w w' := by
  go_enter Try.func43, Try.ntmps43
  go_wp2
  go_end0
  exact ⟨rfl, Below.refl _ _⟩
end Go.Proofs.Ytidgfigfebkieaa
end
section
namespace Go.Proofs.Ytidgfigfebkieaa
open Go.RowKit Go.Proofs.YtidgfigfebkieaaW.PrintWords Go.Proofs.YtidgfigfebkieaaW.PrintLast Go.Proofs.YtidgfigfebkieaaW.PrintMore
open Rf Go.ChangeMaps
set_option linter.unusedVariables false
set_option linter.unusedSimpArgs false
def wasN (cs : List SGCell) (a b : ByteArray) : Int := if fnd cs a < 0 then 8 else if (rd_TGCell cs (fnd cs a)).f2.toList == b.toList then 0 else 10
def actDo (cs : List SGCell) (k : Int) (a b c : ByteArray) : List SGCell × Int :=
  if actMay k a b c = true then
    if k = 1 then ins cs a c else if wasN cs a b = 0 then (if k = 2 then upd cs a c else del cs a) else (cs, wasN cs a b)
  else (cs, 1)
/-- Behind a call that may write the page. -/
structure After (w0 w w' : World) (ok : Nat → Prop) (g id lsn : Nat) (cs : List SGCell) : Prop where
  here : Here w0 w' (fun k => ok k ∨ w.heap.size ≤ k) g id lsn cs
  kept : Kept w w' ok
theorem After.pre {w0 w w1 w' : World} {ok : Nat → Prop} {g id lsn : Nat} {cs : List SGCell} (hb : Below w.heap.size w w1) (h : After w0 w1 w' ok g id lsn cs) : After w0 w w' ok g id lsn cs :=
  ⟨h.here.mono (fun k hk => hk.elim .inl (fun h => .inr (Nat.le_trans hb.size h))), (Kept.of_below hb ok).then_ h.kept (fun k h => .inl h)⟩
theorem Here.same {w0 w w' : World} {ok : Nat → Prop} {g id lsn : Nat} {cs : List SGCell} (h : Here w0 w ok g id lsn cs) (hb : Below w.heap.size w w') : After w0 w w' ok g id lsn cs :=
  ⟨(h.next hb).mono (fun k hk => .inl hk), Kept.of_below hb ok⟩
section
variable {w0 w : World} {ok : Nat → Prop} {g id lsn : Nat} {cs : List SGCell}
set_option maxHeartbeats 1000000 in
theorem was_calls (h : Here w0 w ok g id lsn cs) (k : Int) (a b c : ByteArray) : Calls Try.prog 51 #[.pointer (some ⟨g, 0, none⟩), .agg #[.int .i64 k, .string a, .string b, .string c]] w fun e w' => e = .returned (.int .i64 (wasN cs a b)) ∧ Below w.heap.size w w' := by
  have H := Aside0.mk h
  clear h
  go_enter Try.func51, Try.ntmps51
  go_wp2_with fail
  have hb0 : Below w.heap.size w (w.alloc (.cells #[.int .i64 k, .string a, .string b, .string c] 24)) := below_alloc (Below.refl _ _) _
  have hbx := heap_alloc_new w (.cells #[.int .i64 k, .string a, .string b, .string c] 24)
  generalize w.alloc (.cells #[.int .i64 k, .string a, .string b, .string c] 24) = w1 at hb0 hbx ⊢
  have H1 := Aside0.mk (H.out.next hb0)
  have HB0 := Aside0.mk hb0
  have HX := Aside0.mk hbx
  have x0 := blk_cell hbx 0
  have x1 := blk_cell hbx 1
  have x2 := blk_cell hbx 2
  have x3 := blk_cell hbx 3
  clear hbx hb0
  refine (H1.out.get a).mono ?_
  rintro e w2 ⟨rfl, _, hb⟩
  have HB := Aside0.mk (below_then HB0.out HB0.out.size hb)
  have y2 := blk_cell (blk_below HX.out hb) 2
  clear hb x0 x1 x2 x3
  by_cases hf : fnd cs a < 0
  · have HW := Aside0.mk (show wasN cs a b = 8 from by unfold wasN; rw [if_pos hf])
    rw [if_pos hf, show decide (0 ≤ fnd cs a) = false from by simp; omega]
    go_wp2
    go_ret
    exact ⟨by rw [HW.out]; rfl, HB.out⟩
  · rw [if_neg hf, show decide (0 ≤ fnd cs a) = true from by simp; omega]
    cases he : (rd_TGCell cs (fnd cs a)).f2.toList == b.toList with
    | true =>
      have HW := Aside0.mk (show wasN cs a b = 0 from by unfold wasN; rw [if_neg hf, if_pos he])
      go_wp2
      go_ret
      exact ⟨by rw [HW.out]; rfl, HB.out⟩
    | false =>
      have HW := Aside0.mk (show wasN cs a b = 10 from by unfold wasN; rw [if_neg hf, if_neg (by rw [he]; simp)])
      go_wp2
      go_ret
      exact ⟨by rw [HW.out]; rfl, HB.out⟩
set_option maxHeartbeats 1000000 in
theorem do1_calls (h : Here w0 w ok g id lsn cs) (k : Int) (a b c : ByteArray) : Calls Try.prog 48 #[.pointer (some ⟨g, 0, none⟩), .agg #[.int .i64 k, .string a, .string b, .string c]] w fun e w' => e = .returned (.int .i64 (ins cs a c).2) ∧ After w0 w w' ok g id lsn (ins cs a c).1 := by
  have H := Aside0.mk h
  clear h
  go_enter Try.func48, Try.ntmps48
  go_wp2_with fail
  have hb0 : Below w.heap.size w (w.alloc (.cells #[.int .i64 k, .string a, .string b, .string c] 24)) := below_alloc (Below.refl _ _) _
  have hbx := heap_alloc_new w (.cells #[.int .i64 k, .string a, .string b, .string c] 24)
  generalize w.alloc (.cells #[.int .i64 k, .string a, .string b, .string c] 24) = w1 at hb0 hbx ⊢
  have H1 := Aside0.mk (H.out.next hb0)
  have HB0 := Aside0.mk hb0
  have HX := Aside0.mk hbx
  have x0 := blk_cell hbx 0
  have x1 := blk_cell hbx 1
  have x2 := blk_cell hbx 2
  have x3 := blk_cell hbx 3
  clear hbx hb0
  refine (H1.out.insert a c).mono ?_
  rintro e w2 ⟨rfl, hh, hk⟩
  have HA := Aside0.mk (After.pre HB0.out ⟨hh, hk⟩)
  clear hh hk
  go_wp2
  go_ret
  exact ⟨rfl, HA.out⟩
set_option maxHeartbeats 1000000 in
theorem do2_calls (h : Here w0 w ok g id lsn cs) (k : Int) (a b c : ByteArray) : Calls Try.prog 50 #[.pointer (some ⟨g, 0, none⟩), .agg #[.int .i64 k, .string a, .string b, .string c]] w fun e w' => e = .returned (.int .i64 (if wasN cs a b = 0 then upd cs a c else (cs, wasN cs a b)).2) ∧ After w0 w w' ok g id lsn (if wasN cs a b = 0 then upd cs a c else (cs, wasN cs a b)).1 := by
  have H := Aside0.mk h
  clear h
  by_cases hz : wasN cs a b = 0
  · rw [if_pos hz]
    have HZ := Aside0.mk hz
    clear hz
    go_enter Try.func50, Try.ntmps50
    go_wp2_with fail
    have hb0 : Below w.heap.size w (w.alloc (.cells #[.int .i64 k, .string a, .string b, .string c] 24)) := below_alloc (Below.refl _ _) _
    have hbx := heap_alloc_new w (.cells #[.int .i64 k, .string a, .string b, .string c] 24)
    generalize w.alloc (.cells #[.int .i64 k, .string a, .string b, .string c] 24) = w1 at hb0 hbx ⊢
    have H1 := Aside0.mk (H.out.next hb0)
    have HB0 := Aside0.mk hb0
    have HX := Aside0.mk hbx
    have x0 := blk_cell hbx 0
    have x1 := blk_cell hbx 1
    have x2 := blk_cell hbx 2
    have x3 := blk_cell hbx 3
    clear hbx hb0
    refine (was_calls H1.out k a b c).mono ?_
    rintro e w2 ⟨rfl, hb⟩
    have HB := Aside0.mk (below_then HB0.out HB0.out.size hb)
    have H2 := Aside0.mk (H1.out.next hb)
    have HX2 := Aside0.mk (blk_below HX.out hb)
    have y1 := blk_cell HX2.out 1
    have y3 := blk_cell HX2.out 3
    clear hb x0 x1 x2 x3
    rw [HZ.out]
    go_wp2_with fail
    refine (H2.out.update a c).mono ?_
    rintro e w3 ⟨rfl, hh, hk⟩
    have HA := Aside0.mk (After.pre HB.out ⟨hh, hk⟩)
    clear hh hk
    go_wp2
    go_ret
    exact ⟨rfl, HA.out⟩
  · rw [if_neg hz]
    go_enter Try.func50, Try.ntmps50
    go_wp2_with fail
    have hb0 : Below w.heap.size w (w.alloc (.cells #[.int .i64 k, .string a, .string b, .string c] 24)) := below_alloc (Below.refl _ _) _
    have hbx := heap_alloc_new w (.cells #[.int .i64 k, .string a, .string b, .string c] 24)
    generalize w.alloc (.cells #[.int .i64 k, .string a, .string b, .string c] 24) = w1 at hb0 hbx ⊢
    have H1 := Aside0.mk (H.out.next hb0)
    have HB0 := Aside0.mk hb0
    have HX := Aside0.mk hbx
    have x0 := blk_cell hbx 0
    have x1 := blk_cell hbx 1
    have x2 := blk_cell hbx 2
    have x3 := blk_cell hbx 3
    clear hbx hb0
    refine (was_calls H1.out k a b c).mono ?_
    rintro e w2 ⟨rfl, hb⟩
    have HB := Aside0.mk (below_then HB0.out HB0.out.size hb)
    clear hb x0 x1 x2 x3
    go_wp2
    go_ret
    exact ⟨rfl, H.out.same HB.out⟩
set_option maxHeartbeats 1000000 in
theorem do3_calls (h : Here w0 w ok g id lsn cs) (k : Int) (a b c : ByteArray) : Calls Try.prog 54 #[.pointer (some ⟨g, 0, none⟩), .agg #[.int .i64 k, .string a, .string b, .string c]] w fun e w' => e = .returned (.int .i64 (if wasN cs a b = 0 then del cs a else (cs, wasN cs a b)).2) ∧ After w0 w w' ok g id lsn (if wasN cs a b = 0 then del cs a else (cs, wasN cs a b)).1 := by
  have H := Aside0.mk h
  clear h
  by_cases hz : wasN cs a b = 0
  · rw [if_pos hz]
    have HZ := Aside0.mk hz
    clear hz
    go_enter Try.func54, Try.ntmps54
    go_wp2_with fail
    have hb0 : Below w.heap.size w (w.alloc (.cells #[.int .i64 k, .string a, .string b, .string c] 24)) := below_alloc (Below.refl _ _) _
    have hbx := heap_alloc_new w (.cells #[.int .i64 k, .string a, .string b, .string c] 24)
    generalize w.alloc (.cells #[.int .i64 k, .string a, .string b, .string c] 24) = w1 at hb0 hbx ⊢
    have H1 := Aside0.mk (H.out.next hb0)
    have HB0 := Aside0.mk hb0
    have HX := Aside0.mk hbx
    have x0 := blk_cell hbx 0
    have x1 := blk_cell hbx 1
    have x2 := blk_cell hbx 2
    have x3 := blk_cell hbx 3
    clear hbx hb0
    refine (was_calls H1.out k a b c).mono ?_
    rintro e w2 ⟨rfl, hb⟩
    have HB := Aside0.mk (below_then HB0.out HB0.out.size hb)
    have H2 := Aside0.mk (H1.out.next hb)
    have HX2 := Aside0.mk (blk_below HX.out hb)
    have y1 := blk_cell HX2.out 1
    have y3 := blk_cell HX2.out 3
    clear hb x0 x1 x2 x3
    rw [HZ.out]
    go_wp2_with fail
    refine (H2.out.delete a).mono ?_
    rintro e w3 ⟨rfl, hh, hk⟩
    have HA := Aside0.mk (After.pre HB.out ⟨hh, hk⟩)
    clear hh hk
    go_wp2
    go_ret
    exact ⟨rfl, HA.out⟩
  · rw [if_neg hz]
    go_enter Try.func54, Try.ntmps54
    go_wp2_with fail
    have hb0 : Below w.heap.size w (w.alloc (.cells #[.int .i64 k, .string a, .string b, .string c] 24)) := below_alloc (Below.refl _ _) _
    have hbx := heap_alloc_new w (.cells #[.int .i64 k, .string a, .string b, .string c] 24)
    generalize w.alloc (.cells #[.int .i64 k, .string a, .string b, .string c] 24) = w1 at hb0 hbx ⊢
    have H1 := Aside0.mk (H.out.next hb0)
    have HB0 := Aside0.mk hb0
    have HX := Aside0.mk hbx
    have x0 := blk_cell hbx 0
    have x1 := blk_cell hbx 1
    have x2 := blk_cell hbx 2
    have x3 := blk_cell hbx 3
    clear hbx hb0
    refine (was_calls H1.out k a b c).mono ?_
    rintro e w2 ⟨rfl, hb⟩
    have HB := Aside0.mk (below_then HB0.out HB0.out.size hb)
    clear hb x0 x1 x2 x3
    go_wp2
    go_ret
    exact ⟨rfl, H.out.same HB.out⟩
theorem After.mono {w' : World} {ok' : Nat → Prop} (h : After w0 w w' ok g id lsn cs) (hk : ∀ k, ok k → ok' k) : After w0 w w' ok' g id lsn cs :=
  ⟨h.here.mono (fun k h => h.elim (fun h => .inl (hk k h)) .inr), h.kept.mono hk⟩
set_option maxHeartbeats 1000000 in
theorem do_nil (w : World) (k : Int) (a b c : ByteArray) : Calls Try.prog 21 #[.pointer none, .agg #[.int .i64 k, .string a, .string b, .string c]] w fun e w' => e = .returned (.int .i64 1) ∧ Below w.heap.size w w' := by
  go_enter Try.func21, Try.ntmps21
  go_wp2
  go_ret
  exact ⟨rfl, by repeat (first | exact Below.refl _ _ | apply below_alloc | apply below_drew)⟩
theorem field1 (x y z : Value) (w : World) : (Instr.field 69 (.agg #[x, y, z]) 1).run Try.prog w = .ok y w := by
  kernel_rfl
set_option maxRecDepth 100000 in
set_option maxHeartbeats 2000000 in
theorem do_calls (h : Here w0 w ok g id lsn cs) (k : Int) (a b c : ByteArray) (ha : a.size ≤ 140737488351232) (hb : b.size ≤ 140737488351232) (hc : c.size ≤ 140737488351232) : Calls Try.prog 21 #[.pointer (some ⟨g, 0, none⟩), .agg #[.int .i64 k, .string a, .string b, .string c]] w fun e w' => e = .returned (.int .i64 (actDo cs k a b c).2) ∧ After w0 w w' ok g id lsn (actDo cs k a b c).1 := by
  have HH := Aside0.mk h
  have H := Aside0.mk h.bound
  clear h
  go_enter Try.func21, Try.ntmps21
  go_wp2_with fail
  have hb0 : Below w.heap.size w (w.alloc (.cells #[.int .i64 k, .string a, .string b, .string c] 24)) := below_alloc (Below.refl _ _) _
  have hbx := heap_alloc_new w (.cells #[.int .i64 k, .string a, .string b, .string c] 24)
  generalize w.alloc (.cells #[.int .i64 k, .string a, .string b, .string c] 24) = w1 at hb0 hbx ⊢
  have H1 := Aside0.mk (H.out.next hb0)
  have HB0 := Aside0.mk hb0
  have HX := Aside0.mk hbx
  have x0 := blk_cell hbx 0
  have x1 := blk_cell hbx 1
  have x2 := blk_cell hbx 2
  have x3 := blk_cell hbx 3
  clear hbx hb0
  have hle : w.heap.size < w1.heap.size := blk_lt HX.out
  refine (actmay_calls w1 k a b c ha hb hc).mono ?_
  rintro e w2 ⟨rfl, hb2⟩
  have HB2 := Aside0.mk (below_then HB0.out HB0.out.size hb2)
  have H2 := Aside0.mk (H1.out.next hb2)
  have HX2 := Aside0.mk (blk_below HX.out hb2)
  clear hb2 x0 x1 x2 x3 hle
  have x0 := blk_cell HX2.out 0
  have x1 := blk_cell HX2.out 1
  have x2 := blk_cell HX2.out 2
  have x3 := blk_cell HX2.out 3
  cases hm : actMay k a b c with
  | false =>
    have HD := Aside0.mk (show actDo cs k a b c = (cs, 1) from by unfold actDo; rw [hm]; rfl)
    clear hm
    go_wp2
    go_ret
    exact ⟨by rw [HD.out]; rfl, by rw [HD.out]; exact HH.out.same HB2.out⟩
  | true =>
    have HX3 := HX2
    have HB3 := HB2
    have H3 := H2
    have hfl : ∀ (x y z : Value) (wz : World), (Instr.field 69 (.agg #[x, y, z]) 1).run Try.prog wz = .ok y wz := field1
    rcases may_kind hm with rfl | rfl | rfl
    · skip
      have HD := Aside0.mk (show actDo cs 1 a b c = (ins cs a c) from by unfold actDo; rw [hm]; rfl)
      clear hm
      go_wp2_with fail
      go_region_held3 (fun wx => wx.cell? ⟨w.heap.size, 0, none⟩ = some (.int .i64 1) ∧ wx.cell? ⟨w.heap.size, 1, none⟩ = some (.string a) ∧ wx.cell? ⟨w.heap.size, 2, none⟩ = some (.string b) ∧ wx.cell? ⟨w.heap.size, 3, none⟩ = some (.string c)) (go_keep) ((first | (go_at_call 29; refine (ways_calls _).mono ?_; rintro e w4 ⟨rfl, hmap, hb⟩; have y0 := blk_cell (blk_below (blk_drew HX3.out) hb) 0; have y1 := blk_cell (blk_below (blk_drew HX3.out) hb) 1; have y2 := blk_cell (blk_below (blk_drew HX3.out) hb) 2; have y3 := blk_cell (blk_below (blk_drew HX3.out) hb) 3; have HX4 := Aside0.mk (blk_below (blk_drew HX3.out) hb); have HM := Aside0.mk hmap; have H4 := Aside0.mk (H3.out.drew.next hb); have HB4 := Aside0.mk (below_then (below_drew HB3.out) (below_drew HB3.out).size hb); clear hmap hb) | (rw [run_look (v := (.agg #[.func (.func 47) #[] #[], .func (.func 48) #[] #[], .int .i64 3])) Try.underlying70 Try.underlying22 (by exact HM.out) 1 rfl]) | (go_at_call 48; refine (do1_calls H4.out 1 a b c).mono ?_; rintro e w5 ⟨rfl, hA⟩; have hz := blk_kept HX4.out hA.kept (fun h => Nat.lt_irrefl _ h.2); have z0 := blk_cell hz 0; have z1 := blk_cell hz 1; have z2 := blk_cell hz 2; have z3 := blk_cell hz 3; have HA := Aside0.mk (After.pre HB4.out hA); clear hA hz)))
      all_goals
        go_wp2
        go_ret
        exact ⟨by rw [HD.out]; rfl, by rw [HD.out]; exact HA.out.mono (fun k hk => hk.1)⟩
    · by_cases hz : wasN cs a b = 0
      · have HZ := Aside0.mk hz
        clear hz
        have HD := Aside0.mk (show actDo cs 2 a b c = (upd cs a c) from by unfold actDo; rw [hm]; rw [if_pos rfl, if_neg (by decide)]; rw [if_pos HZ.out]; rfl)
        clear hm
        go_wp2_with fail
        go_region_held3 (fun wx => wx.cell? ⟨w.heap.size, 0, none⟩ = some (.int .i64 2) ∧ wx.cell? ⟨w.heap.size, 1, none⟩ = some (.string a) ∧ wx.cell? ⟨w.heap.size, 2, none⟩ = some (.string b) ∧ wx.cell? ⟨w.heap.size, 3, none⟩ = some (.string c)) (go_keep) ((first | (go_at_call 29; refine (ways_calls _).mono ?_; rintro e w4 ⟨rfl, hmap, hb⟩; have y0 := blk_cell (blk_below (blk_drew HX3.out) hb) 0; have y1 := blk_cell (blk_below (blk_drew HX3.out) hb) 1; have y2 := blk_cell (blk_below (blk_drew HX3.out) hb) 2; have y3 := blk_cell (blk_below (blk_drew HX3.out) hb) 3; have HX4 := Aside0.mk (blk_below (blk_drew HX3.out) hb); have HM := Aside0.mk hmap; have H4 := Aside0.mk (H3.out.drew.next hb); have HB4 := Aside0.mk (below_then (below_drew HB3.out) (below_drew HB3.out).size hb); clear hmap hb) | (rw [run_look (v := (.agg #[.func (.func 49) #[] #[], .func (.func 50) #[] #[], .int .i64 2])) Try.underlying70 Try.underlying22 (by exact HM.out) 2 rfl]) | (go_at_call 50; refine (do2_calls H4.out 2 a b c).mono ?_; rintro e w5 ⟨rfl, hA⟩; rw [if_pos HZ.out] at hA; rw [if_pos HZ.out]; have hz := blk_kept HX4.out hA.kept (fun h => Nat.lt_irrefl _ h.2); have z0 := blk_cell hz 0; have z1 := blk_cell hz 1; have z2 := blk_cell hz 2; have z3 := blk_cell hz 3; have HA := Aside0.mk (After.pre HB4.out hA); clear hA hz)))
        all_goals
          go_wp2
          go_ret
          exact ⟨by rw [HD.out]; rfl, by rw [HD.out]; exact HA.out.mono (fun k hk => hk.1)⟩
      · have HZ := Aside0.mk hz
        clear hz
        have HD := Aside0.mk (show actDo cs 2 a b c = (cs, wasN cs a b) from by unfold actDo; rw [hm]; rw [if_pos rfl, if_neg (by decide)]; rw [if_neg HZ.out])
        clear hm
        go_wp2_with fail
        go_region_held3 (fun wx => wx.cell? ⟨w.heap.size, 0, none⟩ = some (.int .i64 2) ∧ wx.cell? ⟨w.heap.size, 1, none⟩ = some (.string a) ∧ wx.cell? ⟨w.heap.size, 2, none⟩ = some (.string b) ∧ wx.cell? ⟨w.heap.size, 3, none⟩ = some (.string c)) (go_keep) ((first | (go_at_call 29; refine (ways_calls _).mono ?_; rintro e w4 ⟨rfl, hmap, hb⟩; have y0 := blk_cell (blk_below (blk_drew HX3.out) hb) 0; have y1 := blk_cell (blk_below (blk_drew HX3.out) hb) 1; have y2 := blk_cell (blk_below (blk_drew HX3.out) hb) 2; have y3 := blk_cell (blk_below (blk_drew HX3.out) hb) 3; have HX4 := Aside0.mk (blk_below (blk_drew HX3.out) hb); have HM := Aside0.mk hmap; have H4 := Aside0.mk (H3.out.drew.next hb); have HB4 := Aside0.mk (below_then (below_drew HB3.out) (below_drew HB3.out).size hb); clear hmap hb) | (rw [run_look (v := (.agg #[.func (.func 49) #[] #[], .func (.func 50) #[] #[], .int .i64 2])) Try.underlying70 Try.underlying22 (by exact HM.out) 2 rfl]) | (go_at_call 50; refine (do2_calls H4.out 2 a b c).mono ?_; rintro e w5 ⟨rfl, hA⟩; rw [if_neg HZ.out] at hA; rw [if_neg HZ.out]; have hz := blk_kept HX4.out hA.kept (fun h => Nat.lt_irrefl _ h.2); have z0 := blk_cell hz 0; have z1 := blk_cell hz 1; have z2 := blk_cell hz 2; have z3 := blk_cell hz 3; have HA := Aside0.mk (After.pre HB4.out hA); clear hA hz)))
        all_goals
          go_wp2
          go_ret
          exact ⟨by rw [HD.out]; rfl, by rw [HD.out]; exact HA.out.mono (fun k hk => hk.1)⟩
    · by_cases hz : wasN cs a b = 0
      · have HZ := Aside0.mk hz
        clear hz
        have HD := Aside0.mk (show actDo cs 3 a b c = (del cs a) from by unfold actDo; rw [hm]; rw [if_pos rfl, if_neg (by decide)]; rw [if_pos HZ.out]; rfl)
        clear hm
        go_wp2_with fail
        go_region_held3 (fun wx => wx.cell? ⟨w.heap.size, 0, none⟩ = some (.int .i64 3) ∧ wx.cell? ⟨w.heap.size, 1, none⟩ = some (.string a) ∧ wx.cell? ⟨w.heap.size, 2, none⟩ = some (.string b) ∧ wx.cell? ⟨w.heap.size, 3, none⟩ = some (.string c)) (go_keep) ((first | (go_at_call 29; refine (ways_calls _).mono ?_; rintro e w4 ⟨rfl, hmap, hb⟩; have y0 := blk_cell (blk_below (blk_drew HX3.out) hb) 0; have y1 := blk_cell (blk_below (blk_drew HX3.out) hb) 1; have y2 := blk_cell (blk_below (blk_drew HX3.out) hb) 2; have y3 := blk_cell (blk_below (blk_drew HX3.out) hb) 3; have HX4 := Aside0.mk (blk_below (blk_drew HX3.out) hb); have HM := Aside0.mk hmap; have H4 := Aside0.mk (H3.out.drew.next hb); have HB4 := Aside0.mk (below_then (below_drew HB3.out) (below_drew HB3.out).size hb); clear hmap hb) | (rw [run_look (v := (.agg #[.func (.func 53) #[] #[], .func (.func 54) #[] #[], .int .i64 1])) Try.underlying70 Try.underlying22 (by exact HM.out) 3 rfl]) | (go_at_call 54; refine (do3_calls H4.out 3 a b c).mono ?_; rintro e w5 ⟨rfl, hA⟩; rw [if_pos HZ.out] at hA; rw [if_pos HZ.out]; have hz := blk_kept HX4.out hA.kept (fun h => Nat.lt_irrefl _ h.2); have z0 := blk_cell hz 0; have z1 := blk_cell hz 1; have z2 := blk_cell hz 2; have z3 := blk_cell hz 3; have HA := Aside0.mk (After.pre HB4.out hA); clear hA hz)))
        all_goals
          go_wp2
          go_ret
          exact ⟨by rw [HD.out]; rfl, by rw [HD.out]; exact HA.out.mono (fun k hk => hk.1)⟩
      · have HZ := Aside0.mk hz
        clear hz
        have HD := Aside0.mk (show actDo cs 3 a b c = (cs, wasN cs a b) from by unfold actDo; rw [hm]; rw [if_pos rfl, if_neg (by decide)]; rw [if_neg HZ.out])
        clear hm
        go_wp2_with fail
        go_region_held3 (fun wx => wx.cell? ⟨w.heap.size, 0, none⟩ = some (.int .i64 3) ∧ wx.cell? ⟨w.heap.size, 1, none⟩ = some (.string a) ∧ wx.cell? ⟨w.heap.size, 2, none⟩ = some (.string b) ∧ wx.cell? ⟨w.heap.size, 3, none⟩ = some (.string c)) (go_keep) ((first | (go_at_call 29; refine (ways_calls _).mono ?_; rintro e w4 ⟨rfl, hmap, hb⟩; have y0 := blk_cell (blk_below (blk_drew HX3.out) hb) 0; have y1 := blk_cell (blk_below (blk_drew HX3.out) hb) 1; have y2 := blk_cell (blk_below (blk_drew HX3.out) hb) 2; have y3 := blk_cell (blk_below (blk_drew HX3.out) hb) 3; have HX4 := Aside0.mk (blk_below (blk_drew HX3.out) hb); have HM := Aside0.mk hmap; have H4 := Aside0.mk (H3.out.drew.next hb); have HB4 := Aside0.mk (below_then (below_drew HB3.out) (below_drew HB3.out).size hb); clear hmap hb) | (rw [run_look (v := (.agg #[.func (.func 53) #[] #[], .func (.func 54) #[] #[], .int .i64 1])) Try.underlying70 Try.underlying22 (by exact HM.out) 3 rfl]) | (go_at_call 54; refine (do3_calls H4.out 3 a b c).mono ?_; rintro e w5 ⟨rfl, hA⟩; rw [if_neg HZ.out] at hA; rw [if_neg HZ.out]; have hz := blk_kept HX4.out hA.kept (fun h => Nat.lt_irrefl _ h.2); have z0 := blk_cell hz 0; have z1 := blk_cell hz 1; have z2 := blk_cell hz 2; have z3 := blk_cell hz 3; have HA := Aside0.mk (After.pre HB4.out hA); clear hA hz)))
        all_goals
          go_wp2
          go_ret
          exact ⟨by rw [HD.out]; rfl, by rw [HD.out]; exact HA.out.mono (fun k hk => hk.1)⟩
end
end Go.Proofs.Ytidgfigfebkieaa
end
section
namespace Go.Proofs.Ytidgfigfebkieaa
open Go.RowKit Go.Proofs.YtidgfigfebkieaaW.PrintWords Go.Proofs.YtidgfigfebkieaaW.PrintLast Go.Proofs.YtidgfigfebkieaaW.PrintMore
open Rf Go.ChangeMaps
set_option linter.unusedVariables false
set_option linter.unusedSimpArgs false
def sA : ByteArray := ⟨#[97]⟩
def sX : ByteArray := ⟨#[120]⟩
def sY : ByteArray := ⟨#[121]⟩
theorem lv1 : actDo [] 1 sA ⟨#[]⟩ sX = ([cel sA sX], 0) := by kernel_rfl
theorem lv2 : actDo [cel sA sX] 3 sA sY ⟨#[]⟩ = ([cel sA sX], 10) := by kernel_rfl
theorem lv3 : actTurn 2 sA sX sY = (2, sA, sY, sX) := by kernel_rfl
set_option maxHeartbeats 1000000 in
theorem lives_calls (w : World) : Calls Try.prog 10 #[] w fun e w' => e = .returned (.bool true) ∧ Below w.heap.size w w' := by
  go_enter Try.func10, Try.ntmps10
  go_wp2_with fail
  refine (new_ok 0 w (by decide) (by decide)).mono ?_
  rintro e w1 ⟨rfl, hp, hb⟩
  have H1 := Aside0.mk (show Here w w1 _ w.heap.size 0 0 [] from ⟨hp _ (Nat.le_refl _), hb, Valid.nil, by decide, by decide⟩)
  clear hp hb
  go_wp2_with fail
  refine (do_calls H1.out 1 sA ⟨#[]⟩ sX (by decide) (by decide) (by decide)).mono ?_
  rintro e w2 ⟨rfl, hA⟩
  rw [lv1] at hA ⊢
  have H2 := Aside0.mk hA.here
  clear hA
  go_wp2_with fail
  refine (turn_calls w2 2 sA sX sY (by decide) (by decide) (by decide)).mono ?_
  rintro e w3 ⟨rfl, hb⟩
  rw [lv3]
  have H3 := Aside0.mk (H2.out.next hb)
  have HB3 := Aside0.mk hb
  clear hb
  go_wp2_with fail
  have hb0 : Below w3.heap.size w3 (w3.alloc (.cells #[.int .i64 2, .string sA, .string sY, .string sX] 24)) := below_alloc (Below.refl _ _) _
  have hbx := heap_alloc_new w3 (.cells #[.int .i64 2, .string sA, .string sY, .string sX] 24)
  generalize w3.alloc (.cells #[.int .i64 2, .string sA, .string sY, .string sX] 24) = w4 at hb0 hbx ⊢
  refine (do_calls (H3.out.bound.next hb0) 3 sA sY ⟨#[]⟩ (by decide) (by decide) (by decide)).mono ?_
  rintro e w5 ⟨rfl, hA⟩
  rw [lv2] at hA ⊢
  have hx := blk_kept hbx hA.kept (fun h => Nat.lt_irrefl _ h.2)
  have H5 := Aside0.mk hA.here
  have x0 := blk_cell hx 0
  have x2 := blk_cell hx 2
  have x3 := blk_cell hx 3
  have hX : sX.toList = [120] := by rw [ByteArray.toList_eq]; rfl
  have hY : sY.toList = [121] := by rw [ByteArray.toList_eq]; rfl
  clear hA hb0 hbx hx
  go_wp2
  go_ret
  exact ⟨rfl, H5.out.bel⟩
end Go.Proofs.Ytidgfigfebkieaa
end
