/- The calls of page's writing functions: Insert, Update, Delete. -/
import Derived.Test.YtidkdbohkbfhbaaWa
import Derived.BigRegion
import Derived.Deep.RegionLaw
namespace Go.Proofs.Ytidkdbohkbfhbaa
open Go.RowKit Go.Proofs.YtidkdbohkbfhbaaW.PrintWords Go.Proofs.YtidkdbohkbfhbaaW.PrintLast Go.Proofs.YtidkdbohkbfhbaaW.PrintMore
open Rf
set_option linter.unusedVariables false
set_option linter.unusedSimpArgs false

/-- A page of the call's own, at block g. -/
structure IsPg (w : World) (base : Nat) (ok : Nat → Prop) (g : Nat) (id lsn : Int) (cs : List SGCell) : Prop where
  low : base ≤ g
  mine : ok g
  held : ∃ v, PgAt w g id lsn v ∧ Kd.R kGCell 46 w base (fun k => ok k ∧ k ≠ g) v cs

theorem IsPg.stored {w : World} {base : Nat} {ok : Nat → Prop} {g : Nat} {id lsn : Int} {v v1 : Value} {cs : List SGCell} (hlow : base ≤ g) (hm : ok g) (h : PgAt w g id lsn v)
    (hR : Kd.R kGCell 46 w base (fun k => ok k ∧ k ≠ g) v1 cs) : IsPg (w.setCell ⟨g, 2, none⟩ v1) base ok g id lsn cs :=
  ⟨hlow, hm, v1, blk_set h 2 v1, Kd.R_far (p := ⟨g, 2, none⟩) hR (fun _ hk => hk.2) v1⟩
theorem IsPg.mono {w : World} {base : Nat} {ok ok' : Nat → Prop} {g : Nat} {id lsn : Int} {cs : List SGCell} (h : IsPg w base ok g id lsn cs) (hok : ∀ k, ok k → ok' k) : IsPg w base ok' g id lsn cs := by
  obtain ⟨h1, h2, v, h3, h4⟩ := h
  exact ⟨h1, hok _ h2, v, h3, Kd.R_mono h4 (fun k hk => ⟨hok k hk.1, hk.2⟩)⟩
theorem IsPg.below {w w' : World} {base : Nat} {ok : Nat → Prop} {g : Nat} {id lsn : Int} {cs : List SGCell} (h : IsPg w base ok g id lsn cs) (hb : Below w.heap.size w w') : IsPg w' base ok g id lsn cs := by
  obtain ⟨h1, h2, v, h3, h4⟩ := h
  exact ⟨h1, h2, v, h3.below hb, Kd.R_below h4 hb⟩
theorem IsPg.kept {w w' : World} {base : Nat} {ok S : Nat → Prop} {g : Nat} {id lsn : Int} {cs : List SGCell} (h : IsPg w base ok g id lsn cs) (hk : Kept w w' S) (hne : ∀ k, ok k → ¬ S k) : IsPg w' base ok g id lsn cs := by
  obtain ⟨h1, h2, v, h3, h4⟩ := h
  exact ⟨h1, h2, v, blk_kept h3 hk (hne g h2), Kd.R_kept h4 hk (fun k hk => hne k hk.1)⟩

/-- A whole element of a row is written. -/
theorem row_put {w : World} {base go n c : Nat} {ok : Nat → Prop} {cs : List SGCell} (h : Kd.R kGCell 46 w base ok (.slice (some ⟨go, 0, none⟩) n c) cs) (i : Nat) (hi : i < cs.length) (x : SGCell) :
    Kd.R kGCell 46 (((w.setCell ⟨go, i * 3, none⟩ (.bool x.f0)).setCell ⟨go, i * 3 + 1, none⟩ (.string x.f1)).setCell ⟨go, i * 3 + 2, none⟩ (.string x.f2)) base ok (.slice (some ⟨go, 0, none⟩) n c) (cs.set i x) ∧
      w.grownBy (((w.setCell ⟨go, i * 3, none⟩ (.bool x.f0)).setCell ⟨go, i * 3 + 1, none⟩ (.string x.f1)).setCell ⟨go, i * 3 + 2, none⟩ (.string x.f2)) (some go) := by
  have hn := (Kd.R_reads' h).1
  obtain ⟨ad, ea, hx0, hx1, hx2⟩ := cell_at (Kd.R_reads' h).2.2 i hi
  cases ea
  simp only [add_plain] at hx0 hx1 hx2
  have hs := Kd.R_seg (okp := fun _ => False) (seg := [.bool x.f0, .string x.f1, .string x.f2]) (j := 0) (c := [.bool (rd_TGCell cs i).f0, .string (rd_TGCell cs i).f1, .string (rd_TGCell cs i).f2]) (x' := x) h (i : Int) (by omega) (by omega) rfl
    (fun j u hu => by
      rw [Int.toNat_natCast]
      match j, hu with
      | 0, hu => rw [← Option.some.inj hu]; exact hx0
      | 1, hu => rw [← Option.some.inj hu]; exact hx1
      | 2, hu => rw [← Option.some.inj hu]; exact hx2) (Nat.le_refl 3) (kGCell_mkM _ _ _ x) (fun _ hk => hk.elim)
  rw [Int.toNat_natCast] at hs
  exact hs

/-- Nothing was changed. -/
theorem IsPg.same {w0 w w' : World} {ok : Nat → Prop} {g : Nat} {id lsn : Int} {cs : List SGCell} (h : IsPg w w0.heap.size ok g id lsn cs) (hB : Below w0.heap.size w0 w) (hb : Below w.heap.size w w') :
    IsPg w' w0.heap.size (fun k => ok k ∨ w.heap.size ≤ k) g id lsn cs ∧ Below w0.heap.size w0 w' ∧ Kept w w' ok :=
  ⟨(h.below hb).mono (fun _ hk => .inl hk), below_then hB hB.size hb, Kept.of_below hb ok⟩

set_option maxHeartbeats 1000000 in
theorem insert_calls (w0 w : World) (ok : Nat → Prop) (g : Nat) (id lsn : Int) (cs : List SGCell) (key value : ByteArray)
    (hB : Below w0.heap.size w0 w) (hp : IsPg w w0.heap.size ok g id lsn cs) (hS : Small cs) (hl : cs.length ≤ 64) :
    Calls Try.prog 19 #[.pointer (some ⟨g, 0, none⟩), .string key, .string value] w fun e w' => e = .returned (.int .i64 (ins cs key value).2) ∧
      IsPg w' w0.heap.size (fun k => ok k ∨ w.heap.size ≤ k) g id lsn (ins cs key value).1 ∧ Below w0.heap.size w0 w' ∧ Kept w w' ok := by
  have HP := Aside0.mk hp
  obtain ⟨hlow, hmine, v, hat, hR⟩ := hp
  obtain ⟨A, c, rfl, hlc, hC⟩ := Kd.R_reads hR
  have HAT := Aside0.mk hat
  have HR := Aside0.mk hR
  have HC := Aside0.mk hC
  have HS := Aside0.mk hS
  have HB := Aside0.mk hB
  have hg2 : w.cell? ⟨g, 2, none⟩ = some (.slice A cs.length c) := blk_cell HAT.out 2
  clear hat hR hC hB hS
  by_cases hm : mayB key value = true
  · by_cases hf : 0 ≤ fnd cs key
    · have HI := Aside0.mk (show ins cs key value = (cs, 9) by unfold ins; rw [if_pos hm, if_pos hf])
      have hf' : decide (0 ≤ fnd cs key) = true := by simpa using hf
      go_enter Try.func19, Try.ntmps19
      go_wp2_with fail
      refine (may_calls _ _ _).mono ?_
      rintro e w1 ⟨rfl, hd1⟩
      rw [hm]
      go_wp2_with fail
      refine (find_calls w1 g id lsn A c cs key (HAT.out.below hd1.below) (Kd.C_below HC.out hd1.below) (by omega)).mono ?_
      rintro e w2 ⟨rfl, hb2⟩
      have HB2 := Aside0.mk (bel_trans hd1.below hb2)
      go_wp2
      go_ret
      rw [HI.out]
      exact ⟨rfl, HP.out.same HB.out HB2.out⟩
    · go_enter Try.func19, Try.ntmps19
      go_wp2_with fail
      refine (may_calls _ _ _).mono ?_
      rintro e w1 ⟨rfl, hd1⟩
      rw [hm]
      go_wp2_with fail
      refine (find_calls w1 g id lsn A c cs key (HAT.out.below hd1.below) (Kd.C_below HC.out hd1.below) (by omega)).mono ?_
      rintro e w2 ⟨rfl, hb2⟩
      have HB2 := Aside0.mk (bel_trans hd1.below hb2)
      have HAT2 := Aside0.mk (HAT.out.below HB2.out)
      have HC2 := Aside0.mk (Kd.C_below HC.out HB2.out)
      have hg2' : w2.cell? ⟨g, 2, none⟩ = some (.slice A cs.length c) := blk_cell HAT2.out 2
      go_wp2
      go_loopg [7] cs.length (fun gk v7 wr => ∃ k : Nat, Aside0 (k + gk = cs.length) ∧ v7 = .int .i64 k ∧ k ≤ frs cs ∧ Aside0 (w2 = wr))
      case atStart => exact ⟨0, ⟨by omega⟩, rfl, by omega, ⟨rfl⟩⟩
      case round =>
        obtain ⟨k, Hk, rfl, hkf, Hw⟩ := hrel
        obtain rfl := Hw.out
        clear Hw
        have hfl := frs_le cs
        by_cases hlt : k < frs cs
        · obtain ⟨ad, ea, hx0, hx1, hx2⟩ := cell_at HC2.out k (by omega)
          cases ea
          rw [frs_used cs k hlt] at hx0
          have hlt' : k < cs.length := by omega
          go_wp2
          go_roundg (gk - 1)
          case measure => have := Hk.out; omega
          case rel => exact ⟨k + 1, ⟨by have := Hk.out; omega⟩, by go_num, by omega, ⟨rfl⟩⟩
        · obtain rfl : k = frs cs := by omega
          clear hlt hkf hfl
          -- the slot is known: the two ways part on whether it is a new one
          have hfr : frs cs ≤ cs.length := frs_le cs
          have hz : csz (cel key value) ≤ 100 := by have := (mayB_iff key value).1 hm; rw [csz_cel]; omega
          have hkz : (cel key value).f1.size ≤ 1000 := by have := (mayB_iff key value).1 hm; show key.size ≤ 1000; omega
          have hvz : (cel key value).f2.size ≤ 1000 := by have := (mayB_iff key value).1 hm; show value.size ≤ 1000; omega
          by_cases hend : cs.length ≤ frs cs
          · have hend2 : frs cs = cs.length := by omega
            have HE := Aside0.mk hend2
            rw [hend2]
            clear hend hend2 hfr
            go_wp2_with fail
            refine (size_calls (cel key value) _ hkz hvz).mono ?_
            rintro e w3 ⟨rfl, hb3⟩
            have HB3 := Aside0.mk (bel_trans HB2.out (bel_trans (below_alloc (Below.refl _ w2) _) hb3))
            have HX3 := Aside0.mk (show w3.heap[w2.heap.size]? = some (.cells #[.bool true, .string key, .string value] 46 (0, 0)) from (hb3.block _ (by simp)).trans (heap_alloc_new w2 _))
            clear hb3
            have HAT3 := Aside0.mk (HAT.out.below HB3.out)
            have HC3 := Aside0.mk (Kd.C_below HC.out HB3.out)
            have hg3 : w3.cell? ⟨g, 2, none⟩ = some (.slice A cs.length c) := blk_cell HAT3.out 2
            by_cases h64 : cs.length = 64
            · have HI := Aside0.mk (show ins cs key value = (cs, 7) by
                unfold ins
                rw [if_pos hm, if_neg (by omega), if_pos (.inl (by rw [HE.out]; exact h64))])
              have h64' : ((cs.length : Int) == 64) = true := by simp; omega
              clear h64
              go_wp2
              go_ret
              rw [HI.out]
              exact ⟨rfl, HP.out.same HB.out HB3.out⟩
            · have h64' : ((cs.length : Int) == 64) = false := by simp; omega
              have H64 := Aside0.mk h64
              clear h64
              go_wp2_with fail
              refine (free_calls w3 g id lsn A c cs HAT3.out HC3.out HS.out).mono ?_
              rintro e w4 ⟨rfl, hb4⟩
              have HB4 := Aside0.mk (bel_trans HB3.out hb4)
              have HX4 := Aside0.mk ((hb4.block _ (blk_lt HX3.out)).trans HX3.out)
              clear hb4
              have HAT4 := Aside0.mk (HAT.out.below HB4.out)
              have HR4 := Aside0.mk (Kd.R_mono (Kd.R_below HR.out HB4.out) (fun k hk => (⟨.inl hk.1, hk.2⟩ : (ok k ∨ w.heap.size ≤ k) ∧ k ≠ g)))
              have HBw4 := Aside0.mk (below_then HB.out HB.out.size HB4.out)
              have hsz := HBw4.out.size
              have hg4 : w4.cell? ⟨g, 2, none⟩ = some (.slice A cs.length c) := blk_cell HAT4.out 2
              have hy0 := blk_cell HX4.out 0
              have hy1 := blk_cell HX4.out 1
              have hy2 := blk_cell HX4.out 2
              by_cases hroom : free cs < (csz (cel key value) : Int) + 4
              · have HI := Aside0.mk (show ins cs key value = (cs, 7) by
                  unfold ins insNeed
                  rw [if_pos hm, if_neg (by omega), if_pos (.inr (by rw [if_pos HE.out]; rw [csz_cel] at hroom; omega))])
                go_wp2
                go_ret
                rw [HI.out]
                exact ⟨rfl, HP.out.same HB.out HB4.out⟩
              · have HI := Aside0.mk (show ins cs key value = (cs ++ [cel key value], 0) by
                  unfold ins insAt insNeed
                  rw [if_pos hm, if_neg (by omega), if_neg (by rw [if_pos HE.out, HE.out]; rw [csz_cel] at hroom; have := H64.out; omega), if_pos HE.out])
                have hg4a : ∀ o, (w4.alloc o).cell? ⟨g, 2, none⟩ = some (.slice A cs.length c) := fun o => blk_cell (blk_alloc HAT4.out o) 2
                have hlen : (cs ++ [cel key value]).length = cs.length + 1 := by simp
                go_wp2_with fail
                go_region_law (refine R_append_drew kGCell (w0 := w0) (W := w4) w0.heap.size (by rfl) (.tmp 74) (.tmp 76) 31 46 (.agg #[(.bool false), (.string ⟨#[]⟩), (.string ⟨#[]⟩)]) 40 (by rfl) Try.underlying31 Rf.info46 rfl (by decide) (by omega) (.slice A cs.length c) cs (cel key value) [.bool true, .string key, .string value] (fun k => (ok k ∨ w.heap.size ≤ k) ∧ k ≠ g) (fun _ => False) (by rfl) (by rfl) (kGCell_mkM _ _ _ (cel key value)) (fun _ hk => hk.elim) ?hfr HR4.out HBw4.out hsz (by omega) ?_; (case hfr => intro k hk; exact ⟨.inr (by have := HB4.out.size; omega), by have := blk_lt HAT4.out; omega⟩); intro v1 w5 ho hb hg hat; obtain ⟨A1, c1, hv1⟩ := Kd.R_slice ho; rw [hlen] at hv1; rw [hv1]; rw [hv1] at ho; have HAT5 := Aside0.mk (blk_grown HAT4.out hg (Kd.R_ne HR4.out HAT4.out (by decide))); have hg5 : w5.cell? ⟨g, 2, none⟩ = some (.slice A cs.length c) := blk_cell HAT5.out 2; have hf5 := blk_frozen HAT5.out 2; have HO := Aside0.mk ho; have HG5 := Aside0.mk hg; have HB5 := Aside0.mk hb; clear ho hat hv1 hg hb)
                all_goals
                  go_wp2
                  go_ret
                  rw [HI.out]
                  refine ⟨rfl, IsPg.stored hlow (.inl hmine) HAT5.out HO.out, HB5.out.setCell hlow _, ?_⟩
                  exact ((Kept.of_grown HG5.out (Kept.of_below HB4.out ok) (fun k hk => .inl (HR.out.1 k hk).1)).setCell (.inl hmine) _)
          · obtain ⟨go, cap, ev, hgo, hgl, cells, hgc⟩ := Kd.R_form HR.out (by omega)
            obtain ⟨rfl, rfl⟩ : A = some ⟨go, 0, none⟩ ∧ c = cap := by injection ev with e1 e2 e3; exact ⟨e1, e3⟩
            clear ev
            obtain ⟨ad, ea, hx0, hx1, hx2⟩ := cell_at HC2.out (frs cs) (by omega)
            cases ea
            simp only [add_plain] at hx0 hx1 hx2
            rw [frs_free cs (by omega)] at hx0
            have hend' : frs cs < cs.length := by omega
            have hne : ((frs cs : Int) == (cs.length : Int)) = false := by simp; omega
            have hne' : (frs cs == cs.length) = false := by simp; omega
            go_wp2_with fail
            refine (size_calls (cel key value) _ hkz hvz).mono ?_
            rintro e w3 ⟨rfl, hb3⟩
            have HB3 := Aside0.mk (bel_trans HB2.out (bel_trans (below_alloc (Below.refl _ w2) _) hb3))
            have HX3 := Aside0.mk (show w3.heap[w2.heap.size]? = some (.cells #[.bool true, .string key, .string value] 46 (0, 0)) from (hb3.block _ (by simp)).trans (heap_alloc_new w2 _))
            clear hb3
            have HAT3 := Aside0.mk (HAT.out.below HB3.out)
            have HC3 := Aside0.mk (Kd.C_below HC.out HB3.out)
            have hg3 : w3.cell? ⟨g, 2, none⟩ = some (.slice (some ⟨go, 0, none⟩) cs.length c) := blk_cell HAT3.out 2
            have h64 : ((frs cs : Int) == 64) = false := by simp; omega
            go_wp2_with fail
            refine (free_calls w3 g id lsn (some ⟨go, 0, none⟩) c cs HAT3.out HC3.out HS.out).mono ?_
            rintro e w4 ⟨rfl, hb4⟩
            have HB4 := Aside0.mk (bel_trans HB3.out hb4)
            have HX4 := Aside0.mk ((hb4.block _ (blk_lt HX3.out)).trans HX3.out)
            clear hb4
            have HAT4 := Aside0.mk (HAT.out.below HB4.out)
            have HR4 := Aside0.mk (Kd.R_mono (Kd.R_below HR.out HB4.out) (fun k hk => (⟨.inl hk.1, hk.2⟩ : (ok k ∨ w.heap.size ≤ k) ∧ k ≠ g)))
            have HBw4 := Aside0.mk (below_then HB.out HB.out.size HB4.out)
            have hsz := HBw4.out.size
            have hg4 : w4.cell? ⟨g, 2, none⟩ = some (.slice (some ⟨go, 0, none⟩) cs.length c) := blk_cell HAT4.out 2
            have hy0 := blk_cell HX4.out 0
            have hy1 := blk_cell HX4.out 1
            have hy2 := blk_cell HX4.out 2
            by_cases hroom : free cs < (csz (cel key value) : Int)
            · have HI := Aside0.mk (show ins cs key value = (cs, 7) by
                unfold ins insNeed
                rw [if_pos hm, if_neg (by omega), if_pos (.inr (by rw [if_neg (by omega)]; rw [csz_cel] at hroom; omega))])
              go_wp2
              go_ret
              rw [HI.out]
              exact ⟨rfl, HP.out.same HB.out HB4.out⟩
            · obtain ⟨ad, ea, hz0, hz1, hz2⟩ := cell_at (Kd.R_reads' HR4.out).2.2 (frs cs) (by omega)
              cases ea
              simp only [add_plain] at hz0 hz1 hz2
              have hgc4 : w4.heap[go]? = some (.cells cells 46 (0, 0)) := (HB4.out.block go hgl).trans hgc
              have hf0 := blk_frozen hgc4 (frs cs * 3)
              have hf1 := blk_frozen hgc4 (frs cs * 3 + 1)
              have hf2 := blk_frozen hgc4 (frs cs * 3 + 2)
              go_wp2
              go_region
              all_goals
                go_wp2
                go_ret
                have HI : ins cs key value = (cs.set (frs cs) (cel key value), 0) := by
                  unfold ins insAt insNeed
                  rw [if_pos hm, if_neg (by omega), if_neg (by rw [if_neg (by omega)]; rw [csz_cel] at hroom; omega), if_neg (by omega)]
                rw [HI]
                have hrow := row_put HR4.out (frs cs) (by omega) (cel key value)
                refine ⟨rfl, ⟨hlow, .inl hmine, _, blk_drew (blk_grown HAT4.out hrow.2 (Kd.R_ne HR4.out HAT4.out (by decide))), Kd.R_drew hrow.1⟩, (HBw4.out.grown hrow.2 hsz (fun k hk => by injection hk with hk; omega)).drew, ?_⟩
                exact (Kept.of_grown hrow.2 (Kept.of_below HB4.out ok) (fun k hk => .inl (HR.out.1 k hk).1)).drew
  · have hm' : mayB key value = false := by simpa using hm
    have HI := Aside0.mk (show ins cs key value = (cs, 1) by unfold ins; rw [if_neg hm])
    go_enter Try.func19, Try.ntmps19
    go_wp2_with fail
    refine (may_calls _ _ _).mono ?_
    rintro e w1 ⟨rfl, hd1⟩
    rw [hm']
    go_wp2
    go_ret
    rw [HI.out]
    exact ⟨rfl, HP.out.same HB.out hd1.below⟩
end Go.Proofs.Ytidkdbohkbfhbaa
