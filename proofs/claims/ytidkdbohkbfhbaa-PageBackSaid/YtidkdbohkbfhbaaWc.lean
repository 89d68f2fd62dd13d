/- The call of page's Update. -/
import Derived.Test.YtidkdbohkbfhbaaWb
import Derived.Deep.RegionHeld3
namespace Go.Proofs.Ytidkdbohkbfhbaa
open Go.RowKit Go.Proofs.YtidkdbohkbfhbaaW.PrintWords Go.Proofs.YtidkdbohkbfhbaaW.PrintLast Go.Proofs.YtidkdbohkbfhbaaW.PrintMore
open Rf
set_option linter.unusedVariables false
set_option linter.unusedSimpArgs false

/-- The third cell of an element is written. -/
theorem row_put2 {w : World} {base go n c : Nat} {ok : Nat → Prop} {cs : List SGCell} (h : Kd.R kGCell 46 w base ok (.slice (some ⟨go, 0, none⟩) n c) cs) (i : Nat) (hi : i < cs.length) (v : ByteArray) :
    Kd.R kGCell 46 (w.setCell ⟨go, i * 3 + 2, none⟩ (.string v)) base ok (.slice (some ⟨go, 0, none⟩) n c) (updAt cs i v) ∧
      w.grownBy (w.setCell ⟨go, i * 3 + 2, none⟩ (.string v)) (some go) := by
  have hn := (Kd.R_reads' h).1
  obtain ⟨ad, ea, hx0, hx1, hx2⟩ := cell_at (Kd.R_reads' h).2.2 i hi
  cases ea
  simp only [add_plain] at hx0 hx1 hx2
  have hs := Kd.R_seg (okp := fun _ => False) (seg := [.string v]) (j := 2) (c := [.bool (rd_TGCell cs i).f0, .string (rd_TGCell cs i).f1, .string (rd_TGCell cs i).f2]) (x' := ⟨(rd_TGCell cs i).f0, (rd_TGCell cs i).f1, v⟩) h (i : Int) (by omega) (by omega) rfl
    (fun j u hu => by
      rw [Int.toNat_natCast]
      match j, hu with
      | 0, hu => rw [← Option.some.inj hu]; exact hx0
      | 1, hu => rw [← Option.some.inj hu]; exact hx1
      | 2, hu => rw [← Option.some.inj hu]; exact hx2) (Nat.le_refl 3) (kGCell_mkM _ _ _ _) (fun _ hk => hk.elim)
  rw [Int.toNat_natCast] at hs
  exact hs

set_option maxHeartbeats 1000000 in
theorem update_calls (w0 w : World) (ok : Nat → Prop) (g : Nat) (id lsn : Int) (cs : List SGCell) (key value : ByteArray)
    (hB : Below w0.heap.size w0 w) (hp : IsPg w w0.heap.size ok g id lsn cs) (hS : Small cs) :
    Calls Try.prog 26 #[.pointer (some ⟨g, 0, none⟩), .string key, .string value] w fun e w' => e = .returned (.int .i64 (upd cs key value).2) ∧
      IsPg w' w0.heap.size (fun k => ok k ∨ w.heap.size ≤ k) g id lsn (upd cs key value).1 ∧ Below w0.heap.size w0 w' ∧ Kept w w' ok := by
  have HP := Aside0.mk hp
  obtain ⟨hlow, hmine, v, hat, hR⟩ := hp
  obtain ⟨A, c, rfl, hlc, hC⟩ := Kd.R_reads hR
  have HAT := Aside0.mk hat
  have HR := Aside0.mk hR
  have HC := Aside0.mk hC
  have HS := Aside0.mk hS
  have HB := Aside0.mk hB
  have hl := hS.1
  have hg2 : w.cell? ⟨g, 2, none⟩ = some (.slice A cs.length c) := blk_cell HAT.out 2
  clear hat hR hC hB hS
  by_cases hm : mayB key value = true
  · by_cases hf : fnd cs key < 0
    · have HI := Aside0.mk (show upd cs key value = (cs, 8) by unfold upd; rw [if_pos hm, if_pos hf])
      go_enter Try.func26, Try.ntmps26
      go_wp2_with fail
      refine (may_calls _ _ _).mono ?_
      rintro e w1 ⟨rfl, hd1⟩
      rw [hm]
      go_wp2_with fail
      refine (find_calls w1 g id lsn A c cs key (HAT.out.below hd1.below) (Kd.C_below HC.out hd1.below) (by omega)).mono ?_
      rintro e w2 ⟨rfl, hb2⟩
      have HB2 := Aside0.mk (bel_trans hd1.below hb2)
      go_wp2
      go_ret
      rw [HI.out]
      exact ⟨rfl, HP.out.same HB.out HB2.out⟩
    · have hfl := fnd_lt cs key
      obtain ⟨j, hj⟩ := Int.eq_ofNat_of_zero_le (show 0 ≤ fnd cs key by omega)
      have HJ := Aside0.mk hj
      rw [hj] at hfl hf
      obtain ⟨go, cap, ev, hgo, hgl, cells, hgc⟩ := Kd.R_form HR.out (by omega)
      obtain ⟨rfl, rfl⟩ : A = some ⟨go, 0, none⟩ ∧ c = cap := by injection ev with e1 e2 e3; exact ⟨e1, e3⟩
      clear ev hj
      have hjl : j < cs.length := by omega
      have hvz : value.size ≤ 32 := ((mayB_iff key value).1 hm).2.2
      have hoz : (rd_TGCell cs j).f2.size ≤ 1000 := (HS.out.2 _ (rd_mem cs j hjl)).2
      have htl := tot_le cs HS.out
      go_enter Try.func26, Try.ntmps26
      go_wp2_with fail
      refine (may_calls _ _ _).mono ?_
      rintro e w1 ⟨rfl, hd1⟩
      rw [hm]
      go_wp2_with fail
      refine (find_calls w1 g id lsn _ c cs key (HAT.out.below hd1.below) (Kd.C_below HC.out hd1.below) (by omega)).mono ?_
      rintro e w2 ⟨rfl, hb2⟩
      have HB2 := Aside0.mk (bel_trans hd1.below hb2)
      clear hd1 hb2
      rw [HJ.out]
      have HAT2 := Aside0.mk (HAT.out.below HB2.out)
      have HC2 := Aside0.mk (Kd.C_below HC.out HB2.out)
      have hg2' : w2.cell? ⟨g, 2, none⟩ = some (.slice (some ⟨go, 0, none⟩) cs.length c) := blk_cell HAT2.out 2
      obtain ⟨ad, ea, hz0, hz1, hz2⟩ := cell_at HC2.out j hjl
      cases ea
      simp only [add_plain] at hz0 hz1 hz2
      clear hz0 hz1
      have hwr : IntKind.i64.wrap ((value.size : Int) - ((rd_TGCell cs j).f2.size : Int)) = (value.size : Int) - ((rd_TGCell cs j).f2.size : Int) := i64w (by omega) (by omega)
      go_wp2_with fail
      go_region_held3 (fun w' => w'.cell? ⟨g, 2, none⟩ = some (.slice (some ⟨go, 0, none⟩) cs.length c) ∧ w'.cell? ⟨go, j * 3 + 2, none⟩ = some (.string (rd_TGCell cs j).f2)) (first | go_keep | (go_split_ands; exact ⟨pw_cell_below hb4 hg2', pw_cell_below hb4 hz2⟩))
        (first | (go_at_call 16; refine (free_calls _ g id lsn _ c cs (blk_drew HAT2.out) (Kd.C_below HC2.out (below_drew (Below.refl _ _))) HS.out).mono ?_; rintro e w4 ⟨rfl, hb4⟩))
      clear hwr
      have HB4 := Aside0.mk (bel_trans HB2.out (below_then (below_drew (Below.refl _ _)) (Nat.le_refl _) hb4))
      have HAT4 := Aside0.mk (HAT.out.below HB4.out)
      have HR4 := Aside0.mk (Kd.R_mono (Kd.R_below HR.out HB4.out) (fun k hk => (⟨.inl hk.1, hk.2⟩ : (ok k ∨ w.heap.size ≤ k) ∧ k ≠ g)))
      have HBw4 := Aside0.mk (below_then HB.out HB.out.size HB4.out)
      have hsz := HBw4.out.size
      have hg4 : w4.cell? ⟨g, 2, none⟩ = some (.slice (some ⟨go, 0, none⟩) cs.length c) := blk_cell HAT4.out 2
      have hgc4 : w4.heap[go]? = some (.cells cells 46 (0, 0)) := (HB4.out.block go hgl).trans hgc
      have hf2 := blk_frozen hgc4 (j * 3 + 2)
      obtain ⟨ad, ea, hq0, hq1, hq2⟩ := cell_at (Kd.R_reads' HR4.out).2.2 j hjl
      cases ea
      simp only [add_plain] at hq0 hq1 hq2
      clear hq0 hq1
      by_cases hroom : free cs < (value.size : Int) - ((rd_TGCell cs j).f2.size : Int)
      · have HI := Aside0.mk (show upd cs key value = (cs, 7) by
          unfold upd
          rw [if_pos hm, HJ.out, if_neg (by omega), if_pos hroom])
        go_wp2
        go_ret
        rw [HI.out]
        exact ⟨rfl, HP.out.same HB.out HB4.out⟩
      · have HI := Aside0.mk (show upd cs key value = (updAt cs j value, 0) by
          unfold upd
          rw [if_pos hm, HJ.out, if_neg (by omega), if_neg hroom, Int.toNat_natCast])
        go_wp2
        go_ret
        rw [HI.out]
        have hrow := row_put2 HR4.out j hjl value
        refine ⟨rfl, ⟨hlow, .inl hmine, _, blk_grown HAT4.out hrow.2 (Kd.R_ne HR4.out HAT4.out (by decide)), hrow.1⟩, HBw4.out.grown hrow.2 hsz (fun k hk => by injection hk with hk; omega), ?_⟩
        exact Kept.of_grown hrow.2 (Kept.of_below HB4.out ok) (fun k hk => .inl (HR.out.1 k hk).1)
  · have hm' : mayB key value = false := by simpa using hm
    have HI := Aside0.mk (show upd cs key value = (cs, 1) by unfold upd; rw [if_neg hm])
    go_enter Try.func26, Try.ntmps26
    go_wp2_with fail
    refine (may_calls _ _ _).mono ?_
    rintro e w1 ⟨rfl, hd1⟩
    rw [hm']
    go_wp2
    go_ret
    rw [HI.out]
    exact ⟨rfl, HP.out.same HB.out hd1.below⟩
end Go.Proofs.Ytidkdbohkbfhbaa
