/- The call of page's Pairs. -/
import Derived.Test.YtidkdbohkbfhbaaWr
import Derived.Test.YtidkdbohkbfhbaaWe
import Derived.Test.YtidkdbohkbfhbaaWn
namespace Go.Proofs.Ytidkdbohkbfhbaa
open Go.RowKit Go.Sort Go.Proofs.YtidkdbohkbfhbaaW.PrintWords Go.Proofs.YtidkdbohkbfhbaaW.PrintLast Go.Proofs.YtidkdbohkbfhbaaW.PrintMore
open Rf
set_option linter.unusedVariables false
set_option linter.unusedSimpArgs false

/-- The pairs of the used slots, in the slots' order. -/
def prs (cs : List SGCell) : List SGPair := (cs.filter (·.f0)).map fun c => ⟨c.f1, c.f2⟩
theorem prs_used (cs : List SGCell) (k : Nat) (hk : k < cs.length) (hu : (rd_TGCell cs k).f0 = true) : prs (cs.take k) ++ [⟨(rd_TGCell cs k).f1, (rd_TGCell cs k).f2⟩] = prs (cs.take (k + 1)) := by
  rw [rd_get cs k hk] at hu ⊢
  unfold prs
  conv => rhs; rw [List.take_succ_eq_append_getElem hk, List.filter_append, List.map_append]
  simp [hu]
theorem prs_free (cs : List SGCell) (k : Nat) (hk : k < cs.length) (hu : ¬ (rd_TGCell cs k).f0 = true) : prs (cs.take k) = prs (cs.take (k + 1)) := by
  rw [rd_get cs k hk] at hu
  unfold prs
  conv => rhs; rw [List.take_succ_eq_append_getElem hk, List.filter_append, List.map_append]
  simp [hu]
set_option maxRecDepth 100000 in
set_option maxHeartbeats 1000000 in
theorem pairs_calls (w : World) (g : Nat) (id lsn : Int) (A : Option Addr) (c : Nat) (cs : List SGCell)
    (hp : PgAt w g id lsn (.slice A cs.length c)) (hC : Kd.C kGCell w A cs.length cs) (hl : cs.length ≤ 1000) :
    Calls Try.prog 27 #[.pointer (some ⟨g, 0, none⟩)] w fun e w' => ∃ v l, e = .returned v ∧ Kd.R kGPair 36 w' w.heap.size (fun k => w.heap.size ≤ k) v l ∧ l.Perm (prs cs) ∧ Srt l ∧ Below w.heap.size w w' := by
  have HP := Aside0.mk hp
  have HC := Aside0.mk hC
  clear hp hC
  go_enter Try.func27, Try.ntmps27
  go_wp2_with fail
  have hb0 : Below w.heap.size w ((w.alloc (.cells #[] 36)).alloc (.cells #[.slice (some ⟨w.heap.size, 0, none⟩) 0 0] 57)) := below_alloc (below_alloc (Below.refl _ _) _) _
  have hbx : ((w.alloc (.cells #[] 36)).alloc (.cells #[.slice (some ⟨w.heap.size, 0, none⟩) 0 0] 57)).heap[w.heap.size + 1]? = some (.cells #[.slice (some ⟨w.heap.size, 0, none⟩) 0 0] 57) := by
    have := heap_alloc_new (w.alloc (.cells #[] 36)) (.cells #[.slice (some ⟨w.heap.size, 0, none⟩) 0 0] 57)
    simpa using this
  have hrw : Kd.R kGPair 36 ((w.alloc (.cells #[] 36)).alloc (.cells #[.slice (some ⟨w.heap.size, 0, none⟩) 0 0] 57)) w.heap.size (fun k => w.heap.size ≤ k ∧ k ≠ w.heap.size + 1) (.slice (some ⟨w.heap.size, 0, none⟩) 0 0) [] := by
    refine Kd.R_alloc ?_ _
    refine RP_of_flat (fun k hk => ?_) ?_
    · have : w.heap.size = k := by simpa [Value.ownBlock] using hk
      omega
    · exact World.ownsRow_lit (base := w.heap.size) (e := 36) (size := 2) w #[] 0 (Nat.le_refl _) (by simp [maxLen]) rfl
  generalize (w.alloc (.cells #[] 36)).alloc (.cells #[.slice (some ⟨w.heap.size, 0, none⟩) 0 0] 57) = w2 at hb0 hbx hrw ⊢
  refine (cells_calls w2 g id lsn A c cs (HP.out.below hb0) (Kd.C_below HC.out hb0) hl).mono ?_
  rintro e w3 ⟨v, rfl, hR, hb⟩
  obtain ⟨As, ca, rfl⟩ := Kd.R_slice hR
  have hsz2 := hb0.size
  have hsz3 := hb.size
  have hlt2 := blk_lt hbx
  have HB := Aside0.mk (below_then hb0 hb0.size hb)
  have HX := Aside0.mk ((hb.block _ (blk_lt hbx)).trans hbx)
  have HO := Aside0.mk (show Kd.R kGCell 46 w3 w.heap.size (fun q => q ≠ w.heap.size + 1 ∧ some q ≠ (Value.slice (some ⟨w.heap.size, 0, none⟩) 0 0).ownBlock) (.slice As cs.length ca) cs from Kd.R_lower (Kd.R_mono hR (fun q hq => ⟨by omega, by simp [Value.ownBlock]; omega⟩)) hsz2)
  have hne : ∀ q, (Value.slice As cs.length ca).ownBlock = some q → w2.heap.size ≤ q := fun q hq => hR.1 q hq
  have HR := Aside0.mk (show Kd.R kGPair 36 w3 w.heap.size (fun q => (w.heap.size ≤ q ∧ q ≠ w.heap.size + 1) ∧ some q ≠ (Value.slice As cs.length ca).ownBlock) (.slice (some ⟨w.heap.size, 0, none⟩) 0 0) (prs (cs.take 0)) from Kd.R_mono (Kd.R_below (Kd.R_bound hrw) hb) (fun q hq => ⟨hq.1, fun he => by have := hne q he.symm; have := hq.2.2.1; omega⟩))
  clear hb0 hbx hrw hR hb
  go_wp2_with fail
  go_loopg [5, 10] cs.length (fun gk v5 v10 wr => ∃ (k : Nat) (v : Value), Aside0 (k + gk = cs.length) ∧ v10 = .int .i64 k ∧ k ≤ cs.length ∧ Aside0 (Kd.R kGPair 36 wr w.heap.size (fun q => (w.heap.size ≤ q ∧ q ≠ w.heap.size + 1) ∧ some q ≠ (Value.slice As cs.length ca).ownBlock) v (prs (cs.take k))) ∧ Aside0 (wr.heap[w.heap.size + 1]? = some (.cells #[v] 57)) ∧ Aside0 (Kd.R kGCell 46 wr w.heap.size (fun q => q ≠ w.heap.size + 1 ∧ some q ≠ v.ownBlock) (.slice As cs.length ca) cs) ∧ Aside0 (Below w.heap.size w wr))
  case atStart => exact ⟨0, _, ⟨by omega⟩, rfl, by omega, HR, HX, HO, HB⟩
  case round =>
    obtain ⟨k, v, Hk, rfl, hkl, HR, HX, HO, HB⟩ := hrel
    by_cases hlt : k < cs.length
    · obtain ⟨ad, ea, hx0, hx1, hx2⟩ := cell_at (Kd.R_reads' HO.out).2.2 k hlt
      cases ea
      by_cases hu : (rd_TGCell cs k).f0 = true
      · rw [hu] at hx0
        have hbx0 : ∀ o, (wr.alloc o).cell? ⟨w.heap.size + 1, 0, none⟩ = some v := fun o => blk_cell (blk_alloc HX.out o) 0
        have HPL := Aside0.mk (show (prs (cs.take k)).length ≤ 1000 by unfold prs; rw [List.length_map]; refine Nat.le_trans (List.length_filter_le _ _) ?_; rw [List.length_take]; omega)
        have HAL := Aside0.mk (show ∀ q, (Value.slice (some ad) cs.length ca).ownBlock = some q → q < wr.heap.size from Kd.R_lt HO.out)
        have HSW := Aside0.mk HB.out.size
        have HBL := Aside0.mk (blk_lt HX.out)
        clear hne hsz2 hsz3 hlt2
        go_wp2_with (at_builtin; refine Kd.R_append kGPair (w0 := w) w.heap.size rfl (.tmp 16) (.tmp 22) 57 36 (.agg #[(.string ⟨#[]⟩), (.string ⟨#[]⟩)]) 32 rfl Try.underlying57 Rf.info36 rfl (by decide) (by omega) v (prs (cs.take k)) ⟨(rd_TGCell cs k).f1, (rd_TGCell cs k).f2⟩ [.string (rd_TGCell cs k).f1, .string (rd_TGCell cs k).f2] (fun q => (w.heap.size ≤ q ∧ q ≠ w.heap.size + 1) ∧ some q ≠ (Value.slice (some ad) cs.length ca).ownBlock) (fun _ => False) rfl (by first | rfl | (go_simp; done) | (simp [Act.eval, World.alloc]; done)) (kGPair_mkM _ _ _ ⟨_, _⟩) (fun _ h => h.elim) (fun q hq => ⟨⟨by have := HSW.out; simp at hq; omega, by have := HBL.out; simp at hq; omega⟩, fun he => by have := HAL.out q he.symm; simp at hq; omega⟩) (Kd.R_alloc HR.out _) (below_alloc HB.out _) (by have := HSW.out; simp; omega) (by have := HPL.out; omega) ?_; intro v1 w1 ho hb hg hat; obtain ⟨A1, c1, rfl⟩ := Kd.R_slice ho; have HX1 := Aside0.mk (blk_grown (blk_alloc HX.out _) hg (fun he => ((HR.out.1 _ he.symm).1.2 rfl))); have q0 : w1.cell? ⟨w.heap.size + 1, 0, none⟩ = some v := blk_cell HX1.out 0; have qf := blk_frozen HX1.out 0; have HR1 := Aside0.mk ho; have HB1 := Aside0.mk hb; have HO1 := Aside0.mk (Kd.R_after (Kd.R_alloc HO.out _) hg hat); have HL1 := Aside0.mk hg.size; clear ho hb hg hat)
        go_roundg (gk - 1)
        case measure => have := Hk.out; omega
        case rel =>
          refine ⟨k + 1, _, ⟨by have := Hk.out; omega⟩, by simp, by omega, ⟨?_⟩, ⟨blk_set HX1.out 0 _⟩, ⟨by have h := Kd.R_far (p := ⟨w.heap.size + 1, 0, none⟩) HO1.out (fun _ hk => hk.1) (.slice A1 ((prs (cs.take k)).length + 1) c1); simp only [List.length_append, List.length_singleton] at h; exact h⟩, ⟨below_set HB1.out (by show w.heap.size ≤ w.heap.size + 1; omega)⟩⟩
          rw [← prs_used cs k hlt hu]
          have h := Kd.R_far (p := ⟨w.heap.size + 1, 0, none⟩) HR1.out (fun _ hk => hk.1.2) (.slice A1 ((prs (cs.take k)).length + 1) c1)
          simp only [List.length_append, List.length_singleton] at h
          exact h
      · have hu2 : (rd_TGCell cs k).f0 = false := by simpa using hu
        rw [hu2] at hx0
        go_wp2_with fail
        go_roundg (gk - 1)
        case measure => have := Hk.out; omega
        case rel =>
          refine ⟨k + 1, v, ⟨by have := Hk.out; omega⟩, by simp, by omega, ⟨?_⟩, ⟨blk_alloc HX.out _⟩, ⟨Kd.R_alloc HO.out _⟩, ⟨below_alloc HB.out _⟩⟩
          rw [← prs_free cs k hlt hu]
          exact Kd.R_alloc HR.out _
    · obtain rfl : k = cs.length := by omega
      have HR2 := HR.out
      rw [List.take_length] at HR2
      obtain ⟨Al, cl, rfl⟩ := Kd.R_slice HR2
      have hq0 : wr.cell? ⟨w.heap.size + 1, 0, none⟩ = some (.slice Al (prs cs).length cl) := blk_cell HX.out 0
      have HRR := Aside0.mk HR2
      clear HR2
      have HSL := Aside0.mk (show (prs cs).length ≤ 1000 by unfold prs; rw [List.length_map]; exact Nat.le_trans (List.length_filter_le _ _) hl)
      go_wp2_with fail
      refine (sort_row wr w.heap.size (w.heap.size + 1) _ cl Al _ (prs cs) HRR.out HSL.out HX.out (fun k hk => hk.1.2)).mono ?_
      rintro e w5 ⟨rfl, l', hperm, hsrt, hR', hg, hx'⟩
      have q5 : w5.cell? ⟨w.heap.size + 1, 0, none⟩ = some (.slice Al (prs cs).length cl) := blk_cell hx' 0
      have HB5 := Aside0.mk (HB.out.grown hg HB.out.size (fun g hg' => (hR'.1 g hg').1.1))
      have HR5 := Aside0.mk hR'
      have HP5 := Aside0.mk hperm
      have HS5 := Aside0.mk hsrt
      clear hR' hperm hsrt hg hx'
      go_wp2
      go_ret
      exact ⟨_, l', rfl, Kd.R_mono HR5.out (fun q hq => hq.1.1), HP5.out, HS5.out, HB5.out⟩
set_option maxRecDepth 100000 in
set_option maxHeartbeats 1000000 in
theorem pairs_nil (w : World) :
    Calls Try.prog 27 #[.pointer none] w fun e w' => ∃ A c, e = .returned (.slice A 0 c) ∧ Below w.heap.size w w' := by
  go_enter Try.func27, Try.ntmps27
  go_wp2_with fail
  have hb0 : Below w.heap.size w ((w.alloc (.cells #[] 36)).alloc (.cells #[.slice (some ⟨w.heap.size, 0, none⟩) 0 0] 57)) := below_alloc (below_alloc (Below.refl _ _) _) _
  have hbx : ((w.alloc (.cells #[] 36)).alloc (.cells #[.slice (some ⟨w.heap.size, 0, none⟩) 0 0] 57)).heap[w.heap.size + 1]? = some (.cells #[.slice (some ⟨w.heap.size, 0, none⟩) 0 0] 57) := by
    have := heap_alloc_new (w.alloc (.cells #[] 36)) (.cells #[.slice (some ⟨w.heap.size, 0, none⟩) 0 0] 57)
    simpa using this
  have hrw : Kd.R kGPair 36 ((w.alloc (.cells #[] 36)).alloc (.cells #[.slice (some ⟨w.heap.size, 0, none⟩) 0 0] 57)) w.heap.size (fun k => w.heap.size ≤ k ∧ k ≠ w.heap.size + 1) (.slice (some ⟨w.heap.size, 0, none⟩) 0 0) [] := by
    refine Kd.R_alloc ?_ _
    refine RP_of_flat (fun k hk => ?_) ?_
    · have : w.heap.size = k := by simpa [Value.ownBlock] using hk
      omega
    · exact World.ownsRow_lit (base := w.heap.size) (e := 36) (size := 2) w #[] 0 (Nat.le_refl _) (by simp [maxLen]) rfl
  generalize (w.alloc (.cells #[] 36)).alloc (.cells #[.slice (some ⟨w.heap.size, 0, none⟩) 0 0] 57) = w2 at hb0 hbx hrw ⊢
  refine (cells_nil w2).mono ?_
  rintro e w3 ⟨rfl, hb⟩
  have HB := Aside0.mk (below_then hb0 hb0.size hb)
  have HX := Aside0.mk ((hb.block _ (blk_lt hbx)).trans hbx)
  have HR := Aside0.mk (Kd.R_below hrw hb)
  have hq0 : w3.cell? ⟨w.heap.size + 1, 0, none⟩ = some (.slice (some ⟨w.heap.size, 0, none⟩) 0 0) := blk_cell HX.out 0
  clear hb0 hbx hrw hb
  go_wp2_with fail
  go_loopg [5, 10] 0 (fun gk v5 v10 wr => v10 = .int .i64 0 ∧ Aside0 (Kd.R kGPair 36 wr w.heap.size (fun k => w.heap.size ≤ k ∧ k ≠ w.heap.size + 1) (.slice (some ⟨w.heap.size, 0, none⟩) 0 0) []) ∧ Aside0 (wr.heap[w.heap.size + 1]? = some (.cells #[.slice (some ⟨w.heap.size, 0, none⟩) 0 0] 57)) ∧ Aside0 (Below w.heap.size w wr))
  case atStart => exact ⟨rfl, HR, HX, HB⟩
  case round =>
    obtain ⟨rfl, HR, HX, HB⟩ := hrel
    have hq0 : wr.cell? ⟨w.heap.size + 1, 0, none⟩ = some (.slice (some ⟨w.heap.size, 0, none⟩) 0 0) := blk_cell HX.out 0
    go_wp2_with fail
    refine (sort_row wr w.heap.size (w.heap.size + 1) _ 0 _ _ [] HR.out (by simp) HX.out (fun k hk => hk.2)).mono ?_
    rintro e w5 ⟨rfl, l', hperm, hsrt, hR', hg, hx'⟩
    have q5 : w5.cell? ⟨w.heap.size + 1, 0, none⟩ = some (.slice (some ⟨w.heap.size, 0, none⟩) 0 0) := blk_cell hx' 0
    have HB5 := Aside0.mk (HB.out.grown hg HB.out.size (fun g hg' => (hR'.1 g hg').1))
    clear hR' hperm hsrt hg hx'
    go_wp2
    go_ret
    exact ⟨_, _, rfl, HB5.out⟩
end Go.Proofs.Ytidkdbohkbfhbaa
