/- The references' Num, Cell, Sum, Four, Free, SameCells as calls; Bytes by hand. -/
import Derived.Test.YtidkdbohkbfhbaaLr
import Derived.Test.YtidkdbohkbfhbaaWa
namespace Go.Proofs.Ytidkdbohkbfhbaa
open Go.RowKit Go.Proofs.YtidkdbohkbfhbaaW.PrintWords Go.Proofs.YtidkdbohkbfhbaaW.PrintLast Go.Proofs.YtidkdbohkbfhbaaW.PrintMore
open Rf
set_option linter.unusedVariables false
set_option linter.unusedSimpArgs false

theorem rnum_calls (w : World) (x m : Nat) (hx : x < 18446744073709551616) (hm : m ≤ 100) :
    Calls Try.prog 55 #[.int .u64 x, .int .i64 m] w fun e w' => e = .returned (.string (mkS (le x m))) ∧ Below w.heap.size w w' := by
  obtain ⟨k, h⟩ := (num_ev x m hx hm).rounds
  exact flotillaref01_Num.calls k x m _ w h
theorem rnum8_calls (w : World) (x : Nat) (hx : x < 18446744073709551616) :
    Calls Try.prog 55 #[.int .u64 x, .int .i64 8] w fun e w' => e = .returned (.string (mkS (le x 8))) ∧ Below w.heap.size w w' := rnum_calls w x 8 hx (by omega)
theorem rnum2_calls (w : World) (x : Nat) (hx : x < 18446744073709551616) :
    Calls Try.prog 55 #[.int .u64 x, .int .i64 2] w fun e w' => e = .returned (.string (mkS (le x 2))) ∧ Below w.heap.size w w' := rnum_calls w x 2 hx (by omega)
theorem rcell_calls (w : World) (c : SGCell) (h1 : c.f1.size ≤ 1000) (h2 : c.f2.size ≤ 1000) :
    Calls Try.prog 54 #[.agg #[.bool c.f0, .string c.f1, .string c.f2]] w fun e w' => e = .returned (.string (mkS (cellB c))) ∧ Below w.heap.size w w' := by
  obtain ⟨k, h⟩ := (cell_ev c h1 h2).rounds
  exact flotillaref06_Cell.calls k c.f0 c.f1 c.f2 _ w h
theorem rsum_calls (w : World) (L : List UInt8) (h : L.length ≤ 1000000) :
    Calls Try.prog 45 #[.string (mkS L)] w fun e w' => e = .returned (.int .u32 (Crc.sum L)) ∧ Below w.heap.size w w' := by
  obtain ⟨k, h⟩ := (sum_ev (mkS L) (by rw [mkS_size]; exact h)).rounds
  rw [mkS_data] at h
  exact (flotillaref02_Sum.calls k (mkS L) _ w h).mono (by rintro e w' ⟨rfl, hd⟩; exact ⟨rfl, hd.below⟩)
theorem rfour_calls (w : World) (n : Nat) (h : n < 4294967296) :
    Calls Try.prog 44 #[.int .u32 n] w fun e w' => e = .returned (.string (mkS (le n 4))) ∧ Below w.heap.size w w' :=
  flotillaref02_Four.calls n _ w (four_f n h)
theorem rfree_calls (w : World) (id lsn : Int) (A : Option Addr) (c : Nat) (cs : List SGCell) (hC : Kd.C kGCell w A cs.length cs) (hc : cs.length ≤ c) (hS : Small cs) :
    Calls Try.prog 34 #[.agg #[.int .i64 id, .int .u64 lsn, .slice A cs.length c]] w fun e w' => e = .returned (.int .i64 (free cs)) ∧ Below w.heap.size w w' := by
  obtain ⟨k, h⟩ := (free_ev cs hS id lsn).rounds
  exact flotillaref06_Free.calls k id lsn A c cs _ w hC hc h

theorem tot_take_all (cs : List SGCell) (k : Nat) : tot (cs.take k) ≤ tot cs := by
  conv => rhs; rw [← List.take_append_drop k cs, tot_append]
  omega
/-- What stands ahead of the cells: the head, the slots, j noughts. -/
def preB (id lsn : Nat) (cs : List SGCell) (j : Nat) : List UInt8 := hdB id lsn cs.length ++ slotsB cs 512 ++ List.replicate j 0
theorem preB_length (id lsn : Nat) (cs : List SGCell) (j : Nat) : (preB id lsn cs j).length = 12 + 4 * cs.length + j := by
  rw [preB, List.length_append, List.length_append, hdB_length, slotsB_length, List.length_replicate]
theorem preB_zero (id lsn : Nat) (cs : List SGCell) : hdB id lsn cs.length ++ slotsB cs 512 = preB id lsn cs 0 := by rw [preB, List.replicate_zero, List.append_nil]
theorem preB_succ (id lsn : Nat) (cs : List SGCell) (j : Nat) : mkS (preB id lsn cs j) ++ (⟨#[0]⟩ : ByteArray) = mkS (preB id lsn cs (j + 1)) := by
  rw [show (⟨#[0]⟩ : ByteArray) = mkS [0] from rfl, mkS_append]
  unfold preB
  rw [List.replicate_succ', List.append_assoc, List.append_assoc]
theorem preB_all (id lsn : Nat) (cs : List SGCell) : mkS (preB id lsn cs (496 - 4 * cs.length - tot cs)) ++ mkS (cellsB cs) = mkS (bodyB id lsn cs) := by
  rw [mkS_append]
  unfold preB bodyB layB
  simp only [List.append_assoc]
theorem slots_next (cs : List SGCell) (i : Nat) (hi : i < cs.length) : slotsB (cs.take (i + 1)) 512 = slotsB (cs.take i) 512 ++ slotB (rd_TGCell cs i) (512 - tot (cs.take i) - csz (rd_TGCell cs i)) := by
  rw [rd_get cs i hi, List.take_succ_eq_append_getElem hi, slotsB_snoc]
theorem cells_next (cs : List SGCell) (i : Nat) (hi : i < cs.length) : cellsB (cs.take (i + 1)) = cellB (rd_TGCell cs i) ++ cellsB (cs.take i) := by
  rw [rd_get cs i hi, List.take_succ_eq_append_getElem hi, cellsB_snoc]

set_option maxRecDepth 100000 in
set_option maxHeartbeats 4000000 in
theorem rbytes_calls (w : World) (id lsn : Nat) (A : Option Addr) (c : Nat) (cs : List SGCell) (hC : Kd.C kGCell w A cs.length cs) (hS : Small cs) (hroom : 4 * cs.length + tot cs ≤ 496) (hid : id < 65536) (hlsn : lsn < 18446744073709551616) :
    Calls Try.prog 35 #[.agg #[.int .i64 id, .int .u64 lsn, .slice A cs.length c]] w fun e w' => e = .returned (.string (mkS (pgB id lsn cs))) ∧ Below w.heap.size w w' := by
  have HC := Aside0.mk hC
  have HS := Aside0.mk hS
  have HL := Aside0.mk hlsn
  have HR := Aside0.mk hroom
  clear hC hS hlsn hroom
  go_enter Try.func35, Try.ntmps35
  go_wp2_with fail
  have hb0 : Below w.heap.size w (w.alloc (.cells #[.int .i64 id, .int .u64 lsn, .slice A cs.length c] 33)) := below_alloc (Below.refl _ _) _
  have hx0 : (w.alloc (.cells #[.int .i64 id, .int .u64 lsn, .slice A cs.length c] 33)).cell? ⟨w.heap.size, 0, none⟩ = some (.int .i64 id) := blk_cell (heap_alloc_new w _) 0
  have hx1 : (w.alloc (.cells #[.int .i64 id, .int .u64 lsn, .slice A cs.length c] 33)).cell? ⟨w.heap.size, 1, none⟩ = some (.int .u64 lsn) := blk_cell (heap_alloc_new w _) 1
  have hx2 : (w.alloc (.cells #[.int .i64 id, .int .u64 lsn, .slice A cs.length c] 33)).cell? ⟨w.heap.size, 2, none⟩ = some (.slice A cs.length c) := blk_cell (heap_alloc_new w _) 2
  generalize w.alloc (.cells #[.int .i64 id, .int .u64 lsn, .slice A cs.length c] 33) = wb at hb0 hx0 hx1 hx2 ⊢
  have HX0 := Aside0.mk hx0
  have HX1 := Aside0.mk hx1
  have HX2 := Aside0.mk hx2
  have HB0 := Aside0.mk hb0
  have HCB := Aside0.mk (Kd.C_below HC.out hb0)
  have hl := HS.out.1
  clear hb0 hx0 hx1 hx2
  go_loopg [3, 4, 5] cs.length (fun gk v3 v4 v5 wr => ∃ k : Nat, Aside0 (k + gk = cs.length) ∧ v3 = .string (mkS (slotsB (cs.take k) 512)) ∧ v4 = .string (mkS (cellsB (cs.take k))) ∧ v5 = .int .i64 k ∧ k ≤ cs.length ∧ Aside0 (Below wb.heap.size wb wr))
  case atStart => exact ⟨0, ⟨by omega⟩, rfl, rfl, rfl, by omega, ⟨Below.refl _ _⟩⟩
  case round =>
    obtain ⟨k, Hk, rfl, rfl, rfl, hkl, Hb⟩ := hrel
    have hy2 : wr.cell? ⟨w.heap.size, 2, none⟩ = some (.slice A cs.length c) := pw_cell_below Hb.out HX2.out
    by_cases hlt : k < cs.length
    · obtain ⟨ad, rfl, hc0, hc1, hc2⟩ := cell_at (Kd.C_below HCB.out Hb.out) k hlt
      have hm := HS.out.2 _ (rd_mem cs k hlt)
      have HM := Aside0.mk hm
      clear hm
      go_wp2_with fail
      refine (rcell_calls wr _ HM.out.1 HM.out.2).mono ?_
      rintro e w1 ⟨rfl, hb⟩
      have HB1 := Aside0.mk (below_then Hb.out Hb.out.size hb)
      clear hb hc0 hc1 hc2 hy2
      have hr4 : 4 * (k + 1) + tot (cs.take k) + csz (rd_TGCell cs k) ≤ 496 := by
        have h1 := tot_take_succ cs k hlt
        have h2 := tot_take_all cs (k + 1)
        have h3 := HR.out
        omega
      have hz1 : (mkS (cellB (rd_TGCell cs k))).size = csz (rd_TGCell cs k) := by rw [mkS_size, cellB_length]
      have hz2 : (mkS (cellsB (cs.take k))).size = tot (cs.take k) := by rw [mkS_size, cellsB_length]
      have hz3 : (mkS (slotsB (cs.take k) 512)).size = 4 * k := by rw [mkS_size, slotsB_length, List.length_take, Nat.min_eq_left hkl]
      have hz4 : ∀ x, (mkS (le x 2)).size = 2 := fun x => by rw [mkS_size, le_length]
      have HS1 := Aside0.mk (slots_next cs k hlt)
      have HC1 := Aside0.mk (cells_next cs k hlt)
      by_cases hu : (rd_TGCell cs k).f0 = true
      · have he : (mkS (cellB (rd_TGCell cs k))).toList.isEmpty = false := by rw [mkS_toList]; unfold cellB; rw [if_pos hu]; rfl
        have hw1 : IntKind.u64.wrap (512 - ((csz (rd_TGCell cs k) : Int) + (tot (cs.take k) : Int))) = ((512 - tot (cs.take k) - csz (rd_TGCell cs k) : Nat) : Int) := by rw [u64w (by omega) (by omega)]; omega
        have hw2 : IntKind.u64.wrap (csz (rd_TGCell cs k) : Int) = ((csz (rd_TGCell cs k) : Nat) : Int) := u64w (by omega) (by omega)
        have HU := Aside0.mk hu
        clear hu
        go_wp2_with fail
        refine (rnum_calls _ _ 2 (by omega) (by omega)).mono ?_
        rintro e w2 ⟨rfl, hb⟩
        have HB2 := Aside0.mk (below_then HB1.out HB1.out.size hb)
        clear hb
        go_wp2_with fail
        refine (rnum_calls _ _ 2 (by omega) (by omega)).mono ?_
        rintro e w3 ⟨rfl, hb⟩
        have HB3 := Aside0.mk (below_then HB2.out HB2.out.size hb)
        clear hb
        go_wp2_with fail
        go_roundg (gk - 1)
        case measure => have := Hk.out; omega
        case rel =>
          refine ⟨k + 1, ⟨by have := Hk.out; omega⟩, ?_, ?_, by simp, by omega, HB3⟩
          · rw [HS1.out, mkS_append, mkS_append]; unfold slotB; rw [if_pos HU.out, List.append_assoc]
          · rw [HC1.out, mkS_append]
      · have he : (mkS (cellB (rd_TGCell cs k))).toList.isEmpty = true := by rw [mkS_toList]; unfold cellB; rw [if_neg hu]; rfl
        have h0 : csz (rd_TGCell cs k) = 0 := by unfold csz; rw [if_neg hu]
        have HU := Aside0.mk hu
        clear hu
        go_wp2_with fail
        refine (rnum_calls _ 0 2 (by omega) (by omega)).mono ?_
        rintro e w2 ⟨rfl, hb⟩
        have HB2 := Aside0.mk (below_then HB1.out HB1.out.size hb)
        clear hb
        go_wp2_with fail
        refine (rnum_calls _ 0 2 (by omega) (by omega)).mono ?_
        rintro e w3 ⟨rfl, hb⟩
        have HB3 := Aside0.mk (below_then HB2.out HB2.out.size hb)
        clear hb
        go_wp2_with fail
        go_roundg (gk - 1)
        case measure => have := Hk.out; omega
        case rel =>
          refine ⟨k + 1, ⟨by have := Hk.out; omega⟩, ?_, ?_, by simp, by omega, HB3⟩
          · rw [HS1.out, mkS_append, mkS_append]; unfold slotB; rw [if_neg HU.out, List.append_assoc]; rfl
          · rw [HC1.out, mkS_append]
    · obtain rfl : k = cs.length := by omega
      have hy0 : wr.cell? ⟨w.heap.size, 0, none⟩ = some (.int .i64 id) := pw_cell_below Hb.out HX0.out
      have hy1 : wr.cell? ⟨w.heap.size, 1, none⟩ = some (.int .u64 lsn) := pw_cell_below Hb.out HX1.out
      rw [List.take_length]
      have hwi : IntKind.u64.wrap (id : Int) = id := u64w (by omega) (by omega)
      have hwn : IntKind.u64.wrap (cs.length : Int) = cs.length := u64w (by omega) (by omega)
      have hz1 : (mkS (cellsB cs)).size = tot cs := by rw [mkS_size, cellsB_length]
      have hz2 : (mkS (slotsB cs 512)).size = 4 * cs.length := by rw [mkS_size, slotsB_length]
      have hz3 : ∀ x m, (mkS (le x m)).size = m := fun x m => by rw [mkS_size, le_length]
      have hroom := HR.out
      have HQ := Aside0.mk (below_drew Hb.out)
      go_wp2_with fail
      have hq1 : ¬ 9223372036854775807 < 12 + 4 * cs.length := by omega
      go_region_held3 (fun wx => wx.cell? ⟨w.heap.size, 0, none⟩ = some (.int .i64 id) ∧ wx.cell? ⟨w.heap.size, 1, none⟩ = some (.int .u64 lsn) ∧ wx.cell? ⟨w.heap.size, 2, none⟩ = some (.slice A cs.length c)) (go_keep) ((first | (go_at_call 55; with_reducible refine (rnum8_calls _ lsn HL.out).mono ?_; rintro e wq ⟨rfl, hb⟩; have HQ := Aside0.mk (below_then HQ.out HQ.out.size hb); clear hb; have q0 := pw_cell_below HQ.out HX0.out; have q1 := pw_cell_below HQ.out HX1.out; have q2 := pw_cell_below HQ.out HX2.out) | (go_at_call 55; with_reducible refine (rnum2_calls _ id (by omega)).mono ?_; rintro e wq ⟨rfl, hb⟩; have HQ := Aside0.mk (below_then HQ.out HQ.out.size hb); clear hb; have q0 := pw_cell_below HQ.out HX0.out; have q1 := pw_cell_below HQ.out HX1.out; have q2 := pw_cell_below HQ.out HX2.out) | (go_at_call 55; with_reducible refine (rnum2_calls _ cs.length (by omega)).mono ?_; rintro e wq ⟨rfl, hb⟩; have HQ := Aside0.mk (below_then HQ.out HQ.out.size hb); clear hb; have q0 := pw_cell_below HQ.out HX0.out; have q1 := pw_cell_below HQ.out HX1.out; have q2 := pw_cell_below HQ.out HX2.out)))
      clear q0 q1 q2
      rw [mkS_append, mkS_append, mkS_append, show le lsn 8 ++ le id 2 ++ le cs.length 2 = hdB id lsn cs.length from rfl, preB_zero]
      go_wp2_with fail
      go_loopg [8] (496 - 4 * cs.length - tot cs) (fun gk v8 wr => ∃ j : Nat, Aside0 (j + gk = 496 - 4 * cs.length - tot cs) ∧ v8 = .string (mkS (preB id lsn cs j)) ∧ j ≤ 496 - 4 * cs.length - tot cs ∧ Aside0 (wq = wr))
      case atStart => exact ⟨0, ⟨by omega⟩, rfl, by omega, ⟨rfl⟩⟩
      case round =>
        obtain ⟨j, Hj, rfl, hjl, Hw⟩ := hrel
        obtain rfl := Hw.out
        clear Hw
        have hzj : (mkS (preB id lsn cs j)).size = 12 + 4 * cs.length + j := by rw [mkS_size, preB_length]
        by_cases hj : j < 496 - 4 * cs.length - tot cs
        · have hsz0 : (⟨#[0]⟩ : ByteArray).size = 1 := rfl
          go_wp2_with fail
          rw [preB_succ]
          go_roundg (gk - 1)
          case measure => have := Hj.out; omega
          case rel => exact ⟨j + 1, ⟨by have := Hj.out; omega⟩, rfl, by omega, ⟨rfl⟩⟩
        · obtain rfl : j = 496 - 4 * cs.length - tot cs := by omega
          have HP := Aside0.mk (preB_all id lsn cs)
          have HBL := Aside0.mk (bodyB_length id lsn cs HR.out)
          have hbz : (mkS (bodyB id lsn cs)).size = 508 := by rw [mkS_size, HBL.out]
          have hz4 : (mkS (le (Crc.sum (bodyB id lsn cs)) 4)).size = 4 := by rw [mkS_size, le_length]
          go_wp2_with fail
          rw [HP.out]
          refine (rsum_calls wq (bodyB id lsn cs) (by rw [HBL.out]; omega)).mono ?_
          rintro e w5 ⟨rfl, hb⟩
          have HB5 := Aside0.mk (below_then HQ.out HQ.out.size hb)
          clear hb
          go_wp2_with fail
          refine (rfour_calls w5 _ (Crc.sum_lt _)).mono ?_
          rintro e w6 ⟨rfl, hb⟩
          have HB6 := Aside0.mk (below_then HB5.out HB5.out.size hb)
          clear hb
          go_wp2_with fail
          go_ret
          exact ⟨by rw [mkS_append]; rfl, below_then HB0.out HB0.out.size HB6.out⟩
end Go.Proofs.Ytidkdbohkbfhbaa
