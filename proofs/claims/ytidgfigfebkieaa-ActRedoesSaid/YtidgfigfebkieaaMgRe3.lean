/- The references' Num, Cell, Sum, Four, Free, SameCells as calls; Bytes by hand. 
Layer 7: Plan, alike, pair. 
Layer 7: ActDoes' walk. 
Layer 7: ActRedoes' walk. 
A slice of elements of one shape that came in, laid open as a list. 
Layer 7: a law's arguments, laid open: slices of Pair, of Act. 
Layer 7: a law's arguments, laid open: a slice of Record. 
THE ROW: ActRedoes: for every input it returns true, and each argument reads as it read before. No condition. -/
import Derived.Test.YtidgfigfebkieaaMgDo2
import Derived.Test.YtidgfigfebkieaaMgDo1
import Derived.Test.YtidgfigfebkieaaMgRe2
import Derived.Test.YtidgfigfebkieaaRfT
import Derived.Deep.Slices
import Derived.Deep.Fields
import Derived.ChangeSame
import Derived.SizedLaws
import Derived.Lib.SmallJoins
import Derived.ProofKit
import Derived.OpenShut
import Derived.Test.YtidgfigfebkieaaRows
import Derived.WalkKit
import Derived.ShutString
import Derived.ChangeOld
import Derived.Below
section
namespace Go.Proofs.Ytidgfigfebkieaa
open Go.RowKit Go.Proofs.YtidgfigfebkieaaW.PrintWords Go.Proofs.YtidgfigfebkieaaW.PrintLast Go.Proofs.YtidgfigfebkieaaW.PrintMore
open Rf
set_option linter.unusedVariables false
set_option linter.unusedSimpArgs false

theorem rnum_calls (w : World) (x m : Nat) (hx : x < 18446744073709551616) (hm : m ≤ 100) :
    Calls Try.prog 64 #[.int .u64 x, .int .i64 m] w fun e w' => e = .returned (.string (mkS (le x m))) ∧ Below w.heap.size w w' := by
  obtain ⟨k, h⟩ := (num_ev x m hx hm).rounds
  exact flotillaref01_Num.calls k x m _ w h
theorem rnum8_calls (w : World) (x : Nat) (hx : x < 18446744073709551616) :
    Calls Try.prog 64 #[.int .u64 x, .int .i64 8] w fun e w' => e = .returned (.string (mkS (le x 8))) ∧ Below w.heap.size w w' := rnum_calls w x 8 hx (by omega)
theorem rnum2_calls (w : World) (x : Nat) (hx : x < 18446744073709551616) :
    Calls Try.prog 64 #[.int .u64 x, .int .i64 2] w fun e w' => e = .returned (.string (mkS (le x 2))) ∧ Below w.heap.size w w' := rnum_calls w x 2 hx (by omega)
theorem rcell_calls (w : World) (c : SGCell) (h1 : c.f1.size ≤ 1000) (h2 : c.f2.size ≤ 1000) :
    Calls Try.prog 63 #[.agg #[.bool c.f0, .string c.f1, .string c.f2]] w fun e w' => e = .returned (.string (mkS (cellB c))) ∧ Below w.heap.size w w' := by
  obtain ⟨k, h⟩ := (cell_ev c h1 h2).rounds
  exact flotillaref06_Cell.calls k c.f0 c.f1 c.f2 _ w h
theorem rsum_calls (w : World) (L : List UInt8) (h : L.length ≤ 1000000) :
    Calls Try.prog 66 #[.string (mkS L)] w fun e w' => e = .returned (.int .u32 (Crc.sum L)) ∧ Below w.heap.size w w' := by
  obtain ⟨k, h⟩ := (sum_ev (mkS L) (by rw [mkS_size]; exact h)).rounds
  rw [mkS_data] at h
  exact (flotillaref02_Sum.calls k (mkS L) _ w h).mono (by rintro e w' ⟨rfl, hd⟩; exact ⟨rfl, hd.below⟩)
theorem rfour_calls (w : World) (n : Nat) (h : n < 4294967296) :
    Calls Try.prog 65 #[.int .u32 n] w fun e w' => e = .returned (.string (mkS (le n 4))) ∧ Below w.heap.size w w' :=
  flotillaref02_Four.calls n _ w (four_f n h)
theorem rfree_calls (w : World) (id lsn : Int) (A : Option Addr) (c : Nat) (cs : List SGCell) (hC : Kd.C kGCell w A cs.length cs) (hc : cs.length ≤ c) (hS : Small cs) :
    Calls Try.prog 61 #[.agg #[.int .i64 id, .int .u64 lsn, .slice A cs.length c]] w fun e w' => e = .returned (.int .i64 (free cs)) ∧ Below w.heap.size w w' := by
  obtain ⟨k, h⟩ := (free_ev cs hS id lsn).rounds
  exact flotillaref06_Free.calls k id lsn A c cs _ w hC hc h

theorem tot_take_all (cs : List SGCell) (k : Nat) : tot (cs.take k) ≤ tot cs := by
  conv => rhs; rw [← List.take_append_drop k cs, tot_append]
  omega
/-- What stands ahead of the cells: the head, the slots, j noughts. -/
def preB (id lsn : Nat) (cs : List SGCell) (j : Nat) : List UInt8 := hdB id lsn cs.length ++ slotsB cs 512 ++ List.replicate j 0
theorem preB_length (id lsn : Nat) (cs : List SGCell) (j : Nat) : (preB id lsn cs j).length = 12 + 4 * cs.length + j := by
  rw [preB, List.length_append, List.length_append, hdB_length, slotsB_length, List.length_replicate]
theorem preB_zero (id lsn : Nat) (cs : List SGCell) : hdB id lsn cs.length ++ slotsB cs 512 = preB id lsn cs 0 := by rw [preB, List.replicate_zero, List.append_nil]
theorem preB_succ (id lsn : Nat) (cs : List SGCell) (j : Nat) : mkS (preB id lsn cs j) ++ (⟨#[0]⟩ : ByteArray) = mkS (preB id lsn cs (j + 1)) := by
  rw [show (⟨#[0]⟩ : ByteArray) = mkS [0] from rfl, mkS_append]
  unfold preB
  rw [List.replicate_succ', List.append_assoc, List.append_assoc]
theorem preB_all (id lsn : Nat) (cs : List SGCell) : mkS (preB id lsn cs (496 - 4 * cs.length - tot cs)) ++ mkS (cellsB cs) = mkS (bodyB id lsn cs) := by
  rw [mkS_append]
  unfold preB bodyB layB
  simp only [List.append_assoc]
theorem slots_next (cs : List SGCell) (i : Nat) (hi : i < cs.length) : slotsB (cs.take (i + 1)) 512 = slotsB (cs.take i) 512 ++ slotB (rd_TGCell cs i) (512 - tot (cs.take i) - csz (rd_TGCell cs i)) := by
  rw [rd_get cs i hi, List.take_succ_eq_append_getElem hi, slotsB_snoc]
theorem cells_next (cs : List SGCell) (i : Nat) (hi : i < cs.length) : cellsB (cs.take (i + 1)) = cellB (rd_TGCell cs i) ++ cellsB (cs.take i) := by
  rw [rd_get cs i hi, List.take_succ_eq_append_getElem hi, cellsB_snoc]

set_option maxRecDepth 100000 in
set_option maxHeartbeats 4000000 in
theorem rbytes_calls (w : World) (id lsn : Nat) (A : Option Addr) (c : Nat) (cs : List SGCell) (hC : Kd.C kGCell w A cs.length cs) (hS : Small cs) (hroom : 4 * cs.length + tot cs ≤ 496) (hid : id < 65536) (hlsn : lsn < 18446744073709551616) :
    Calls Try.prog 39 #[.agg #[.int .i64 id, .int .u64 lsn, .slice A cs.length c]] w fun e w' => e = .returned (.string (mkS (pgB id lsn cs))) ∧ Below w.heap.size w w' := by
  have HC := Aside0.mk hC
  have HS := Aside0.mk hS
  have HL := Aside0.mk hlsn
  have HR := Aside0.mk hroom
  clear hC hS hlsn hroom
  go_enter Try.func39, Try.ntmps39
  go_wp2_with fail
  have hb0 : Below w.heap.size w (w.alloc (.cells #[.int .i64 id, .int .u64 lsn, .slice A cs.length c] 46)) := below_alloc (Below.refl _ _) _
  have hx0 : (w.alloc (.cells #[.int .i64 id, .int .u64 lsn, .slice A cs.length c] 46)).cell? ⟨w.heap.size, 0, none⟩ = some (.int .i64 id) := blk_cell (heap_alloc_new w _) 0
  have hx1 : (w.alloc (.cells #[.int .i64 id, .int .u64 lsn, .slice A cs.length c] 46)).cell? ⟨w.heap.size, 1, none⟩ = some (.int .u64 lsn) := blk_cell (heap_alloc_new w _) 1
  have hx2 : (w.alloc (.cells #[.int .i64 id, .int .u64 lsn, .slice A cs.length c] 46)).cell? ⟨w.heap.size, 2, none⟩ = some (.slice A cs.length c) := blk_cell (heap_alloc_new w _) 2
  generalize w.alloc (.cells #[.int .i64 id, .int .u64 lsn, .slice A cs.length c] 46) = wb at hb0 hx0 hx1 hx2 ⊢
  have HX0 := Aside0.mk hx0
  have HX1 := Aside0.mk hx1
  have HX2 := Aside0.mk hx2
  have HB0 := Aside0.mk hb0
  have HCB := Aside0.mk (Kd.C_below HC.out hb0)
  have hl := HS.out.1
  clear hb0 hx0 hx1 hx2
  go_loopg [3, 4, 5] cs.length (fun gk v3 v4 v5 wr => ∃ k : Nat, Aside0 (k + gk = cs.length) ∧ v3 = .string (mkS (slotsB (cs.take k) 512)) ∧ v4 = .string (mkS (cellsB (cs.take k))) ∧ v5 = .int .i64 k ∧ k ≤ cs.length ∧ Aside0 (Below wb.heap.size wb wr))
  case atStart => exact ⟨0, ⟨by omega⟩, rfl, rfl, rfl, by omega, ⟨Below.refl _ _⟩⟩
  case round =>
    obtain ⟨k, Hk, rfl, rfl, rfl, hkl, Hb⟩ := hrel
    have hy2 : wr.cell? ⟨w.heap.size, 2, none⟩ = some (.slice A cs.length c) := pw_cell_below Hb.out HX2.out
    by_cases hlt : k < cs.length
    · obtain ⟨ad, rfl, hc0, hc1, hc2⟩ := cell_at (Kd.C_below HCB.out Hb.out) k hlt
      have hm := HS.out.2 _ (rd_mem cs k hlt)
      have HM := Aside0.mk hm
      clear hm
      go_wp2_with fail
      refine (rcell_calls wr _ HM.out.1 HM.out.2).mono ?_
      rintro e w1 ⟨rfl, hb⟩
      have HB1 := Aside0.mk (below_then Hb.out Hb.out.size hb)
      clear hb hc0 hc1 hc2 hy2
      have hr4 : 4 * (k + 1) + tot (cs.take k) + csz (rd_TGCell cs k) ≤ 496 := by
        have h1 := tot_take_succ cs k hlt
        have h2 := tot_take_all cs (k + 1)
        have h3 := HR.out
        omega
      have hz1 : (mkS (cellB (rd_TGCell cs k))).size = csz (rd_TGCell cs k) := by rw [mkS_size, cellB_length]
      have hz2 : (mkS (cellsB (cs.take k))).size = tot (cs.take k) := by rw [mkS_size, cellsB_length]
      have hz3 : (mkS (slotsB (cs.take k) 512)).size = 4 * k := by rw [mkS_size, slotsB_length, List.length_take, Nat.min_eq_left hkl]
      have hz4 : ∀ x, (mkS (le x 2)).size = 2 := fun x => by rw [mkS_size, le_length]
      have HS1 := Aside0.mk (slots_next cs k hlt)
      have HC1 := Aside0.mk (cells_next cs k hlt)
      by_cases hu : (rd_TGCell cs k).f0 = true
      · have he : (mkS (cellB (rd_TGCell cs k))).toList.isEmpty = false := by rw [mkS_toList]; unfold cellB; rw [if_pos hu]; rfl
        have hw1 : IntKind.u64.wrap (512 - ((csz (rd_TGCell cs k) : Int) + (tot (cs.take k) : Int))) = ((512 - tot (cs.take k) - csz (rd_TGCell cs k) : Nat) : Int) := by rw [u64w (by omega) (by omega)]; omega
        have hw2 : IntKind.u64.wrap (csz (rd_TGCell cs k) : Int) = ((csz (rd_TGCell cs k) : Nat) : Int) := u64w (by omega) (by omega)
        have HU := Aside0.mk hu
        clear hu
        go_wp2_with fail
        refine (rnum_calls _ _ 2 (by omega) (by omega)).mono ?_
        rintro e w2 ⟨rfl, hb⟩
        have HB2 := Aside0.mk (below_then HB1.out HB1.out.size hb)
        clear hb
        go_wp2_with fail
        refine (rnum_calls _ _ 2 (by omega) (by omega)).mono ?_
        rintro e w3 ⟨rfl, hb⟩
        have HB3 := Aside0.mk (below_then HB2.out HB2.out.size hb)
        clear hb
        go_wp2_with fail
        go_roundg (gk - 1)
        case measure => have := Hk.out; omega
        case rel =>
          refine ⟨k + 1, ⟨by have := Hk.out; omega⟩, ?_, ?_, by simp, by omega, HB3⟩
          · rw [HS1.out, mkS_append, mkS_append]; unfold slotB; rw [if_pos HU.out, List.append_assoc]
          · rw [HC1.out, mkS_append]
      · have he : (mkS (cellB (rd_TGCell cs k))).toList.isEmpty = true := by rw [mkS_toList]; unfold cellB; rw [if_neg hu]; rfl
        have h0 : csz (rd_TGCell cs k) = 0 := by unfold csz; rw [if_neg hu]
        have HU := Aside0.mk hu
        clear hu
        go_wp2_with fail
        refine (rnum_calls _ 0 2 (by omega) (by omega)).mono ?_
        rintro e w2 ⟨rfl, hb⟩
        have HB2 := Aside0.mk (below_then HB1.out HB1.out.size hb)
        clear hb
        go_wp2_with fail
        refine (rnum_calls _ 0 2 (by omega) (by omega)).mono ?_
        rintro e w3 ⟨rfl, hb⟩
        have HB3 := Aside0.mk (below_then HB2.out HB2.out.size hb)
        clear hb
        go_wp2_with fail
        go_roundg (gk - 1)
        case measure => have := Hk.out; omega
        case rel =>
          refine ⟨k + 1, ⟨by have := Hk.out; omega⟩, ?_, ?_, by simp, by omega, HB3⟩
          · rw [HS1.out, mkS_append, mkS_append]; unfold slotB; rw [if_neg HU.out, List.append_assoc]; rfl
          · rw [HC1.out, mkS_append]
    · obtain rfl : k = cs.length := by omega
      have hy0 : wr.cell? ⟨w.heap.size, 0, none⟩ = some (.int .i64 id) := pw_cell_below Hb.out HX0.out
      have hy1 : wr.cell? ⟨w.heap.size, 1, none⟩ = some (.int .u64 lsn) := pw_cell_below Hb.out HX1.out
      rw [List.take_length]
      have hwi : IntKind.u64.wrap (id : Int) = id := u64w (by omega) (by omega)
      have hwn : IntKind.u64.wrap (cs.length : Int) = cs.length := u64w (by omega) (by omega)
      have hz1 : (mkS (cellsB cs)).size = tot cs := by rw [mkS_size, cellsB_length]
      have hz2 : (mkS (slotsB cs 512)).size = 4 * cs.length := by rw [mkS_size, slotsB_length]
      have hz3 : ∀ x m, (mkS (le x m)).size = m := fun x m => by rw [mkS_size, le_length]
      have hroom := HR.out
      have HQ := Aside0.mk (below_drew Hb.out)
      go_wp2_with fail
      have hq1 : ¬ 9223372036854775807 < 12 + 4 * cs.length := by omega
      go_region_held3 (fun wx => wx.cell? ⟨w.heap.size, 0, none⟩ = some (.int .i64 id) ∧ wx.cell? ⟨w.heap.size, 1, none⟩ = some (.int .u64 lsn) ∧ wx.cell? ⟨w.heap.size, 2, none⟩ = some (.slice A cs.length c)) (go_keep) ((first | (go_at_call 64; with_reducible refine (rnum8_calls _ lsn HL.out).mono ?_; rintro e wq ⟨rfl, hb⟩; have HQ := Aside0.mk (below_then HQ.out HQ.out.size hb); clear hb; have q0 := pw_cell_below HQ.out HX0.out; have q1 := pw_cell_below HQ.out HX1.out; have q2 := pw_cell_below HQ.out HX2.out) | (go_at_call 64; with_reducible refine (rnum2_calls _ id (by omega)).mono ?_; rintro e wq ⟨rfl, hb⟩; have HQ := Aside0.mk (below_then HQ.out HQ.out.size hb); clear hb; have q0 := pw_cell_below HQ.out HX0.out; have q1 := pw_cell_below HQ.out HX1.out; have q2 := pw_cell_below HQ.out HX2.out) | (go_at_call 64; with_reducible refine (rnum2_calls _ cs.length (by omega)).mono ?_; rintro e wq ⟨rfl, hb⟩; have HQ := Aside0.mk (below_then HQ.out HQ.out.size hb); clear hb; have q0 := pw_cell_below HQ.out HX0.out; have q1 := pw_cell_below HQ.out HX1.out; have q2 := pw_cell_below HQ.out HX2.out)))
      clear q0 q1 q2
      rw [mkS_append, mkS_append, mkS_append, show le lsn 8 ++ le id 2 ++ le cs.length 2 = hdB id lsn cs.length from rfl, preB_zero]
      go_wp2_with fail
      go_loopg [8] (496 - 4 * cs.length - tot cs) (fun gk v8 wr => ∃ j : Nat, Aside0 (j + gk = 496 - 4 * cs.length - tot cs) ∧ v8 = .string (mkS (preB id lsn cs j)) ∧ j ≤ 496 - 4 * cs.length - tot cs ∧ Aside0 (wq = wr))
      case atStart => exact ⟨0, ⟨by omega⟩, rfl, by omega, ⟨rfl⟩⟩
      case round =>
        obtain ⟨j, Hj, rfl, hjl, Hw⟩ := hrel
        obtain rfl := Hw.out
        clear Hw
        have hzj : (mkS (preB id lsn cs j)).size = 12 + 4 * cs.length + j := by rw [mkS_size, preB_length]
        by_cases hj : j < 496 - 4 * cs.length - tot cs
        · have hsz0 : (⟨#[0]⟩ : ByteArray).size = 1 := rfl
          go_wp2_with fail
          rw [preB_succ]
          go_roundg (gk - 1)
          case measure => have := Hj.out; omega
          case rel => exact ⟨j + 1, ⟨by have := Hj.out; omega⟩, rfl, by omega, ⟨rfl⟩⟩
        · obtain rfl : j = 496 - 4 * cs.length - tot cs := by omega
          have HP := Aside0.mk (preB_all id lsn cs)
          have HBL := Aside0.mk (bodyB_length id lsn cs HR.out)
          have hbz : (mkS (bodyB id lsn cs)).size = 508 := by rw [mkS_size, HBL.out]
          have hz4 : (mkS (le (Crc.sum (bodyB id lsn cs)) 4)).size = 4 := by rw [mkS_size, le_length]
          go_wp2_with fail
          rw [HP.out]
          refine (rsum_calls wq (bodyB id lsn cs) (by rw [HBL.out]; omega)).mono ?_
          rintro e w5 ⟨rfl, hb⟩
          have HB5 := Aside0.mk (below_then HQ.out HQ.out.size hb)
          clear hb
          go_wp2_with fail
          refine (rfour_calls w5 _ (Crc.sum_lt _)).mono ?_
          rintro e w6 ⟨rfl, hb⟩
          have HB6 := Aside0.mk (below_then HB5.out HB5.out.size hb)
          clear hb
          go_wp2_with fail
          go_ret
          exact ⟨by rw [mkS_append]; rfl, below_then HB0.out HB0.out.size HB6.out⟩
end Go.Proofs.Ytidgfigfebkieaa
end
section
namespace Go.Proofs.Ytidgfigfebkieaa
open Go.RowKit Go.Proofs.YtidgfigfebkieaaW.PrintWords Go.Proofs.YtidgfigfebkieaaW.PrintLast Go.Proofs.YtidgfigfebkieaaW.PrintMore
open Rf Go.ChangeMaps
set_option linter.unusedVariables false
set_option linter.unusedSimpArgs false
section
variable {w0 w : World} {ok : Nat → Prop} {g id lsn : Nat} {cs : List SGCell}
set_option maxRecDepth 100000 in
set_option maxHeartbeats 1000000 in
theorem alike_calls (h : Here w0 w ok g id lsn cs) (A : Option Addr) (c : Nat) (hC : Kd.C kGCell w A cs.length cs) :
    Calls Try.prog 23 #[.pointer (some ⟨g, 0, none⟩), .agg #[.int .i64 id, .int .u64 lsn, .slice A cs.length c]] w fun e w' => e = .returned (.bool true) ∧ Below w.heap.size w w' := by
  have H := Aside0.mk h
  have HC := Aside0.mk hC
  clear h hC
  go_enter Try.func23, Try.ntmps23
  go_wp2_with fail
  have hb0 : Below w.heap.size w (w.alloc (.cells #[.int .i64 id, .int .u64 lsn, .slice A cs.length c] 46)) := below_alloc (Below.refl _ _) _
  have hbx := heap_alloc_new w (.cells #[.int .i64 id, .int .u64 lsn, .slice A cs.length c] 46)
  generalize w.alloc (.cells #[.int .i64 id, .int .u64 lsn, .slice A cs.length c] 46) = w1 at hb0 hbx ⊢
  have H1 := Aside0.mk (H.out.next hb0)
  have HB0 := Aside0.mk hb0
  have HX := Aside0.mk hbx
  have HC1 := Aside0.mk (Kd.C_below HC.out (below_drew hb0))
  have x0 := blk_cell hbx 0
  have x1 := blk_cell hbx 1
  have x2 := blk_cell hbx 2
  clear hb0 hbx
  go_region_with ((first | (go_at_call 18; refine H1.out.drew.bytes.mono ?_; rintro e w2 ⟨rfl, hbuf, hh, hb⟩; have hbuf : BufAt w2 w1.heap.size (pgB id lsn cs) := hbuf; have hcv := pg_string hbuf H1.out.val; have hz := blk_below (blk_drew HX.out) hb; have y0 := blk_cell hz 0; have y1 := blk_cell hz 1; have y2 := blk_cell hz 2; have HBUF := Aside0.mk hbuf; have HC2 := Aside0.mk (Kd.C_below HC1.out hb); have HB2 := Aside0.mk (below_then (below_drew HB0.out) (below_drew HB0.out).size hb); have HX2 := Aside0.mk hz; clear hz hbuf hh hb) | (go_at_call 39; refine (rbytes_calls _ id lsn A c cs HC2.out H1.out.val.small H1.out.val.room4 (by have := H1.out.id16; omega) H1.out.lsn64).mono ?_; rintro e w3 ⟨rfl, hb⟩; have hcv3 := pg_string (HBUF.out.below hb) H1.out.val; have hz := blk_below HX2.out hb; have z0 := blk_cell hz 0; have z1 := blk_cell hz 1; have z2 := blk_cell hz 2; have HB3 := Aside0.mk (below_then HB2.out HB2.out.size hb); clear hz hb)))
  all_goals
    go_wp2
    go_ret
    exact ⟨rfl, HB3.out⟩
end
end Go.Proofs.Ytidgfigfebkieaa
end
section
namespace Go.Proofs.Ytidgfigfebkieaa
open Go.RowKit Go.Proofs.YtidgfigfebkieaaW.PrintWords Go.Proofs.YtidgfigfebkieaaW.PrintLast Go.Proofs.YtidgfigfebkieaaW.PrintMore
open Rf
set_option linter.unusedVariables false
set_option linter.unusedSimpArgs false
theorem Twin.here {w0 w : World} {B : Nat → Prop} {g id lsn : Nat} {cs cs' : List SGCell} {v : Value} (h : Twin w0 w B g id lsn cs cs' v) : ∃ ok, Here w0 w ok g id lsn cs := by
  obtain ⟨⟨ok, h1, _⟩, _⟩ := h
  exact ⟨ok, h1⟩
theorem cell_lt {w : World} {a : Addr} {u : Value} (h : w.cell? a = some u) : a.block < w.heap.size := by
  apply Decidable.byContradiction
  intro hn
  have hnone : w.heap[a.block]? = none := Array.getElem?_eq_none (by omega)
  simp [World.cell?, hnone] at h
theorem far3 {w : World} {q : Addr} {g : Nat} {x y z u : Value} (hne : q.block ≠ g) (h : w.cell? q = some u) : (((w.setCell ⟨g, 0, none⟩ x).setCell ⟨g, 1, none⟩ y).setCell ⟨g, 2, none⟩ z).cell? q = some u := by
  have ne : ∀ i, (⟨g, i, none⟩ : Addr) ≠ q := fun i e => hne (by rw [← e])
  rw [World.cell?_setCell_other (h := ne 2), World.cell?_setCell_other (h := ne 1), World.cell?_setCell_other (h := ne 0)]
  exact h
end Go.Proofs.Ytidgfigfebkieaa
end
section
namespace Go.Proofs.Ytidgfigfebkieaa
open Go.RowKit Go.Proofs.YtidgfigfebkieaaW.PrintWords Go.Proofs.YtidgfigfebkieaaW.PrintLast Go.Proofs.YtidgfigfebkieaaW.PrintMore
open Rf
set_option linter.unusedVariables false
set_option linter.unusedSimpArgs false
set_option maxRecDepth 100000 in
set_option maxHeartbeats 4000000 in
theorem redoes_walk (w : World) (l : List SGPair) (A : Option Addr) (c : Nat) (hC : Kd.C kGPair w A l.length l) (hl : l.length ≤ 9223372036854775807) (hsz : ∀ x ∈ l, x.f0.size ≤ 140737488351232 ∧ x.f1.size ≤ 140737488351232)
    (m : List SGRec) (Am : Option Addr) (cm : Nat) (hM : Kd.C kGRec w Am m.length m) (hml : m.length ≤ 9223372036854775807) (hmz : ∀ x ∈ m, OkRec x) :
    Calls Try.prog 6 #[.slice A l.length c, .slice Am m.length cm] w fun e w' => e = .returned (.bool true) ∧ Below w.heap.size w w' := by
  have HM := Aside0.mk hM
  have HMZ := Aside0.mk hmz
  go_enter Try.func6, Try.ntmps6
  go_wp2_with fail
  refine (pair_calls w 3 (by decide) l A c hC hl hsz).mono ?_
  rintro e w1 ⟨g, cs, v, rfl, hT⟩
  obtain ⟨Av, cv, rfl, _, _⟩ := hT.row
  have HT := Aside0.mk hT
  clear hC hM hsz hmz hT
  go_wp2_with fail
  have hb2 : Below w1.heap.size w1 (w1.alloc (.cells #[.int .i64 3, .int .u64 0, .slice Av cs.length cv] 46)) := below_alloc (Below.refl _ _) _
  have hdx := heap_alloc_new w1 (.cells #[.int .i64 3, .int .u64 0, .slice Av cs.length cv] 46)
  obtain ⟨DB, hDB⟩ : ∃ x, x = w1.heap.size := ⟨_, rfl⟩
  generalize w1.alloc (.cells #[.int .i64 3, .int .u64 0, .slice Av cs.length cv] 46) = w2 at hb2 hdx ⊢
  have HT2 := Aside0.mk (show Twin w w2 (fun k => k = DB) g 3 0 cs cs (.slice Av cs.length cv) from HT.out.apart hb2 (fun k hk => .inr ⟨by omega, by have := blk_lt hdx; omega⟩))
  have HL := Aside0.mk (show w.heap.size ≤ DB from by have := HT.out.bel.size; omega)
  rw [← hDB] at hdx ⊢
  have HDX := Aside0.mk hdx
  clear hb2 hdx hDB HT
  go_wp2_with fail
  go_loopg [7] m.length (fun gk v7 wr => ∃ (k lsn : Nat) (cs : List SGCell) (v : Value), Aside0 (k + gk = m.length) ∧ v7 = .int .i64 k ∧ k ≤ m.length ∧ Aside0 (Twin w wr (fun k => k = DB) g 3 lsn cs cs v) ∧ Aside0 (wr.heap[DB]? = some (.cells #[.int .i64 3, .int .u64 lsn, v] 46)))
  case atStart => exact ⟨0, 0, cs, _, ⟨by omega⟩, rfl, by omega, HT2, HDX⟩
  case round =>
    obtain ⟨k, lsn, cs, v, Hk, rfl, hkl, HT, HDX⟩ := hrel
    obtain ⟨Av, cv, rfl, _, _⟩ := HT.out.row
    by_cases hend : k < m.length ∧ k < 60
    · obtain ⟨hlt, h60⟩ := hend
      have hd60 : decide ((k : Int) < 60) = true := by simp; omega
      obtain ⟨ad, rfl, hx0, hx1, hx2, hx3, hx4, hx5, hx6, hx7, hx8, hx9, hx10, hx11⟩ := rec_at (Kd.C_below HM.out HT.out.bel) k hlt
      have hok := HMZ.out _ (rec_mem m k hlt)
      have hz1 := hok.s7
      have hz2 := hok.s8
      have hz3 := hok.s9
      go_wp2_with fail
      refine (short_calls _ _ _ _ wr hz1 hz2 hz3).mono ?_
      rintro e w6 ⟨rfl, hb3⟩
      have HT6 := Aside0.mk (HT.out.next hb3)
      have HDX6 := Aside0.mk (blk_below HDX.out hb3)
      clear hb3 hx0 hx1 hx2 hx3 hx4 hx5 hx6 hx7 hx8 hx9 hx10 hx11
      cases decide ((rd_TGRec m k).f7.size + (rd_TGRec m k).f8.size + (rd_TGRec m k).f9.size ≤ 1000) with
      | false =>
        have HBn := Aside0.mk HT6.out.bel
        go_wp2_with (go_at_call 10; refine (lives_calls _).mono ?_; rintro e wq ⟨rfl, hb⟩; have HBn := Aside0.mk (below_then HBn.out HBn.out.size hb); clear hb)
        go_ret
        exact ⟨rfl, HBn.out⟩
      | true =>
        go_wp2_with fail
        have d0 := blk_cell HDX6.out 0
        have d1 := blk_cell HDX6.out 1
        have d2 := blk_cell HDX6.out 2
        obtain ⟨ad', ea', x0, x1, x2, x3, x4, x5, x6, x7, x8, x9, x10, x11⟩ := rec_at (Kd.C_below HM.out HT6.out.bel) k hlt
        cases ea'
        have HNA := Aside0.mk (show (ad.add (k * 12)).block ≠ w6.heap.size from fun he => by
          have hlt : (ad.add (k * 12)).block < w6.heap.size := cell_lt x0
          omega)
        have HND := Aside0.mk (show DB ≠ w6.heap.size from by have := blk_lt HDX6.out; omega)
        have e0 : ∀ o, (w6.alloc o).cell? ⟨DB, 0, none⟩ = some (.int .i64 3) := fun o => blk_cell (blk_alloc HDX6.out o) 0
        have e1 : ∀ o, (w6.alloc o).cell? ⟨DB, 1, none⟩ = some (.int .u64 lsn) := fun o => blk_cell (blk_alloc HDX6.out o) 1
        have e2 : ∀ o, (w6.alloc o).cell? ⟨DB, 2, none⟩ = some (.slice Av cs.length cv) := fun o => blk_cell (blk_alloc HDX6.out o) 2
        have HV := Aside0.mk HT6.out.val
        go_region_held3 (fun wx => wx.cell? (ad.add (k * 12)) = some (.int .i64 (rd_TGRec m k).f0) ∧ wx.cell? ⟨(ad.add (k * 12)).block, (ad.add (k * 12)).off + 1, none⟩ = some (.int .u64 (rd_TGRec m k).f1) ∧ wx.cell? ⟨(ad.add (k * 12)).block, (ad.add (k * 12)).off + 2, none⟩ = some (.int .i64 (rd_TGRec m k).f2) ∧ wx.cell? ⟨(ad.add (k * 12)).block, (ad.add (k * 12)).off + 3, none⟩ = some (.int .u64 (rd_TGRec m k).f3) ∧ wx.cell? ⟨(ad.add (k * 12)).block, (ad.add (k * 12)).off + 4, none⟩ = some (.int .u64 (rd_TGRec m k).f4) ∧ wx.cell? ⟨(ad.add (k * 12)).block, (ad.add (k * 12)).off + 5, none⟩ = some (.int .i64 (rd_TGRec m k).f5) ∧ wx.cell? ⟨(ad.add (k * 12)).block, (ad.add (k * 12)).off + 6, none⟩ = some (.int .i64 (rd_TGRec m k).f6) ∧ wx.cell? ⟨(ad.add (k * 12)).block, (ad.add (k * 12)).off + 7, none⟩ = some (.string (rd_TGRec m k).f7) ∧ wx.cell? ⟨(ad.add (k * 12)).block, (ad.add (k * 12)).off + 8, none⟩ = some (.string (rd_TGRec m k).f8) ∧ wx.cell? ⟨(ad.add (k * 12)).block, (ad.add (k * 12)).off + 9, none⟩ = some (.string (rd_TGRec m k).f9) ∧ wx.cell? ⟨(ad.add (k * 12)).block, (ad.add (k * 12)).off + 10, none⟩ = some (.slice (rd_TGRec m k).f10.1 (rd_TGRec m k).f10.2.1 (rd_TGRec m k).f10.2.2) ∧ wx.cell? ⟨(ad.add (k * 12)).block, (ad.add (k * 12)).off + 11, none⟩ = some (.slice (rd_TGRec m k).f11.1 (rd_TGRec m k).f11.2.1 (rd_TGRec m k).f11.2.2) ∧ wx.cell? ⟨DB, 0, none⟩ = some (.int .i64 3) ∧ wx.cell? ⟨DB, 1, none⟩ = some (.int .u64 lsn) ∧ wx.cell? ⟨DB, 2, none⟩ = some (.slice Av cs.length cv)) ((first | go_keep | exact ⟨far3 HNA.out a0, far3 HNA.out a1, far3 HNA.out a2, far3 HNA.out a3, far3 HNA.out a4, far3 HNA.out a5, far3 HNA.out a6, far3 HNA.out a7, far3 HNA.out a8, far3 HNA.out a9, far3 HNA.out a10, far3 HNA.out a11, far3 HND.out b0, far3 HND.out b1, far3 HND.out b2⟩)) ((first | (go_at_call 24; refine ((HT6.out.next (below_drew (Below.refl _ _))).rredo HV.out (rd_TGRec m k) hok lsn).mono ?_; rintro e w7 ⟨v7, rfl, hT, hB⟩; have q := hT.row; obtain ⟨A7, c7, rfl, _, _⟩ := q; have HT7 := Aside0.mk hT; have HDX7 := Aside0.mk ((hB DB rfl).trans (blk_drew HDX6.out)); have q2 := rec_at (Kd.C_below HM.out HT7.out.bel) k hlt; obtain ⟨ad7, ea7, a0, a1, a2, a3, a4, a5, a6, a7, a8, a9, a10, a11⟩ := q2; cases ea7; have b0 := blk_cell HDX7.out 0; have b1 := blk_cell HDX7.out 1; have b2 := blk_cell HDX7.out 2; clear hT hB) | (go_at_call 24; refine ((HT6.out.apart (w' := (w6.alloc (.cells #[.int .i64 0, .int .u64 0, .slice none 0 0] 46)).drew) (B' := fun q => q = DB ∨ q = w6.heap.size) (below_drew (below_alloc (Below.refl _ _) _)) (fun q hq => hq.elim .inl (fun h => .inr ⟨by omega, by rw [h]; exact blk_lt (blk_drew (heap_alloc_new w6 (.cells #[.int .i64 0, .int .u64 0, .slice none 0 0] 46)))⟩))).rredo HV.out (rd_TGRec m k) hok lsn).mono ?_; rintro e w7 ⟨v7, rfl, hT, hB⟩; have q := hT.row; obtain ⟨A7, c7, rfl, _, _⟩ := q; have HT7 := Aside0.mk hT; have HDX7 := Aside0.mk ((hB DB (.inl rfl)).trans (blk_drew (blk_alloc HDX6.out _))); have HNX7 := Aside0.mk ((hB w6.heap.size (.inr rfl)).trans (blk_drew (heap_alloc_new w6 (.cells #[.int .i64 0, .int .u64 0, .slice none 0 0] 46)))); have q2 := rec_at (Kd.C_below HM.out HT7.out.bel) k hlt; obtain ⟨ad7, ea7, a0, a1, a2, a3, a4, a5, a6, a7, a8, a9, a10, a11⟩ := q2; cases ea7; have b0 := blk_cell HDX7.out 0; have b1 := blk_cell HDX7.out 1; have b2 := blk_cell HDX7.out 2; have n0 := blk_cell HNX7.out 0; have n1 := blk_cell HNX7.out 1; have n2 := blk_cell HNX7.out 2; have f0 := blk_frozen HNX7.out 0; have f1 := blk_frozen HNX7.out 1; have f2 := blk_frozen HNX7.out 2; clear hT hB)))
        all_goals
          have HW6 := Aside0.mk HT6.out.bel.size
          (first
            | (have hx8 := (blk_put (cs' := #[.int .i64 3, .int .u64 (redoP 3 lsn cs (rd_TGRec m k)).2.1, .slice A7 (redoP 3 lsn cs (rd_TGRec m k)).1.length c7]) (blk_put (cs' := #[.int .i64 3, .int .u64 (redoP 3 lsn cs (rd_TGRec m k)).2.1, .slice none 0 0]) (blk_put (cs' := #[.int .i64 3, .int .u64 0, .slice none 0 0]) HNX7.out 0 (.int .i64 3) rfl) 1 (.int .u64 (redoP 3 lsn cs (rd_TGRec m k)).2.1) rfl) 2 (.slice A7 (redoP 3 lsn cs (rd_TGRec m k)).1.length c7) rfl); have ht8 := (Twin.set (Twin.set (Twin.set HT7.out (q := ⟨w6.heap.size, 0, none⟩) (.inr rfl) HW6.out (.int .i64 3)) (q := ⟨w6.heap.size, 1, none⟩) (.inr rfl) HW6.out (.int .u64 (redoP 3 lsn cs (rd_TGRec m k)).2.1)) (q := ⟨w6.heap.size, 2, none⟩) (.inr rfl) HW6.out (.slice A7 (redoP 3 lsn cs (rd_TGRec m k)).1.length c7)); have hd8 := (blk_far (blk_far (blk_far HDX7.out (p := ⟨w6.heap.size, 0, none⟩) HND.out (.int .i64 3)) (p := ⟨w6.heap.size, 1, none⟩) HND.out (.int .u64 (redoP 3 lsn cs (rd_TGRec m k)).2.1)) (p := ⟨w6.heap.size, 2, none⟩) HND.out (.slice A7 (redoP 3 lsn cs (rd_TGRec m k)).1.length c7)); generalize (((w7.setCell ⟨w6.heap.size, 0, none⟩ (.int .i64 3)).setCell ⟨w6.heap.size, 1, none⟩ (.int .u64 (redoP 3 lsn cs (rd_TGRec m k)).2.1)).setCell ⟨w6.heap.size, 2, none⟩ (.slice A7 (redoP 3 lsn cs (rd_TGRec m k)).1.length c7)) = w8 at hx8 ht8 hd8 ⊢; obtain ⟨XB, hXB⟩ : ∃ x, x = w6.heap.size := ⟨_, rfl⟩; rw [← hXB] at hx8 ht8 ⊢; have HXB := Aside0.mk (show w.heap.size ≤ XB from by rw [hXB]; exact HW6.out); clear hXB)
            | (have hx8 := heap_alloc_new w7 (.cells #[.int .i64 3, .int .u64 (redoP 3 lsn cs (rd_TGRec m k)).2.1, .slice A7 (redoP 3 lsn cs (rd_TGRec m k)).1.length c7] 46); have ht8 : Twin w (w7.alloc (.cells #[.int .i64 3, .int .u64 (redoP 3 lsn cs (rd_TGRec m k)).2.1, .slice A7 (redoP 3 lsn cs (rd_TGRec m k)).1.length c7] 46)) (fun q => q = DB ∨ q = w7.heap.size) g 3 lsn cs _ _ := HT7.out.apart (below_alloc (Below.refl _ _) _) (fun q hq => hq.elim .inl (fun h => .inr ⟨by omega, by rw [h]; exact blk_lt hx8⟩)); have hd8 := blk_alloc HDX7.out (.cells #[.int .i64 3, .int .u64 (redoP 3 lsn cs (rd_TGRec m k)).2.1, .slice A7 (redoP 3 lsn cs (rd_TGRec m k)).1.length c7] 46); have HXB0 := Aside0.mk HT7.out.bel.size; generalize w7.alloc (.cells #[.int .i64 3, .int .u64 (redoP 3 lsn cs (rd_TGRec m k)).2.1, .slice A7 (redoP 3 lsn cs (rd_TGRec m k)).1.length c7] 46) = w8 at hx8 ht8 hd8 ⊢; obtain ⟨XB, hXB⟩ : ∃ x, x = w7.heap.size := ⟨_, rfl⟩; rw [← hXB] at hx8 ht8 HXB0 ⊢; have HXB := HXB0; clear hXB))
          have HX8 := Aside0.mk hx8
          have HT8 := Aside0.mk ht8
          have HD8 := Aside0.mk hd8
          clear hx8 ht8 hd8 d0 d1 d2 x0 x1 x2 x3 x4 x5 x6 x7 x8 x9 x10 x11 e0 e1 e2
          have p0 := blk_cell HX8.out 0
          have p1 := blk_cell HX8.out 1
          have p2 := blk_cell HX8.out 2
          have q0 := blk_cell HD8.out 0
          have q1 := blk_cell HD8.out 1
          have q2 := blk_cell HD8.out 2
          have s0 := blk_frozen HD8.out 0
          have s1 := blk_frozen HD8.out 1
          have s2 := blk_frozen HD8.out 2
          have q8 := rec_at (Kd.C_below HM.out HT8.out.bel) k hlt
          obtain ⟨ad8, ea8, h0, h1, h2, h3, h4, h5, h6, h7, h8, h9, h10, h11⟩ := q8
          cases ea8
          have HAD := Aside0.mk (show (ad.add (k * 12)).block ≠ DB from fun he => by
            have q9 := rec_at HM.out k hlt
            obtain ⟨ad9, ea9, h9, _⟩ := q9
            cases ea9
            have := cell_lt h9
            have := HL.out
            omega)
          have z0 : (((w8.setCell ⟨DB, 0, none⟩ (.int .i64 3)).setCell ⟨DB, 1, none⟩ (.int .u64 (redoP 3 lsn cs (rd_TGRec m k)).2.1)).setCell ⟨DB, 2, none⟩ (.slice A7 (redoP 3 lsn cs (rd_TGRec m k)).1.length c7)).cell? (ad.add (k * 12)) = some (.int .i64 (rd_TGRec m k).f0) := far3 HAD.out h0
          have z1 : (((w8.setCell ⟨DB, 0, none⟩ (.int .i64 3)).setCell ⟨DB, 1, none⟩ (.int .u64 (redoP 3 lsn cs (rd_TGRec m k)).2.1)).setCell ⟨DB, 2, none⟩ (.slice A7 (redoP 3 lsn cs (rd_TGRec m k)).1.length c7)).cell? ⟨(ad.add (k * 12)).block, (ad.add (k * 12)).off + 1, none⟩ = some (.int .u64 (rd_TGRec m k).f1) := far3 HAD.out h1
          have z2 : (((w8.setCell ⟨DB, 0, none⟩ (.int .i64 3)).setCell ⟨DB, 1, none⟩ (.int .u64 (redoP 3 lsn cs (rd_TGRec m k)).2.1)).setCell ⟨DB, 2, none⟩ (.slice A7 (redoP 3 lsn cs (rd_TGRec m k)).1.length c7)).cell? ⟨(ad.add (k * 12)).block, (ad.add (k * 12)).off + 2, none⟩ = some (.int .i64 (rd_TGRec m k).f2) := far3 HAD.out h2
          have z3 : (((w8.setCell ⟨DB, 0, none⟩ (.int .i64 3)).setCell ⟨DB, 1, none⟩ (.int .u64 (redoP 3 lsn cs (rd_TGRec m k)).2.1)).setCell ⟨DB, 2, none⟩ (.slice A7 (redoP 3 lsn cs (rd_TGRec m k)).1.length c7)).cell? ⟨(ad.add (k * 12)).block, (ad.add (k * 12)).off + 3, none⟩ = some (.int .u64 (rd_TGRec m k).f3) := far3 HAD.out h3
          have z4 : (((w8.setCell ⟨DB, 0, none⟩ (.int .i64 3)).setCell ⟨DB, 1, none⟩ (.int .u64 (redoP 3 lsn cs (rd_TGRec m k)).2.1)).setCell ⟨DB, 2, none⟩ (.slice A7 (redoP 3 lsn cs (rd_TGRec m k)).1.length c7)).cell? ⟨(ad.add (k * 12)).block, (ad.add (k * 12)).off + 4, none⟩ = some (.int .u64 (rd_TGRec m k).f4) := far3 HAD.out h4
          have z5 : (((w8.setCell ⟨DB, 0, none⟩ (.int .i64 3)).setCell ⟨DB, 1, none⟩ (.int .u64 (redoP 3 lsn cs (rd_TGRec m k)).2.1)).setCell ⟨DB, 2, none⟩ (.slice A7 (redoP 3 lsn cs (rd_TGRec m k)).1.length c7)).cell? ⟨(ad.add (k * 12)).block, (ad.add (k * 12)).off + 5, none⟩ = some (.int .i64 (rd_TGRec m k).f5) := far3 HAD.out h5
          have z6 : (((w8.setCell ⟨DB, 0, none⟩ (.int .i64 3)).setCell ⟨DB, 1, none⟩ (.int .u64 (redoP 3 lsn cs (rd_TGRec m k)).2.1)).setCell ⟨DB, 2, none⟩ (.slice A7 (redoP 3 lsn cs (rd_TGRec m k)).1.length c7)).cell? ⟨(ad.add (k * 12)).block, (ad.add (k * 12)).off + 6, none⟩ = some (.int .i64 (rd_TGRec m k).f6) := far3 HAD.out h6
          have z7 : (((w8.setCell ⟨DB, 0, none⟩ (.int .i64 3)).setCell ⟨DB, 1, none⟩ (.int .u64 (redoP 3 lsn cs (rd_TGRec m k)).2.1)).setCell ⟨DB, 2, none⟩ (.slice A7 (redoP 3 lsn cs (rd_TGRec m k)).1.length c7)).cell? ⟨(ad.add (k * 12)).block, (ad.add (k * 12)).off + 7, none⟩ = some (.string (rd_TGRec m k).f7) := far3 HAD.out h7
          have z8 : (((w8.setCell ⟨DB, 0, none⟩ (.int .i64 3)).setCell ⟨DB, 1, none⟩ (.int .u64 (redoP 3 lsn cs (rd_TGRec m k)).2.1)).setCell ⟨DB, 2, none⟩ (.slice A7 (redoP 3 lsn cs (rd_TGRec m k)).1.length c7)).cell? ⟨(ad.add (k * 12)).block, (ad.add (k * 12)).off + 8, none⟩ = some (.string (rd_TGRec m k).f8) := far3 HAD.out h8
          have z9 : (((w8.setCell ⟨DB, 0, none⟩ (.int .i64 3)).setCell ⟨DB, 1, none⟩ (.int .u64 (redoP 3 lsn cs (rd_TGRec m k)).2.1)).setCell ⟨DB, 2, none⟩ (.slice A7 (redoP 3 lsn cs (rd_TGRec m k)).1.length c7)).cell? ⟨(ad.add (k * 12)).block, (ad.add (k * 12)).off + 9, none⟩ = some (.string (rd_TGRec m k).f9) := far3 HAD.out h9
          have z10 : (((w8.setCell ⟨DB, 0, none⟩ (.int .i64 3)).setCell ⟨DB, 1, none⟩ (.int .u64 (redoP 3 lsn cs (rd_TGRec m k)).2.1)).setCell ⟨DB, 2, none⟩ (.slice A7 (redoP 3 lsn cs (rd_TGRec m k)).1.length c7)).cell? ⟨(ad.add (k * 12)).block, (ad.add (k * 12)).off + 10, none⟩ = some (.slice (rd_TGRec m k).f10.1 (rd_TGRec m k).f10.2.1 (rd_TGRec m k).f10.2.2) := far3 HAD.out h10
          have z11 : (((w8.setCell ⟨DB, 0, none⟩ (.int .i64 3)).setCell ⟨DB, 1, none⟩ (.int .u64 (redoP 3 lsn cs (rd_TGRec m k)).2.1)).setCell ⟨DB, 2, none⟩ (.slice A7 (redoP 3 lsn cs (rd_TGRec m k)).1.length c7)).cell? ⟨(ad.add (k * 12)).block, (ad.add (k * 12)).off + 11, none⟩ = some (.slice (rd_TGRec m k).f11.1 (rd_TGRec m k).f11.2.1 (rd_TGRec m k).f11.2.2) := far3 HAD.out h11
          clear h0 h1 h2 h3 h4 h5 h6 h7 h8 h9 h10 h11
          go_wp2_with fail
          have ht9 := (Twin.set (Twin.set (Twin.set HT8.out (q := ⟨DB, 0, none⟩) (.inl rfl) HL.out (.int .i64 3)) (q := ⟨DB, 1, none⟩) (.inl rfl) HL.out (.int .u64 (redoP 3 lsn cs (rd_TGRec m k)).2.1)) (q := ⟨DB, 2, none⟩) (.inl rfl) HL.out (.slice A7 (redoP 3 lsn cs (rd_TGRec m k)).1.length c7))
          have hd9 := (blk_put (cs' := #[.int .i64 3, .int .u64 (redoP 3 lsn cs (rd_TGRec m k)).2.1, .slice A7 (redoP 3 lsn cs (rd_TGRec m k)).1.length c7]) (blk_put (cs' := #[.int .i64 3, .int .u64 (redoP 3 lsn cs (rd_TGRec m k)).2.1, .slice Av cs.length cv]) (blk_put (cs' := #[.int .i64 3, .int .u64 lsn, .slice Av cs.length cv]) HD8.out 0 (.int .i64 3) rfl) 1 (.int .u64 (redoP 3 lsn cs (rd_TGRec m k)).2.1) rfl) 2 (.slice A7 (redoP 3 lsn cs (rd_TGRec m k)).1.length c7) rfl)
          clear z0 z1 z2 z3 z4 z5 z6 z7 z8 z9 z10 z11 p0 p1 p2 q0 q1 q2 s0 s1 s2
          generalize (((w8.setCell ⟨DB, 0, none⟩ (.int .i64 3)).setCell ⟨DB, 1, none⟩ (.int .u64 (redoP 3 lsn cs (rd_TGRec m k)).2.1)).setCell ⟨DB, 2, none⟩ (.slice A7 (redoP 3 lsn cs (rd_TGRec m k)).1.length c7)) = w9 at ht9 hd9 ⊢
          refine (ht9.redo (rd_TGRec m k) hok).mono ?_
          rintro e w10 ⟨rfl, hT, hB⟩
          have HTA := Aside0.mk hT
          have HDA := Aside0.mk ((hB DB (.inl rfl)).trans hd9)
          clear ht9 hd9 hT hB
          have b0 := blk_cell HDA.out 0
          have b1 := blk_cell HDA.out 1
          have b2 := blk_cell HDA.out 2
          go_wp2_with fail
          obtain ⟨okq, hhq⟩ := HTA.out.here
          have hrow := HTA.out.row
          obtain ⟨Ay, cy, hy, _, hCy⟩ := hrow
          cases hy
          refine (alike_calls hhq _ _ hCy).mono ?_
          rintro e w11 ⟨rfl, hb11⟩
          have HT11 := Aside0.mk (HTA.out.apart (B' := fun q => q = DB) hb11 (fun q hq => .inl (.inl hq)))
          have HD11 := Aside0.mk (blk_below HDA.out hb11)
          clear hb11 hhq hCy
          go_wp2_with fail
          go_roundg (gk - 1)
          case measure => have := Hk.out; omega
          case rel => exact ⟨k + 1, _, _, _, ⟨by have := Hk.out; omega⟩, by simp, by omega, HT11, HD11⟩
    · have hend2 : ¬ k < m.length ∨ ¬ k < 60 := by omega
      have HBn := Aside0.mk HT.out.bel
      go_wp2_with fail
      all_goals
        refine (redo_nil _ ⟨1, 16, 0, 0, 0, 0, 0, ⟨#[]⟩, ⟨#[]⟩, ⟨#[]⟩, (none, 0, 0), (none, 0, 0)⟩).mono ?_
        rintro e w3 ⟨rfl, hb3⟩
        have HBn := Aside0.mk (below_then HBn.out HBn.out.size hb3)
        clear hb3
        go_wp2_with (go_at_call 10; refine (lives_calls _).mono ?_; rintro e wq ⟨rfl, hb⟩; have HBn := Aside0.mk (below_then HBn.out HBn.out.size hb); clear hb)
        go_ret
        exact ⟨rfl, HBn.out⟩
end Go.Proofs.Ytidgfigfebkieaa
end
section
namespace Go.Proofs.Ytidgfigfebkieaa
open Go.RowKit Go.Proofs.YtidgfigfebkieaaW.PrintWords Go.Proofs.YtidgfigfebkieaaW.PrintLast Go.Proofs.YtidgfigfebkieaaW.PrintMore
open Go.ChangeShapes Go.WideShapes Go.ChangeAt Go.Deep Go.Joins
open Rf
set_option linter.unusedVariables false
set_option linter.unusedSimpArgs false
theorem list_of {α : Type} (P : Nat → α → Prop) (n : Nat) (h : ∀ i, i < n → ∃ o, P i o) : ∃ l : List α, l.length = n ∧ ∀ i o, l[i]? = some o → P i o := by
  induction n with
  | zero => exact ⟨[], rfl, by simp⟩
  | succ n ih =>
    obtain ⟨l, hl, hp⟩ := ih (fun i hi => h i (by omega))
    obtain ⟨o, ho⟩ := h n (by omega)
    refine ⟨l ++ [o], by simp [hl], fun i x hx => ?_⟩
    rcases Nat.lt_or_ge i l.length with hi | hi
    · rw [List.getElem?_append_left hi] at hx; exact hp i x hx
    · have : i = n := by
        have := (List.getElem?_eq_some_iff.1 hx).1
        simp at this; omega
      subst this
      rw [List.getElem?_append_right (by omega)] at hx
      simp [hl] at hx
      rw [← hx]; exact ho
section
variable {H : Type} {enc : TypeId × Value → H} {W : World} {P : Program}
/-- K: the elements' kind; out: an element's cells; one: an element's cells are some element's. Good: what is known of each. -/
theorem open_list {α : Type} (K : Kd α) (out : α → List Value) (Good : α → Prop) {t e : TypeId} (U : P.underlying t = some (.slice e)) (hC : P.cellsOf e = K.sz) (hK : ∀ x, K.K W x (out x)) (hout : ∀ x, (out x).length = K.sz)
    {fuel : Nat} {cs : List Value} {d : DataW H} {p : List MemPlace} (hf : DataW.trod enc P W 0 (fun _ => true) true fuel t cs = some (d, p))
    (one : ∀ n cs' d' p', cs'.length = K.sz → DataW.trod enc P W 0 (fun _ => true) true n e cs' = some (d', p') → ∃ x, cs' = out x ∧ Good x) :
    ∃ A c, ∃ l : List α, cs = [.slice A l.length c] ∧ Kd.C K W A l.length l ∧ l.length ≤ c ∧ ∀ x ∈ l, Good x := by
  rcases open_slice U hf with ⟨hcs, _⟩ | ⟨a, len, cap, m, n, D, Pl, hcs, hb, hl, hm, hmm, hx, hi⟩
  · exact ⟨none, 0, [], hcs, ⟨rfl, by simp, fun h => by simp at h⟩, by simp, by simp⟩
  · obtain ⟨l, hll, hp⟩ := list_of (fun i (o : α) => Good o ∧ ∀ j u, (out o)[j]? = some u → W.cell? (a.add (i * K.sz + j)) = some u) len (fun i hil => by
      obtain ⟨cs', hc, ht'⟩ := hi i (by rw [hmm]; split <;> omega)
      rw [hC] at hc
      obtain ⟨_, hcl, hat⟩ := World.cells?_some hc
      obtain ⟨o, rfl, hg⟩ := one n cs' _ _ hcl ht'
      refine ⟨o, hg, fun j u hj => ?_⟩
      have hjl : j < K.sz := by have := (List.getElem?_eq_some_iff.1 hj).1; rw [hout] at this; exact this
      rw [← Go.Deep.add_add, hat j hjl, hj])
    have hml : cap ≤ 9223372036854775807 := by have : maxLen ≤ 9223372036854775807 := by decide
                                               omega
    refine ⟨some a, cap, l, by rw [hll]; exact hcs, ⟨rfl, by omega, fun _ => ⟨a, rfl, fun j o hj => ⟨out o, hout o, hK o, (hp j o hj).2⟩⟩⟩, by omega, fun o ho => ?_⟩
    obtain ⟨i, hi2⟩ := List.mem_iff_getElem?.1 ho
    exact (hp i o hi2).1
end
end Go.Proofs.Ytidgfigfebkieaa
end
section
namespace Go.Proofs.Ytidgfigfebkieaa
open Go.RowKit Go.Proofs.YtidgfigfebkieaaW.PrintWords Go.Proofs.YtidgfigfebkieaaW.PrintLast Go.Proofs.YtidgfigfebkieaaW.PrintMore
open Go.ChangeShapes Go.WideShapes Go.ChangeAt Go.Deep Go.Joins
open Rf
set_option linter.unusedVariables false
set_option linter.unusedSimpArgs false
section
variable {H : Type} {enc : TypeId × Value → H} {W : World}
set_option maxRecDepth 100000 in
theorem pair_cells {held : Bool} {n : Nat} {cs : List Value} {d : DataW H} {p : List MemPlace} (hl : cs.length = 2) (h : DataW.trod enc Try.prog W 0 (fun _ => true) held n 79 cs = some (d, p)) :
    ∃ o : SGPair, cs = [.string o.f0, .string o.f1] ∧ d = .agg [.lit (.string o.f0.data.toList), .lit (.string o.f1.data.toList)] := by
  obtain ⟨c0, c1, rfl⟩ : ∃ c0 c1, cs = [c0, c1] := by
    match cs, hl with
    | [c0, c1], _ => exact ⟨c0, c1, rfl⟩
  obtain ⟨ys, n', hn', hy, hlen, hyl, hf⟩ := DataW.trod_struct Try.underlying79 h
  have k9 : Try.prog.cellsOf 9 = 1 := by kernel_rfl
  have h0 := hf 0 ⟨"Key", 9, 0, false, "", "", 0⟩ rfl
  have h1 := hf 1 ⟨"Value", 9, 1, false, "", "", 16⟩ rfl
  simp only [k9, List.drop_zero, List.drop_succ_cons, List.take_succ_cons, List.take_zero] at h0 h1
  obtain ⟨y0, y1, rfl⟩ : ∃ a b, ys = [a, b] := by
    match ys, hyl with
    | [a, b], _ => exact ⟨a, b, rfl⟩
  obtain ⟨s0, e0, x0, w0⟩ := DataW.trod_string Try.underlying9 h0
  obtain ⟨s1, e1, x1, w1⟩ := DataW.trod_string Try.underlying9 h1
  cases e0; cases e1; cases x0; cases x1
  obtain ⟨hd, _⟩ := Prod.mk.inj hy
  exact ⟨⟨s0, s1⟩, rfl, hd⟩
theorem mem_weightsAll {H : Type} {P : Program} {e : TypeId} : ∀ {ds : List (DataW H)} {d : DataW H}, d ∈ ds → ∀ n ∈ d.weights P e, n ∈ DataW.weightsAll P e ds
  | [], _, h, _, _ => by simp at h
  | a :: r, d, h, n, hn => by
    simp only [DataW.weightsAll, List.mem_append]
    rcases List.mem_cons.1 h with rfl | h
    · exact .inl hn
    · exact .inr (mem_weightsAll h n hn)
/-- As open_list, with each element's weights at hand. -/
theorem open_listw {α : Type} (K : Kd α) (out : α → List Value) (Good : α → Prop) {t e : TypeId} (U : Try.prog.underlying t = some (.slice e)) (hC : Try.prog.cellsOf e = K.sz) (hB : 1 ≤ Try.prog.bytesOf e) (hK : ∀ x, K.K W x (out x)) (hout : ∀ x, (out x).length = K.sz)
    {fuel : Nat} {cs : List Value} {d : DataW H} {p : List MemPlace} (hf : DataW.trod enc Try.prog W 0 (fun _ => true) true fuel t cs = some (d, p))
    (hw : ∀ x ∈ d.weights Try.prog t, x ≤ reachBytes)
    (one : ∀ n cs' d' p', cs'.length = K.sz → DataW.trod enc Try.prog W 0 (fun _ => true) true n e cs' = some (d', p') → (∀ x ∈ d'.weights Try.prog e, x ≤ reachBytes) → ∃ x, cs' = out x ∧ Good x) :
    ∃ A c, ∃ l : List α, cs = [.slice A l.length c] ∧ Kd.C K W A l.length l ∧ l.length ≤ c ∧ l.length ≤ 140737488351232 ∧ ∀ x ∈ l, Good x := by
  rcases open_slice U hf with ⟨hcs, _⟩ | ⟨a, len, cap, m, n, D, Pl, hcs, hb, hl, hm, hmm, hx, hi⟩
  · exact ⟨none, 0, [], hcs, ⟨rfl, by simp, fun h => by simp at h⟩, by simp, by simp, by simp⟩
  · obtain ⟨hd, _⟩ := Prod.mk.inj hx
    subst hd
    have hlen : len ≤ reachBytes := by
      have := hw ((((List.range len).map D).length + ((List.range (m - len)).map fun j => D (len + j)).length) * Try.prog.bytesOf e) (by rw [DataW.weights, U]; simp)
      rw [List.length_map, List.length_range] at this
      have h2 : (len + ((List.range (m - len)).map fun j => D (len + j)).length) * 1 ≤ (len + ((List.range (m - len)).map fun j => D (len + j)).length) * Try.prog.bytesOf e := Nat.mul_le_mul_left _ hB
      omega
    have hr : reachBytes = 140737488351232 := by kernel_rfl
    obtain ⟨l, hll, hp⟩ := list_of (fun i (o : α) => Good o ∧ ∀ j u, (out o)[j]? = some u → W.cell? (a.add (i * K.sz + j)) = some u) len (fun i hil => by
      obtain ⟨cs', hc, ht'⟩ := hi i (by rw [hmm]; split <;> omega)
      rw [hC] at hc
      obtain ⟨_, hcl, hat⟩ := World.cells?_some hc
      obtain ⟨o, rfl, hg⟩ := one n cs' _ _ hcl ht' (fun x hx => hw x (by
        rw [DataW.weights, U]
        simp only [List.mem_cons, List.mem_append]
        exact .inr (.inl (mem_weightsAll (List.mem_map.2 ⟨i, List.mem_range.2 hil, rfl⟩) x hx))))
      refine ⟨o, hg, fun j u hj => ?_⟩
      have hjl : j < K.sz := by have := (List.getElem?_eq_some_iff.1 hj).1; rw [hout] at this; exact this
      rw [← Go.Deep.add_add, hat j hjl, hj])
    have hml : cap ≤ 9223372036854775807 := by have : maxLen ≤ 9223372036854775807 := by decide
                                               omega
    refine ⟨some a, cap, l, by rw [hll]; exact hcs, ⟨rfl, by omega, fun _ => ⟨a, rfl, fun j o hj => ⟨out o, hout o, hK o, (hp j o hj).2⟩⟩⟩, by omega, by omega, fun o ho => ?_⟩
    obtain ⟨i, hi2⟩ := List.mem_iff_getElem?.1 ho
    exact (hp i o hi2).1
set_option maxRecDepth 100000 in
/-- A slice of Pair. -/
theorem open_pairs {r : Reach} {b0 : Nat} {v : Value} {d : DataW H} {p : List MemPlace} (hv : Value.okWide Try.prog W r b0 41 v) (h : DataW.Trod enc Try.prog W 0 (fun _ => true) true 41 v d p)
    (hw : ∀ x ∈ d.weights Try.prog 41, x ≤ reachBytes) :
    ∃ A c, ∃ l : List SGPair, v = .slice A l.length c ∧ Kd.C kGPair W A l.length l ∧ l.length ≤ 140737488351232 ∧ ∀ x ∈ l, x.f0.size ≤ 140737488351232 ∧ x.f1.size ≤ 140737488351232 := by
  obtain ⟨A, len, cap, rfl⟩ := okWide_slice Try.underlying41 hv
  obtain ⟨fuel, hf⟩ := h
  obtain ⟨A', c', l, hcs, hC, _, hl, hg⟩ := open_listw kGPair (fun o => [.string o.f0, .string o.f1]) (fun x => x.f0.size ≤ reachBytes ∧ x.f1.size ≤ reachBytes) Try.underlying41 (by kernel_rfl) (of_decide_eq_true (by kernel_rfl)) (fun x => kGPair_mk W x) (fun x => rfl) hf hw
    (fun n cs' d' p' hl ht hw' => by
      obtain ⟨o, rfl, rfl⟩ := pair_cells hl ht
      refine ⟨o, rfl, hw' _ ?_, hw' _ ?_⟩
      · rw [DataW.weights, Try.underlying79]
        simp [DataW.weightsEach, DataW.weights]
      · rw [DataW.weights, Try.underlying79]
        simp [DataW.weightsEach, DataW.weights])
  simp [Value.cells] at hcs
  obtain ⟨rfl, rfl, rfl⟩ := hcs
  exact ⟨_, _, l, rfl, hC, hl, hg⟩
end
end Go.Proofs.Ytidgfigfebkieaa
end
section
namespace Go.Proofs.Ytidgfigfebkieaa
open Go.RowKit Go.Proofs.YtidgfigfebkieaaW.PrintWords Go.Proofs.YtidgfigfebkieaaW.PrintLast Go.Proofs.YtidgfigfebkieaaW.PrintMore
open Go.ChangeShapes Go.WideShapes Go.ChangeAt Go.Deep Go.Joins
open Rf
set_option linter.unusedVariables false
set_option linter.unusedSimpArgs false
theorem list9' {α : Type} {cs : List α} (h : cs.length = 9) : ∃ c0 c1 c2 c3 c4 c5 c6 c7 c8, cs = [c0, c1, c2, c3, c4, c5, c6, c7, c8] := by
  match cs, h with
  | [c0, c1, c2, c3, c4, c5, c6, c7, c8], _ => exact ⟨c0, c1, c2, c3, c4, c5, c6, c7, c8, rfl⟩
theorem list12 {α : Type} {cs : List α} (h : cs.length = 12) : ∃ c0 c1 c2 c3 c4 c5 c6 c7 c8 c9 c10 c11, cs = [c0, c1, c2, c3, c4, c5, c6, c7, c8, c9, c10, c11] := by
  match cs, h with
  | [c0, c1, c2, c3, c4, c5, c6, c7, c8, c9, c10, c11], _ => exact ⟨c0, c1, c2, c3, c4, c5, c6, c7, c8, c9, c10, c11, rfl⟩
section
variable {H : Type} {enc : TypeId × Value → H} {W : World}
theorem slice_head {P : Program} {t e : TypeId} {fuel : Nat} {cs : List Value} {d : DataW H} {p : List MemPlace} (U : P.underlying t = some (.slice e)) (hf : DataW.trod enc P W 0 (fun _ => true) true fuel t cs = some (d, p)) : ∃ x : Option Addr × Nat × Nat, cs = [.slice x.1 x.2.1 x.2.2] := by
  rcases open_slice U hf with ⟨hcs, _⟩ | ⟨a, len, cap, m, n, D, Pl, hcs, _⟩
  · exact ⟨(none, 0, 0), hcs⟩
  · exact ⟨(some a, len, cap), hcs⟩
set_option maxRecDepth 100000 in
theorem rec_cells {n : Nat} {cs : List Value} {d : DataW H} {p : List MemPlace} (hl : cs.length = 12) (h : DataW.trod enc Try.prog W 0 (fun _ => true) true n 34 cs = some (d, p))
    (hw : ∀ x ∈ d.weights Try.prog 34, x ≤ reachBytes) : ∃ o : SGRec, cs = o.out ∧ OkRec o := by
  obtain ⟨c0, c1, c2, c3, c4, c5, c6, c7, c8, c9, c10, c11, rfl⟩ := list12 hl
  obtain ⟨ys, n', hn', hy, hlen, hyl, hf⟩ := DataW.trod_struct Try.underlying34 h
  have k3 : Try.prog.cellsOf 3 = 1 := by kernel_rfl
  have k28 : Try.prog.cellsOf 28 = 1 := by kernel_rfl
  have k30 : Try.prog.cellsOf 30 = 1 := by kernel_rfl
  have k24 : Try.prog.cellsOf 24 = 4 := by kernel_rfl
  have k31 : Try.prog.cellsOf 31 = 1 := by kernel_rfl
  have k32 : Try.prog.cellsOf 32 = 1 := by kernel_rfl
  obtain ⟨y0, y1, y2, y3, y4, y5, y6, y7, y8, rfl⟩ := list9' hyl
  have h0 := hf 0 ⟨"Kind", 28, 0, false, "", "", 0⟩ rfl
  have h1 := hf 1 ⟨"Lsn", 30, 1, false, "", "", 8⟩ rfl
  have h2 := hf 2 ⟨"Txn", 3, 2, false, "", "", 16⟩ rfl
  have h3 := hf 3 ⟨"Prev", 30, 3, false, "", "", 24⟩ rfl
  have h4 := hf 4 ⟨"Undo", 30, 4, false, "", "", 32⟩ rfl
  have h5 := hf 5 ⟨"Page", 3, 5, false, "", "", 40⟩ rfl
  have h6 := hf 6 ⟨"Act", 24, 6, false, "", "", 48⟩ rfl
  have h7 := hf 7 ⟨"Txns", 31, 10, false, "", "", 104⟩ rfl
  have h8 := hf 8 ⟨"Dirty", 32, 11, false, "", "", 128⟩ rfl
  clear hf
  simp only [Value.cells, k3, k28, k30, k24, k31, k32, List.drop_zero, List.drop_succ_cons, List.take_succ_cons, List.take_zero] at h0 h1 h2 h3 h4 h5 h6 h7 h8
  obtain ⟨n0, e0, x0, w0⟩ := DataW.trod_int Try.underlying28 h0
  obtain ⟨n1, e1, x1, w1⟩ := DataW.trod_int Try.underlying30 h1
  obtain ⟨n2, e2, x2, w2⟩ := DataW.trod_int Try.underlying3 h2
  obtain ⟨n3, e3, x3, w3⟩ := DataW.trod_int Try.underlying30 h3
  obtain ⟨n4, e4, x4, w4⟩ := DataW.trod_int Try.underlying30 h4
  obtain ⟨n5, e5, x5, w5⟩ := DataW.trod_int Try.underlying3 h5
  have h6' : DataW.trod enc Try.prog W 0 (fun _ => true) true n' 24 [c6, c7, c8, c9] = some y6 := h6
  obtain ⟨zs, n6, hn6, hz, hzl, hzn, hg⟩ := DataW.trod_struct Try.underlying24 h6'
  obtain ⟨z0, z1, z2, z3, rfl⟩ : ∃ a b c d, zs = [a, b, c, d] := by
    match zs, hzn with
    | [a, b, c, d], _ => exact ⟨a, b, c, d, rfl⟩
  have k22 : Try.prog.cellsOf 22 = 1 := by kernel_rfl
  have k9 : Try.prog.cellsOf 9 = 1 := by kernel_rfl
  have g0 := hg 0 ⟨"Kind", 22, 0, false, "", "", 0⟩ rfl
  have g1 := hg 1 ⟨"Key", 9, 1, false, "", "", 8⟩ rfl
  have g2 := hg 2 ⟨"Old", 9, 2, false, "", "", 24⟩ rfl
  have g3 := hg 3 ⟨"New", 9, 3, false, "", "", 40⟩ rfl
  simp only [k22, k9, List.drop_zero, List.drop_succ_cons, List.take_succ_cons, List.take_zero] at g0 g1 g2 g3
  obtain ⟨m0, f0, u0, v0⟩ := DataW.trod_int Try.underlying22 g0
  obtain ⟨s1, f1, u1, v1⟩ := DataW.trod_string Try.underlying9 g1
  obtain ⟨s2, f2, u2, v2⟩ := DataW.trod_string Try.underlying9 g2
  obtain ⟨s3, f3, u3, v3⟩ := DataW.trod_string Try.underlying9 g3
  have h7' : DataW.trod enc Try.prog W 0 (fun _ => true) true n' 31 [c10] = some (y7.1, y7.2) := h7
  have h8' : DataW.trod enc Try.prog W 0 (fun _ => true) true n' 32 [c11] = some (y8.1, y8.2) := h8
  obtain ⟨q7, e7⟩ := slice_head Try.underlying31 h7'
  obtain ⟨q8, e8⟩ := slice_head Try.underlying32 h8'
  cases e0; cases e1; cases e2; cases e3; cases e4; cases e5
  cases f0; cases f1; cases f2; cases f3; cases e7; cases e8
  cases u0; cases u1; cases u2; cases u3
  subst hz
  obtain ⟨hd, _⟩ := Prod.mk.inj hy
  subst hd
  have hlo : 0 ≤ n1 ∧ n1 < 18446744073709551616 := by
    have e0 : IntKind.u64.min = 0 := rfl
    have e1 : IntKind.u64.max = 18446744073709551615 := rfl
    simp only [Lit.wf, Bool.and_eq_true, decide_eq_true_eq, e0, e1] at w1
    omega
  refine ⟨⟨n0, n1, n2, n3, n4, n5, m0, s1, s2, s3, q7, q8⟩, rfl, hlo.1, hlo.2, hw _ ?_, hw _ ?_, hw _ ?_⟩
  all_goals
    rw [DataW.weights, Try.underlying34]
    simp [DataW.weightsEach]
    rw [DataW.weights, Try.underlying24]
    simp [DataW.weightsEach, DataW.weights]
set_option maxRecDepth 100000 in
/-- A slice of Record. -/
theorem open_recs {r : Reach} {b0 : Nat} {v : Value} {d : DataW H} {p : List MemPlace} (hv : Value.okWide Try.prog W r b0 56 v) (h : DataW.Trod enc Try.prog W 0 (fun _ => true) true 56 v d p)
    (hw : ∀ x ∈ d.weights Try.prog 56, x ≤ reachBytes) :
    ∃ A c, ∃ l : List SGRec, v = .slice A l.length c ∧ Kd.C kGRec W A l.length l ∧ l.length ≤ 140737488351232 ∧ ∀ x ∈ l, OkRec x := by
  obtain ⟨A, len, cap, rfl⟩ := okWide_slice Try.underlying56 hv
  obtain ⟨fuel, hf⟩ := h
  obtain ⟨A', c', l, hcs, hC, _, hl, hg⟩ := open_listw kGRec SGRec.out OkRec Try.underlying56 (by kernel_rfl) (of_decide_eq_true (by kernel_rfl)) (fun x => kGRec_mk W x) (fun x => rfl) hf hw
    (fun n cs' d' p' hl ht hw' => rec_cells hl ht hw')
  simp [Value.cells] at hcs
  obtain ⟨rfl, rfl, rfl⟩ := hcs
  exact ⟨_, _, l, rfl, hC, hl, hg⟩
end
end Go.Proofs.Ytidgfigfebkieaa
end
section
namespace Go.Proofs.Ytidgfigfebkieaa.actRedoes
open Go.ChangeShapes Go.WideShapes Go.ChangeAt Go.RowKit
open Go.ChangeMaps (open_string shut_string)
set_option linter.unusedVariables false
theorem own : ownKnob Try.prog.godebug = none := by kernel_rfl
theorem laidOut : laidOutB Try.prog = true := by kernel_rfl
open Rf Go.Proofs.YtidgfigfebkieaaW.PrintWords in
theorem redoes_row (W : World) (l : List SGPair) (A : Option Addr) (c : Nat) (hC : Kd.C kGPair W A l.length l) (hl : l.length ≤ 140737488351232) (hsz : ∀ x ∈ l, x.f0.size ≤ 140737488351232 ∧ x.f1.size ≤ 140737488351232)
    (m : List SGRec) (Am : Option Addr) (cm : Nat) (hM : Kd.C kGRec W Am m.length m) (hml : m.length ≤ 140737488351232) (hmz : ∀ x ∈ m, OkRec x) :
    Calls Try.prog 6 #[.slice A l.length c, .slice Am m.length cm] W fun e w' => e = .returned (.bool true) ∧ Below W.heap.size W w' :=
  redoes_walk W l A c hC (by omega) hsz m Am cm hM (by omega) hmz
set_option maxRecDepth 100000 in
theorem lifted (os : Os) (started : os.Started) (H : Type) (enc : TypeId × Value → H) :
    ReturnsInHanded {} Try.checked os 6 .any (Rows.actRedoesSpec.pre6 enc Try.prog Try.f6 Rows.actRedoesRow.domain false) (Rows.actRedoesSpec.post enc Try.prog Try.f6 false true false false) := by
  refine returnsInHanded_of_change_sized (C := Try.checked) own started (by kernel_rfl) Try.func6
    (ChangeSpec.witness6 (enc := enc) (C := Try.checked) false ⟨#[], #[.slice none 0 0, .slice none 0 0], []⟩ 8 (by kernel_rfl) (by kernel_rfl) (by kernel_rfl) (by kernel_rfl)) ?_
  intro W base args ds gs before hval0 hW hcnd hsz0 _
  have hsz : (DataW.weightsEach Try.prog (Try.f6.params.toList ++ Rows.actRedoesSpec.plain.varTypes Try.prog) (ds ++ gs)).all (· ≤ reachBytes) = true := hsz0
  have hval : ∀ (j : Nat) t v, Try.f6.params[j]? = some t → args[j]? = some v → Value.okWide Try.prog W .any base t v := hval0
  have hW' := hW
  obtain ⟨p, q, hA0, hV, rfl, hfz, hnd⟩ := hW
  have hA : DataW.TrodAll enc Try.prog W 0 (fun _ => true) true Try.f6.params.toList args.toList ds p := hA0
  rw [Try.params6] at hA hval hsz
  obtain ⟨v0, vs0, d0, ds0, p0, q0, hargs, rfl, rfl, h0, r0⟩ := trodAll_cons hA
  obtain ⟨v1, vs1, d1, ds1, p1, q1, rfl, rfl, rfl, h1, r1⟩ := trodAll_cons r0
  obtain ⟨rfl, rfl, rfl⟩ := trodAll_nil r1
  obtain rfl : args = #[v0, v1] := by cases args; simp_all
  obtain ⟨rfl, rfl⟩ := trodVars_none hV
  have k0 := h0
  have lt0 : ∀ x ∈ p0, x.block < W.heap.size := by obtain ⟨m, hm⟩ := k0; exact DataW.trod_lt m _ _ _ hm
  obtain ⟨A0, c0, l0, rfl, hC0, hl0, ho0⟩ := open_pairs (hval 0 41 v0 rfl rfl) h0 (fun x hx => by have := List.all_eq_true.1 hsz _ (DataW.weights_mem_each (j := 0) (t := 41) rfl rfl x hx); simpa using this)
  have k1 := h1
  have lt1 : ∀ x ∈ p1, x.block < W.heap.size := by obtain ⟨m, hm⟩ := k1; exact DataW.trod_lt m _ _ _ hm
  obtain ⟨A1, c1, l1, rfl, hC1, hl1, ho1⟩ := open_recs (hval 1 56 v1 rfl rfl) h1 (fun x hx => by have := List.all_eq_true.1 hsz _ (DataW.weights_mem_each (j := 1) (t := 56) rfl rfl x hx); simpa using this)
  clear hA0 hval0 hsz0 hsz
  refine (redoes_row W l0 A0 c0 hC0 hl0 ho0 l1 A1 c1 hC1 hl1 ho1).mono fun e W' ⟨he, bel⟩ => ?_
  subst he
  exact ⟨_, rfl, _, _, _, [], _, [], hW', trodAll_mk1 (shut_bool Try.underlying4 _), (trodAll_cons_mk (Below.trod laidOut (by kernel_rfl) (of_decide_eq_true (by kernel_rfl)) k0 bel lt0) (trodAll_cons_mk (Below.trod laidOut (by kernel_rfl) (of_decide_eq_true (by kernel_rfl)) k1 bel lt1) trodAll_mk0)), rfl, bel.frame _, fun h => by cases h⟩
theorem over : Rows.actRedoesRow.holds Try.pinned (OpenSpec.ofChange Rows.actRedoesSpec) :=
  OpenClaim.holds_of_wide 6 Try.f6 rfl rfl rfl rfl rfl rfl rfl ⟨rfl, rfl, rfl, rfl, rfl⟩ rfl rfl rfl rfl rfl (by kernel_rfl) Try.func6 (by kernel_rfl)
    (of_decide_eq_true (by kernel_rfl)) (by unfold Func.isWrapper; first | (rw [if_pos (by decide +kernel)]; kernel_rfl) | (rw [if_neg (by decide +kernel)]; exact ⟨rfl, rfl⟩))
    (fun os started H enc _ => lifted os started H enc)
theorem proved : Rows.ActRedoesSaid := over
end Go.Proofs.Ytidgfigfebkieaa.actRedoes
namespace Go.Proofs.Ytidgfigfebkieaa
/-- The row, under a short name, for the claim. -/
theorem actRedoes_holds : Rows.ActRedoesSaid := actRedoes.proved
#print axioms actRedoes_holds
end Go.Proofs.Ytidgfigfebkieaa
end
