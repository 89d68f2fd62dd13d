/- The call of page's Bytes. -/
import Derived.Test.YtidkdbohkbfhbaaWg
import Derived.Deep.RegionHeld3
import Derived.Laws.CopyOwn
namespace Go.Proofs.Ytidkdbohkbfhbaa
open Go.RowKit Go.Proofs.YtidkdbohkbfhbaaW.PrintWords Go.Proofs.YtidkdbohkbfhbaaW.PrintLast Go.Proofs.YtidkdbohkbfhbaaW.PrintMore
open Rf
set_option linter.unusedVariables false
set_option linter.unusedSimpArgs false

theorem made_bv (m : Nat) : madeCells #[Value.int .u8 0] m = (bv (List.replicate m 0)).toArray := by
  apply Array.ext'
  apply List.ext_getElem
  · simp [bv, madeCells]
  · intro i h1 h2
    simp [bv, madeCells, Nat.mod_one]
/-- A new buffer. -/
def zer : List UInt8 := List.replicate 512 0
def zerV : Array Value := (bv zer).toArray
theorem grown_below {w w1 : World} {g : Nat} (h : w.grownBy w1 (some g)) {B : Nat} (hB : B ≤ g) (hs : B ≤ w.heap.size) {w0 : World} (hb : Below B w0 w) : Below B w0 w1 :=
  hb.grown h hs (fun k hk => by injection hk with hk; omega)

set_option maxHeartbeats 1000000 in
theorem bytes_calls (w : World) (g : Nat) (id lsn : Nat) (A : Option Addr) (c : Nat) (cs : List SGCell)
    (hp : PgAt w g id lsn (.slice A cs.length c)) (hC : Kd.C kGCell w A cs.length cs) (hS : Small cs) (hroom : 4 * cs.length + tot cs ≤ 496) (hid : id < 65536) (hlsn : lsn < 18446744073709551616) :
    Calls Try.prog 15 #[.pointer (some ⟨g, 0, none⟩)] w fun e w' => e = .returned (.slice (some ⟨w.heap.size, 0, none⟩) 512 512) ∧ BufAt w' w.heap.size (pgB id lsn cs) ∧ Below w.heap.size w w' := by
  have hl := hS.1
  have HP := Aside0.mk hp
  have HC := Aside0.mk hC
  have HS := Aside0.mk hS
  have HL := Aside0.mk hlsn
  clear hp hC hS hlsn
  have hmk : ∀ W : World, (Instr.makeSlice 38 (.int .i64 512) (.int .i64 512)).run Try.prog W = .ok (.slice (some ⟨W.heap.size, 0, none⟩) 512 512) (W.alloc (.cells zerV 5)) := fun W => by
    rw [show zerV = madeCells #[Value.int .u8 0] 512 from (made_bv 512).symm]
    exact print_make 38 5 .u8 1 Try.underlying38 Rf.info5 (by omega) 512 (by omega) W
  go_enter Try.func15, Try.ntmps15
  go_wp2_with fail
  clear hmk
  obtain ⟨w1, hw1⟩ : ∃ w1, w.alloc (.cells zerV 5) = w1 := ⟨_, rfl⟩
  rw [hw1]
  have HB1 : Aside0 (Below w.heap.size w w1) := ⟨by rw [← hw1]; exact below_alloc (Below.refl _ _) _⟩
  have HU1 : Aside0 (BufAt w1 w.heap.size zer) := ⟨by rw [← hw1]; exact heap_alloc_new w _⟩
  have HZ1 : w.heap.size < w1.heap.size := by rw [← hw1]; simp
  clear hw1
  have HP1 := Aside0.mk (HP.out.below HB1.out)
  have p1 := blk_cell HP1.out 1
  go_region_held3 (fun w' => w'.cell? ⟨g, 1, none⟩ = some (.int .u64 lsn)) (go_keep) (first | (go_at_call 36; refine (lay_calls _ w.heap.size 4 508 508 _ lsn 8 (blk_drew HU1.out) (by rw [zer, List.length_replicate]; omega) (by omega) (by omega) HL.out).mono ?_; rintro e w2 ⟨rfl, hu2, hg2⟩; have HB2 := Aside0.mk (grown_below hg2 (Nat.le_refl _) (Nat.le_of_lt HZ1) HB1.out.drew); have HP2 := Aside0.mk (HP.out.below HB2.out); have p1' := blk_cell HP2.out 1))
  have hw5 : IntKind.u64.wrap (id : Int) = (id : Int) := u64w (by omega) (by omega)
  have hw6 : IntKind.u64.wrap (cs.length : Int) = (cs.length : Int) := u64w (by omega) (by omega)
  have HU2 := Aside0.mk hu2
  have HZ2 : w.heap.size < w2.heap.size := blk_lt hu2
  have p0 := blk_cell HP2.out 0
  clear hu2 hg2 p1 p1'
  go_wp2_with fail
  go_region_held3 (fun w' => w'.cell? ⟨g, 0, none⟩ = some (.int .i64 id)) (go_keep) (first | (go_at_call 36; refine (lay_calls _ w.heap.size 12 500 500 _ id 2 (blk_drew HU2.out) (by rw [put_length _ _ _ (by rw [zer, List.length_replicate, le_length]; omega), zer, List.length_replicate]; omega) (by omega) (by omega) (by omega)).mono ?_; rintro e w3 ⟨rfl, hu3, hg3⟩; have HB3 := Aside0.mk (grown_below hg3 (Nat.le_refl _) (Nat.le_of_lt HZ2) HB2.out.drew); have HP3 := Aside0.mk (HP.out.below HB3.out); have p0' := blk_cell HP3.out 0))
  have HU3 := Aside0.mk hu3
  have HZ3 : w.heap.size < w3.heap.size := blk_lt hu3
  have p2 := blk_cell HP3.out 2
  clear hu3 hg3 p0 p0'
  go_wp2_with fail
  go_region_held3 (fun w' => w'.cell? ⟨g, 2, none⟩ = some (.slice A cs.length c)) (go_keep) (first | (go_at_call 36; refine (lay_calls _ w.heap.size 14 498 498 _ cs.length 2 (blk_drew HU3.out) (by rw [put_length _ _ _ (by rw [put_length _ _ _ (by rw [zer, List.length_replicate, le_length]; omega), zer, List.length_replicate, le_length]; omega), put_length _ _ _ (by rw [zer, List.length_replicate, le_length]; omega), zer, List.length_replicate]; omega) (by omega) (by omega) (by omega)).mono ?_; rintro e w4 ⟨rfl, hu4, hg4⟩; have HB4 := Aside0.mk (grown_below hg4 (Nat.le_refl _) (Nat.le_of_lt HZ3) HB3.out.drew); have HP4 := Aside0.mk (HP.out.below HB4.out); have p2' := blk_cell HP4.out 2))
  have HU4 : Aside0 (BufAt w4 w.heap.size (bufB id lsn cs.length (cs.take 0))) := ⟨by rw [List.take_zero, ← bufB_start]; exact hu4⟩
  have HZ4 : w.heap.size < w4.heap.size := blk_lt hu4
  clear hu4 hg4 p2 HU2 HU3 HP2 HP3 HZ2 HZ3 HB2 HB3 HU1 HB1 HZ1 HP1
  go_wp2
  go_loopg [4, 5, 6, 41] cs.length (fun gk v4 v5 v6 v41 wr => ∃ k : Nat, Aside0 (k + gk = cs.length) ∧ k ≤ cs.length ∧ v41 = .int .i64 k ∧ v4 = .int .i64 ((512 : Int) - (tot (cs.take k) : Int)) ∧ Aside0 (BufAt wr w.heap.size (bufB id lsn cs.length (cs.take k))) ∧ Aside0 (Below w.heap.size w wr))
  case atStart => exact ⟨0, ⟨by omega⟩, by omega, rfl, rfl, HU4, HB4⟩
  case round =>
    obtain ⟨k, Hk, hk, rfl, rfl, HU, HB⟩ := hrel
    have HT := Aside0.mk (show tot (cs.take k) ≤ tot cs by
      have : tot cs = tot (cs.take k) + tot (cs.drop k) := by rw [← tot_append, List.take_append_drop]
      omega)
    by_cases hlt : k < cs.length
    · obtain ⟨ad, ea, hx0, hx1, hx2⟩ := cell_at (Kd.C_below HC.out HB.out) k hlt
      cases ea
      have hsm := HS.out.2 _ (rd_mem cs k hlt)
      have HTS := Aside0.mk (tot_take_succ cs k hlt)
      have HTT := Aside0.mk (show cs.take (k + 1) = cs.take k ++ [rd_TGCell cs k] by rw [rd_get cs k hlt, List.take_succ_eq_append_getElem hlt])
      have hT1 : tot (cs.take (k + 1)) ≤ tot cs := by
        have : tot cs = tot (cs.take (k + 1)) + tot (cs.drop (k + 1)) := by rw [← tot_append, List.take_append_drop]
        omega
      have hfit : 4 * (k + 1) + tot (cs.take k) + csz (rd_TGCell cs k) ≤ 496 := by rw [HTS.out] at hT1; omega
      clear hT1
      have htk : (cs.take k).length = k := by rw [List.length_take]; omega
      have HTK := Aside0.mk htk
      clear htk
      generalize hcl : rd_TGCell cs k = cl at hx0 hx1 hx2 hsm HTS HTT hfit
      clear hcl
      obtain ⟨u, key, val⟩ := cl
      cases u with
      | false =>
        have HF := Aside0.mk (bufB_free id lsn cs.length (cs.take k) ⟨false, key, val⟩ rfl (by rw [HTK.out]; omega))
        generalize tot (cs.take k) = T at HT HTS hfit ⊢
        go_wp2
        go_roundg (gk - 1)
        case measure => have := Hk.out; omega
        case rel => exact ⟨k + 1, ⟨by have := Hk.out; omega⟩, by omega, by go_num, by rw [HTS.out]; rfl, ⟨by rw [HTT.out, HF.out]; exact HU.out.below (below_alloc (Below.refl _ _) _)⟩, ⟨below_alloc HB.out _⟩⟩
      | true =>
        have hzz : csz ⟨true, key, val⟩ = 1 + key.size + val.size := rfl
        have HF := Aside0.mk (bufB_used id lsn cs.length (cs.take k) ⟨true, key, val⟩ rfl (by rw [HTK.out]; omega))
        have HLen := Aside0.mk (bufB_length id lsn cs.length (cs.take k) (by rw [HTK.out]; omega))
        have HCB := Aside0.mk (show cellB ⟨true, key, val⟩ = UInt8.ofNat key.size :: (key.data.toList ++ val.data.toList) from rfl)
        obtain ⟨Z, hZ⟩ : ∃ Z, csz ⟨true, key, val⟩ = Z := ⟨_, rfl⟩
        have HZ := Aside0.mk hZ
        rw [hZ] at HF HTS hfit hzz
        rw [HTK.out] at HF
        clear hZ
        generalize bufB id lsn cs.length (cs.take k) = L at HU HF HLen
        generalize tot (cs.take k) = T at HT HTS hfit HF ⊢
        obtain ⟨E, hE⟩ : ∃ E : Nat, E = 512 - T - Z := ⟨_, rfl⟩
        have hE1 : (512 : Int) - (T : Int) - (Z : Int) = (E : Int) := by omega
        have hE2 : E + Z + T = 512 := by omega
        have HE2 := Aside0.mk hE2
        have hE3 : 16 + 4 * (k + 1) ≤ E := by omega
        have hE4 : E + Z ≤ 512 := by omega
        rw [← hE] at HF
        have HZZ := Aside0.mk hzz
        clear hE hE2 hzz
        go_wp2_with fail
        refine (size_calls ⟨true, key, val⟩ _ hsm.1 hsm.2).mono ?_
        rintro e w1 ⟨rfl, hb1⟩
        rw [HZ.out]
        have HX1 := Aside0.mk (show w1.heap[wr.heap.size]? = some (.cells #[.bool true, .string key, .string val] 46 (0, 0)) from (hb1.block _ (by simp)).trans (heap_alloc_new wr _))
        have HBa := Aside0.mk (bel_trans (below_alloc (Below.refl _ wr) _) hb1)
        have HB1 := Aside0.mk (bel_trans HB.out HBa.out)
        have HU1 := Aside0.mk (HU.out.below HBa.out)
        have hBw : w.heap.size < wr.heap.size := blk_lt HU.out
        clear hb1
        have hk16 : ¬ (512 = 16 + 4 * k) := by omega
        go_wp2_with fail
        refine (lay_calls w1 w.heap.size (16 + 4 * k) (512 - (16 + 4 * k)) (512 - (16 + 4 * k)) L E 2 HU1.out (by rw [HLen.out]; omega) (by omega) (by omega) (by omega)).mono ?_
        rintro e w2 ⟨rfl, hu2, hg2⟩
        have HU2 := Aside0.mk hu2
        have HX2 := Aside0.mk (blk_grown HX1.out hg2 (by simp; omega))
        have HB2 := Aside0.mk (grown_below hg2 (Nat.le_refl _) (Nat.le_of_lt (blk_lt HU1.out)) HB1.out)
        have HL2 := Aside0.mk (show (put L (16 + 4 * k) (le E 2)).length = 512 by rw [put_length _ _ _ (by rw [HLen.out, le_length]; omega), HLen.out])
        clear hu2 hg2
        generalize put L (16 + 4 * k) (le E 2) = L2 at HU2 HL2 HF
        have hk18 : ¬ (512 = 16 + 4 * k + 2) := by omega
        have hwz : IntKind.u64.wrap (Z : Int) = (Z : Int) := u64w (by omega) (by omega)
        have hx20 := blk_cell HX2.out 0
        have hx21 := blk_cell HX2.out 1
        have hx22 := blk_cell HX2.out 2
        have hq1 : IntKind.i64.wrap (4 * (k : Int)) = 4 * (k : Int) := i64w (by omega) (by omega)
        have hq2 : IntKind.i64.wrap (16 + 4 * (k : Int)) = 16 + 4 * (k : Int) := i64w (by omega) (by omega)
        have hq3 : IntKind.i64.wrap (16 + 4 * (k : Int) + 2) = 16 + 4 * (k : Int) + 2 := i64w (by omega) (by omega)
        have hq4 : (0 : Int) ≤ 16 + 4 * (k : Int) + 2 := by omega
        have hq5 : 16 + 4 * (k : Int) + 2 ≤ 512 := by omega
        have hq6 : (16 + 4 * (k : Int) + 2).toNat = 16 + 4 * k + 2 := by omega
        go_wp2_with fail
        go_region_held3 (fun w' => w'.cell? ⟨wr.heap.size, 0, none⟩ = some (.bool true) ∧ w'.cell? ⟨wr.heap.size, 1, none⟩ = some (.string key) ∧ w'.cell? ⟨wr.heap.size, 2, none⟩ = some (.string val)) (go_keep)
          (first | (go_at_call 37; refine (size_calls ⟨true, key, val⟩ _ hsm.1 hsm.2).mono ?_; rintro e w3 ⟨rfl, hb3⟩; rw [HZ.out]; have HBq := Aside0.mk (hb3); have HX3 := Aside0.mk (show w3.heap[wr.heap.size]? = _ from (hb3.block _ (blk_lt HX2.out)).trans HX2.out); have q0 := blk_cell HX3.out 0; have q1 := blk_cell HX3.out 1; have q2 := blk_cell HX3.out 2) | (go_at_call 36; refine (lay_calls w3 w.heap.size (16 + 4 * k + 2) (510 - (16 + 4 * k)) (510 - (16 + 4 * k)) L2 Z 2 (HU2.out.drew.below HBq.out) (by rw [HL2.out]; omega) (by omega) (by omega) (by omega)).mono ?_; rintro e w5 ⟨rfl, hu5, hg5⟩; have HX5 := Aside0.mk (blk_grown HX3.out hg5 (by simp; omega)); have r0 := blk_cell HX5.out 0; have r1 := blk_cell HX5.out 1; have r2 := blk_cell HX5.out 2))
        have HU5 := Aside0.mk hu5
        have HB3 := Aside0.mk (below_then HB2.out.drew HB2.out.size HBq.out)
        have HB5 := Aside0.mk (grown_below hg5 (Nat.le_refl _) HB3.out.size HB3.out)
        have HL5 := Aside0.mk (show (put L2 (16 + 4 * k + 2) (le Z 2)).length = 512 by rw [put_length _ _ _ (by rw [HL2.out, le_length]; omega), HL2.out])
        clear hu5 hg5 q0 q1 q2 hx20 hx21 hx22 hq1 hq2 hq3 hq4 hq5 hq6 hwz hk18 hk16
        generalize put L2 (16 + 4 * k + 2) (le Z 2) = L5 at HU5 HL5 HF
        have hZ1 : 1 ≤ Z := by have := HZZ.out; omega
        obtain ⟨b5, he5⟩ := HU5.out.there E (by rw [HL5.out]; omega)
        have hf5 := blk_frozen HU5.out E
        have hkz : key.size ≤ 1000 := hsm.1
        have hvz : val.size ≤ 1000 := hsm.2
        go_wp2_with fail
        have hbyte : (key.size : Int) % 256 = (((UInt8.ofNat key.size).toNat : Nat) : Int) := by
          have h : (UInt8.ofNat key.size).toNat = key.size % 256 := rfl
          rw [h, Int.natCast_emod]; rfl
        rw [hbyte]
        have HU6 := Aside0.mk (HU5.out.set E (UInt8.ofNat key.size))
        have HX6 := Aside0.mk (blk_far HX5.out (p := ⟨w.heap.size, E, none⟩) (by simp; omega) (.int .u8 (((UInt8.ofNat key.size).toNat : Nat) : Int)))
        have HB6 := Aside0.mk (HB5.out.setCell (p := ⟨w.heap.size, E, none⟩) (Nat.le_refl _) (.int .u8 (((UInt8.ofNat key.size).toNat : Nat) : Int)))
        have HL6 := Aside0.mk (show (L5.set E (UInt8.ofNat key.size)).length = 512 by rw [List.length_set, HL5.out])
        have HQ6 := Aside0.mk (put_one L5 E (UInt8.ofNat key.size) (by rw [HL5.out]; omega))
        generalize w5.setCell ⟨w.heap.size, E, none⟩ (.int .u8 (((UInt8.ofNat key.size).toNat : Nat) : Int)) = w6 at HU6 HX6 HB6 ⊢
        clear hbyte he5 hf5 r0 r1 r2
        have s1 := blk_cell HX6.out 1
        have s2 := blk_cell HX6.out 2
        generalize L5.set E (UInt8.ofNat key.size) = L6 at HU6 HL6 HQ6
        have hq1 : IntKind.i64.wrap ((E : Int) + 1) = (E : Int) + 1 := i64w (by omega) (by omega)
        have hq2 : (0 : Int) ≤ (E : Int) + 1 := by omega
        have hq3 : (E : Int) + 1 ≤ 512 := by omega
        have hq4 : ((E : Int) + 1).toNat = E + 1 := by omega
        have HI5 := Aside0.mk (show (Try.prog.info? 5).map (·.size) = some 1 by kernel_rfl)
        obtain ⟨D1, hD1, hpos1⟩ : ∃ D1 : Addr, (if E = 511 then some (⟨w.heap.size, 0, none⟩ : Addr) else some ⟨w.heap.size, E + 1, none⟩) = some D1 ∧ (0 < key.size → D1 = ⟨w.heap.size, E + 1, none⟩) := by
          by_cases h : E = 511
          · exact ⟨_, by rw [if_pos h], fun h0 => by have := HZZ.out; omega⟩
          · exact ⟨_, by rw [if_neg h], fun _ => rfl⟩
        have HP1 := Aside0.mk hpos1
        clear hpos1
        go_region_law (refine step_copy_str (by rfl) (.tmp 81) (.tmp 83) 38 9 (by rfl) 5 Try.underlying38 HI5.out D1 (511 - E) (511 - E) key (by simp [Act.eval, Act.put, hD1]) (by simp [Act.eval, Act.put]) (by have := HZZ.out; omega) w.heap.size (E + 1) L6 HU6.out.drew HP1.out (by rw [HL6.out]; have := HZZ.out; omega) ?_; intro w7 hu7 hg7)
        · have HU7 := Aside0.mk hu7
          have HX7 := Aside0.mk (blk_grown (blk_drew HX6.out) hg7 (by simp; omega))
          have HB7 := Aside0.mk (grown_below hg7 (Nat.le_refl _) HB6.out.size HB6.out.drew)
          have HL7 := Aside0.mk (show (put L6 (E + 1) key.data.toList).length = 512 by rw [put_length _ _ _ (by rw [HL6.out, data_length]; have := HZZ.out; omega), HL6.out])
          clear hu7 hg7 s1 s2
          have s1 := blk_cell HX7.out 1
          have s2 := blk_cell HX7.out 2
          have HQ7 := Aside0.mk (show put L6 (E + 1) key.data.toList = put L5 E (UInt8.ofNat key.size :: key.data.toList) by
            have := put_put L5 E [UInt8.ofNat key.size] key.data.toList (by rw [HL5.out, data_length, List.length_singleton]; have := HZZ.out; omega)
            rw [List.length_singleton] at this
            rw [HQ6.out, this]; rfl)
          generalize put L6 (E + 1) key.data.toList = L7 at HU7 HL7 HQ7
          have hm1 : IntKind.i64.wrap ((E : Int) + 1 + (key.size : Int)) = (E : Int) + 1 + (key.size : Int) := i64w (by omega) (by omega)
          have hm2 : (0 : Int) ≤ (E : Int) + 1 + (key.size : Int) := by omega
          have hm3 : (E : Int) + 1 + (key.size : Int) ≤ 512 := by have := HZZ.out; omega
          have hm4 : ((E : Int) + 1 + (key.size : Int)).toNat = E + 1 + key.size := by omega
          clear hD1
          obtain ⟨D2, hD2, hpos2⟩ : ∃ D2 : Addr, (if 512 = E + 1 + key.size then some (⟨w.heap.size, 0, none⟩ : Addr) else some ⟨w.heap.size, E + 1 + key.size, none⟩) = some D2 ∧ (0 < val.size → D2 = ⟨w.heap.size, E + 1 + key.size, none⟩) := by
            by_cases h : 512 = E + 1 + key.size
            · exact ⟨_, by rw [if_pos h], fun h0 => by have := HZZ.out; omega⟩
            · exact ⟨_, by rw [if_neg h], fun _ => rfl⟩
          have HP2 := Aside0.mk hpos2
          clear hpos2
          go_wp2_with fail
          go_region_law (refine step_copy_str (by rfl) (.tmp 92) (.tmp 94) 38 9 (by rfl) 5 Try.underlying38 HI5.out D2 (512 - (E + 1 + key.size)) (512 - (E + 1 + key.size)) val (by simp [Act.eval, Act.put, hD2]) (by simp [Act.eval, Act.put]) (by have := HZZ.out; omega) w.heap.size (E + 1 + key.size) L7 HU7.out.drew HP2.out (by rw [HL7.out]; have := HZZ.out; omega) ?_; intro w8 hu8 hg8)
          all_goals
            have HB8 := Aside0.mk (grown_below hg8 (Nat.le_refl _) HB7.out.size HB7.out.drew)
            have HU8 := Aside0.mk (show BufAt w8 w.heap.size (bufB id lsn cs.length (cs.take (k + 1))) by
              rw [HTT.out, ← HF.out, HCB.out]
              have := put_put L5 E (UInt8.ofNat key.size :: key.data.toList) val.data.toList (by rw [HL5.out, List.length_cons, data_length, data_length]; have := HZZ.out; omega)
              rw [List.length_cons, data_length, ← HQ7.out, show E + (key.size + 1) = E + 1 + key.size by omega] at this
              rw [this] at hu8
              exact hu8)
            clear hu8 hg8 s1 s2 hD2
            go_wp2
            go_roundg (gk - 1)
            case measure => have := Hk.out; omega
            case rel => exact ⟨k + 1, ⟨by have := Hk.out; omega⟩, by omega, by go_num, by rw [HTS.out]; go_num, HU8, HB8⟩
    · obtain rfl : k = cs.length := by omega
      rw [List.take_of_length_le (Nat.le_refl _)] at HU
      rw [List.take_of_length_le (Nat.le_refl _)]
      have HEnd := Aside0.mk (bufB_end id lsn cs hroom)
      have HLn := Aside0.mk (bufB_length id lsn cs.length cs hroom)
      have HRd := Aside0.mk (show ReadsInt wr .u8 (some ⟨w.heap.size, 4, none⟩) 508 (ints (bodyB id lsn cs)) by
        have := HU.out.reads 4 (by rw [HLn.out]; omega) (by rw [HLn.out]; omega)
        rw [HLn.out, HEnd.out.1] at this
        exact this)
      have hcr := Crc.sum_lt (bodyB id lsn cs)
      clear hlt
      go_wp2_with fail
      refine (sum_calls wr _ 508 508 (bodyB id lsn cs) HRd.out (by omega)).mono ?_
      rintro e w1 ⟨rfl, hb1⟩
      have HB1 := Aside0.mk (bel_trans HB.out hb1)
      have HU1 := Aside0.mk (HU.out.below hb1)
      clear hb1
      generalize hC : Crc.sum (bodyB id lsn cs) = C at hcr HEnd ⊢
      clear hC
      go_wp2_with fail
      refine (lay_calls w1 w.heap.size 0 512 512 _ C 4 HU1.out (by rw [HLn.out]; omega) (by omega) (by omega) (by omega)).mono ?_
      rintro e w2 ⟨rfl, hu2, hg2⟩
      have HU2 := Aside0.mk (show BufAt w2 w.heap.size (pgB id lsn cs) by rw [← HEnd.out.2]; exact hu2)
      have HB2 := Aside0.mk (grown_below hg2 (Nat.le_refl _) HB1.out.size HB1.out)
      clear hu2 hg2
      go_wp2
      go_ret
      exact ⟨rfl, HU2.out, HB2.out⟩
end Go.Proofs.Ytidkdbohkbfhbaa
