/- Layer 6: PageBack's walk. -/
import Derived.Test.YtidkdbohkbfhbaaL6c
import Derived.Test.YtidkdbohkbfhbaaPq
import Derived.Test.YtidkdbohkbfhbaaL6w
namespace Go.Proofs.Ytidkdbohkbfhbaa
open Go.RowKit Go.Proofs.YtidkdbohkbfhbaaW.PrintWords Go.Proofs.YtidkdbohkbfhbaaW.PrintLast Go.Proofs.YtidkdbohkbfhbaaW.PrintMore
open Rf
set_option linter.unusedVariables false
set_option linter.unusedSimpArgs false
attribute [local go_sem high] yundz
theorem Made.here {w0 w w' : World} {id lsn : Nat} {cs : List SGCell} {v : Value} (h : Made w w' id lsn cs v) (hB : Below w0.heap.size w0 w) (hb : Below w.heap.size w w') (hv : Valid cs) (hi : id < 16) (hl : lsn < 18446744073709551616) :
    ∃ g ok, v = .pointer (some ⟨g, 0, none⟩) ∧ Here w0 w' ok g id lsn cs := by
  obtain ⟨g, rfl, hg, hp⟩ := h
  obtain ⟨h1, h2, v, h3, h4⟩ := hp
  exact ⟨g, _, rfl, ⟨Nat.le_trans hB.size hg, h2, v, h3, Kd.R_lower h4 hB.size⟩, below_then hB hB.size hb, hv, hi, hl⟩
theorem xor_byte (x k : Nat) (hx : x < 256) (hk : k < 8) : bits .xor .u8 (x : Int) (2 ^ k % 256) = (((UInt8.ofNat (x ^^^ 2 ^ k)).toNat : Nat) : Int) := by
  have h2 : (2 : Nat) ^ k < 256 := by have := Nat.pow_lt_pow_right (a := 2) (by omega) hk; simpa using this
  have e : (2 : Int) ^ k % 256 = ((2 ^ k : Nat) : Int) := by
    rw [show (2 : Int) ^ k = ((2 ^ k : Nat) : Int) by simp]
    generalize (2 : Nat) ^ k = m at h2 ⊢
    omega
  rw [e, u8_xor_nat x (2 ^ k) hx h2, UInt8.toNat_ofNat', Nat.mod_eq_of_lt]
  exact Nat.xor_lt_two_pow (n := 8) hx h2
/-- Which bit 'at % 4096' is. -/
theorem bit_of (at_ : Int) : ∃ j k a : Nat, j < 512 ∧ k < 8 ∧ ((at_.tmod 4096 = (a : Int) - 4096 ∧ (a : Int) - 4096 < 0 ∧ a < 4096 ∧ (a : Int).tdiv 8 = (j : Int) ∧ (a : Int).tmod 8 = (k : Int)) ∨ (at_.tmod 4096 = (a : Int) ∧ 0 ≤ (a : Int) ∧ a < 4096 ∧ (a : Int).tdiv 8 = (j : Int) ∧ (a : Int).tmod 8 = (k : Int))) := by
  have h1 : -4096 < at_.tmod 4096 := by have := Int.lt_tmod_of_pos at_ (b := 4096) (by omega); omega
  have h2 : at_.tmod 4096 < 4096 := Int.tmod_lt_of_pos at_ (by omega)
  have dm : ∀ a : Nat, (a : Int).tdiv 8 = ((a / 8 : Nat) : Int) ∧ (a : Int).tmod 8 = ((a % 8 : Nat) : Int) := fun a => ⟨rfl, rfl⟩
  by_cases h : at_.tmod 4096 < 0
  · obtain ⟨a, ha⟩ := Int.eq_ofNat_of_zero_le (a := at_.tmod 4096 + 4096) (by omega)
    exact ⟨a / 8, a % 8, a, by omega, by omega, .inl ⟨by omega, by omega, by omega, dm a⟩⟩
  · obtain ⟨a, ha⟩ := Int.eq_ofNat_of_zero_le (a := at_.tmod 4096) (by omega)
    exact ⟨a / 8, a % 8, a, by omega, by omega, .inr ⟨ha, by omega, by omega, dm a⟩⟩
set_option maxRecDepth 100000 in
set_option maxHeartbeats 4000000 in
theorem back_walk (w : World) (id : Int) (l : List SGOp) (A : Option Addr) (c : Nat) (at_ : Int) (hC : Kd.C kGOp w A l.length l) (hl : l.length ≤ 140737488351232) (hw : ∀ o ∈ l, 0 ≤ o.f3 ∧ o.f3 < 18446744073709551616) :
    Calls Try.prog 6 #[.int .i64 id, .slice A l.length c, .int .i64 at_] w fun e w' => e = .returned (.bool true) ∧ Below w.heap.size w w' := by
  have HC := Aside0.mk hC
  have HW := Aside0.mk hw
  have HB0 := Aside0.mk (Below.refl w.heap.size w)
  have hmk : ∀ W : World, (Instr.makeSlice 38 (.int .i64 512) (.int .i64 512)).run Try.prog W = .ok (.slice (some ⟨W.heap.size, 0, none⟩) 512 512) (W.alloc (.cells zerV 5)) := fun W => by
    rw [show zerV = madeCells #[Value.int .u8 0] 512 from (made_bv 512).symm]
    exact print_make 38 5 .u8 1 Try.underlying38 Rf.info5 (by omega) 512 (by omega) W
  clear hC hw
  go_enter Try.func6, Try.ntmps6
  go_wp2_with fail
  by_cases hid : 0 ≤ id ∧ id < 16
  · refine (made_ok w id l A c HC.out hl HW.out hid.1 hid.2).mono ?_
    rintro e w1 ⟨g, rfl, ho⟩
    obtain ⟨ok, id', lsn', cs, rfl, hh, hu⟩ := ho.here hid.1 hid.2
    have HB1 := Aside0.mk ho.bel
    have HH := Aside0.mk hh
    have HID := Aside0.mk hid
    clear ho hid hh hu
    go_wp2_with fail
    refine HH.out.bytes.mono ?_
    rintro e w2 ⟨rfl, hbuf, hh, hb⟩
    obtain ⟨gb, hgb⟩ : ∃ x, x = w1.heap.size := ⟨_, rfl⟩
    rw [← hgb] at hbuf ⊢
    have HGB := Aside0.mk hgb
    have HBUF := Aside0.mk hbuf
    have HH2 := Aside0.mk hh
    have HV := Aside0.mk HH.out.val
    have hpl := pgB_length id' lsn' cs HV.out.room4
    have HPL := Aside0.mk hpl
    clear hbuf hh hb hgb hpl
    have hpc := parse_calls w2 (id' : Int) gb 512 (pgB id' lsn' cs) HBUF.out (by rw [HPL.out]; omega) (by rw [HPL.out]; omega)
    rw [HPL.out] at hpc
    go_wp2_with fail
    refine hpc.mono ?_
    rintro e w3 ⟨v, er, rfl, hp⟩
    obtain ⟨rfl, hm⟩ := parsed_self HV.out HH.out.id16 HH.out.lsn64 hp
    obtain ⟨gq, okq, rfl, hq⟩ := hm.here HH2.out.bel hp.bel HV.out HH.out.id16 HH.out.lsn64
    have HQ3 := Aside0.mk hq
    have HP3 := Aside0.mk (HH2.out.next hp.bel)
    have HBUF3 := Aside0.mk (HBUF.out.below hp.bel)
    clear hp hm hq hpc
    go_wp2_with fail
    refine HP3.out.cells.mono ?_
    rintro e w4 ⟨A4, c4, rfl, hR4, hh, hb⟩
    have HQ4 := Aside0.mk (HQ3.out.next hb)
    have HP4 := Aside0.mk hh
    have HBUF4 := Aside0.mk (HBUF3.out.below hb)
    have HR4 := Aside0.mk hR4
    clear hR4 hh hb
    go_wp2_with fail
    refine HQ4.out.cells.mono ?_
    rintro e w5 ⟨A5, c5, rfl, hR5, hh, hb⟩
    have HP5 := Aside0.mk (HP4.out.next hb)
    have HQ5 := Aside0.mk hh
    have HBUF5 := Aside0.mk (HBUF4.out.below hb)
    have HC4 := Aside0.mk (Kd.C_below (Kd.R_reads' HR4.out).2.2 hb)
    have HR5 := Aside0.mk hR5
    clear hR5 hh hb
    go_wp2_with fail
    refine (rsame_calls w5 A4 A5 c4 c5 cs HC4.out (Kd.R_reads' HR4.out).2.1 (Kd.R_reads' HR5.out).2.2 (Kd.R_reads' HR5.out).2.1 (by have := HV.out.len; omega)).mono ?_
    rintro e w6 ⟨rfl, hb⟩
    have HP6 := Aside0.mk (HP5.out.next hb)
    have HQ6 := Aside0.mk (HQ5.out.next hb)
    have HBUF6 := Aside0.mk (HBUF5.out.below hb)
    clear hb
    go_wp2_with fail
    refine (lsn_pg w6 _ _ gq _ _ cs HQ6.out.pg).mono ?_
    rintro e w7 ⟨rfl, rfl⟩
    go_wp2_with fail
    refine (lsn_pg w6 _ _ g _ _ cs HP6.out.pg).mono ?_
    rintro e w7 ⟨rfl, rfl⟩
    go_wp2_with fail
    refine (id_pg w6 _ _ gq _ _ cs HQ6.out.pg).mono ?_
    rintro e w7 ⟨rfl, rfl⟩
    have hi16 := HID.out
    have hpc := parse_calls w6 (((id' : Int) + 1) % 16) gb 512 (pgB id' lsn' cs) HBUF6.out (by rw [HPL.out]; omega) (by rw [HPL.out]; omega)
    rw [HPL.out] at hpc
    go_wp2_with fail
    refine hpc.mono ?_
    rintro e w7 ⟨v, er, rfl, hp⟩
    obtain ⟨rfl, rfl⟩ := parsed_other HV.out HH.out.id16 HH.out.lsn64 (by omega) (by omega) (by omega) hp
    have HB7 := Aside0.mk (below_then HP6.out.bel HP6.out.bel.size hp.bel)
    have HBUF7 := Aside0.mk (HBUF6.out.below hp.bel)
    clear hp hpc
    obtain ⟨j, k, a, hj, hk, hcase⟩ := bit_of at_
    obtain ⟨x, hx⟩ : ∃ x, x = ((pgB id' lsn' cs).getD j 0).toNat := ⟨_, rfl⟩
    have hx8 : x < 256 := by rw [hx]; exact ((pgB id' lsn' cs).getD j 0).toNat_lt
    have hjl : j < (pgB id' lsn' cs).length := by rw [HPL.out]; exact hj
    have hcell : w7.cell? ⟨gb, j, none⟩ = some (.int .u8 (x : Int)) := by
      rw [HBUF7.out.cell j hjl, hx, List.getD_eq_getElem?_getD, List.getElem?_eq_getElem hjl]; rfl
    have hfz := blk_frozen HBUF7.out j
    have HX := Aside0.mk hx
    have HJ := Aside0.mk hjl
    clear hx hjl hi16
    have hj' : (j : Int) < 512 := by omega
    rcases hcase with ⟨ht, h0, h1, hd, hm⟩ | ⟨ht, h0, h1, hd, hm⟩
    -- BEGIN
    all_goals
      go_wp2_with fail
      rw [xor_byte x k hx8 hk]
      have hb8 := below_set (g := gb) (j := j) (v := .int .u8 (((UInt8.ofNat (x ^^^ 2 ^ k)).toNat : Nat) : Int)) HB7.out (by have := HB1.out.size; have := HGB.out; omega)
      have hbuf8 := HBUF7.out.set j (UInt8.ofNat (x ^^^ 2 ^ k))
      generalize w7.setCell ⟨gb, j, none⟩ (.int .u8 (((UInt8.ofNat (x ^^^ 2 ^ k)).toNat : Nat) : Int)) = w8 at hb8 hbuf8 ⊢
      have HB8 := Aside0.mk hb8
      have hne : ∀ z, (pgB id' lsn' cs)[j]? = some z → z ≠ UInt8.ofNat (x ^^^ 2 ^ k) := fun z hz h => by
        have hxz : x = z.toNat := by rw [HX.out, List.getD_eq_getElem?_getD, hz]; rfl
        rw [hxz] at h
        exact xor_ne z k hk h.symm
      have HNE := Aside0.mk hne
      obtain ⟨L8, hL8⟩ : ∃ L, L = (pgB id' lsn' cs).set j (UInt8.ofNat (x ^^^ 2 ^ k)) := ⟨_, rfl⟩
      rw [← hL8] at hbuf8
      have HBUF8 := Aside0.mk hbuf8
      have HL8 := Aside0.mk (show L8.length = 512 from by rw [hL8, List.length_set]; exact HPL.out)
      have HE8 := Aside0.mk hL8
      have HCZ := Aside0.mk (buf_string (g := w8.heap.size) (L := zer) (w := w8.drew.alloc (.cells zerV 5)) (heap_alloc_new w8.drew (.cells zerV 5)) 512 (by decide +kernel) (by omega))
      clear hne hL8 hbuf8 hb8 hcell hfz
      cases hz : L8.all (· == 0) with
      | true =>
        have e9 : ((mkS L8).toList == (mkS zer).toList) = true := by
          have h1 := all_zero hz
          rw [HL8.out] at h1
          rw [h1]; simp [zer]
        clear hz
        go_wp2_with fail
        refine start_ (n := 5) (S := fun wx => BufAt wx gb L8) (ds := []) #[false, false, false, false, false] (by kernel_rfl) rfl rfl (HBUF8.out.drew) (fun hHeld => ?_)
        refine pure_ (i := 0) (N := some 95) (v := ?_) (a' := ?_) #[true, false, false, false, false] rfl rfl (by kernel_rfl) (fun _ _ _ h => h) (Or.inl ⟨by rfl, ?_⟩) ?_ ?_
        rotate_left
        · intro w'
          go_simp
          all_goals (with_reducible rfl)
        rotate_left
        · simp only [Act.put, List.setIfInBounds_toArray, List.set_cons_zero, List.set_cons_succ, i64_w, i32_w]
          rfl
        refine take_ (i := 1) (N := some 96) (v := .string (mkS L8)) (a' := ?_) #[true, true, false, false, false] rfl rfl (by kernel_rfl) (fun _ _ _ h => h) (Or.inl ⟨by rfl, ?_⟩) hHeld ?_ ?_
        · intro w' hSw
          go_simp
          all_goals (rw [buf_string hSw 512 HL8.out (by omega)]; rfl)
        rotate_left
        · simp only [Act.put, List.setIfInBounds_toArray, List.set_cons_zero, List.set_cons_succ, i64_w, i32_w]
          rfl
        refine one_ (i := 2) (N := some 97) #[true, true, true, false, false] rfl rfl (by kernel_rfl) (by decide) (fun K hK => ?_)
        go_simp
        skip
        (try go_wp2_with fail)
        refine hK.out _ _ (blk_alloc (blk_drew HBUF8.out) _) (fun hHeld => ?_)
        clear hK K
        (try simp only [Act.put, List.setIfInBounds_toArray, List.set_cons_zero, List.set_cons_succ])
        refine more_ (S' := fun wx => (convert 38 9 (.slice (some ⟨w8.heap.size, 0, none⟩) 512 512)).run Try.prog wx = .ok (.string (mkS zer)) wx ∧ BufAt wx gb L8) (fun _ h => h.2) _ _ _ _ (⟨HCZ.out, blk_alloc (blk_drew HBUF8.out) _⟩) ?_
        have hHeld : (fun wx => (convert 38 9 (.slice (some ⟨w8.heap.size, 0, none⟩) 512 512)).run Try.prog wx = .ok (.string (mkS zer)) wx ∧ BufAt wx gb L8) _ := ⟨HCZ.out, blk_alloc (blk_drew HBUF8.out) _⟩
        refine take_ (i := 3) (N := some 98) (v := .string (mkS zer)) (a' := ?_) #[true, true, true, true, false] rfl rfl (by kernel_rfl) (fun _ _ _ h => h) (Or.inl ⟨by rfl, ?_⟩) hHeld ?_ ?_
        · intro w' hSw
          go_simp
          all_goals (with_reducible exact hSw.1)
        rotate_left
        · simp only [Act.put, List.setIfInBounds_toArray, List.set_cons_zero, List.set_cons_succ, i64_w, i32_w]
          rfl
        refine pure_ (i := 4) (N := some 99) (v := ?_) (a' := ?_) #[true, true, true, true, true] rfl rfl (by kernel_rfl) (fun _ _ _ h => h) (Or.inl ⟨by rfl, ?_⟩) ?_ ?_
        rotate_left
        · intro w'
          go_simp
          all_goals (with_reducible rfl)
        rotate_left
        · simp only [Act.put, List.setIfInBounds_toArray, List.set_cons_zero, List.set_cons_succ, i64_w, i32_w]
          rfl
        refine done_ (by kernel_rfl) ?_
        clear e9
        go_wp2_with (go_at_call 12; refine (lives_calls _).mono ?_; rintro e w9 ⟨rfl, hb⟩; have HB9 := Aside0.mk (below_then (below_alloc (below_drew HB8.out) (.cells zerV 5)) (below_alloc (below_drew HB8.out) (.cells zerV 5)).size hb); clear hb)
        go_ret
        exact ⟨rfl, HB9.out⟩
      | false =>
        have e9 : ((mkS L8).toList == (mkS zer).toList) = false := by
          rw [beq_toList]
          simp only [decide_eq_false_iff_not]
          intro h
          have h1 : L8 = zer := by have := congrArg (fun b : ByteArray => b.data.toList) h; simpa [mkS] using this
          rw [h1] at hz
          exact absurd hz (by rw [show zer = List.replicate 512 0 from rfl, zero_all]; decide)
        have HZ := Aside0.mk hz
        clear hz
        go_wp2_with fail
        refine start_ (n := 5) (S := fun wx => BufAt wx gb L8) (ds := []) #[false, false, false, false, false] (by kernel_rfl) rfl rfl (HBUF8.out.drew) (fun hHeld => ?_)
        refine pure_ (i := 0) (N := some 95) (v := ?_) (a' := ?_) #[true, false, false, false, false] rfl rfl (by kernel_rfl) (fun _ _ _ h => h) (Or.inl ⟨by rfl, ?_⟩) ?_ ?_
        rotate_left
        · intro w'
          go_simp
          all_goals (with_reducible rfl)
        rotate_left
        · simp only [Act.put, List.setIfInBounds_toArray, List.set_cons_zero, List.set_cons_succ, i64_w, i32_w]
          rfl
        refine take_ (i := 1) (N := some 96) (v := .string (mkS L8)) (a' := ?_) #[true, true, false, false, false] rfl rfl (by kernel_rfl) (fun _ _ _ h => h) (Or.inl ⟨by rfl, ?_⟩) hHeld ?_ ?_
        · intro w' hSw
          go_simp
          all_goals (rw [buf_string hSw 512 HL8.out (by omega)]; rfl)
        rotate_left
        · simp only [Act.put, List.setIfInBounds_toArray, List.set_cons_zero, List.set_cons_succ, i64_w, i32_w]
          rfl
        refine one_ (i := 2) (N := some 97) #[true, true, true, false, false] rfl rfl (by kernel_rfl) (by decide) (fun K hK => ?_)
        go_simp
        skip
        (try go_wp2_with fail)
        refine hK.out _ _ (blk_alloc (blk_drew HBUF8.out) _) (fun hHeld => ?_)
        clear hK K
        (try simp only [Act.put, List.setIfInBounds_toArray, List.set_cons_zero, List.set_cons_succ])
        refine more_ (S' := fun wx => (convert 38 9 (.slice (some ⟨w8.heap.size, 0, none⟩) 512 512)).run Try.prog wx = .ok (.string (mkS zer)) wx ∧ BufAt wx gb L8) (fun _ h => h.2) _ _ _ _ (⟨HCZ.out, blk_alloc (blk_drew HBUF8.out) _⟩) ?_
        have hHeld : (fun wx => (convert 38 9 (.slice (some ⟨w8.heap.size, 0, none⟩) 512 512)).run Try.prog wx = .ok (.string (mkS zer)) wx ∧ BufAt wx gb L8) _ := ⟨HCZ.out, blk_alloc (blk_drew HBUF8.out) _⟩
        refine take_ (i := 3) (N := some 98) (v := .string (mkS zer)) (a' := ?_) #[true, true, true, true, false] rfl rfl (by kernel_rfl) (fun _ _ _ h => h) (Or.inl ⟨by rfl, ?_⟩) hHeld ?_ ?_
        · intro w' hSw
          go_simp
          all_goals (with_reducible exact hSw.1)
        rotate_left
        · simp only [Act.put, List.setIfInBounds_toArray, List.set_cons_zero, List.set_cons_succ, i64_w, i32_w]
          rfl
        refine pure_ (i := 4) (N := some 99) (v := ?_) (a' := ?_) #[true, true, true, true, true] rfl rfl (by kernel_rfl) (fun _ _ _ h => h) (Or.inl ⟨by rfl, ?_⟩) ?_ ?_
        rotate_left
        · intro w'
          go_simp
          all_goals (with_reducible rfl)
        rotate_left
        · simp only [Act.put, List.setIfInBounds_toArray, List.set_cons_zero, List.set_cons_succ, i64_w, i32_w]
          rfl
        refine done_ (by kernel_rfl) ?_
        clear e9
        have hpc := parse_calls (w8.drew.alloc (.cells zerV 5)) (id' : Int) gb 512 L8 (blk_alloc (blk_drew HBUF8.out) _) (by rw [HL8.out]; omega) (by rw [HL8.out]; omega)
        rw [HL8.out] at hpc
        have HBA := Aside0.mk (below_alloc (below_drew HB8.out) (.cells zerV 5))
        go_wp2_with fail
        refine hpc.mono ?_
        rintro e wp ⟨v, er, rfl, hp⟩
        have hp2 := hp
        rw [HE8.out] at hp2
        obtain ⟨rfl, rfl⟩ := parsed_turned HV.out HH.out.id16 (by have := HJ.out; rw [HPL.out] at this; exact this) _ HNE.out (by rw [← HE8.out]; exact HZ.out) hp2
        have HBP := Aside0.mk (below_then HBA.out HBA.out.size hp.bel)
        clear hp hp2 hpc
        go_wp2_with (go_at_call 12; refine (lives_calls _).mono ?_; rintro e w9 ⟨rfl, hb⟩; have HB9 := Aside0.mk (below_then HBP.out HBP.out.size hb); clear hb)
        go_ret
        exact ⟨rfl, HB9.out⟩
    -- END
  · refine (made_bad w id l A c (by omega)).mono ?_
    rintro e w1 ⟨rfl, hb1⟩
    have HB1 := Aside0.mk hb1
    clear hb1 hid
    go_wp2_with (go_at_call 12; refine (lives_calls _).mono ?_; rintro e w8 ⟨rfl, hb⟩; have HB8 := Aside0.mk (below_then HB1.out HB1.out.size hb); clear hb)
    go_ret
    exact ⟨rfl, HB8.out⟩
end Go.Proofs.Ytidkdbohkbfhbaa
