/- Layer 12: the law's asked: the graph answers as the document. -/
import Derived.Test.YtgjjfldfdkoedaaGi
import Derived.Test.YtgjjfldfdkoedaaRf2
import Derived.Test.YtgjjfldfdkoedaaL12c
namespace Go.Proofs.Ytgjjfldfdkoedaa
open Go.RowKit Go.Proofs.YtgjjfldfdkoedaaW.PrintWords Go.Proofs.YtgjjfldfdkoedaaW.PrintLast Go.Proofs.YtgjjfldfdkoedaaW.PrintMore
open Rf MapL Graph
set_option linter.unusedVariables false
set_option linter.unusedSimpArgs false
theorem refRing_calls (w : World) (A : Option Addr) (c : Nat) (l : List SGEdge) (a : Int) (hA : Kd.C kGEdge w A l.length l) (hc : l.length ≤ c) (hl : l.length ≤ 1000) :
    Calls Try.prog 33 #[.slice A l.length c, .int .i64 a] w fun e w' => RingPostI w w' (l.map pr) a e := by
  obtain ⟨r, hr, hR⟩ := ring_f l a hl
  obtain ⟨k, h⟩ := hr.rounds
  refine (flotillaref12_Ring.calls k A c l a r w hA hc h).mono ?_
  rintro e w' ⟨v, rfl, h1, h2⟩
  exact ⟨v, r, rfl, Kd.R_mono (Kd.R_bound h1) (fun k hk => hk.2.1), hR, h2⟩
theorem refReached_calls (w : World) (A : Option Addr) (c : Nat) (l : List SGEdge) (a : Int) (hA : Kd.C kGEdge w A l.length l) (hc : l.length ≤ c) (hl : l.length ≤ 1000) :
    Calls Try.prog 34 #[.slice A l.length c, .int .i64 a] w fun e w' => ∃ (v : Value) (L : List Int), e = .returned v ∧ Kd.R (Kd.int .i64) 3 w' w.heap.size (fun k => True) v L ∧ (∀ x, x ∈ L ↔ Graph.Reach (l.map pr) a x) ∧ L.length ≤ 1000 ∧ Below w.heap.size w w' := by
  obtain ⟨r, hr, hn, hm⟩ := reached_f l a hl
  obtain ⟨k, h⟩ := hr.rounds
  refine (flotillaref12_Reached.calls k A c l a r w hA hc h).mono ?_
  rintro e w' ⟨v, rfl, h1, h2⟩
  have hSl : r.length ≤ 1000 := by
    have := nodup_le (M := (l.map pr).map Prod.snd) hn (fun x hx => by
      obtain ⟨c, hc⟩ := ((hm x).1 hx).last
      exact List.mem_map.2 ⟨_, hc, rfl⟩)
    simp at this; omega
  exact ⟨v, r, rfl, h1, hm, hSl, h2⟩
set_option maxRecDepth 100000 in
set_option maxHeartbeats 400000 in
theorem asked_calls (w : World) (g b : Nat) (A : Option Addr) (c : Nat) (l : List SGEdge) (x y : Int) (hG : GrI w g b (l.map pr)) (hC : Kd.C kGEdge w A l.length l) (hc : l.length ≤ c) (hl : l.length ≤ 1000) :
    Calls Try.prog 25 #[.pointer (some ⟨g, 0, none⟩), .slice A l.length c, .int .i64 x, .int .i64 y] w fun e w' => e = .returned (.bool true) ∧ Below w.heap.size w w' := by
  have HG := Aside0.mk hG
  have HC := Aside0.mk hC
  have HL := Aside0.mk hc
  have hkl : (l.map pr).length ≤ 1000 := by rw [List.length_map]; exact hl
  have HKL := Aside0.mk hkl
  clear hG hC hc hkl
  go_enter Try.func25, Try.ntmps25
  go_wp2_with fail
  refine (refRing_calls w A c l x HC.out HL.out hl).mono ?_
  rintro e w1 ⟨v1, L, rfl, hR, hRL, hB⟩
  obtain ⟨A1, c1, rfl⟩ := Kd.R_slice hR
  have hL0 := hRL.le ordI
  have hLl : L.length ≤ 1000 := by have := HKL.out; omega
  have HB1 := Aside0.mk hB
  have HG1 := Aside0.mk (HG.out.below hB)
  have HC1 := Aside0.mk (Kd.C_below HC.out hB)
  have HR1 := Aside0.mk (Kd.R_reads' hR)
  have HRL := Aside0.mk hRL
  clear hR hRL hB hL0
  go_wp2_with fail
  refine (victimI w1 g b _ x HG1.out HKL.out).mono ?_
  rintro e w2 ⟨L2, rfl, hL2, hB⟩
  obtain rfl := hL2.unique ordI HRL.out
  have HB2 := Aside0.mk (below_then HB1.out HB1.out.size hB)
  have HG2 := Aside0.mk (HG1.out.below hB)
  have HC2 := Aside0.mk (Kd.C_below HC1.out hB)
  have hR2 := Kd.C_below HR1.out.2.2 hB
  obtain ⟨bv, hbv⟩ : ∃ bv, bv = !L2.isEmpty := ⟨_, rfl⟩
  obtain ⟨lv, hlv⟩ : ∃ lv, lv = L2.getLastD 0 := ⟨_, rfl⟩
  rw [← hbv, ← hlv]
  have HBV := Aside0.mk (show bv = decide ((0 : Int) < (L2.length : Int)) from by
    rw [hbv]; cases L2 <;> simp)
  have HLV := Aside0.mk hlv
  clear hL2 hB hbv hlv
  by_cases h0 : L2 = []
  · have hz : L2.length = 0 := by rw [h0]; rfl
    have HR2 := Aside0.mk hR2
    obtain rfl : bv = false := by rw [HBV.out, hz]; rfl
    obtain rfl : lv = 0 := by rw [HLV.out, h0]; rfl
    rw [hz]
    clear hR2 h0
    go_wp2_with fail
    refine (leadsI w2 g b _ x y HG2.out HKL.out).mono ?_
    rintro e w3 ⟨r, rfl, hr, hB⟩
    have HB3 := Aside0.mk (below_then HB2.out HB2.out.size hB)
    have HG3 := Aside0.mk (HG2.out.below hB)
    have HC3 := Aside0.mk (Kd.C_below HC2.out hB)
    have HR3 := Aside0.mk (Kd.C_below HR2.out hB)
    have HRR := Aside0.mk hr
    clear hr hB
    go_wp2_with fail
    refine (refReached_calls w3 A c l x HC3.out HL.out hl).mono ?_
    rintro e w4 ⟨v4, S, rfl, hR4, hS, hSl, hB⟩
    obtain ⟨A4, c4, rfl⟩ := Kd.R_slice hR4
    have HB4 := Aside0.mk (below_then HB3.out HB3.out.size hB)
    have HG4 := Aside0.mk (HG3.out.below hB)
    have HR4 := Aside0.mk (Kd.C_below HR3.out hB)
    have HS4 := Aside0.mk (Kd.R_reads' hR4)
    have HRS := Aside0.mk (show r = isK S y from by rw [Bool.eq_iff_iff, HRR.out]; unfold isK; rw [decide_eq_true_eq, hS y])
    clear hR4 hS hB
    go_wp2_with fail
    refine (has_calls w4 A4 c4 S y HS4.out.2.2 HS4.out.2.1 (by omega)).mono ?_
    rintro e w5 ⟨rfl, hB⟩
    rw [← HRS.out]
    have HB5 := Aside0.mk (below_then HB4.out HB4.out.size hB)
    have HG5 := Aside0.mk (HG4.out.below hB)
    have HR5 := Aside0.mk (Kd.C_below HR4.out hB)
    clear hB
    go_wp2_with fail
    refine (ringI w5 g b _ x HG5.out HKL.out).mono ?_
    rintro e w6 ⟨v6, L6, rfl, hR, hRL, hB⟩
    obtain rfl := hRL.unique ordI HRL.out
    obtain ⟨A6, c6, rfl⟩ := Kd.R_slice hR
    have HB6 := Aside0.mk (below_then HB5.out HB5.out.size hB)
    have hR6 := Kd.R_reads' hR
    have HR6 := Aside0.mk (Kd.C_below HR5.out hB)
    have HCAP := Aside0.mk HR1.out.2.1
    clear hR hRL hB
    go_wp2_with fail
    have hsm := same_calls w6 _ _ c6 c1 _ _ hR6.2.2 hR6.2.1 HR6.out HCAP.out (by omega)
    rw [show decide (L6 = L6) = true from decide_eq_true rfl] at hsm
    rw [hz] at hsm
    try rw [hz]
    refine hsm.mono ?_
    rintro e w7 ⟨rfl, hB⟩
    have HB7 := Aside0.mk (below_then HB6.out HB6.out.size hB)
    clear hB hsm hR6
    go_wp2_with fail
    go_ret
    exact ⟨rfl, HB7.out⟩
  · have hpos := List.length_pos_iff.2 h0
    obtain ⟨ad, rfl, hcl⟩ := Kd.at_int hR2 ((L2.length : Int) - 1) (by omega) (by omega)
    have hx : rd L2 ((L2.length : Int) - 1) = lv := by
      have e3 : ((L2.length : Int) - 1).toNat = L2.length - 1 := by omega
      rw [HLV.out]
      simp [rd, e3, List.getLastD_eq_getLast?, List.getLast?_eq_getElem?, List.getD_eq_getElem?_getD]
    rw [hx, show ((L2.length : Int) - 1).toNat = L2.length - 1 by omega] at hcl
    have HR2 := Aside0.mk hR2
    have hb1 : (0 : Int) ≤ (L2.length : Int) - 1 := by omega
    have hb2 : (L2.length : Int) - 1 < (L2.length : Int) := by omega
    have hb3 : (1 : Int) ≤ (L2.length : Int) := by omega
    obtain rfl : bv = true := by rw [HBV.out]; exact decide_eq_true (by omega)
    clear h0 hR2 hx
    go_wp2_with fail
    refine (leadsI w2 g b _ x y HG2.out HKL.out).mono ?_
    rintro e w3 ⟨r, rfl, hr, hB⟩
    have HB3 := Aside0.mk (below_then HB2.out HB2.out.size hB)
    have HG3 := Aside0.mk (HG2.out.below hB)
    have HC3 := Aside0.mk (Kd.C_below HC2.out hB)
    have HR3 := Aside0.mk (Kd.C_below HR2.out hB)
    have HRR := Aside0.mk hr
    clear hr hB
    go_wp2_with fail
    refine (refReached_calls w3 A c l x HC3.out HL.out hl).mono ?_
    rintro e w4 ⟨v4, S, rfl, hR4, hS, hSl, hB⟩
    obtain ⟨A4, c4, rfl⟩ := Kd.R_slice hR4
    have HB4 := Aside0.mk (below_then HB3.out HB3.out.size hB)
    have HG4 := Aside0.mk (HG3.out.below hB)
    have HR4 := Aside0.mk (Kd.C_below HR3.out hB)
    have HS4 := Aside0.mk (Kd.R_reads' hR4)
    have HRS := Aside0.mk (show r = isK S y from by rw [Bool.eq_iff_iff, HRR.out]; unfold isK; rw [decide_eq_true_eq, hS y])
    clear hR4 hS hB
    go_wp2_with fail
    refine (has_calls w4 A4 c4 S y HS4.out.2.2 HS4.out.2.1 (by omega)).mono ?_
    rintro e w5 ⟨rfl, hB⟩
    rw [← HRS.out]
    have HB5 := Aside0.mk (below_then HB4.out HB4.out.size hB)
    have HG5 := Aside0.mk (HG4.out.below hB)
    have HR5 := Aside0.mk (Kd.C_below HR4.out hB)
    clear hB
    go_wp2_with fail
    refine (ringI w5 g b _ x HG5.out HKL.out).mono ?_
    rintro e w6 ⟨v6, L6, rfl, hR, hRL, hB⟩
    obtain rfl := hRL.unique ordI HRL.out
    obtain ⟨A6, c6, rfl⟩ := Kd.R_slice hR
    have HB6 := Aside0.mk (below_then HB5.out HB5.out.size hB)
    have hR6 := Kd.R_reads' hR
    have HR6 := Aside0.mk (Kd.C_below HR5.out hB)
    have HCAP := Aside0.mk HR1.out.2.1
    clear hR hRL hB
    go_wp2_with fail
    have hsm := same_calls w6 _ _ c6 c1 _ _ hR6.2.2 hR6.2.1 HR6.out HCAP.out (by omega)
    rw [show decide (L6 = L6) = true from decide_eq_true rfl] at hsm
    refine hsm.mono ?_
    rintro e w7 ⟨rfl, hB⟩
    have HB7 := Aside0.mk (below_then HB6.out HB6.out.size hB)
    clear hB hsm hR6
    go_wp2_with fail
    go_ret
    exact ⟨rfl, HB7.out⟩
end Go.Proofs.Ytgjjfldfdkoedaa
