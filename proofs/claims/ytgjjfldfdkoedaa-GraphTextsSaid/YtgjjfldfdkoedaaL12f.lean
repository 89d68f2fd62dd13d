/- Layer 12: GraphTexts. -/
import Derived.Test.YtgjjfldfdkoedaaTe
import Derived.Test.YtgjjfldfdkoedaaTd
import Derived.Test.YtgjjfldfdkoedaaGf
import Derived.Test.YtgjjfldfdkoedaaL12b
import Derived.WalkKit
namespace Go.Proofs.Ytgjjfldfdkoedaa
open Go.RowKit Go.Proofs.YtgjjfldfdkoedaaW.PrintWords Go.Proofs.YtgjjfldfdkoedaaW.PrintLast Go.Proofs.YtgjjfldfdkoedaaW.PrintMore
open Rf MapL Graph
set_option linter.unusedVariables false
set_option linter.unusedSimpArgs false
attribute [local go_sem high] yund
theorem take_in {l : List SGEdge} (h : ∀ e ∈ l, In99 e.f0 ∧ In99 e.f1) : InE (edgesOf l) := fun p hp => by
  obtain ⟨e, he, rfl⟩ := List.mem_map.1 ((mem_edgesOf l p).1 hp)
  exact h e he
theorem take_out (l : List SGEdge) (k : Nat) (h : ¬ (k < l.length ∧ k < 60)) (hk : k ≤ 60) (hkl : k ≤ l.length) : l.take k = l.take 60 := by
  by_cases h2 : k < l.length
  · rw [show k = 60 by omega]
  · rw [List.take_of_length_le (by omega), List.take_of_length_le (by omega)]
theorem txt_at {w : World} {A : Option Addr} {L : List Int} (h : Kd.C Kd.string w A L.length (L.map nm)) (i : Nat) (hi : i < L.length) : ∃ ad, A = some ad ∧ w.cell? (ad.add i) = some (.string (nm L[i])) := by
  obtain ⟨ad, e, hc⟩ := Kd.at_string h (i : Int) (by omega) (by omega)
  have h1 : rdOf ByteArray.empty (L.map nm) (i : Int) = nm L[i] := by
    unfold rdOf
    rw [Int.toNat_natCast, List.getD_eq_getElem?_getD, List.getElem?_map, List.getElem?_eq_getElem hi]; rfl
  rw [h1, Int.toNat_natCast] at hc
  exact ⟨ad, e, hc⟩
theorem txt_cell {w : World} {ad : Addr} {L : List Int} (h : Kd.C Kd.string w (some ad) L.length (L.map nm)) (i : Nat) (hi : i < L.length) : w.cell? (ad.add i) = some (.string (nm L[i])) := by
  obtain ⟨ad', e, hc⟩ := txt_at h i hi
  cases e
  exact hc
set_option maxRecDepth 100000 in
set_option maxHeartbeats 2000000 in
theorem texts_walk (w : World) (A : Option Addr) (c : Nat) (l : List SGEdge) (a : Int) (hC : Kd.C kGEdge w A l.length l) (hl : l.length ≤ 140737488351232) :
    Calls Try.prog 8 #[.slice A l.length c, .int .i64 a] w fun e w' => e = .returned (.bool true) ∧ Below w.heap.size w w' := by
  have HC := Aside0.mk hC
  clear hC
  go_enter Try.func8, Try.ntmps8
  go_wp2_with fail
  refine (made_calls w A c l HC.out hl).mono ?_
  rintro e w1 ⟨g, b, rfl, hg, hb, hG, hB⟩
  have hKL := edges_small l
  have HKL := Aside0.mk hKL
  have HG1 := Aside0.mk hG
  have HB1 := Aside0.mk hB
  clear hg hb hG hB hKL
  go_wp2_with fail
  refine (newS w1).mono ?_
  rintro e w2 ⟨h, d, rfl, hg, hb, hG, hB⟩
  have HG2 := Aside0.mk (HG1.out.below hB)
  have HB2 := Aside0.mk (below_then HB1.out HB1.out.size hB)
  have HH2 := Aside0.mk hG
  have HLO := Aside0.mk (show w.heap.size ≤ d ∧ g ≠ d ∧ b ≠ d from ⟨Nat.le_trans HB1.out.size hb, by have := blk_lt HG1.out.box; omega, by have := HG1.out.map.lt; omega⟩)
  clear hg hb hG hB
  go_wp2_with fail
  go_loopg [7] 60 (fun gk v7 wr => ∃ k : Nat, Aside0 (k + gk = 60) ∧ v7 = .int .i64 k ∧ k ≤ l.length ∧ k ≤ 60 ∧ Aside0 (∀ e ∈ l.take k, In99 e.f0 ∧ In99 e.f1) ∧ Aside0 (GrI wr g b (edgesOf (l.take 60))) ∧ Aside0 (GrS wr h d ((edgesOf (l.take k)).map nmp)) ∧ Aside0 (Below w.heap.size w wr))
  case atStart => exact ⟨0, ⟨rfl⟩, rfl, Nat.zero_le _, Nat.zero_le _, ⟨by simp⟩, HG2, HH2, HB2⟩
  case round =>
    obtain ⟨k, HK, rfl, hkl, hk60, HIN, HG, HH, HB⟩ := hrel
    clear HG2 HB2 HH2
    by_cases hlt : k < l.length ∧ k < 60
    · obtain ⟨h1, h2⟩ := hlt
      obtain ⟨ad, rfl, hx0, hx1⟩ := edge_at (Kd.C_below HC.out HB.out) k h1
      by_cases hr : (rd_TGEdge l k).f0 < 0 ∨ (¬ (rd_TGEdge l k).f0 < 0 ∧ (rd_TGEdge l k).f0 > 99) ∨ (¬ (rd_TGEdge l k).f0 < 0 ∧ ¬ (rd_TGEdge l k).f0 > 99 ∧ (rd_TGEdge l k).f1 < 0) ∨ (¬ (rd_TGEdge l k).f0 < 0 ∧ ¬ (rd_TGEdge l k).f0 > 99 ∧ ¬ (rd_TGEdge l k).f1 < 0 ∧ (rd_TGEdge l k).f1 > 99)
      · rcases hr with q0 | ⟨q0, q1⟩ | ⟨q0, q1, q2⟩ | ⟨q0, q1, q2, q3⟩
        all_goals
          go_wp2_with fail
          refine (lives_calls wr).mono ?_
          rintro e w3 ⟨rfl, hB⟩
          have HB3 := Aside0.mk (below_then HB.out HB.out.size hB)
          clear hB
          go_wp2_with fail
          go_ret
          exact ⟨rfl, HB3.out⟩
      · obtain ⟨q0, q1, q2, q3⟩ : ¬ (rd_TGEdge l k).f0 < 0 ∧ ¬ (rd_TGEdge l k).f0 > 99 ∧ ¬ (rd_TGEdge l k).f1 < 0 ∧ ¬ (rd_TGEdge l k).f1 > 99 := by omega
        clear hr
        go_wp2_with fail
        have HQ := Aside0.mk (show In99 (rd_TGEdge l k).f0 ∧ In99 (rd_TGEdge l k).f1 from ⟨⟨by omega, by omega⟩, ⟨by omega, by omega⟩⟩)
        clear q0 q1 q2 q3
        -- [M
        refine start_ (n := 14) (S := fun wx => wx.cell? (ad.add (k * 2)) = some (.int .i64 (rd_TGEdge l k).f0) ∧ wx.cell? ⟨(ad.add (k * 2)).block, (ad.add (k * 2)).off + 1, none⟩ = some (.int .i64 (rd_TGEdge l k).f1)) (ds := []) #[false, false, false, false, false, false, false, false, false, false, false, false, false, false] (by kernel_rfl) rfl rfl (⟨hx0, hx1⟩) (fun hHeld => ?_)
        refine pure_ (i := 0) (N := some 64) (v := ?_) (a' := ?_) #[true, false, false, false, false, false, false, false, false, false, false, false, false, false] rfl rfl (by kernel_rfl) (fun _ _ _ h => h) (Or.inl ⟨by rfl, ?_⟩) ?_ ?_
        rotate_left
        · intro w'
          go_simp
          all_goals (with_reducible rfl)
        rotate_left
        · simp only [Act.put, List.setIfInBounds_toArray, List.set_cons_zero, List.set_cons_succ, i64_w, i32_w]
          rfl
        refine pure_ (i := 1) (N := some 65) (v := ?_) (a' := ?_) #[true, true, false, false, false, false, false, false, false, false, false, false, false, false] rfl rfl (by kernel_rfl) (fun _ _ _ h => h) (Or.inl ⟨by rfl, ?_⟩) ?_ ?_
        rotate_left
        · intro w'
          go_simp
          all_goals (with_reducible rfl)
        rotate_left
        · simp only [Act.put, List.setIfInBounds_toArray, List.set_cons_zero, List.set_cons_succ, i64_w, i32_w]
          rfl
        refine pure_ (i := 2) (N := some 66) (v := ?_) (a' := ?_) #[true, true, true, false, false, false, false, false, false, false, false, false, false, false] rfl rfl (by kernel_rfl) (fun _ _ _ h => h) (Or.inl ⟨by rfl, ?_⟩) ?_ ?_
        rotate_left
        · intro w'
          go_simp
          all_goals (with_reducible rfl)
        rotate_left
        · simp only [Act.put, List.setIfInBounds_toArray, List.set_cons_zero, List.set_cons_succ, i64_w, i32_w]
          rfl
        refine pure_ (i := 3) (N := some 67) (v := ?_) (a' := ?_) #[true, true, true, true, false, false, false, false, false, false, false, false, false, false] rfl rfl (by kernel_rfl) (fun _ _ _ h => h) (Or.inl ⟨by rfl, ?_⟩) ?_ ?_
        rotate_left
        · intro w'
          go_simp
          all_goals (with_reducible rfl)
        rotate_left
        · simp only [Act.put, List.setIfInBounds_toArray, List.set_cons_zero, List.set_cons_succ, i64_w, i32_w]
          rfl
        refine pure_ (i := 4) (N := some 68) (v := ?_) (a' := ?_) #[true, true, true, true, true, false, false, false, false, false, false, false, false, false] rfl rfl (by kernel_rfl) (fun _ _ _ h => h) (Or.inl ⟨by rfl, ?_⟩) ?_ ?_
        rotate_left
        · intro w'
          go_simp
          all_goals (with_reducible rfl)
        rotate_left
        · simp only [Act.put, List.setIfInBounds_toArray, List.set_cons_zero, List.set_cons_succ, i64_w, i32_w]
          rfl
        refine pure_ (i := 7) (N := some 71) (v := ?_) (a' := ?_) #[true, true, true, true, true, false, false, true, false, false, false, false, false, false] rfl rfl (by kernel_rfl) (fun _ _ _ h => h) (Or.inl ⟨by rfl, ?_⟩) ?_ ?_
        rotate_left
        · intro w'
          go_simp
          all_goals (with_reducible rfl)
        rotate_left
        · simp only [Act.put, List.setIfInBounds_toArray, List.set_cons_zero, List.set_cons_succ, i64_w, i32_w]
          rfl
        refine pure_ (i := 8) (N := some 72) (v := ?_) (a' := ?_) #[true, true, true, true, true, false, false, true, true, false, false, false, false, false] rfl rfl (by kernel_rfl) (fun _ _ _ h => h) (Or.inl ⟨by rfl, ?_⟩) ?_ ?_
        rotate_left
        · intro w'
          go_simp
          all_goals (with_reducible rfl)
        rotate_left
        · simp only [Act.put, List.setIfInBounds_toArray, List.set_cons_zero, List.set_cons_succ, i64_w, i32_w]
          rfl
        refine pure_ (i := 9) (N := some 73) (v := ?_) (a' := ?_) #[true, true, true, true, true, false, false, true, true, true, false, false, false, false] rfl rfl (by kernel_rfl) (fun _ _ _ h => h) (Or.inl ⟨by rfl, ?_⟩) ?_ ?_
        rotate_left
        · intro w'
          go_simp
          all_goals (with_reducible rfl)
        rotate_left
        · simp only [Act.put, List.setIfInBounds_toArray, List.set_cons_zero, List.set_cons_succ, i64_w, i32_w]
          rfl
        refine pure_ (i := 10) (N := some 74) (v := ?_) (a' := ?_) #[true, true, true, true, true, false, false, true, true, true, true, false, false, false] rfl rfl (by kernel_rfl) (fun _ _ _ h => h) (Or.inl ⟨by rfl, ?_⟩) ?_ ?_
        rotate_left
        · intro w'
          go_simp
          all_goals (with_reducible rfl)
        rotate_left
        · simp only [Act.put, List.setIfInBounds_toArray, List.set_cons_zero, List.set_cons_succ, i64_w, i32_w]
          rfl
        refine take_ (i := 5) (N := some 69) (v := ?_) (a' := ?_) #[true, true, true, true, true, true, false, true, true, true, true, false, false, false] rfl rfl (by kernel_rfl) (fun _ _ _ h => h) (Or.inl ⟨by rfl, ?_⟩) hHeld ?_ ?_
        rotate_left
        · intro w' hSw
          (try dsimp only at hSw)
          go_simp
          all_goals (with_reducible rfl)
        rotate_left
        · simp only [Act.put, List.setIfInBounds_toArray, List.set_cons_zero, List.set_cons_succ, i64_w, i32_w]
          rfl
        refine take_ (i := 11) (N := some 75) (v := ?_) (a' := ?_) #[true, true, true, true, true, true, false, true, true, true, true, true, false, false] rfl rfl (by kernel_rfl) (fun _ _ _ h => h) (Or.inl ⟨by rfl, ?_⟩) hHeld ?_ ?_
        rotate_left
        · intro w' hSw
          (try dsimp only at hSw)
          go_simp
          all_goals (with_reducible rfl)
        rotate_left
        · simp only [Act.put, List.setIfInBounds_toArray, List.set_cons_zero, List.set_cons_succ, i64_w, i32_w]
          rfl
        refine one_ (i := 6) (N := some 70) #[true, true, true, true, true, true, true, true, true, true, true, true, false, false] rfl rfl (by kernel_rfl) (by decide) (fun K hK => ?_)
        go_simp
        go_at_call 28
        refine (named_calls _ _).mono ?_
        rintro e wa ⟨rfl, hb⟩
        have HBa := Aside0.mk (below_then (below_drew HB.out) HB.out.size hb)
        have HGa := Aside0.mk (HG.out.below (below_then (below_drew (Below.refl wr.heap.size wr)) (Nat.le_refl _) hb))
        have HHa := Aside0.mk (HH.out.below (below_then (below_drew (Below.refl wr.heap.size wr)) (Nat.le_refl _) hb))
        clear hb
        obtain ⟨ad', hae, y0, y1⟩ := edge_at (Kd.C_below HC.out HBa.out) k h1
        obtain rfl := Option.some.inj hae
        (try go_wp2_with fail)
        refine hK.out _ _ (⟨y0, y1⟩) (fun hHeld => ?_)
        clear hK K
        (try simp only [Act.put, List.setIfInBounds_toArray, List.set_cons_zero, List.set_cons_succ])
        refine one_ (i := 12) (N := some 76) #[true, true, true, true, true, true, true, true, true, true, true, true, true, false] rfl rfl (by kernel_rfl) (by decide) (fun K hK => ?_)
        go_simp
        go_at_call 28
        refine (named_calls _ _).mono ?_
        rintro e wb ⟨rfl, hb⟩
        have HBb := Aside0.mk (below_then HBa.out HBa.out.size hb)
        have HGb := Aside0.mk (HGa.out.below hb)
        have HHb := Aside0.mk (HHa.out.below hb)
        clear hb y0 y1
        obtain ⟨ad', hae, y0, y1⟩ := edge_at (Kd.C_below HC.out HBb.out) k h1
        obtain rfl := Option.some.inj hae
        (try go_wp2_with fail)
        refine hK.out _ _ (⟨y0, y1⟩) (fun hHeld => ?_)
        clear hK K
        (try simp only [Act.put, List.setIfInBounds_toArray, List.set_cons_zero, List.set_cons_succ])
        refine one_ (i := 13) (N := some 77) #[true, true, true, true, true, true, true, true, true, true, true, true, true, true] rfl rfl (by kernel_rfl) (by decide) (fun K hK => ?_)
        go_simp
        go_at_call 27
        refine (addS wb h d _ _ _ HHb.out).mono ?_
        rintro e wc ⟨rfl, hG, hg⟩
        have HHc := Aside0.mk hG
        have HBc := Aside0.mk (HBb.out.grown hg HBb.out.size (fun q hq => by injection hq with hq; rw [← hq]; exact HLO.out.1))
        have HGc := Aside0.mk (HGb.out.other hg HLO.out.2.1 HLO.out.2.2)
        clear hG hg y0 y1
        obtain ⟨ad', hae, y0, y1⟩ := edge_at (Kd.C_below HC.out HBc.out) k h1
        obtain rfl := Option.some.inj hae
        (try go_wp2_with fail)
        refine hK.out _ _ (⟨y0, y1⟩) (fun hHeld => ?_)
        clear hK K
        (try simp only [Act.put, List.setIfInBounds_toArray, List.set_cons_zero, List.set_cons_succ])
        refine done_ (by kernel_rfl) ?_
        clear y0 y1 hx0 hx1
        go_wp2_with fail
        go_roundg (gk - 1)
        case measure => have := HK.out; omega
        case rel =>
          refine ⟨k + 1, ⟨by have := HK.out; omega⟩, by go_num, by omega, by omega, ⟨fun e he => ?_⟩, HGc, ⟨?_⟩, HBc⟩
          · rw [List.take_succ_eq_append_getElem h1, List.mem_append, List.mem_singleton, ← edge_get l k h1] at he
            rcases he with he | rfl
            · exact HIN.out e he
            · exact HQ.out
          · rw [List.take_succ_eq_append_getElem h1, edgesOf_snoc, ← edge_get l k h1]
            have h5 := add_map (take_in HIN.out) (p := pr (rd_TGEdge l k)) HQ.out
            rw [← h5]
            exact HHc.out
        -- M]
    · have hte := take_out l k hlt hk60 hkl
      have HIN60 := Aside0.mk (take_in (show ∀ e ∈ l.take 60, In99 e.f0 ∧ In99 e.f1 from by rw [← hte]; exact HIN.out))
      have HH' := HH.out
      rw [hte] at HH'
      have HH6 := Aside0.mk HH'
      have hend : (k < l.length ∧ ¬ k < 60) ∨ ¬ k < l.length := by omega
      clear hte HH HIN HH' hlt
      rcases hend with ⟨h1, h2⟩ | h1
      all_goals
        -- [E
        obtain ⟨ks, hks⟩ : ∃ ks, ks = edgesOf (l.take 60) := ⟨_, rfl⟩
        rw [← hks] at HG HH6 HIN60 HKL
        clear hks
        by_cases ha : a < 0 ∨ (¬ a < 0 ∧ a > 99)
        · rcases ha with q0 | ⟨q0, q1⟩
          all_goals
            go_wp2_with fail
            refine (lenI wr g b _ HG.out).mono ?_
            rintro e u1 ⟨rfl, rfl⟩
            go_wp2_with fail
            refine (lenS wr h d _ HH6.out).mono ?_
            rintro e u1 ⟨rfl, rfl⟩
            rw [List.length_map]
            go_wp2_with fail
            refine (lives_calls wr).mono ?_
            rintro e wL ⟨rfl, hB⟩
            have HBL := Aside0.mk (below_then HB.out HB.out.size hB)
            clear hB
            go_wp2_with fail
            go_ret
            exact ⟨rfl, HBL.out⟩
        · obtain ⟨q0, q1⟩ : ¬ a < 0 ∧ ¬ a > 99 := by omega
          have HA := Aside0.mk (show In99 a from ⟨by omega, by omega⟩)
          clear ha
          go_wp2_with fail
          refine (lenI wr g b _ HG.out).mono ?_
          rintro e u1 ⟨rfl, rfl⟩
          go_wp2_with fail
          refine (lenS wr h d _ HH6.out).mono ?_
          rintro e u1 ⟨rfl, rfl⟩
          rw [List.length_map]
          clear q0 q1
          have hk6 := HKL.out
          go_wp2_with fail
          refine (ringI wr g b _ a HG.out (by omega)).mono ?_
          rintro e w3 ⟨v3, L, rfl, hR, hL, hB⟩
          obtain ⟨A3, c3, rfl⟩ := Kd.R_slice hR
          have HB3 := Aside0.mk (below_then HB.out HB.out.size hB)
          have HH3 := Aside0.mk (HH6.out.below hB)
          have HL := Aside0.mk hL
          have hll := hL.le ordI
          have HC3 := Aside0.mk (Kd.R_reads' hR).2.2
          clear hR hL hB
          go_wp2_with fail
          refine (named_calls w3 a).mono ?_
          rintro e w4 ⟨rfl, hB⟩
          have HB4 := Aside0.mk (below_then HB3.out HB3.out.size hB)
          have HH4 := Aside0.mk (HH3.out.below hB)
          have HC4 := Aside0.mk (Kd.C_below HC3.out hB)
          clear hB
          go_wp2_with fail
          refine (ringS w4 h d _ (nm a) HH4.out (by rw [List.length_map]; omega)).mono ?_
          rintro e wS ⟨v5, M, rfl, hR, hM, hB⟩
          obtain rfl := hM.unique ordS (ring_map HIN60.out HA.out HL.out)
          obtain ⟨A5, c5, rfl⟩ := Kd.R_slice hR
          have hR5 := (Kd.R_reads' hR).2.2
          have HB5 := Aside0.mk (below_then HB4.out HB4.out.size hB)
          have HCx := Aside0.mk (Kd.C_below HC4.out hB)
          rw [List.length_map] at hR5 ⊢
          have HCy := Aside0.mk hR5
          clear hR hM hB hR5 HG HH6 HH3 HH4 HC3 HC4 HL
          go_wp2_with fail
          go_loopg [10] L.length (fun gk v10 wt => ∃ i : Nat, Aside0 (i + gk = L.length) ∧ v10 = .int .i64 i ∧ i ≤ L.length ∧ Aside0 (Below w.heap.size w wt) ∧ Aside0 (Below wS.heap.size wS wt))
          case atStart => exact ⟨0, ⟨by omega⟩, rfl, Nat.zero_le _, HB5, ⟨Below.refl _ _⟩⟩
          case round =>
            obtain ⟨wt, rfl⟩ : ∃ wt, wt = wr := ⟨_, rfl⟩
            obtain ⟨i, HI, rfl, hil, HBt, HBi⟩ := hrel
            by_cases hi : i < L.length
            · obtain ⟨ad, rfl, hx0⟩ := int_at (Kd.C_below HCx.out HBi.out) rfl i hi
              obtain ⟨ad2, rfl, hx1⟩ := txt_at (Kd.C_below HCy.out HBi.out) i hi
              go_wp2_with fail
              -- [R
              refine start_ (n := 10) (S := fun wx => wx.cell? (ad.add i) = some (.int .i64 L[i]) ∧ wx.cell? (ad2.add i) = some (.string (nm L[i]))) (ds := []) #[false, false, false, false, false, false, false, false, false, false] (by kernel_rfl) rfl rfl (⟨hx0, hx1⟩) (fun hHeld => ?_)
              refine pure_ (i := 0) (N := some 117) (v := ?_) (a' := ?_) #[true, false, false, false, false, false, false, false, false, false] rfl rfl (by kernel_rfl) (fun _ _ _ h => h) (Or.inl ⟨by rfl, ?_⟩) ?_ ?_
              rotate_left
              · intro w'
                go_simp
                all_goals (with_reducible rfl)
              rotate_left
              · simp only [Act.put, List.setIfInBounds_toArray, List.set_cons_zero, List.set_cons_succ, i64_w, i32_w]
                rfl
              refine pure_ (i := 1) (N := some 118) (v := ?_) (a' := ?_) #[true, true, false, false, false, false, false, false, false, false] rfl rfl (by kernel_rfl) (fun _ _ _ h => h) (Or.inl ⟨by rfl, ?_⟩) ?_ ?_
              rotate_left
              · intro w'
                go_simp
                all_goals (with_reducible rfl)
              rotate_left
              · simp only [Act.put, List.setIfInBounds_toArray, List.set_cons_zero, List.set_cons_succ, i64_w, i32_w]
                rfl
              refine pure_ (i := 2) (N := some 119) (v := ?_) (a' := ?_) #[true, true, true, false, false, false, false, false, false, false] rfl rfl (by kernel_rfl) (fun _ _ _ h => h) (Or.inl ⟨by rfl, ?_⟩) ?_ ?_
              rotate_left
              · intro w'
                go_simp
                all_goals (with_reducible rfl)
              rotate_left
              · simp only [Act.put, List.setIfInBounds_toArray, List.set_cons_zero, List.set_cons_succ, i64_w, i32_w]
                rfl
              refine pure_ (i := 5) (N := some 122) (v := ?_) (a' := ?_) #[true, true, true, false, false, true, false, false, false, false] rfl rfl (by kernel_rfl) (fun _ _ _ h => h) (Or.inl ⟨by rfl, ?_⟩) ?_ ?_
              rotate_left
              · intro w'
                go_simp
                all_goals (with_reducible rfl)
              rotate_left
              · simp only [Act.put, List.setIfInBounds_toArray, List.set_cons_zero, List.set_cons_succ, i64_w, i32_w]
                rfl
              refine pure_ (i := 6) (N := some 123) (v := ?_) (a' := ?_) #[true, true, true, false, false, true, true, false, false, false] rfl rfl (by kernel_rfl) (fun _ _ _ h => h) (Or.inl ⟨by rfl, ?_⟩) ?_ ?_
              rotate_left
              · intro w'
                go_simp
                all_goals (with_reducible rfl)
              rotate_left
              · simp only [Act.put, List.setIfInBounds_toArray, List.set_cons_zero, List.set_cons_succ, i64_w, i32_w]
                rfl
              refine pure_ (i := 7) (N := some 124) (v := ?_) (a' := ?_) #[true, true, true, false, false, true, true, true, false, false] rfl rfl (by kernel_rfl) (fun _ _ _ h => h) (Or.inl ⟨by rfl, ?_⟩) ?_ ?_
              rotate_left
              · intro w'
                go_simp
                all_goals (with_reducible rfl)
              rotate_left
              · simp only [Act.put, List.setIfInBounds_toArray, List.set_cons_zero, List.set_cons_succ, i64_w, i32_w]
                rfl
              refine take_ (i := 3) (N := some 120) (v := ?_) (a' := ?_) #[true, true, true, true, false, true, true, true, false, false] rfl rfl (by kernel_rfl) (fun _ _ _ h => h) (Or.inl ⟨by rfl, ?_⟩) hHeld ?_ ?_
              rotate_left
              · intro w' hSw
                (try dsimp only at hSw)
                go_simp
                all_goals (with_reducible rfl)
              rotate_left
              · simp only [Act.put, List.setIfInBounds_toArray, List.set_cons_zero, List.set_cons_succ, i64_w, i32_w]
                rfl
              refine take_ (i := 8) (N := some 125) (v := ?_) (a' := ?_) #[true, true, true, true, false, true, true, true, true, false] rfl rfl (by kernel_rfl) (fun _ _ _ h => h) (Or.inl ⟨by rfl, ?_⟩) hHeld ?_ ?_
              rotate_left
              · intro w' hSw
                (try dsimp only at hSw)
                go_simp
                all_goals (with_reducible rfl)
              rotate_left
              · simp only [Act.put, List.setIfInBounds_toArray, List.set_cons_zero, List.set_cons_succ, i64_w, i32_w]
                rfl
              refine one_ (i := 4) (N := some 121) #[true, true, true, true, true, true, true, true, true, false] rfl rfl (by kernel_rfl) (by decide) (fun K hK => ?_)
              go_simp
              go_at_call 28
              refine (named_calls _ _).mono ?_
              rintro e wu ⟨rfl, hb⟩
              have HBu := Aside0.mk (below_then (below_drew HBt.out) HBt.out.size hb)
              have HBv := Aside0.mk (below_then (below_drew HBi.out) HBi.out.size hb)
              clear hb
              have y0 := int_cell (Kd.C_below HCx.out HBv.out) i hi (x := L[i]) rfl
              have y1 := txt_cell (Kd.C_below HCy.out HBv.out) i hi
              (try go_wp2_with fail)
              refine hK.out _ _ (⟨y0, y1⟩) (fun hHeld => ?_)
              clear hK K
              (try simp only [Act.put, List.setIfInBounds_toArray, List.set_cons_zero, List.set_cons_succ])
              refine pure_ (i := 9) (N := some 126) (v := ?_) (a' := ?_) #[true, true, true, true, true, true, true, true, true, true] rfl rfl (by kernel_rfl) (fun _ _ _ h => h) (Or.inl ⟨by rfl, ?_⟩) ?_ ?_
              rotate_left
              · intro w'
                go_simp
                all_goals (with_reducible rfl)
              rotate_left
              · simp only [Act.put, List.setIfInBounds_toArray, List.set_cons_zero, List.set_cons_succ, i64_w, i32_w]
                rfl
              refine done_ (by kernel_rfl) ?_
              clear y0 y1 hx0 hx1
              go_wp2_with fail
              go_roundg (gk - 1)
              case measure => have := HI.out; omega
              case rel => exact ⟨i + 1, ⟨by have := HI.out; omega⟩, by go_num, by omega, HBu, HBv⟩
              -- R]
            · obtain rfl : i = L.length := by omega
              clear HCx HCy
              go_wp2_with fail
              refine (victimI_nil wt a).mono ?_
              rintro e u1 ⟨rfl, hB⟩
              have HU1 := Aside0.mk (below_then HBt.out HBt.out.size hB)
              clear hB
              go_wp2_with fail
              refine (addI_nil u1 a a).mono ?_
              rintro e u2 ⟨rfl, rfl⟩
              go_wp2_with fail
              refine (dropI_nil u1 a a).mono ?_
              rintro e u2 ⟨rfl, rfl⟩
              go_wp2_with fail
              refine (goneI_nil u1 a).mono ?_
              rintro e u2 ⟨rfl, rfl⟩
              go_wp2_with fail
              refine (lenI_nil u1).mono ?_
              rintro e u2 ⟨rfl, rfl⟩
              go_wp2_with fail
              refine (ringI_nil u1 a).mono ?_
              rintro e u2 ⟨A9, c9, rfl, hB⟩
              have HU2 := Aside0.mk (below_then HU1.out HU1.out.size hB)
              clear hB
              go_wp2_with fail
              refine (leadsI_nil u2 a a).mono ?_
              rintro e u3 ⟨r, rfl, hr, hB⟩
              obtain rfl : r = false := by cases r with | false => rfl | true => exact (reach_nil (hr.1 rfl)).elim
              have HU3 := Aside0.mk (below_then HU2.out HU2.out.size hB)
              clear hB hr
              go_wp2_with fail
              refine (lives_calls u3).mono ?_
              rintro e wL ⟨rfl, hB⟩
              have HBL := Aside0.mk (below_then HU3.out HU3.out.size hB)
              clear hB
              go_wp2_with fail
              go_ret
              exact ⟨rfl, HBL.out⟩
        -- E]
end Go.Proofs.Ytgjjfldfdkoedaa
