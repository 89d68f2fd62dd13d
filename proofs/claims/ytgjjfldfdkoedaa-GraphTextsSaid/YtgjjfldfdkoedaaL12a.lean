/- Layer 12: GraphLeads' walk. -/
import Derived.Test.YtgjjfldfdkoedaaGf
namespace Go.Proofs.Ytgjjfldfdkoedaa
open Go.RowKit Go.Proofs.YtgjjfldfdkoedaaW.PrintWords Go.Proofs.YtgjjfldfdkoedaaW.PrintLast Go.Proofs.YtgjjfldfdkoedaaW.PrintMore
open Rf MapL Graph
set_option linter.unusedVariables false
set_option linter.unusedSimpArgs false
theorem edges_small (l : List SGEdge) : (edgesOf (l.take 60)).length ≤ 60 := by
  have := edgesOf_length (l.take 60)
  have h2 : (l.take 60).length ≤ 60 := List.length_take_le _ _
  omega
theorem edges_mem (l : List SGEdge) (k : Nat) (h1 : k < l.length) (h2 : k < 60) : ((rd_TGEdge l k).f0, (rd_TGEdge l k).f1) ∈ edgesOf (l.take 60) := by
  rw [mem_edgesOf, edge_get l k h1]
  exact List.mem_map.2 ⟨l[k], List.mem_iff_getElem?.2 ⟨k, by rw [List.getElem?_take_of_lt h2, List.getElem?_eq_getElem h1]⟩, rfl⟩
set_option maxRecDepth 100000 in
set_option maxHeartbeats 4000000 in
theorem leads_walk (w : World) (A : Option Addr) (c : Nat) (l : List SGEdge) (x y z : Int) (hC : Kd.C kGEdge w A l.length l) (hl : l.length ≤ 140737488351232) :
    Calls Try.prog 3 #[.slice A l.length c, .agg #[.int .i64 x, .int .i64 y, .int .i64 z]] w fun e w' => e = .returned (.bool true) ∧ Below w.heap.size w w' := by
  have HC := Aside0.mk hC
  clear hC
  go_enter Try.func3, Try.ntmps3
  go_wp2_with fail
  have hb0 : Below w.heap.size w (w.alloc (.cells #[.int .i64 x, .int .i64 y, .int .i64 z] 23)) := below_alloc (Below.refl _ _) _
  go_quiet (fail)
  have hb1 := pw_below_drewN hb0 nq
  generalize (w.alloc (.cells #[.int .i64 x, .int .i64 y, .int .i64 z] 23)).drewN nq = w0 at hb1 ⊢
  have HB0 := Aside0.mk hb1
  clear hb0 hb1
  go_wp2_with fail
  refine (made_calls w0 A c l (Kd.C_below HC.out HB0.out) hl).mono ?_
  rintro e w1 ⟨g, b, rfl, hg, hb, hG, hB⟩
  have HG1 := Aside0.mk hG
  have HB1 := Aside0.mk (below_then HB0.out HB0.out.size hB)
  have HKL := Aside0.mk (edges_small l)
  clear hg hb hG hB
  go_wp2_with fail
  go_loopg [9] 60 (fun gk v9 wr => ∃ k : Nat, Aside0 (k + gk = 60) ∧ v9 = .int .i64 k ∧ k ≤ l.length ∧ Aside0 (GrI wr g b (edgesOf (l.take 60))) ∧ Aside0 (Below w.heap.size w wr))
  case atStart => exact ⟨0, ⟨rfl⟩, rfl, Nat.zero_le _, HG1, HB1⟩
  case round =>
    obtain ⟨k, HK, rfl, hkl, HG, HB⟩ := hrel
    clear HG1 HB1
    have hk60 : k ≤ 60 := by have := HK.out; omega
    by_cases hlt : k < l.length ∧ k < 60
    · obtain ⟨h1, h2⟩ := hlt
      obtain ⟨ad, rfl, hx0, hx1⟩ := edge_at (Kd.C_below HC.out HB.out) k h1
      have HM := Aside0.mk (edges_mem l k h1 h2)
      go_wp2_with fail
      -- [M
      refine start_ (n := 13) (S := fun wx => wx.cell? (ad.add (k * 2)) = some (.int .i64 (rd_TGEdge l k).f0) ∧ wx.cell? ⟨(ad.add (k * 2)).block, (ad.add (k * 2)).off + 1, none⟩ = some (.int .i64 (rd_TGEdge l k).f1)) (ds := []) #[false, false, false, false, false, false, false, false, false, false, false, false, false] (by kernel_rfl) rfl rfl (⟨hx0, hx1⟩) (fun hHeld => ?_)
      refine pure_ (i := 0) (N := some 30) (v := ?_) (a' := ?_) #[true, false, false, false, false, false, false, false, false, false, false, false, false] rfl rfl (by kernel_rfl) (fun _ _ _ h => h) (Or.inl ⟨by rfl, ?_⟩) ?_ ?_
      rotate_left
      · intro w'
        go_simp
        all_goals (with_reducible rfl)
      rotate_left
      · simp only [Act.put, List.setIfInBounds_toArray, List.set_cons_zero, List.set_cons_succ, i64_w, i32_w]
        rfl
      refine pure_ (i := 1) (N := some 31) (v := ?_) (a' := ?_) #[true, true, false, false, false, false, false, false, false, false, false, false, false] rfl rfl (by kernel_rfl) (fun _ _ _ h => h) (Or.inl ⟨by rfl, ?_⟩) ?_ ?_
      rotate_left
      · intro w'
        go_simp
        all_goals (with_reducible rfl)
      rotate_left
      · simp only [Act.put, List.setIfInBounds_toArray, List.set_cons_zero, List.set_cons_succ, i64_w, i32_w]
        rfl
      refine pure_ (i := 2) (N := some 32) (v := ?_) (a' := ?_) #[true, true, true, false, false, false, false, false, false, false, false, false, false] rfl rfl (by kernel_rfl) (fun _ _ _ h => h) (Or.inl ⟨by rfl, ?_⟩) ?_ ?_
      rotate_left
      · intro w'
        go_simp
        all_goals (with_reducible rfl)
      rotate_left
      · simp only [Act.put, List.setIfInBounds_toArray, List.set_cons_zero, List.set_cons_succ, i64_w, i32_w]
        rfl
      refine pure_ (i := 3) (N := some 33) (v := ?_) (a' := ?_) #[true, true, true, true, false, false, false, false, false, false, false, false, false] rfl rfl (by kernel_rfl) (fun _ _ _ h => h) (Or.inl ⟨by rfl, ?_⟩) ?_ ?_
      rotate_left
      · intro w'
        go_simp
        all_goals (with_reducible rfl)
      rotate_left
      · simp only [Act.put, List.setIfInBounds_toArray, List.set_cons_zero, List.set_cons_succ, i64_w, i32_w]
        rfl
      refine pure_ (i := 4) (N := some 34) (v := ?_) (a' := ?_) #[true, true, true, true, true, false, false, false, false, false, false, false, false] rfl rfl (by kernel_rfl) (fun _ _ _ h => h) (Or.inl ⟨by rfl, ?_⟩) ?_ ?_
      rotate_left
      · intro w'
        go_simp
        all_goals (with_reducible rfl)
      rotate_left
      · simp only [Act.put, List.setIfInBounds_toArray, List.set_cons_zero, List.set_cons_succ, i64_w, i32_w]
        rfl
      refine pure_ (i := 6) (N := some 36) (v := ?_) (a' := ?_) #[true, true, true, true, true, false, true, false, false, false, false, false, false] rfl rfl (by kernel_rfl) (fun _ _ _ h => h) (Or.inl ⟨by rfl, ?_⟩) ?_ ?_
      rotate_left
      · intro w'
        go_simp
        all_goals (with_reducible rfl)
      rotate_left
      · simp only [Act.put, List.setIfInBounds_toArray, List.set_cons_zero, List.set_cons_succ, i64_w, i32_w]
        rfl
      refine pure_ (i := 7) (N := some 37) (v := ?_) (a' := ?_) #[true, true, true, true, true, false, true, true, false, false, false, false, false] rfl rfl (by kernel_rfl) (fun _ _ _ h => h) (Or.inl ⟨by rfl, ?_⟩) ?_ ?_
      rotate_left
      · intro w'
        go_simp
        all_goals (with_reducible rfl)
      rotate_left
      · simp only [Act.put, List.setIfInBounds_toArray, List.set_cons_zero, List.set_cons_succ, i64_w, i32_w]
        rfl
      refine pure_ (i := 8) (N := some 38) (v := ?_) (a' := ?_) #[true, true, true, true, true, false, true, true, true, false, false, false, false] rfl rfl (by kernel_rfl) (fun _ _ _ h => h) (Or.inl ⟨by rfl, ?_⟩) ?_ ?_
      rotate_left
      · intro w'
        go_simp
        all_goals (with_reducible rfl)
      rotate_left
      · simp only [Act.put, List.setIfInBounds_toArray, List.set_cons_zero, List.set_cons_succ, i64_w, i32_w]
        rfl
      refine pure_ (i := 9) (N := some 39) (v := ?_) (a' := ?_) #[true, true, true, true, true, false, true, true, true, true, false, false, false] rfl rfl (by kernel_rfl) (fun _ _ _ h => h) (Or.inl ⟨by rfl, ?_⟩) ?_ ?_
      rotate_left
      · intro w'
        go_simp
        all_goals (with_reducible rfl)
      rotate_left
      · simp only [Act.put, List.setIfInBounds_toArray, List.set_cons_zero, List.set_cons_succ, i64_w, i32_w]
        rfl
      refine take_ (i := 5) (N := some 35) (v := ?_) (a' := ?_) #[true, true, true, true, true, true, true, true, true, true, false, false, false] rfl rfl (by kernel_rfl) (fun _ _ _ h => h) (Or.inl ⟨by rfl, ?_⟩) hHeld ?_ ?_
      rotate_left
      · intro w' hSw
        (try dsimp only at hSw)
        go_simp
        all_goals (with_reducible rfl)
      rotate_left
      · simp only [Act.put, List.setIfInBounds_toArray, List.set_cons_zero, List.set_cons_succ, i64_w, i32_w]
        rfl
      refine take_ (i := 10) (N := some 40) (v := ?_) (a' := ?_) #[true, true, true, true, true, true, true, true, true, true, true, false, false] rfl rfl (by kernel_rfl) (fun _ _ _ h => h) (Or.inl ⟨by rfl, ?_⟩) hHeld ?_ ?_
      rotate_left
      · intro w' hSw
        (try dsimp only at hSw)
        go_simp
        all_goals (with_reducible rfl)
      rotate_left
      · simp only [Act.put, List.setIfInBounds_toArray, List.set_cons_zero, List.set_cons_succ, i64_w, i32_w]
        rfl
      refine one_ (i := 11) (N := some 41) #[true, true, true, true, true, true, true, true, true, true, true, true, false] rfl rfl (by kernel_rfl) (by decide) (fun K hK => ?_)
      go_simp
      go_at_call 10
      refine (leadsI _ g b _ _ _ (HG.out.below (below_drew (Below.refl _ _))) (by have := HKL.out; omega)).mono ?_
      rintro e w2 ⟨r, rfl, hr, hb⟩
      obtain rfl : r = true := hr.2 (.edge HM.out)
      have HB2 := Aside0.mk (below_then (below_drew HB.out) HB.out.size hb)
      have HG2 := Aside0.mk (HG.out.below (below_then (below_drew (Below.refl wr.heap.size wr)) (Nat.le_refl _) hb))
      have hy := edge_at (Kd.C_below HC.out HB2.out) k h1
      obtain ⟨ad', hae, y0, y1⟩ := hy
      obtain rfl := Option.some.inj hae
      clear hr hb
      (try go_wp2_with fail)
      refine hK.out _ _ (⟨y0, y1⟩) (fun hHeld => ?_)
      clear hK K
      (try simp only [Act.put, List.setIfInBounds_toArray, List.set_cons_zero, List.set_cons_succ])
      refine pure_ (i := 12) (N := some 42) (v := ?_) (a' := ?_) #[true, true, true, true, true, true, true, true, true, true, true, true, true] rfl rfl (by kernel_rfl) (fun _ _ _ h => h) (Or.inl ⟨by rfl, ?_⟩) ?_ ?_
      rotate_left
      · intro w'
        go_simp
        all_goals (with_reducible rfl)
      rotate_left
      · simp only [Act.put, List.setIfInBounds_toArray, List.set_cons_zero, List.set_cons_succ, i64_w, i32_w]
        rfl
      refine done_ (by kernel_rfl) ?_
      clear y0 y1 hx0 hx1
      go_wp2_with fail
      go_roundg (gk - 1)
      case measure => have := HK.out; omega
      case rel => exact ⟨k + 1, ⟨by have := HK.out; omega⟩, by go_num, by omega, HG2, HB2⟩
      -- M]
    · have hend : ∀ W, Below w.heap.size w W → GrI W g b (edgesOf (l.take 60)) → True := fun _ _ _ => trivial
      clear hend
      by_cases h1 : k < l.length
      · have h2 : ¬ k < 60 := by omega
        -- [E
        go_wp2_with fail
        refine (leadsI wr g b _ x y HG.out (by have := HKL.out; omega)).mono ?_
        rintro e wa ⟨r1, rfl, hr1, hb⟩
        have HBa := Aside0.mk (below_then HB.out HB.out.size hb)
        have HGa := Aside0.mk (HG.out.below hb)
        have HR1 := Aside0.mk hr1
        clear hb hr1
        cases r1 with
        | false =>
          go_wp2_with fail
          refine (lives_calls _).mono ?_
          rintro e wl ⟨rfl, hb⟩
          have HBl := Aside0.mk (below_then HBa.out HBa.out.size hb)
          clear hb
          go_wp2_with fail
          go_ret
          exact ⟨rfl, HBl.out⟩
        | true =>
          have HT1 := Aside0.mk (HR1.out.1 rfl)
          clear HR1
          go_wp2_with fail
          refine (leadsI wa g b _ y z HGa.out (by have := HKL.out; omega)).mono ?_
          rintro e wb ⟨r2, rfl, hr2, hb⟩
          have HBb := Aside0.mk (below_then HBa.out HBa.out.size hb)
          have HGb := Aside0.mk (HGa.out.below hb)
          have HR2 := Aside0.mk hr2
          clear hb hr2
          cases r2 with
          | false =>
            go_wp2_with fail
            refine (lives_calls _).mono ?_
            rintro e wl ⟨rfl, hb⟩
            have HBl := Aside0.mk (below_then HBb.out HBb.out.size hb)
            clear hb
            go_wp2_with fail
            go_ret
            exact ⟨rfl, HBl.out⟩
          | true =>
            have HT2 := Aside0.mk (HR2.out.1 rfl)
            clear HR2
            go_wp2_with fail
            refine (leadsI wb g b _ x z HGb.out (by have := HKL.out; omega)).mono ?_
            rintro e wc ⟨r3, rfl, hr3, hb⟩
            obtain rfl : r3 = true := hr3.2 (HT1.out.trans HT2.out)
            have HBc := Aside0.mk (below_then HBb.out HBb.out.size hb)
            clear hb hr3
            go_wp2_with fail
            refine (lives_calls _).mono ?_
            rintro e wl ⟨rfl, hb⟩
            have HBl := Aside0.mk (below_then HBc.out HBc.out.size hb)
            clear hb
            go_wp2_with fail
            go_ret
            exact ⟨rfl, HBl.out⟩
        -- E]
      · have h3 : l.length ≤ k := by omega
        -- [F
        go_wp2_with fail
        refine (leadsI wr g b _ x y HG.out (by have := HKL.out; omega)).mono ?_
        rintro e wa ⟨r1, rfl, hr1, hb⟩
        have HBa := Aside0.mk (below_then HB.out HB.out.size hb)
        have HGa := Aside0.mk (HG.out.below hb)
        have HR1 := Aside0.mk hr1
        clear hb hr1
        cases r1 with
        | false =>
          go_wp2_with fail
          refine (lives_calls _).mono ?_
          rintro e wl ⟨rfl, hb⟩
          have HBl := Aside0.mk (below_then HBa.out HBa.out.size hb)
          clear hb
          go_wp2_with fail
          go_ret
          exact ⟨rfl, HBl.out⟩
        | true =>
          have HT1 := Aside0.mk (HR1.out.1 rfl)
          clear HR1
          go_wp2_with fail
          refine (leadsI wa g b _ y z HGa.out (by have := HKL.out; omega)).mono ?_
          rintro e wb ⟨r2, rfl, hr2, hb⟩
          have HBb := Aside0.mk (below_then HBa.out HBa.out.size hb)
          have HGb := Aside0.mk (HGa.out.below hb)
          have HR2 := Aside0.mk hr2
          clear hb hr2
          cases r2 with
          | false =>
            go_wp2_with fail
            refine (lives_calls _).mono ?_
            rintro e wl ⟨rfl, hb⟩
            have HBl := Aside0.mk (below_then HBb.out HBb.out.size hb)
            clear hb
            go_wp2_with fail
            go_ret
            exact ⟨rfl, HBl.out⟩
          | true =>
            have HT2 := Aside0.mk (HR2.out.1 rfl)
            clear HR2
            go_wp2_with fail
            refine (leadsI wb g b _ x z HGb.out (by have := HKL.out; omega)).mono ?_
            rintro e wc ⟨r3, rfl, hr3, hb⟩
            obtain rfl : r3 = true := hr3.2 (HT1.out.trans HT2.out)
            have HBc := Aside0.mk (below_then HBb.out HBb.out.size hb)
            clear hb hr3
            go_wp2_with fail
            refine (lives_calls _).mono ?_
            rintro e wl ⟨rfl, hb⟩
            have HBl := Aside0.mk (below_then HBc.out HBc.out.size hb)
            clear hb
            go_wp2_with fail
            go_ret
            exact ⟨rfl, HBl.out⟩
        -- F]
end Go.Proofs.Ytgjjfldfdkoedaa
