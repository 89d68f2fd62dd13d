/- find's step over one record. -/
import Derived.Test.YtaahfokdgfopcaaZFm
import Derived.Test.YtaahfokdgfopcaaZBx
import Derived.Deep.DeepCutAuto
import Derived.Deep.CutBlock
namespace Go.Proofs.Ytaahfokdgfopcaa
open Go.RowKit Go.Proofs.YtaahfokdgfopcaaW.PrintWords Go.Proofs.YtaahfokdgfopcaaW.PrintLast Go.Proofs.YtaahfokdgfopcaaW.PrintMore
open Rf MapL MapV
set_option linter.unusedVariables false
set_option linter.unusedSimpArgs false
theorem grown_set2 (w : World) (q j : Nat) (v : Value) : w.grownBy (w.setCell ⟨q, j, none⟩ v) (some q) := ⟨rfl, rfl, rfl, by simp [World.setCell], fun k hk hne => Below.heap_setCell _ ⟨q, j, none⟩ _ k (fun e => hne (by rw [e]))⟩
theorem wasG_ex (s : Wst) (id : Int) : ∃ i0 : Int, (if id ∈ s.ks then gV s.F id else .agg #[.int .i64 0, .int .i64 0, .int .u64 0, .int .u64 0]) = .agg #[.int .i64 i0, .int .i64 (wasG s id).st, .int .u64 (wasG s id).last, .int .u64 (wasG s id).next] := by
  unfold wasG
  by_cases h : id ∈ s.ks
  · rw [if_pos h, if_pos h]; exact ⟨id, rfl⟩
  · rw [if_neg h, if_neg h]; exact ⟨0, rfl⟩
/-- What is put down behind a record. -/
theorem tail_st (s : Wst) (r : SGRecord) (p : Int) (l : Int) : wasG (putD s p l) r.f2 = wasG s r.f2 := by
  unfold putD
  split <;> rfl
set_option maxRecDepth 100000 in
set_option maxHeartbeats 8000000 in
theorem step_calls (b : Wb) (w : World) (m1 m2 : Nat) (s : Wst) (r : SGRecord) (At : Option Addr) (lt ct : Nat) (Ad : Option Addr) (ld cd : Nat) (h : Walks b w m1 m2 s) :
    Calls Try.prog 41 #[.agg #[.map (some m1), .map (some m2)], .agg #[.int .i64 r.f0, .int .u64 r.f1, .int .i64 r.f2, .int .u64 r.f3, .int .u64 r.f4, .int .i64 r.f5, .int .i64 r.f6.f0, .string r.f6.f1, .string r.f6.f2, .string r.f6.f3, .slice At lt ct, .slice Ad ld cd]] w fun e w' => e = .returned (.tuple #[]) ∧ Walks b w' m1 m2 (stepW s r) := by
  have HW := Aside0.mk h
  have HL1 := Aside0.mk h.tx.lt
  have HL2 := Aside0.mk h.di.lt
  have HBS := Aside0.mk h.bel.size
  clear h
  go_enter Try.func41, Try.ntmps41
  go_upto_region 1 with fail
  have hba := below_alloc (below_alloc (Below.refl w.heap.size w) (.cells #[.map (some m1), .map (some m2)] 79)) (.cells #[.int .i64 r.f0, .int .u64 r.f1, .int .i64 r.f2, .int .u64 r.f3, .int .u64 r.f4, .int .i64 r.f5, .int .i64 r.f6.f0, .string r.f6.f1, .string r.f6.f2, .string r.f6.f3, .slice At lt ct, .slice Ad ld cd] 43)
  have hbm := blk_alloc (heap_alloc_new w (.cells #[.map (some m1), .map (some m2)] 79)) (.cells #[.int .i64 r.f0, .int .u64 r.f1, .int .i64 r.f2, .int .u64 r.f3, .int .u64 r.f4, .int .i64 r.f5, .int .i64 r.f6.f0, .string r.f6.f1, .string r.f6.f2, .string r.f6.f3, .slice At lt ct, .slice Ad ld cd] 43)
  have hbr : ((w.alloc (.cells #[.map (some m1), .map (some m2)] 79)).alloc (.cells #[.int .i64 r.f0, .int .u64 r.f1, .int .i64 r.f2, .int .u64 r.f3, .int .u64 r.f4, .int .i64 r.f5, .int .i64 r.f6.f0, .string r.f6.f1, .string r.f6.f2, .string r.f6.f3, .slice At lt ct, .slice Ad ld cd] 43)).heap[w.heap.size + 1]? = some (.cells #[.int .i64 r.f0, .int .u64 r.f1, .int .i64 r.f2, .int .u64 r.f3, .int .u64 r.f4, .int .i64 r.f5, .int .i64 r.f6.f0, .string r.f6.f1, .string r.f6.f2, .string r.f6.f3, .slice At lt ct, .slice Ad ld cd] 43 (0, 0)) := by
    have := heap_alloc_new (w.alloc (.cells #[.map (some m1), .map (some m2)] 79)) (.cells #[.int .i64 r.f0, .int .u64 r.f1, .int .i64 r.f2, .int .u64 r.f3, .int .u64 r.f4, .int .i64 r.f5, .int .i64 r.f6.f0, .string r.f6.f1, .string r.f6.f2, .string r.f6.f3, .slice At lt ct, .slice Ad ld cd] 43)
    rwa [World.size_alloc] at this
  have HWa := Aside0.mk (HW.out.next hba)
  have HMa := Aside0.mk hbm
  have HRa := Aside0.mk hbr
  obtain ⟨B2, hB2⟩ : ∃ x, x = w.heap.size := ⟨_, rfl⟩
  generalize (w.alloc (.cells #[.map (some m1), .map (some m2)] 79)).alloc (.cells #[.int .i64 r.f0, .int .u64 r.f1, .int .i64 r.f2, .int .u64 r.f3, .int .u64 r.f4, .int .i64 r.f5, .int .i64 r.f6.f0, .string r.f6.f1, .string r.f6.f2, .string r.f6.f3, .slice At lt ct, .slice Ad ld cd] 43) = wa at HWa HMa HRa ⊢
  rw [← hB2] at HMa HRa ⊢
  have HN := Aside0.mk (show B2 ≠ m1 ∧ B2 ≠ m2 ∧ B2 + 1 ≠ m1 ∧ B2 + 1 ≠ m2 ∧ b.w.heap.size ≤ B2 from ⟨by have := HL1.out; omega, by have := HL2.out; omega, by have := HL1.out; omega, by have := HL2.out; omega, by rw [hB2]; exact HBS.out⟩)
  clear hba hbm hbr hB2 HW HL1 HL2 HBS
  have y0 := blk_cell HMa.out 0
  have y1 := blk_cell HMa.out 1
  have x0 := blk_cell HRa.out 0
  have x1 := blk_cell HRa.out 1
  have x2 := blk_cell HRa.out 2
  have x4 := blk_cell HRa.out 4
  have x5 := blk_cell HRa.out 5
  by_cases h78 : r.f0 = 7 ∨ r.f0 = 8
  · have HS := Aside0.mk (show stepW s r = s from by unfold stepW; rw [if_pos h78])
    by_cases h7 : r.f0 = 7
    · have e7 : (r.f0 == 7) = true := by simpa using h7
      clear h78 h7
      go_wp2_with fail
      refine bodyPost_ret (results_none rfl _ _ _) rfl ?_
      exact ⟨rfl, by rw [HS.out]; exact HWa.out⟩
    · have e7 : (r.f0 == 7) = false := by simpa using h7
      have e8 : (r.f0 == 8) = true := by simp; omega
      clear h78 h7
      go_wp2_with fail
      refine bodyPost_ret (results_none rfl _ _ _) rfl ?_
      exact ⟨rfl, by rw [HS.out]; exact HWa.out⟩
  · have e7 : (r.f0 == 7) = false := by simp; omega
    have e8 : (r.f0 == 8) = false := by simp; omega
    by_cases h35 : r.f0 = 3 ∨ r.f0 = 5
    · have HS := Aside0.mk (show stepW s r = delT s r.f2 from by unfold stepW; rw [if_neg h78, if_pos h35])
      obtain ⟨wd, hd, hw, hg⟩ := HWa.out.delT_ r.f2
      have HWd := Aside0.mk hw
      clear hw hg
      by_cases h3 : r.f0 = 3
      · have e3 : (r.f0 == 3) = true := by simpa using h3
        clear h78 h35 h3
        go_wp2_with fail
        refine bodyPost_ret (results_none rfl _ _ _) rfl ?_
        exact ⟨rfl, by rw [HS.out]; exact HWd.out⟩
      · have e3 : (r.f0 == 3) = false := by simpa using h3
        have e5 : (r.f0 == 5) = true := by simp; omega
        clear h78 h35 h3
        go_wp2_with fail
        refine bodyPost_ret (results_none rfl _ _ _) rfl ?_
        exact ⟨rfl, by rw [HS.out]; exact HWd.out⟩
    · have e3 : (r.f0 == 3) = false := by simp; omega
      have e5 : (r.f0 == 5) = false := by simp; omega
      by_cases h1 : r.f0 = 1
      · have HS := Aside0.mk (show stepW s r = putT (putD s r.f5 r.f1) r.f2 (newG (wasG s r.f2) r) from by unfold stepW; rw [if_neg h78, if_neg h35, if_pos (.inl h1)])
        have HNG := Aside0.mk (show newG (wasG s r.f2) r = ⟨(wasG s r.f2).st, r.f1, r.f1⟩ from by unfold newG; rw [if_neg (by omega), if_pos h1])
        have e1 : (r.f0 == 1) = true := by simpa using h1
        clear h78 h35 h1
        have hok := HWa.out.ok2 r.f5
        by_cases hp : r.f5 ∈ s.ds
        · rw [if_pos hp] at hok
          have hds : putD s r.f5 r.f1 = s := by unfold putD; rw [if_pos hp]
          have HWb := Aside0.mk (show Walks b wa m1 m2 (putD s r.f5 r.f1) from by rw [hds]; exact HWa.out)
          have HMb := HMa
          have HRb := HRa
          clear hp hds
          have HTS := tail_st s r r.f5 r.f1
          obtain ⟨i0, hi0⟩ := wasG_ex (putD s r.f5 r.f1) r.f2
          rw [HTS] at hi0
          clear HTS
          have hlk := HWb.out.look1 r.f2
          rw [hi0] at hlk
          clear hi0
          go_upto_region 13 with fail
          have hbg := heap_alloc_new wa (.cells #[.int .i64 i0, .int .i64 (wasG s r.f2).st, .int .u64 (wasG s r.f2).last, .int .u64 (wasG s r.f2).next] 91)
          have hbb := below_alloc (Below.refl wa.heap.size wa) (.cells #[.int .i64 i0, .int .i64 (wasG s r.f2).st, .int .u64 (wasG s r.f2).last, .int .u64 (wasG s r.f2).next] 91)
          have HWc := Aside0.mk (HWb.out.next hbb)
          have HMc := Aside0.mk (blk_below HMb.out hbb)
          have HRc := Aside0.mk (blk_below HRb.out hbb)
          have HGc := Aside0.mk hbg
          have HNG2 := Aside0.mk (show wa.heap.size ≠ m1 ∧ wa.heap.size ≠ m2 ∧ b.w.heap.size ≤ wa.heap.size ∧ wa.heap.size ≠ B2 ∧ wa.heap.size ≠ B2 + 1 from ⟨by have := HWb.out.tx.lt; omega, by have := HWb.out.di.lt; omega, HWb.out.bel.size, by have := blk_lt HMb.out; omega, by have := blk_lt HRb.out; omega⟩)
          obtain ⟨G, hG⟩ : ∃ x, x = wa.heap.size := ⟨_, rfl⟩
          generalize wa.alloc (.cells #[.int .i64 i0, .int .i64 (wasG s r.f2).st, .int .u64 (wasG s r.f2).last, .int .u64 (wasG s r.f2).next] 91) = wc at HWc HMc HRc HGc ⊢
          rw [← hG] at HGc HNG2 ⊢
          clear hbg hbb hG hlk HWb HMb HRb y0 y1 x0 x1 x2 x4 x5 hok
          go_cut [] (fun wx => Aside0 (Walks b wx m1 m2 (putD s r.f5 r.f1)) ∧ Aside0 (wx.heap[B2]? = some (.cells #[.map (some m1), .map (some m2)] 79 (0, 0))) ∧ Aside0 (wx.heap[B2 + 1]? = some (.cells #[.int .i64 r.f0, .int .u64 r.f1, .int .i64 r.f2, .int .u64 r.f3, .int .u64 r.f4, .int .i64 r.f5, .int .i64 r.f6.f0, .string r.f6.f1, .string r.f6.f2, .string r.f6.f3, .slice At lt ct, .slice Ad ld cd] 43 (0, 0))) ∧ Aside0 (wx.heap[G]? = some (.cells #[.int .i64 r.f2, .int .i64 (wasG s r.f2).st, .int .u64 r.f1, .int .u64 (wasG s r.f2).next] 91 (0, 0))))
          case first =>
            have HWk := Aside0.mk (HWc.out.next (below_drew (Below.refl _ _)))
            have HMk := Aside0.mk (blk_drew HMc.out)
            have HRk := Aside0.mk (blk_drew HRc.out)
            have HGk := Aside0.mk (blk_drew HGc.out)
            clear HWc HMc HRc HGc
            refine start_ (n := 10) (S := fun wx => wx.cell? ⟨B2 + 1, 2, none⟩ = some (.int .i64 r.f2) ∧ wx.cell? ⟨B2 + 1, 1, none⟩ = some (.int .u64 r.f1)) (ds := []) #[false, false, false, false, false, false, false, false, false, false] (by kernel_rfl) rfl rfl (⟨blk_cell HRk.out 2, blk_cell HRk.out 1⟩) (fun hHeld => ?_)
            refine pure_ (i := 0) (N := some 43) (v := ?_) (a' := ?_) #[true, false, false, false, false, false, false, false, false, false] rfl rfl (by kernel_rfl) (fun _ _ _ h => h) (Or.inl ⟨by rfl, ?_⟩) ?_ ?_
            rotate_left
            · intro w'
              go_simp
              all_goals (with_reducible rfl)
            rotate_left
            · simp only [Act.put, List.setIfInBounds_toArray, List.set_cons_zero, List.set_cons_succ, i64_w, i32_w]
              rfl
            refine pure_ (i := 2) (N := some 45) (v := ?_) (a' := ?_) #[true, false, true, false, false, false, false, false, false, false] rfl rfl (by kernel_rfl) (fun _ _ _ h => h) (Or.inl ⟨by rfl, ?_⟩) ?_ ?_
            rotate_left
            · intro w'
              go_simp
              all_goals (with_reducible rfl)
            rotate_left
            · simp only [Act.put, List.setIfInBounds_toArray, List.set_cons_zero, List.set_cons_succ, i64_w, i32_w]
              rfl
            refine take_ (i := 1) (N := some 44) (v := ?_) (a' := ?_) #[true, true, true, false, false, false, false, false, false, false] rfl rfl (by kernel_rfl) (fun _ _ _ h => h) (Or.inl ⟨by rfl, ?_⟩) hHeld ?_ ?_
            rotate_left
            · intro w' hSw
              (try dsimp only at hSw)
              go_simp
              all_goals (with_reducible rfl)
            rotate_left
            · simp only [Act.put, List.setIfInBounds_toArray, List.set_cons_zero, List.set_cons_succ, i64_w, i32_w]
              rfl
            refine pure_ (i := 4) (N := some 47) (v := ?_) (a' := ?_) #[true, true, true, false, true, false, false, false, false, false] rfl rfl (by kernel_rfl) (fun _ _ _ h => h) (Or.inl ⟨by rfl, ?_⟩) ?_ ?_
            rotate_left
            · intro w'
              go_simp
              all_goals (with_reducible rfl)
            rotate_left
            · simp only [Act.put, List.setIfInBounds_toArray, List.set_cons_zero, List.set_cons_succ, i64_w, i32_w]
              rfl
            refine pure_ (i := 5) (N := some 48) (v := ?_) (a' := ?_) #[true, true, true, false, true, true, false, false, false, false] rfl rfl (by kernel_rfl) (fun _ _ _ h => h) (Or.inl ⟨by rfl, ?_⟩) ?_ ?_
            rotate_left
            · intro w'
              go_simp
              all_goals (with_reducible rfl)
            rotate_left
            · simp only [Act.put, List.setIfInBounds_toArray, List.set_cons_zero, List.set_cons_succ, i64_w, i32_w]
              rfl
            refine take_ (i := 3) (N := some 46) (v := ?_) (a' := ?_) #[true, true, true, true, true, true, false, false, false, false] rfl rfl (by kernel_rfl) (fun _ _ _ h => h) (Or.inl ⟨by rfl, ?_⟩) hHeld ?_ ?_
            rotate_left
            · intro w' hSw
              (try dsimp only at hSw)
              go_simp
              all_goals (with_reducible rfl)
            rotate_left
            · simp only [Act.put, List.setIfInBounds_toArray, List.set_cons_zero, List.set_cons_succ, i64_w, i32_w]
              rfl
            refine one_ (i := 6) (N := none) #[true, true, true, true, true, true, true, false, false, false] rfl rfl (by kernel_rfl) (by decide) (fun K hK => ?_)
            refine store_cell (t := 3) (i := 0) (v := .int .i64 r.f2) rfl (by rfl) rfl (by rfl) (by rfl) rfl HGk.out (Nat.le_of_ble_eq_true rfl) (by kernel_rfl) rfl (fun wk hbk hgk => ?_)
            have HGk := Aside0.mk hbk
            have HWk := Aside0.mk (HWk.out.grownFar hgk HNG2.out.1 HNG2.out.2.1 (.inl HNG2.out.2.2.1))
            have HMk := Aside0.mk (blk_grown HMk.out hgk (fun e => HNG2.out.2.2.2.1 (Option.some.inj e).symm))
            have HRk := Aside0.mk (blk_grown HRk.out hgk (fun e => HNG2.out.2.2.2.2 (Option.some.inj e).symm))
            clear hbk hgk
            refine hK.out _ _ (⟨blk_cell HRk.out 2, blk_cell HRk.out 1⟩) (fun hHeld => ?_)
            clear hK K
            (try simp only [Act.put, List.setIfInBounds_toArray, List.set_cons_zero, List.set_cons_succ])
            refine pure_ (i := 7) (N := some 49) (v := ?_) (a' := ?_) #[true, true, true, true, true, true, true, true, false, false] rfl rfl (by kernel_rfl) (fun _ _ _ h => h) (Or.inl ⟨by rfl, ?_⟩) ?_ ?_
            rotate_left
            · intro w'
              go_simp
              all_goals (with_reducible rfl)
            rotate_left
            · simp only [Act.put, List.setIfInBounds_toArray, List.set_cons_zero, List.set_cons_succ, i64_w, i32_w]
              rfl
            refine pure_ (i := 8) (N := some 50) (v := ?_) (a' := ?_) #[true, true, true, true, true, true, true, true, true, false] rfl rfl (by kernel_rfl) (fun _ _ _ h => h) (Or.inl ⟨by rfl, ?_⟩) ?_ ?_
            rotate_left
            · intro w'
              go_simp
              all_goals (with_reducible rfl)
            rotate_left
            · simp only [Act.put, List.setIfInBounds_toArray, List.set_cons_zero, List.set_cons_succ, i64_w, i32_w]
              rfl
            refine one_ (i := 9) (N := none) #[true, true, true, true, true, true, true, true, true, true] rfl rfl (by kernel_rfl) (by decide) (fun K hK => ?_)
            refine store_cell (t := 26) (i := 2) (v := .int .u64 r.f1) rfl (by rfl) rfl (by rfl) (by rfl) rfl HGk.out (Nat.le_of_ble_eq_true rfl) (by kernel_rfl) rfl (fun wk hbk hgk => ?_)
            have HGk := Aside0.mk hbk
            have HWk := Aside0.mk (HWk.out.grownFar hgk HNG2.out.1 HNG2.out.2.1 (.inl HNG2.out.2.2.1))
            have HMk := Aside0.mk (blk_grown HMk.out hgk (fun e => HNG2.out.2.2.2.1 (Option.some.inj e).symm))
            have HRk := Aside0.mk (blk_grown HRk.out hgk (fun e => HNG2.out.2.2.2.2 (Option.some.inj e).symm))
            clear hbk hgk
            refine hK.out _ _ (⟨blk_cell HRk.out 2, blk_cell HRk.out 1⟩) (fun hHeld => ?_)
            clear hK K
            (try simp only [Act.put, List.setIfInBounds_toArray, List.set_cons_zero, List.set_cons_succ])
            refine done_ (by kernel_rfl) ?_
            go_wp2_with fail
            go_meet
            case rel => exact ⟨⟨HWk.out⟩, ⟨HMk.out⟩, ⟨HRk.out⟩, ⟨HGk.out⟩⟩
          case rest =>
            clear HWc HMc HRc HGc
            obtain ⟨HWd, HMd, HRd, HGd⟩ := hcut
            generalize wc = wd at HWd HMd HRd HGd ⊢
            have y0 := blk_cell HMd.out 0
            have y1 := blk_cell HMd.out 1
            have x0 := blk_cell HRd.out 0
            have x1 := blk_cell HRd.out 1
            have x2 := blk_cell HRd.out 2
            have x4 := blk_cell HRd.out 4
            have x5 := blk_cell HRd.out 5
            have gc := blk_cell HGd.out 3
            have gf := blk_frozen HGd.out 3
            go_upto_region 21 with fail
            have HGx := Aside0.mk (blk_put HGd.out 3 (.int .u64 r.f1) rfl)
            have hgx := grown_set2 wd G 3 (.int .u64 r.f1)
            have HWx := Aside0.mk (HWd.out.grownFar hgx HNG2.out.1 HNG2.out.2.1 (.inl HNG2.out.2.2.1))
            have HMx := Aside0.mk (blk_grown HMd.out hgx (fun e => HNG2.out.2.2.2.1 (Option.some.inj e).symm))
            have HRx := Aside0.mk (blk_grown HRd.out hgx (fun e => HNG2.out.2.2.2.2 (Option.some.inj e).symm))
            generalize wd.setCell ⟨G, 3, none⟩ (.int .u64 r.f1) = wx at HGx HWx HMx HRx ⊢
            clear gc gf hgx HGd HWd HMd HRd y0 y1 x0 x1 x2 x4 x5
            obtain ⟨we, hme, hwe, _⟩ := HWx.out.putT_ r.f2 (newG (wasG s r.f2) r)
            rw [HNG.out] at hme
            have HWe := Aside0.mk hwe
            clear hwe
            have y0 := blk_cell HMx.out 0
            have y1 := blk_cell HMx.out 1
            have x0 := blk_cell HRx.out 0
            have x1 := blk_cell HRx.out 1
            have x2 := blk_cell HRx.out 2
            have x4 := blk_cell HRx.out 4
            have x5 := blk_cell HRx.out 5
            have g0 := blk_cell HGx.out 0
            have g1 := blk_cell HGx.out 1
            have g2 := blk_cell HGx.out 2
            have g3 := blk_cell HGx.out 3
            go_wp2_with fail
            go_end0
            exact ⟨rfl, by rw [HS.out]; exact HWe.out⟩
        · rw [if_neg hp] at hok
          obtain ⟨wb, hmu, hw, hg⟩ := HWa.out.putD_ r.f5 r.f1 hp
          have HWb := Aside0.mk hw
          have HMb := Aside0.mk (blk_grown HMa.out hg (fun e => HN.out.2.1 (Option.some.inj e)))
          have HRb := Aside0.mk (blk_grown HRa.out hg (fun e => HN.out.2.2.2.1 (Option.some.inj e)))
          clear hw hg hp
          have HTS := tail_st s r r.f5 r.f1
          go_upto_region 12 with fail
          clear y0 y1 x0 x1 x2 x4 x5 hmu
          have y0 := blk_cell HMb.out 0
          have y1 := blk_cell HMb.out 1
          have x0 := blk_cell HRb.out 0
          have x1 := blk_cell HRb.out 1
          have x2 := blk_cell HRb.out 2
          have x4 := blk_cell HRb.out 4
          have x5 := blk_cell HRb.out 5
          obtain ⟨i0, hi0⟩ := wasG_ex (putD s r.f5 r.f1) r.f2
          rw [HTS] at hi0
          clear HTS
          have hlk := HWb.out.look1 r.f2
          rw [hi0] at hlk
          clear hi0
          go_upto_region 13 with fail
          have hbg := heap_alloc_new wb (.cells #[.int .i64 i0, .int .i64 (wasG s r.f2).st, .int .u64 (wasG s r.f2).last, .int .u64 (wasG s r.f2).next] 91)
          have hbb := below_alloc (Below.refl wb.heap.size wb) (.cells #[.int .i64 i0, .int .i64 (wasG s r.f2).st, .int .u64 (wasG s r.f2).last, .int .u64 (wasG s r.f2).next] 91)
          have HWc := Aside0.mk (HWb.out.next hbb)
          have HMc := Aside0.mk (blk_below HMb.out hbb)
          have HRc := Aside0.mk (blk_below HRb.out hbb)
          have HGc := Aside0.mk hbg
          have HNG2 := Aside0.mk (show wb.heap.size ≠ m1 ∧ wb.heap.size ≠ m2 ∧ b.w.heap.size ≤ wb.heap.size ∧ wb.heap.size ≠ B2 ∧ wb.heap.size ≠ B2 + 1 from ⟨by have := HWb.out.tx.lt; omega, by have := HWb.out.di.lt; omega, HWb.out.bel.size, by have := blk_lt HMb.out; omega, by have := blk_lt HRb.out; omega⟩)
          obtain ⟨G, hG⟩ : ∃ x, x = wb.heap.size := ⟨_, rfl⟩
          generalize wb.alloc (.cells #[.int .i64 i0, .int .i64 (wasG s r.f2).st, .int .u64 (wasG s r.f2).last, .int .u64 (wasG s r.f2).next] 91) = wc at HWc HMc HRc HGc ⊢
          rw [← hG] at HGc HNG2 ⊢
          clear hbg hbb hG hlk HWb HMb HRb y0 y1 x0 x1 x2 x4 x5 hok
          go_cut [] (fun wx => Aside0 (Walks b wx m1 m2 (putD s r.f5 r.f1)) ∧ Aside0 (wx.heap[B2]? = some (.cells #[.map (some m1), .map (some m2)] 79 (0, 0))) ∧ Aside0 (wx.heap[B2 + 1]? = some (.cells #[.int .i64 r.f0, .int .u64 r.f1, .int .i64 r.f2, .int .u64 r.f3, .int .u64 r.f4, .int .i64 r.f5, .int .i64 r.f6.f0, .string r.f6.f1, .string r.f6.f2, .string r.f6.f3, .slice At lt ct, .slice Ad ld cd] 43 (0, 0))) ∧ Aside0 (wx.heap[G]? = some (.cells #[.int .i64 r.f2, .int .i64 (wasG s r.f2).st, .int .u64 r.f1, .int .u64 (wasG s r.f2).next] 91 (0, 0))))
          case first =>
            have HWk := Aside0.mk (HWc.out.next (below_drew (Below.refl _ _)))
            have HMk := Aside0.mk (blk_drew HMc.out)
            have HRk := Aside0.mk (blk_drew HRc.out)
            have HGk := Aside0.mk (blk_drew HGc.out)
            clear HWc HMc HRc HGc
            refine start_ (n := 10) (S := fun wx => wx.cell? ⟨B2 + 1, 2, none⟩ = some (.int .i64 r.f2) ∧ wx.cell? ⟨B2 + 1, 1, none⟩ = some (.int .u64 r.f1)) (ds := []) #[false, false, false, false, false, false, false, false, false, false] (by kernel_rfl) rfl rfl (⟨blk_cell HRk.out 2, blk_cell HRk.out 1⟩) (fun hHeld => ?_)
            refine pure_ (i := 0) (N := some 43) (v := ?_) (a' := ?_) #[true, false, false, false, false, false, false, false, false, false] rfl rfl (by kernel_rfl) (fun _ _ _ h => h) (Or.inl ⟨by rfl, ?_⟩) ?_ ?_
            rotate_left
            · intro w'
              go_simp
              all_goals (with_reducible rfl)
            rotate_left
            · simp only [Act.put, List.setIfInBounds_toArray, List.set_cons_zero, List.set_cons_succ, i64_w, i32_w]
              rfl
            refine pure_ (i := 2) (N := some 45) (v := ?_) (a' := ?_) #[true, false, true, false, false, false, false, false, false, false] rfl rfl (by kernel_rfl) (fun _ _ _ h => h) (Or.inl ⟨by rfl, ?_⟩) ?_ ?_
            rotate_left
            · intro w'
              go_simp
              all_goals (with_reducible rfl)
            rotate_left
            · simp only [Act.put, List.setIfInBounds_toArray, List.set_cons_zero, List.set_cons_succ, i64_w, i32_w]
              rfl
            refine take_ (i := 1) (N := some 44) (v := ?_) (a' := ?_) #[true, true, true, false, false, false, false, false, false, false] rfl rfl (by kernel_rfl) (fun _ _ _ h => h) (Or.inl ⟨by rfl, ?_⟩) hHeld ?_ ?_
            rotate_left
            · intro w' hSw
              (try dsimp only at hSw)
              go_simp
              all_goals (with_reducible rfl)
            rotate_left
            · simp only [Act.put, List.setIfInBounds_toArray, List.set_cons_zero, List.set_cons_succ, i64_w, i32_w]
              rfl
            refine pure_ (i := 4) (N := some 47) (v := ?_) (a' := ?_) #[true, true, true, false, true, false, false, false, false, false] rfl rfl (by kernel_rfl) (fun _ _ _ h => h) (Or.inl ⟨by rfl, ?_⟩) ?_ ?_
            rotate_left
            · intro w'
              go_simp
              all_goals (with_reducible rfl)
            rotate_left
            · simp only [Act.put, List.setIfInBounds_toArray, List.set_cons_zero, List.set_cons_succ, i64_w, i32_w]
              rfl
            refine pure_ (i := 5) (N := some 48) (v := ?_) (a' := ?_) #[true, true, true, false, true, true, false, false, false, false] rfl rfl (by kernel_rfl) (fun _ _ _ h => h) (Or.inl ⟨by rfl, ?_⟩) ?_ ?_
            rotate_left
            · intro w'
              go_simp
              all_goals (with_reducible rfl)
            rotate_left
            · simp only [Act.put, List.setIfInBounds_toArray, List.set_cons_zero, List.set_cons_succ, i64_w, i32_w]
              rfl
            refine take_ (i := 3) (N := some 46) (v := ?_) (a' := ?_) #[true, true, true, true, true, true, false, false, false, false] rfl rfl (by kernel_rfl) (fun _ _ _ h => h) (Or.inl ⟨by rfl, ?_⟩) hHeld ?_ ?_
            rotate_left
            · intro w' hSw
              (try dsimp only at hSw)
              go_simp
              all_goals (with_reducible rfl)
            rotate_left
            · simp only [Act.put, List.setIfInBounds_toArray, List.set_cons_zero, List.set_cons_succ, i64_w, i32_w]
              rfl
            refine one_ (i := 6) (N := none) #[true, true, true, true, true, true, true, false, false, false] rfl rfl (by kernel_rfl) (by decide) (fun K hK => ?_)
            refine store_cell (t := 3) (i := 0) (v := .int .i64 r.f2) rfl (by rfl) rfl (by rfl) (by rfl) rfl HGk.out (Nat.le_of_ble_eq_true rfl) (by kernel_rfl) rfl (fun wk hbk hgk => ?_)
            have HGk := Aside0.mk hbk
            have HWk := Aside0.mk (HWk.out.grownFar hgk HNG2.out.1 HNG2.out.2.1 (.inl HNG2.out.2.2.1))
            have HMk := Aside0.mk (blk_grown HMk.out hgk (fun e => HNG2.out.2.2.2.1 (Option.some.inj e).symm))
            have HRk := Aside0.mk (blk_grown HRk.out hgk (fun e => HNG2.out.2.2.2.2 (Option.some.inj e).symm))
            clear hbk hgk
            refine hK.out _ _ (⟨blk_cell HRk.out 2, blk_cell HRk.out 1⟩) (fun hHeld => ?_)
            clear hK K
            (try simp only [Act.put, List.setIfInBounds_toArray, List.set_cons_zero, List.set_cons_succ])
            refine pure_ (i := 7) (N := some 49) (v := ?_) (a' := ?_) #[true, true, true, true, true, true, true, true, false, false] rfl rfl (by kernel_rfl) (fun _ _ _ h => h) (Or.inl ⟨by rfl, ?_⟩) ?_ ?_
            rotate_left
            · intro w'
              go_simp
              all_goals (with_reducible rfl)
            rotate_left
            · simp only [Act.put, List.setIfInBounds_toArray, List.set_cons_zero, List.set_cons_succ, i64_w, i32_w]
              rfl
            refine pure_ (i := 8) (N := some 50) (v := ?_) (a' := ?_) #[true, true, true, true, true, true, true, true, true, false] rfl rfl (by kernel_rfl) (fun _ _ _ h => h) (Or.inl ⟨by rfl, ?_⟩) ?_ ?_
            rotate_left
            · intro w'
              go_simp
              all_goals (with_reducible rfl)
            rotate_left
            · simp only [Act.put, List.setIfInBounds_toArray, List.set_cons_zero, List.set_cons_succ, i64_w, i32_w]
              rfl
            refine one_ (i := 9) (N := none) #[true, true, true, true, true, true, true, true, true, true] rfl rfl (by kernel_rfl) (by decide) (fun K hK => ?_)
            refine store_cell (t := 26) (i := 2) (v := .int .u64 r.f1) rfl (by rfl) rfl (by rfl) (by rfl) rfl HGk.out (Nat.le_of_ble_eq_true rfl) (by kernel_rfl) rfl (fun wk hbk hgk => ?_)
            have HGk := Aside0.mk hbk
            have HWk := Aside0.mk (HWk.out.grownFar hgk HNG2.out.1 HNG2.out.2.1 (.inl HNG2.out.2.2.1))
            have HMk := Aside0.mk (blk_grown HMk.out hgk (fun e => HNG2.out.2.2.2.1 (Option.some.inj e).symm))
            have HRk := Aside0.mk (blk_grown HRk.out hgk (fun e => HNG2.out.2.2.2.2 (Option.some.inj e).symm))
            clear hbk hgk
            refine hK.out _ _ (⟨blk_cell HRk.out 2, blk_cell HRk.out 1⟩) (fun hHeld => ?_)
            clear hK K
            (try simp only [Act.put, List.setIfInBounds_toArray, List.set_cons_zero, List.set_cons_succ])
            refine done_ (by kernel_rfl) ?_
            go_wp2_with fail
            go_meet
            case rel => exact ⟨⟨HWk.out⟩, ⟨HMk.out⟩, ⟨HRk.out⟩, ⟨HGk.out⟩⟩
          case rest =>
            clear HWc HMc HRc HGc
            obtain ⟨HWd, HMd, HRd, HGd⟩ := hcut
            generalize wc = wd at HWd HMd HRd HGd ⊢
            have y0 := blk_cell HMd.out 0
            have y1 := blk_cell HMd.out 1
            have x0 := blk_cell HRd.out 0
            have x1 := blk_cell HRd.out 1
            have x2 := blk_cell HRd.out 2
            have x4 := blk_cell HRd.out 4
            have x5 := blk_cell HRd.out 5
            have gc := blk_cell HGd.out 3
            have gf := blk_frozen HGd.out 3
            go_upto_region 21 with fail
            have HGx := Aside0.mk (blk_put HGd.out 3 (.int .u64 r.f1) rfl)
            have hgx := grown_set2 wd G 3 (.int .u64 r.f1)
            have HWx := Aside0.mk (HWd.out.grownFar hgx HNG2.out.1 HNG2.out.2.1 (.inl HNG2.out.2.2.1))
            have HMx := Aside0.mk (blk_grown HMd.out hgx (fun e => HNG2.out.2.2.2.1 (Option.some.inj e).symm))
            have HRx := Aside0.mk (blk_grown HRd.out hgx (fun e => HNG2.out.2.2.2.2 (Option.some.inj e).symm))
            generalize wd.setCell ⟨G, 3, none⟩ (.int .u64 r.f1) = wx at HGx HWx HMx HRx ⊢
            clear gc gf hgx HGd HWd HMd HRd y0 y1 x0 x1 x2 x4 x5
            obtain ⟨we, hme, hwe, _⟩ := HWx.out.putT_ r.f2 (newG (wasG s r.f2) r)
            rw [HNG.out] at hme
            have HWe := Aside0.mk hwe
            clear hwe
            have y0 := blk_cell HMx.out 0
            have y1 := blk_cell HMx.out 1
            have x0 := blk_cell HRx.out 0
            have x1 := blk_cell HRx.out 1
            have x2 := blk_cell HRx.out 2
            have x4 := blk_cell HRx.out 4
            have x5 := blk_cell HRx.out 5
            have g0 := blk_cell HGx.out 0
            have g1 := blk_cell HGx.out 1
            have g2 := blk_cell HGx.out 2
            have g3 := blk_cell HGx.out 3
            go_wp2_with fail
            go_end0
            exact ⟨rfl, by rw [HS.out]; exact HWe.out⟩
      · have e1 : (r.f0 == 1) = false := by simpa using h1
        by_cases h2 : r.f0 = 2
        · have HS := Aside0.mk (show stepW s r = putT (putD s r.f5 r.f1) r.f2 (newG (wasG s r.f2) r) from by unfold stepW; rw [if_neg h78, if_neg h35, if_pos (.inr h2)])
          have HNG := Aside0.mk (show newG (wasG s r.f2) r = ⟨(wasG s r.f2).st, r.f1, r.f4⟩ from by unfold newG; rw [if_neg (by omega), if_neg h1, if_pos h2])
          have e2 : (r.f0 == 2) = true := by simpa using h2
          clear h78 h35 h1 h2
          have hok := HWa.out.ok2 r.f5
          by_cases hp : r.f5 ∈ s.ds
          · rw [if_pos hp] at hok
            have hds : putD s r.f5 r.f1 = s := by unfold putD; rw [if_pos hp]
            have HWb := Aside0.mk (show Walks b wa m1 m2 (putD s r.f5 r.f1) from by rw [hds]; exact HWa.out)
            have HMb := HMa
            have HRb := HRa
            clear hp hds
            have HTS := tail_st s r r.f5 r.f1
            obtain ⟨i0, hi0⟩ := wasG_ex (putD s r.f5 r.f1) r.f2
            rw [HTS] at hi0
            clear HTS
            have hlk := HWb.out.look1 r.f2
            rw [hi0] at hlk
            clear hi0
            go_upto_region 13 with fail
            have hbg := heap_alloc_new wa (.cells #[.int .i64 i0, .int .i64 (wasG s r.f2).st, .int .u64 (wasG s r.f2).last, .int .u64 (wasG s r.f2).next] 91)
            have hbb := below_alloc (Below.refl wa.heap.size wa) (.cells #[.int .i64 i0, .int .i64 (wasG s r.f2).st, .int .u64 (wasG s r.f2).last, .int .u64 (wasG s r.f2).next] 91)
            have HWc := Aside0.mk (HWb.out.next hbb)
            have HMc := Aside0.mk (blk_below HMb.out hbb)
            have HRc := Aside0.mk (blk_below HRb.out hbb)
            have HGc := Aside0.mk hbg
            have HNG2 := Aside0.mk (show wa.heap.size ≠ m1 ∧ wa.heap.size ≠ m2 ∧ b.w.heap.size ≤ wa.heap.size ∧ wa.heap.size ≠ B2 ∧ wa.heap.size ≠ B2 + 1 from ⟨by have := HWb.out.tx.lt; omega, by have := HWb.out.di.lt; omega, HWb.out.bel.size, by have := blk_lt HMb.out; omega, by have := blk_lt HRb.out; omega⟩)
            obtain ⟨G, hG⟩ : ∃ x, x = wa.heap.size := ⟨_, rfl⟩
            generalize wa.alloc (.cells #[.int .i64 i0, .int .i64 (wasG s r.f2).st, .int .u64 (wasG s r.f2).last, .int .u64 (wasG s r.f2).next] 91) = wc at HWc HMc HRc HGc ⊢
            rw [← hG] at HGc HNG2 ⊢
            clear hbg hbb hG hlk HWb HMb HRb y0 y1 x0 x1 x2 x4 x5 hok
            go_cut [] (fun wx => Aside0 (Walks b wx m1 m2 (putD s r.f5 r.f1)) ∧ Aside0 (wx.heap[B2]? = some (.cells #[.map (some m1), .map (some m2)] 79 (0, 0))) ∧ Aside0 (wx.heap[B2 + 1]? = some (.cells #[.int .i64 r.f0, .int .u64 r.f1, .int .i64 r.f2, .int .u64 r.f3, .int .u64 r.f4, .int .i64 r.f5, .int .i64 r.f6.f0, .string r.f6.f1, .string r.f6.f2, .string r.f6.f3, .slice At lt ct, .slice Ad ld cd] 43 (0, 0))) ∧ Aside0 (wx.heap[G]? = some (.cells #[.int .i64 r.f2, .int .i64 (wasG s r.f2).st, .int .u64 r.f1, .int .u64 (wasG s r.f2).next] 91 (0, 0))))
            case first =>
              have HWk := Aside0.mk (HWc.out.next (below_drew (Below.refl _ _)))
              have HMk := Aside0.mk (blk_drew HMc.out)
              have HRk := Aside0.mk (blk_drew HRc.out)
              have HGk := Aside0.mk (blk_drew HGc.out)
              clear HWc HMc HRc HGc
              refine start_ (n := 10) (S := fun wx => wx.cell? ⟨B2 + 1, 2, none⟩ = some (.int .i64 r.f2) ∧ wx.cell? ⟨B2 + 1, 1, none⟩ = some (.int .u64 r.f1)) (ds := []) #[false, false, false, false, false, false, false, false, false, false] (by kernel_rfl) rfl rfl (⟨blk_cell HRk.out 2, blk_cell HRk.out 1⟩) (fun hHeld => ?_)
              refine pure_ (i := 0) (N := some 43) (v := ?_) (a' := ?_) #[true, false, false, false, false, false, false, false, false, false] rfl rfl (by kernel_rfl) (fun _ _ _ h => h) (Or.inl ⟨by rfl, ?_⟩) ?_ ?_
              rotate_left
              · intro w'
                go_simp
                all_goals (with_reducible rfl)
              rotate_left
              · simp only [Act.put, List.setIfInBounds_toArray, List.set_cons_zero, List.set_cons_succ, i64_w, i32_w]
                rfl
              refine pure_ (i := 2) (N := some 45) (v := ?_) (a' := ?_) #[true, false, true, false, false, false, false, false, false, false] rfl rfl (by kernel_rfl) (fun _ _ _ h => h) (Or.inl ⟨by rfl, ?_⟩) ?_ ?_
              rotate_left
              · intro w'
                go_simp
                all_goals (with_reducible rfl)
              rotate_left
              · simp only [Act.put, List.setIfInBounds_toArray, List.set_cons_zero, List.set_cons_succ, i64_w, i32_w]
                rfl
              refine take_ (i := 1) (N := some 44) (v := ?_) (a' := ?_) #[true, true, true, false, false, false, false, false, false, false] rfl rfl (by kernel_rfl) (fun _ _ _ h => h) (Or.inl ⟨by rfl, ?_⟩) hHeld ?_ ?_
              rotate_left
              · intro w' hSw
                (try dsimp only at hSw)
                go_simp
                all_goals (with_reducible rfl)
              rotate_left
              · simp only [Act.put, List.setIfInBounds_toArray, List.set_cons_zero, List.set_cons_succ, i64_w, i32_w]
                rfl
              refine pure_ (i := 4) (N := some 47) (v := ?_) (a' := ?_) #[true, true, true, false, true, false, false, false, false, false] rfl rfl (by kernel_rfl) (fun _ _ _ h => h) (Or.inl ⟨by rfl, ?_⟩) ?_ ?_
              rotate_left
              · intro w'
                go_simp
                all_goals (with_reducible rfl)
              rotate_left
              · simp only [Act.put, List.setIfInBounds_toArray, List.set_cons_zero, List.set_cons_succ, i64_w, i32_w]
                rfl
              refine pure_ (i := 5) (N := some 48) (v := ?_) (a' := ?_) #[true, true, true, false, true, true, false, false, false, false] rfl rfl (by kernel_rfl) (fun _ _ _ h => h) (Or.inl ⟨by rfl, ?_⟩) ?_ ?_
              rotate_left
              · intro w'
                go_simp
                all_goals (with_reducible rfl)
              rotate_left
              · simp only [Act.put, List.setIfInBounds_toArray, List.set_cons_zero, List.set_cons_succ, i64_w, i32_w]
                rfl
              refine take_ (i := 3) (N := some 46) (v := ?_) (a' := ?_) #[true, true, true, true, true, true, false, false, false, false] rfl rfl (by kernel_rfl) (fun _ _ _ h => h) (Or.inl ⟨by rfl, ?_⟩) hHeld ?_ ?_
              rotate_left
              · intro w' hSw
                (try dsimp only at hSw)
                go_simp
                all_goals (with_reducible rfl)
              rotate_left
              · simp only [Act.put, List.setIfInBounds_toArray, List.set_cons_zero, List.set_cons_succ, i64_w, i32_w]
                rfl
              refine one_ (i := 6) (N := none) #[true, true, true, true, true, true, true, false, false, false] rfl rfl (by kernel_rfl) (by decide) (fun K hK => ?_)
              refine store_cell (t := 3) (i := 0) (v := .int .i64 r.f2) rfl (by rfl) rfl (by rfl) (by rfl) rfl HGk.out (Nat.le_of_ble_eq_true rfl) (by kernel_rfl) rfl (fun wk hbk hgk => ?_)
              have HGk := Aside0.mk hbk
              have HWk := Aside0.mk (HWk.out.grownFar hgk HNG2.out.1 HNG2.out.2.1 (.inl HNG2.out.2.2.1))
              have HMk := Aside0.mk (blk_grown HMk.out hgk (fun e => HNG2.out.2.2.2.1 (Option.some.inj e).symm))
              have HRk := Aside0.mk (blk_grown HRk.out hgk (fun e => HNG2.out.2.2.2.2 (Option.some.inj e).symm))
              clear hbk hgk
              refine hK.out _ _ (⟨blk_cell HRk.out 2, blk_cell HRk.out 1⟩) (fun hHeld => ?_)
              clear hK K
              (try simp only [Act.put, List.setIfInBounds_toArray, List.set_cons_zero, List.set_cons_succ])
              refine pure_ (i := 7) (N := some 49) (v := ?_) (a' := ?_) #[true, true, true, true, true, true, true, true, false, false] rfl rfl (by kernel_rfl) (fun _ _ _ h => h) (Or.inl ⟨by rfl, ?_⟩) ?_ ?_
              rotate_left
              · intro w'
                go_simp
                all_goals (with_reducible rfl)
              rotate_left
              · simp only [Act.put, List.setIfInBounds_toArray, List.set_cons_zero, List.set_cons_succ, i64_w, i32_w]
                rfl
              refine pure_ (i := 8) (N := some 50) (v := ?_) (a' := ?_) #[true, true, true, true, true, true, true, true, true, false] rfl rfl (by kernel_rfl) (fun _ _ _ h => h) (Or.inl ⟨by rfl, ?_⟩) ?_ ?_
              rotate_left
              · intro w'
                go_simp
                all_goals (with_reducible rfl)
              rotate_left
              · simp only [Act.put, List.setIfInBounds_toArray, List.set_cons_zero, List.set_cons_succ, i64_w, i32_w]
                rfl
              refine one_ (i := 9) (N := none) #[true, true, true, true, true, true, true, true, true, true] rfl rfl (by kernel_rfl) (by decide) (fun K hK => ?_)
              refine store_cell (t := 26) (i := 2) (v := .int .u64 r.f1) rfl (by rfl) rfl (by rfl) (by rfl) rfl HGk.out (Nat.le_of_ble_eq_true rfl) (by kernel_rfl) rfl (fun wk hbk hgk => ?_)
              have HGk := Aside0.mk hbk
              have HWk := Aside0.mk (HWk.out.grownFar hgk HNG2.out.1 HNG2.out.2.1 (.inl HNG2.out.2.2.1))
              have HMk := Aside0.mk (blk_grown HMk.out hgk (fun e => HNG2.out.2.2.2.1 (Option.some.inj e).symm))
              have HRk := Aside0.mk (blk_grown HRk.out hgk (fun e => HNG2.out.2.2.2.2 (Option.some.inj e).symm))
              clear hbk hgk
              refine hK.out _ _ (⟨blk_cell HRk.out 2, blk_cell HRk.out 1⟩) (fun hHeld => ?_)
              clear hK K
              (try simp only [Act.put, List.setIfInBounds_toArray, List.set_cons_zero, List.set_cons_succ])
              refine done_ (by kernel_rfl) ?_
              go_wp2_with fail
              go_meet
              case rel => exact ⟨⟨HWk.out⟩, ⟨HMk.out⟩, ⟨HRk.out⟩, ⟨HGk.out⟩⟩
            case rest =>
              clear HWc HMc HRc HGc
              obtain ⟨HWd, HMd, HRd, HGd⟩ := hcut
              generalize wc = wd at HWd HMd HRd HGd ⊢
              have y0 := blk_cell HMd.out 0
              have y1 := blk_cell HMd.out 1
              have x0 := blk_cell HRd.out 0
              have x1 := blk_cell HRd.out 1
              have x2 := blk_cell HRd.out 2
              have x4 := blk_cell HRd.out 4
              have x5 := blk_cell HRd.out 5
              have gc := blk_cell HGd.out 3
              have gf := blk_frozen HGd.out 3
              go_upto_region 21 with fail
              have HGx := Aside0.mk (blk_put HGd.out 3 (.int .u64 r.f4) rfl)
              have hgx := grown_set2 wd G 3 (.int .u64 r.f4)
              have HWx := Aside0.mk (HWd.out.grownFar hgx HNG2.out.1 HNG2.out.2.1 (.inl HNG2.out.2.2.1))
              have HMx := Aside0.mk (blk_grown HMd.out hgx (fun e => HNG2.out.2.2.2.1 (Option.some.inj e).symm))
              have HRx := Aside0.mk (blk_grown HRd.out hgx (fun e => HNG2.out.2.2.2.2 (Option.some.inj e).symm))
              generalize wd.setCell ⟨G, 3, none⟩ (.int .u64 r.f4) = wx at HGx HWx HMx HRx ⊢
              clear gc gf hgx HGd HWd HMd HRd y0 y1 x0 x1 x2 x4 x5
              obtain ⟨we, hme, hwe, _⟩ := HWx.out.putT_ r.f2 (newG (wasG s r.f2) r)
              rw [HNG.out] at hme
              have HWe := Aside0.mk hwe
              clear hwe
              have y0 := blk_cell HMx.out 0
              have y1 := blk_cell HMx.out 1
              have x0 := blk_cell HRx.out 0
              have x1 := blk_cell HRx.out 1
              have x2 := blk_cell HRx.out 2
              have x4 := blk_cell HRx.out 4
              have x5 := blk_cell HRx.out 5
              have g0 := blk_cell HGx.out 0
              have g1 := blk_cell HGx.out 1
              have g2 := blk_cell HGx.out 2
              have g3 := blk_cell HGx.out 3
              go_wp2_with fail
              go_end0
              exact ⟨rfl, by rw [HS.out]; exact HWe.out⟩
          · rw [if_neg hp] at hok
            obtain ⟨wb, hmu, hw, hg⟩ := HWa.out.putD_ r.f5 r.f1 hp
            have HWb := Aside0.mk hw
            have HMb := Aside0.mk (blk_grown HMa.out hg (fun e => HN.out.2.1 (Option.some.inj e)))
            have HRb := Aside0.mk (blk_grown HRa.out hg (fun e => HN.out.2.2.2.1 (Option.some.inj e)))
            clear hw hg hp
            have HTS := tail_st s r r.f5 r.f1
            go_upto_region 12 with fail
            clear y0 y1 x0 x1 x2 x4 x5 hmu
            have y0 := blk_cell HMb.out 0
            have y1 := blk_cell HMb.out 1
            have x0 := blk_cell HRb.out 0
            have x1 := blk_cell HRb.out 1
            have x2 := blk_cell HRb.out 2
            have x4 := blk_cell HRb.out 4
            have x5 := blk_cell HRb.out 5
            obtain ⟨i0, hi0⟩ := wasG_ex (putD s r.f5 r.f1) r.f2
            rw [HTS] at hi0
            clear HTS
            have hlk := HWb.out.look1 r.f2
            rw [hi0] at hlk
            clear hi0
            go_upto_region 13 with fail
            have hbg := heap_alloc_new wb (.cells #[.int .i64 i0, .int .i64 (wasG s r.f2).st, .int .u64 (wasG s r.f2).last, .int .u64 (wasG s r.f2).next] 91)
            have hbb := below_alloc (Below.refl wb.heap.size wb) (.cells #[.int .i64 i0, .int .i64 (wasG s r.f2).st, .int .u64 (wasG s r.f2).last, .int .u64 (wasG s r.f2).next] 91)
            have HWc := Aside0.mk (HWb.out.next hbb)
            have HMc := Aside0.mk (blk_below HMb.out hbb)
            have HRc := Aside0.mk (blk_below HRb.out hbb)
            have HGc := Aside0.mk hbg
            have HNG2 := Aside0.mk (show wb.heap.size ≠ m1 ∧ wb.heap.size ≠ m2 ∧ b.w.heap.size ≤ wb.heap.size ∧ wb.heap.size ≠ B2 ∧ wb.heap.size ≠ B2 + 1 from ⟨by have := HWb.out.tx.lt; omega, by have := HWb.out.di.lt; omega, HWb.out.bel.size, by have := blk_lt HMb.out; omega, by have := blk_lt HRb.out; omega⟩)
            obtain ⟨G, hG⟩ : ∃ x, x = wb.heap.size := ⟨_, rfl⟩
            generalize wb.alloc (.cells #[.int .i64 i0, .int .i64 (wasG s r.f2).st, .int .u64 (wasG s r.f2).last, .int .u64 (wasG s r.f2).next] 91) = wc at HWc HMc HRc HGc ⊢
            rw [← hG] at HGc HNG2 ⊢
            clear hbg hbb hG hlk HWb HMb HRb y0 y1 x0 x1 x2 x4 x5 hok
            go_cut [] (fun wx => Aside0 (Walks b wx m1 m2 (putD s r.f5 r.f1)) ∧ Aside0 (wx.heap[B2]? = some (.cells #[.map (some m1), .map (some m2)] 79 (0, 0))) ∧ Aside0 (wx.heap[B2 + 1]? = some (.cells #[.int .i64 r.f0, .int .u64 r.f1, .int .i64 r.f2, .int .u64 r.f3, .int .u64 r.f4, .int .i64 r.f5, .int .i64 r.f6.f0, .string r.f6.f1, .string r.f6.f2, .string r.f6.f3, .slice At lt ct, .slice Ad ld cd] 43 (0, 0))) ∧ Aside0 (wx.heap[G]? = some (.cells #[.int .i64 r.f2, .int .i64 (wasG s r.f2).st, .int .u64 r.f1, .int .u64 (wasG s r.f2).next] 91 (0, 0))))
            case first =>
              have HWk := Aside0.mk (HWc.out.next (below_drew (Below.refl _ _)))
              have HMk := Aside0.mk (blk_drew HMc.out)
              have HRk := Aside0.mk (blk_drew HRc.out)
              have HGk := Aside0.mk (blk_drew HGc.out)
              clear HWc HMc HRc HGc
              refine start_ (n := 10) (S := fun wx => wx.cell? ⟨B2 + 1, 2, none⟩ = some (.int .i64 r.f2) ∧ wx.cell? ⟨B2 + 1, 1, none⟩ = some (.int .u64 r.f1)) (ds := []) #[false, false, false, false, false, false, false, false, false, false] (by kernel_rfl) rfl rfl (⟨blk_cell HRk.out 2, blk_cell HRk.out 1⟩) (fun hHeld => ?_)
              refine pure_ (i := 0) (N := some 43) (v := ?_) (a' := ?_) #[true, false, false, false, false, false, false, false, false, false] rfl rfl (by kernel_rfl) (fun _ _ _ h => h) (Or.inl ⟨by rfl, ?_⟩) ?_ ?_
              rotate_left
              · intro w'
                go_simp
                all_goals (with_reducible rfl)
              rotate_left
              · simp only [Act.put, List.setIfInBounds_toArray, List.set_cons_zero, List.set_cons_succ, i64_w, i32_w]
                rfl
              refine pure_ (i := 2) (N := some 45) (v := ?_) (a' := ?_) #[true, false, true, false, false, false, false, false, false, false] rfl rfl (by kernel_rfl) (fun _ _ _ h => h) (Or.inl ⟨by rfl, ?_⟩) ?_ ?_
              rotate_left
              · intro w'
                go_simp
                all_goals (with_reducible rfl)
              rotate_left
              · simp only [Act.put, List.setIfInBounds_toArray, List.set_cons_zero, List.set_cons_succ, i64_w, i32_w]
                rfl
              refine take_ (i := 1) (N := some 44) (v := ?_) (a' := ?_) #[true, true, true, false, false, false, false, false, false, false] rfl rfl (by kernel_rfl) (fun _ _ _ h => h) (Or.inl ⟨by rfl, ?_⟩) hHeld ?_ ?_
              rotate_left
              · intro w' hSw
                (try dsimp only at hSw)
                go_simp
                all_goals (with_reducible rfl)
              rotate_left
              · simp only [Act.put, List.setIfInBounds_toArray, List.set_cons_zero, List.set_cons_succ, i64_w, i32_w]
                rfl
              refine pure_ (i := 4) (N := some 47) (v := ?_) (a' := ?_) #[true, true, true, false, true, false, false, false, false, false] rfl rfl (by kernel_rfl) (fun _ _ _ h => h) (Or.inl ⟨by rfl, ?_⟩) ?_ ?_
              rotate_left
              · intro w'
                go_simp
                all_goals (with_reducible rfl)
              rotate_left
              · simp only [Act.put, List.setIfInBounds_toArray, List.set_cons_zero, List.set_cons_succ, i64_w, i32_w]
                rfl
              refine pure_ (i := 5) (N := some 48) (v := ?_) (a' := ?_) #[true, true, true, false, true, true, false, false, false, false] rfl rfl (by kernel_rfl) (fun _ _ _ h => h) (Or.inl ⟨by rfl, ?_⟩) ?_ ?_
              rotate_left
              · intro w'
                go_simp
                all_goals (with_reducible rfl)
              rotate_left
              · simp only [Act.put, List.setIfInBounds_toArray, List.set_cons_zero, List.set_cons_succ, i64_w, i32_w]
                rfl
              refine take_ (i := 3) (N := some 46) (v := ?_) (a' := ?_) #[true, true, true, true, true, true, false, false, false, false] rfl rfl (by kernel_rfl) (fun _ _ _ h => h) (Or.inl ⟨by rfl, ?_⟩) hHeld ?_ ?_
              rotate_left
              · intro w' hSw
                (try dsimp only at hSw)
                go_simp
                all_goals (with_reducible rfl)
              rotate_left
              · simp only [Act.put, List.setIfInBounds_toArray, List.set_cons_zero, List.set_cons_succ, i64_w, i32_w]
                rfl
              refine one_ (i := 6) (N := none) #[true, true, true, true, true, true, true, false, false, false] rfl rfl (by kernel_rfl) (by decide) (fun K hK => ?_)
              refine store_cell (t := 3) (i := 0) (v := .int .i64 r.f2) rfl (by rfl) rfl (by rfl) (by rfl) rfl HGk.out (Nat.le_of_ble_eq_true rfl) (by kernel_rfl) rfl (fun wk hbk hgk => ?_)
              have HGk := Aside0.mk hbk
              have HWk := Aside0.mk (HWk.out.grownFar hgk HNG2.out.1 HNG2.out.2.1 (.inl HNG2.out.2.2.1))
              have HMk := Aside0.mk (blk_grown HMk.out hgk (fun e => HNG2.out.2.2.2.1 (Option.some.inj e).symm))
              have HRk := Aside0.mk (blk_grown HRk.out hgk (fun e => HNG2.out.2.2.2.2 (Option.some.inj e).symm))
              clear hbk hgk
              refine hK.out _ _ (⟨blk_cell HRk.out 2, blk_cell HRk.out 1⟩) (fun hHeld => ?_)
              clear hK K
              (try simp only [Act.put, List.setIfInBounds_toArray, List.set_cons_zero, List.set_cons_succ])
              refine pure_ (i := 7) (N := some 49) (v := ?_) (a' := ?_) #[true, true, true, true, true, true, true, true, false, false] rfl rfl (by kernel_rfl) (fun _ _ _ h => h) (Or.inl ⟨by rfl, ?_⟩) ?_ ?_
              rotate_left
              · intro w'
                go_simp
                all_goals (with_reducible rfl)
              rotate_left
              · simp only [Act.put, List.setIfInBounds_toArray, List.set_cons_zero, List.set_cons_succ, i64_w, i32_w]
                rfl
              refine pure_ (i := 8) (N := some 50) (v := ?_) (a' := ?_) #[true, true, true, true, true, true, true, true, true, false] rfl rfl (by kernel_rfl) (fun _ _ _ h => h) (Or.inl ⟨by rfl, ?_⟩) ?_ ?_
              rotate_left
              · intro w'
                go_simp
                all_goals (with_reducible rfl)
              rotate_left
              · simp only [Act.put, List.setIfInBounds_toArray, List.set_cons_zero, List.set_cons_succ, i64_w, i32_w]
                rfl
              refine one_ (i := 9) (N := none) #[true, true, true, true, true, true, true, true, true, true] rfl rfl (by kernel_rfl) (by decide) (fun K hK => ?_)
              refine store_cell (t := 26) (i := 2) (v := .int .u64 r.f1) rfl (by rfl) rfl (by rfl) (by rfl) rfl HGk.out (Nat.le_of_ble_eq_true rfl) (by kernel_rfl) rfl (fun wk hbk hgk => ?_)
              have HGk := Aside0.mk hbk
              have HWk := Aside0.mk (HWk.out.grownFar hgk HNG2.out.1 HNG2.out.2.1 (.inl HNG2.out.2.2.1))
              have HMk := Aside0.mk (blk_grown HMk.out hgk (fun e => HNG2.out.2.2.2.1 (Option.some.inj e).symm))
              have HRk := Aside0.mk (blk_grown HRk.out hgk (fun e => HNG2.out.2.2.2.2 (Option.some.inj e).symm))
              clear hbk hgk
              refine hK.out _ _ (⟨blk_cell HRk.out 2, blk_cell HRk.out 1⟩) (fun hHeld => ?_)
              clear hK K
              (try simp only [Act.put, List.setIfInBounds_toArray, List.set_cons_zero, List.set_cons_succ])
              refine done_ (by kernel_rfl) ?_
              go_wp2_with fail
              go_meet
              case rel => exact ⟨⟨HWk.out⟩, ⟨HMk.out⟩, ⟨HRk.out⟩, ⟨HGk.out⟩⟩
            case rest =>
              clear HWc HMc HRc HGc
              obtain ⟨HWd, HMd, HRd, HGd⟩ := hcut
              generalize wc = wd at HWd HMd HRd HGd ⊢
              have y0 := blk_cell HMd.out 0
              have y1 := blk_cell HMd.out 1
              have x0 := blk_cell HRd.out 0
              have x1 := blk_cell HRd.out 1
              have x2 := blk_cell HRd.out 2
              have x4 := blk_cell HRd.out 4
              have x5 := blk_cell HRd.out 5
              have gc := blk_cell HGd.out 3
              have gf := blk_frozen HGd.out 3
              go_upto_region 21 with fail
              have HGx := Aside0.mk (blk_put HGd.out 3 (.int .u64 r.f4) rfl)
              have hgx := grown_set2 wd G 3 (.int .u64 r.f4)
              have HWx := Aside0.mk (HWd.out.grownFar hgx HNG2.out.1 HNG2.out.2.1 (.inl HNG2.out.2.2.1))
              have HMx := Aside0.mk (blk_grown HMd.out hgx (fun e => HNG2.out.2.2.2.1 (Option.some.inj e).symm))
              have HRx := Aside0.mk (blk_grown HRd.out hgx (fun e => HNG2.out.2.2.2.2 (Option.some.inj e).symm))
              generalize wd.setCell ⟨G, 3, none⟩ (.int .u64 r.f4) = wx at HGx HWx HMx HRx ⊢
              clear gc gf hgx HGd HWd HMd HRd y0 y1 x0 x1 x2 x4 x5
              obtain ⟨we, hme, hwe, _⟩ := HWx.out.putT_ r.f2 (newG (wasG s r.f2) r)
              rw [HNG.out] at hme
              have HWe := Aside0.mk hwe
              clear hwe
              have y0 := blk_cell HMx.out 0
              have y1 := blk_cell HMx.out 1
              have x0 := blk_cell HRx.out 0
              have x1 := blk_cell HRx.out 1
              have x2 := blk_cell HRx.out 2
              have x4 := blk_cell HRx.out 4
              have x5 := blk_cell HRx.out 5
              have g0 := blk_cell HGx.out 0
              have g1 := blk_cell HGx.out 1
              have g2 := blk_cell HGx.out 2
              have g3 := blk_cell HGx.out 3
              go_wp2_with fail
              go_end0
              exact ⟨rfl, by rw [HS.out]; exact HWe.out⟩
        · have HS := Aside0.mk (show stepW s r = putT s r.f2 (newG (wasG s r.f2) r) from by unfold stepW; rw [if_neg h78, if_neg h35, if_neg (fun h => h.elim h1 h2)])
          have e2 : (r.f0 == 2) = false := by simpa using h2
          have HWb := HWa
          have HMb := HMa
          have HRb := HRa
          by_cases h4 : r.f0 = 4
          · have HNG := Aside0.mk (show newG (wasG s r.f2) r = ⟨2, r.f1, (wasG s r.f2).next⟩ from by unfold newG; rw [if_pos h4, if_neg h1, if_neg h2])
            have e4 : (r.f0 == 4) = true := by simpa using h4
            clear h78 h35 h1 h2 h4
            obtain ⟨i0, hi0⟩ := wasG_ex s r.f2
            have hlk := HWb.out.look1 r.f2
            rw [hi0] at hlk
            clear hi0
            go_upto_region 13 with fail
            have hbg := heap_alloc_new wa (.cells #[.int .i64 i0, .int .i64 (wasG s r.f2).st, .int .u64 (wasG s r.f2).last, .int .u64 (wasG s r.f2).next] 91)
            have hbb := below_alloc (Below.refl wa.heap.size wa) (.cells #[.int .i64 i0, .int .i64 (wasG s r.f2).st, .int .u64 (wasG s r.f2).last, .int .u64 (wasG s r.f2).next] 91)
            have HWc := Aside0.mk (HWb.out.next hbb)
            have HMc := Aside0.mk (blk_below HMb.out hbb)
            have HRc := Aside0.mk (blk_below HRb.out hbb)
            have HGc := Aside0.mk hbg
            have HNG2 := Aside0.mk (show wa.heap.size ≠ m1 ∧ wa.heap.size ≠ m2 ∧ b.w.heap.size ≤ wa.heap.size ∧ wa.heap.size ≠ B2 ∧ wa.heap.size ≠ B2 + 1 from ⟨by have := HWb.out.tx.lt; omega, by have := HWb.out.di.lt; omega, HWb.out.bel.size, by have := blk_lt HMb.out; omega, by have := blk_lt HRb.out; omega⟩)
            obtain ⟨G, hG⟩ : ∃ x, x = wa.heap.size := ⟨_, rfl⟩
            generalize wa.alloc (.cells #[.int .i64 i0, .int .i64 (wasG s r.f2).st, .int .u64 (wasG s r.f2).last, .int .u64 (wasG s r.f2).next] 91) = wc at HWc HMc HRc HGc ⊢
            rw [← hG] at HGc HNG2 ⊢
            clear hbg hbb hG hlk HWb HMb HRb y0 y1 x0 x1 x2 x4 x5
            go_cut [] (fun wx => Aside0 (Walks b wx m1 m2 s) ∧ Aside0 (wx.heap[B2]? = some (.cells #[.map (some m1), .map (some m2)] 79 (0, 0))) ∧ Aside0 (wx.heap[B2 + 1]? = some (.cells #[.int .i64 r.f0, .int .u64 r.f1, .int .i64 r.f2, .int .u64 r.f3, .int .u64 r.f4, .int .i64 r.f5, .int .i64 r.f6.f0, .string r.f6.f1, .string r.f6.f2, .string r.f6.f3, .slice At lt ct, .slice Ad ld cd] 43 (0, 0))) ∧ Aside0 (wx.heap[G]? = some (.cells #[.int .i64 r.f2, .int .i64 (wasG s r.f2).st, .int .u64 r.f1, .int .u64 (wasG s r.f2).next] 91 (0, 0))))
            case first =>
              have HWk := Aside0.mk (HWc.out.next (below_drew (Below.refl _ _)))
              have HMk := Aside0.mk (blk_drew HMc.out)
              have HRk := Aside0.mk (blk_drew HRc.out)
              have HGk := Aside0.mk (blk_drew HGc.out)
              clear HWc HMc HRc HGc
              refine start_ (n := 10) (S := fun wx => wx.cell? ⟨B2 + 1, 2, none⟩ = some (.int .i64 r.f2) ∧ wx.cell? ⟨B2 + 1, 1, none⟩ = some (.int .u64 r.f1)) (ds := []) #[false, false, false, false, false, false, false, false, false, false] (by kernel_rfl) rfl rfl (⟨blk_cell HRk.out 2, blk_cell HRk.out 1⟩) (fun hHeld => ?_)
              refine pure_ (i := 0) (N := some 43) (v := ?_) (a' := ?_) #[true, false, false, false, false, false, false, false, false, false] rfl rfl (by kernel_rfl) (fun _ _ _ h => h) (Or.inl ⟨by rfl, ?_⟩) ?_ ?_
              rotate_left
              · intro w'
                go_simp
                all_goals (with_reducible rfl)
              rotate_left
              · simp only [Act.put, List.setIfInBounds_toArray, List.set_cons_zero, List.set_cons_succ, i64_w, i32_w]
                rfl
              refine pure_ (i := 2) (N := some 45) (v := ?_) (a' := ?_) #[true, false, true, false, false, false, false, false, false, false] rfl rfl (by kernel_rfl) (fun _ _ _ h => h) (Or.inl ⟨by rfl, ?_⟩) ?_ ?_
              rotate_left
              · intro w'
                go_simp
                all_goals (with_reducible rfl)
              rotate_left
              · simp only [Act.put, List.setIfInBounds_toArray, List.set_cons_zero, List.set_cons_succ, i64_w, i32_w]
                rfl
              refine take_ (i := 1) (N := some 44) (v := ?_) (a' := ?_) #[true, true, true, false, false, false, false, false, false, false] rfl rfl (by kernel_rfl) (fun _ _ _ h => h) (Or.inl ⟨by rfl, ?_⟩) hHeld ?_ ?_
              rotate_left
              · intro w' hSw
                (try dsimp only at hSw)
                go_simp
                all_goals (with_reducible rfl)
              rotate_left
              · simp only [Act.put, List.setIfInBounds_toArray, List.set_cons_zero, List.set_cons_succ, i64_w, i32_w]
                rfl
              refine pure_ (i := 4) (N := some 47) (v := ?_) (a' := ?_) #[true, true, true, false, true, false, false, false, false, false] rfl rfl (by kernel_rfl) (fun _ _ _ h => h) (Or.inl ⟨by rfl, ?_⟩) ?_ ?_
              rotate_left
              · intro w'
                go_simp
                all_goals (with_reducible rfl)
              rotate_left
              · simp only [Act.put, List.setIfInBounds_toArray, List.set_cons_zero, List.set_cons_succ, i64_w, i32_w]
                rfl
              refine pure_ (i := 5) (N := some 48) (v := ?_) (a' := ?_) #[true, true, true, false, true, true, false, false, false, false] rfl rfl (by kernel_rfl) (fun _ _ _ h => h) (Or.inl ⟨by rfl, ?_⟩) ?_ ?_
              rotate_left
              · intro w'
                go_simp
                all_goals (with_reducible rfl)
              rotate_left
              · simp only [Act.put, List.setIfInBounds_toArray, List.set_cons_zero, List.set_cons_succ, i64_w, i32_w]
                rfl
              refine take_ (i := 3) (N := some 46) (v := ?_) (a' := ?_) #[true, true, true, true, true, true, false, false, false, false] rfl rfl (by kernel_rfl) (fun _ _ _ h => h) (Or.inl ⟨by rfl, ?_⟩) hHeld ?_ ?_
              rotate_left
              · intro w' hSw
                (try dsimp only at hSw)
                go_simp
                all_goals (with_reducible rfl)
              rotate_left
              · simp only [Act.put, List.setIfInBounds_toArray, List.set_cons_zero, List.set_cons_succ, i64_w, i32_w]
                rfl
              refine one_ (i := 6) (N := none) #[true, true, true, true, true, true, true, false, false, false] rfl rfl (by kernel_rfl) (by decide) (fun K hK => ?_)
              refine store_cell (t := 3) (i := 0) (v := .int .i64 r.f2) rfl (by rfl) rfl (by rfl) (by rfl) rfl HGk.out (Nat.le_of_ble_eq_true rfl) (by kernel_rfl) rfl (fun wk hbk hgk => ?_)
              have HGk := Aside0.mk hbk
              have HWk := Aside0.mk (HWk.out.grownFar hgk HNG2.out.1 HNG2.out.2.1 (.inl HNG2.out.2.2.1))
              have HMk := Aside0.mk (blk_grown HMk.out hgk (fun e => HNG2.out.2.2.2.1 (Option.some.inj e).symm))
              have HRk := Aside0.mk (blk_grown HRk.out hgk (fun e => HNG2.out.2.2.2.2 (Option.some.inj e).symm))
              clear hbk hgk
              refine hK.out _ _ (⟨blk_cell HRk.out 2, blk_cell HRk.out 1⟩) (fun hHeld => ?_)
              clear hK K
              (try simp only [Act.put, List.setIfInBounds_toArray, List.set_cons_zero, List.set_cons_succ])
              refine pure_ (i := 7) (N := some 49) (v := ?_) (a' := ?_) #[true, true, true, true, true, true, true, true, false, false] rfl rfl (by kernel_rfl) (fun _ _ _ h => h) (Or.inl ⟨by rfl, ?_⟩) ?_ ?_
              rotate_left
              · intro w'
                go_simp
                all_goals (with_reducible rfl)
              rotate_left
              · simp only [Act.put, List.setIfInBounds_toArray, List.set_cons_zero, List.set_cons_succ, i64_w, i32_w]
                rfl
              refine pure_ (i := 8) (N := some 50) (v := ?_) (a' := ?_) #[true, true, true, true, true, true, true, true, true, false] rfl rfl (by kernel_rfl) (fun _ _ _ h => h) (Or.inl ⟨by rfl, ?_⟩) ?_ ?_
              rotate_left
              · intro w'
                go_simp
                all_goals (with_reducible rfl)
              rotate_left
              · simp only [Act.put, List.setIfInBounds_toArray, List.set_cons_zero, List.set_cons_succ, i64_w, i32_w]
                rfl
              refine one_ (i := 9) (N := none) #[true, true, true, true, true, true, true, true, true, true] rfl rfl (by kernel_rfl) (by decide) (fun K hK => ?_)
              refine store_cell (t := 26) (i := 2) (v := .int .u64 r.f1) rfl (by rfl) rfl (by rfl) (by rfl) rfl HGk.out (Nat.le_of_ble_eq_true rfl) (by kernel_rfl) rfl (fun wk hbk hgk => ?_)
              have HGk := Aside0.mk hbk
              have HWk := Aside0.mk (HWk.out.grownFar hgk HNG2.out.1 HNG2.out.2.1 (.inl HNG2.out.2.2.1))
              have HMk := Aside0.mk (blk_grown HMk.out hgk (fun e => HNG2.out.2.2.2.1 (Option.some.inj e).symm))
              have HRk := Aside0.mk (blk_grown HRk.out hgk (fun e => HNG2.out.2.2.2.2 (Option.some.inj e).symm))
              clear hbk hgk
              refine hK.out _ _ (⟨blk_cell HRk.out 2, blk_cell HRk.out 1⟩) (fun hHeld => ?_)
              clear hK K
              (try simp only [Act.put, List.setIfInBounds_toArray, List.set_cons_zero, List.set_cons_succ])
              refine done_ (by kernel_rfl) ?_
              go_wp2_with fail
              go_meet
              case rel => exact ⟨⟨HWk.out⟩, ⟨HMk.out⟩, ⟨HRk.out⟩, ⟨HGk.out⟩⟩
            case rest =>
              clear HWc HMc HRc HGc
              obtain ⟨HWd, HMd, HRd, HGd⟩ := hcut
              generalize wc = wd at HWd HMd HRd HGd ⊢
              have y0 := blk_cell HMd.out 0
              have y1 := blk_cell HMd.out 1
              have x0 := blk_cell HRd.out 0
              have x1 := blk_cell HRd.out 1
              have x2 := blk_cell HRd.out 2
              have x4 := blk_cell HRd.out 4
              have x5 := blk_cell HRd.out 5
              have gc := blk_cell HGd.out 1
              have gf := blk_frozen HGd.out 1
              go_upto_region 21 with fail
              have HGx := Aside0.mk (blk_put HGd.out 1 (.int .i64 2) rfl)
              have hgx := grown_set2 wd G 1 (.int .i64 2)
              have HWx := Aside0.mk (HWd.out.grownFar hgx HNG2.out.1 HNG2.out.2.1 (.inl HNG2.out.2.2.1))
              have HMx := Aside0.mk (blk_grown HMd.out hgx (fun e => HNG2.out.2.2.2.1 (Option.some.inj e).symm))
              have HRx := Aside0.mk (blk_grown HRd.out hgx (fun e => HNG2.out.2.2.2.2 (Option.some.inj e).symm))
              generalize wd.setCell ⟨G, 1, none⟩ (.int .i64 2) = wx at HGx HWx HMx HRx ⊢
              clear gc gf hgx HGd HWd HMd HRd y0 y1 x0 x1 x2 x4 x5
              obtain ⟨we, hme, hwe, _⟩ := HWx.out.putT_ r.f2 (newG (wasG s r.f2) r)
              rw [HNG.out] at hme
              have HWe := Aside0.mk hwe
              clear hwe
              have y0 := blk_cell HMx.out 0
              have y1 := blk_cell HMx.out 1
              have x0 := blk_cell HRx.out 0
              have x1 := blk_cell HRx.out 1
              have x2 := blk_cell HRx.out 2
              have x4 := blk_cell HRx.out 4
              have x5 := blk_cell HRx.out 5
              have g0 := blk_cell HGx.out 0
              have g1 := blk_cell HGx.out 1
              have g2 := blk_cell HGx.out 2
              have g3 := blk_cell HGx.out 3
              go_wp2_with fail
              go_end0
              exact ⟨rfl, by rw [HS.out]; exact HWe.out⟩
          · have HNG := Aside0.mk (show newG (wasG s r.f2) r = ⟨(wasG s r.f2).st, r.f1, (wasG s r.f2).next⟩ from by unfold newG; rw [if_neg h4, if_neg h1, if_neg h2])
            have e4 : (r.f0 == 4) = false := by simpa using h4
            clear h78 h35 h1 h2 h4
            obtain ⟨i0, hi0⟩ := wasG_ex s r.f2
            have hlk := HWb.out.look1 r.f2
            rw [hi0] at hlk
            clear hi0
            go_upto_region 13 with fail
            have hbg := heap_alloc_new wa (.cells #[.int .i64 i0, .int .i64 (wasG s r.f2).st, .int .u64 (wasG s r.f2).last, .int .u64 (wasG s r.f2).next] 91)
            have hbb := below_alloc (Below.refl wa.heap.size wa) (.cells #[.int .i64 i0, .int .i64 (wasG s r.f2).st, .int .u64 (wasG s r.f2).last, .int .u64 (wasG s r.f2).next] 91)
            have HWc := Aside0.mk (HWb.out.next hbb)
            have HMc := Aside0.mk (blk_below HMb.out hbb)
            have HRc := Aside0.mk (blk_below HRb.out hbb)
            have HGc := Aside0.mk hbg
            have HNG2 := Aside0.mk (show wa.heap.size ≠ m1 ∧ wa.heap.size ≠ m2 ∧ b.w.heap.size ≤ wa.heap.size ∧ wa.heap.size ≠ B2 ∧ wa.heap.size ≠ B2 + 1 from ⟨by have := HWb.out.tx.lt; omega, by have := HWb.out.di.lt; omega, HWb.out.bel.size, by have := blk_lt HMb.out; omega, by have := blk_lt HRb.out; omega⟩)
            obtain ⟨G, hG⟩ : ∃ x, x = wa.heap.size := ⟨_, rfl⟩
            generalize wa.alloc (.cells #[.int .i64 i0, .int .i64 (wasG s r.f2).st, .int .u64 (wasG s r.f2).last, .int .u64 (wasG s r.f2).next] 91) = wc at HWc HMc HRc HGc ⊢
            rw [← hG] at HGc HNG2 ⊢
            clear hbg hbb hG hlk HWb HMb HRb y0 y1 x0 x1 x2 x4 x5
            go_cut [] (fun wx => Aside0 (Walks b wx m1 m2 s) ∧ Aside0 (wx.heap[B2]? = some (.cells #[.map (some m1), .map (some m2)] 79 (0, 0))) ∧ Aside0 (wx.heap[B2 + 1]? = some (.cells #[.int .i64 r.f0, .int .u64 r.f1, .int .i64 r.f2, .int .u64 r.f3, .int .u64 r.f4, .int .i64 r.f5, .int .i64 r.f6.f0, .string r.f6.f1, .string r.f6.f2, .string r.f6.f3, .slice At lt ct, .slice Ad ld cd] 43 (0, 0))) ∧ Aside0 (wx.heap[G]? = some (.cells #[.int .i64 r.f2, .int .i64 (wasG s r.f2).st, .int .u64 r.f1, .int .u64 (wasG s r.f2).next] 91 (0, 0))))
            case first =>
              have HWk := Aside0.mk (HWc.out.next (below_drew (Below.refl _ _)))
              have HMk := Aside0.mk (blk_drew HMc.out)
              have HRk := Aside0.mk (blk_drew HRc.out)
              have HGk := Aside0.mk (blk_drew HGc.out)
              clear HWc HMc HRc HGc
              refine start_ (n := 10) (S := fun wx => wx.cell? ⟨B2 + 1, 2, none⟩ = some (.int .i64 r.f2) ∧ wx.cell? ⟨B2 + 1, 1, none⟩ = some (.int .u64 r.f1)) (ds := []) #[false, false, false, false, false, false, false, false, false, false] (by kernel_rfl) rfl rfl (⟨blk_cell HRk.out 2, blk_cell HRk.out 1⟩) (fun hHeld => ?_)
              refine pure_ (i := 0) (N := some 43) (v := ?_) (a' := ?_) #[true, false, false, false, false, false, false, false, false, false] rfl rfl (by kernel_rfl) (fun _ _ _ h => h) (Or.inl ⟨by rfl, ?_⟩) ?_ ?_
              rotate_left
              · intro w'
                go_simp
                all_goals (with_reducible rfl)
              rotate_left
              · simp only [Act.put, List.setIfInBounds_toArray, List.set_cons_zero, List.set_cons_succ, i64_w, i32_w]
                rfl
              refine pure_ (i := 2) (N := some 45) (v := ?_) (a' := ?_) #[true, false, true, false, false, false, false, false, false, false] rfl rfl (by kernel_rfl) (fun _ _ _ h => h) (Or.inl ⟨by rfl, ?_⟩) ?_ ?_
              rotate_left
              · intro w'
                go_simp
                all_goals (with_reducible rfl)
              rotate_left
              · simp only [Act.put, List.setIfInBounds_toArray, List.set_cons_zero, List.set_cons_succ, i64_w, i32_w]
                rfl
              refine take_ (i := 1) (N := some 44) (v := ?_) (a' := ?_) #[true, true, true, false, false, false, false, false, false, false] rfl rfl (by kernel_rfl) (fun _ _ _ h => h) (Or.inl ⟨by rfl, ?_⟩) hHeld ?_ ?_
              rotate_left
              · intro w' hSw
                (try dsimp only at hSw)
                go_simp
                all_goals (with_reducible rfl)
              rotate_left
              · simp only [Act.put, List.setIfInBounds_toArray, List.set_cons_zero, List.set_cons_succ, i64_w, i32_w]
                rfl
              refine pure_ (i := 4) (N := some 47) (v := ?_) (a' := ?_) #[true, true, true, false, true, false, false, false, false, false] rfl rfl (by kernel_rfl) (fun _ _ _ h => h) (Or.inl ⟨by rfl, ?_⟩) ?_ ?_
              rotate_left
              · intro w'
                go_simp
                all_goals (with_reducible rfl)
              rotate_left
              · simp only [Act.put, List.setIfInBounds_toArray, List.set_cons_zero, List.set_cons_succ, i64_w, i32_w]
                rfl
              refine pure_ (i := 5) (N := some 48) (v := ?_) (a' := ?_) #[true, true, true, false, true, true, false, false, false, false] rfl rfl (by kernel_rfl) (fun _ _ _ h => h) (Or.inl ⟨by rfl, ?_⟩) ?_ ?_
              rotate_left
              · intro w'
                go_simp
                all_goals (with_reducible rfl)
              rotate_left
              · simp only [Act.put, List.setIfInBounds_toArray, List.set_cons_zero, List.set_cons_succ, i64_w, i32_w]
                rfl
              refine take_ (i := 3) (N := some 46) (v := ?_) (a' := ?_) #[true, true, true, true, true, true, false, false, false, false] rfl rfl (by kernel_rfl) (fun _ _ _ h => h) (Or.inl ⟨by rfl, ?_⟩) hHeld ?_ ?_
              rotate_left
              · intro w' hSw
                (try dsimp only at hSw)
                go_simp
                all_goals (with_reducible rfl)
              rotate_left
              · simp only [Act.put, List.setIfInBounds_toArray, List.set_cons_zero, List.set_cons_succ, i64_w, i32_w]
                rfl
              refine one_ (i := 6) (N := none) #[true, true, true, true, true, true, true, false, false, false] rfl rfl (by kernel_rfl) (by decide) (fun K hK => ?_)
              refine store_cell (t := 3) (i := 0) (v := .int .i64 r.f2) rfl (by rfl) rfl (by rfl) (by rfl) rfl HGk.out (Nat.le_of_ble_eq_true rfl) (by kernel_rfl) rfl (fun wk hbk hgk => ?_)
              have HGk := Aside0.mk hbk
              have HWk := Aside0.mk (HWk.out.grownFar hgk HNG2.out.1 HNG2.out.2.1 (.inl HNG2.out.2.2.1))
              have HMk := Aside0.mk (blk_grown HMk.out hgk (fun e => HNG2.out.2.2.2.1 (Option.some.inj e).symm))
              have HRk := Aside0.mk (blk_grown HRk.out hgk (fun e => HNG2.out.2.2.2.2 (Option.some.inj e).symm))
              clear hbk hgk
              refine hK.out _ _ (⟨blk_cell HRk.out 2, blk_cell HRk.out 1⟩) (fun hHeld => ?_)
              clear hK K
              (try simp only [Act.put, List.setIfInBounds_toArray, List.set_cons_zero, List.set_cons_succ])
              refine pure_ (i := 7) (N := some 49) (v := ?_) (a' := ?_) #[true, true, true, true, true, true, true, true, false, false] rfl rfl (by kernel_rfl) (fun _ _ _ h => h) (Or.inl ⟨by rfl, ?_⟩) ?_ ?_
              rotate_left
              · intro w'
                go_simp
                all_goals (with_reducible rfl)
              rotate_left
              · simp only [Act.put, List.setIfInBounds_toArray, List.set_cons_zero, List.set_cons_succ, i64_w, i32_w]
                rfl
              refine pure_ (i := 8) (N := some 50) (v := ?_) (a' := ?_) #[true, true, true, true, true, true, true, true, true, false] rfl rfl (by kernel_rfl) (fun _ _ _ h => h) (Or.inl ⟨by rfl, ?_⟩) ?_ ?_
              rotate_left
              · intro w'
                go_simp
                all_goals (with_reducible rfl)
              rotate_left
              · simp only [Act.put, List.setIfInBounds_toArray, List.set_cons_zero, List.set_cons_succ, i64_w, i32_w]
                rfl
              refine one_ (i := 9) (N := none) #[true, true, true, true, true, true, true, true, true, true] rfl rfl (by kernel_rfl) (by decide) (fun K hK => ?_)
              refine store_cell (t := 26) (i := 2) (v := .int .u64 r.f1) rfl (by rfl) rfl (by rfl) (by rfl) rfl HGk.out (Nat.le_of_ble_eq_true rfl) (by kernel_rfl) rfl (fun wk hbk hgk => ?_)
              have HGk := Aside0.mk hbk
              have HWk := Aside0.mk (HWk.out.grownFar hgk HNG2.out.1 HNG2.out.2.1 (.inl HNG2.out.2.2.1))
              have HMk := Aside0.mk (blk_grown HMk.out hgk (fun e => HNG2.out.2.2.2.1 (Option.some.inj e).symm))
              have HRk := Aside0.mk (blk_grown HRk.out hgk (fun e => HNG2.out.2.2.2.2 (Option.some.inj e).symm))
              clear hbk hgk
              refine hK.out _ _ (⟨blk_cell HRk.out 2, blk_cell HRk.out 1⟩) (fun hHeld => ?_)
              clear hK K
              (try simp only [Act.put, List.setIfInBounds_toArray, List.set_cons_zero, List.set_cons_succ])
              refine done_ (by kernel_rfl) ?_
              go_wp2_with fail
              go_meet
              case rel => exact ⟨⟨HWk.out⟩, ⟨HMk.out⟩, ⟨HRk.out⟩, ⟨HGk.out⟩⟩
            case rest =>
              clear HWc HMc HRc HGc
              obtain ⟨HWd, HMd, HRd, HGd⟩ := hcut
              generalize wc = wd at HWd HMd HRd HGd ⊢
              have y0 := blk_cell HMd.out 0
              have y1 := blk_cell HMd.out 1
              have x0 := blk_cell HRd.out 0
              have x1 := blk_cell HRd.out 1
              have x2 := blk_cell HRd.out 2
              have x4 := blk_cell HRd.out 4
              have x5 := blk_cell HRd.out 5
              have HWx := HWd
              have HMx := HMd
              have HRx := HRd
              have HGx := HGd
              clear y0 y1 x0 x1 x2 x4 x5
              obtain ⟨we, hme, hwe, _⟩ := HWx.out.putT_ r.f2 (newG (wasG s r.f2) r)
              rw [HNG.out] at hme
              have HWe := Aside0.mk hwe
              clear hwe
              have y0 := blk_cell HMx.out 0
              have y1 := blk_cell HMx.out 1
              have x0 := blk_cell HRx.out 0
              have x1 := blk_cell HRx.out 1
              have x2 := blk_cell HRx.out 2
              have x4 := blk_cell HRx.out 4
              have x5 := blk_cell HRx.out 5
              have g0 := blk_cell HGx.out 0
              have g1 := blk_cell HGx.out 1
              have g2 := blk_cell HGx.out 2
              have g3 := blk_cell HGx.out 3
              go_wp2_with fail
              go_end0
              exact ⟨rfl, by rw [HS.out]; exact HWe.out⟩
end Go.Proofs.Ytaahfokdgfopcaa
