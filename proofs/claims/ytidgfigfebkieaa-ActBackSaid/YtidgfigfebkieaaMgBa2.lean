/- Layer 7: ActBack's walk. 
A slice of elements of one shape that came in, laid open as a list. 
Layer 7: a law's arguments, laid open: slices of Pair, of Act. 
Layer 7: a law's arguments, laid open: an Act. -/
import Derived.Test.YtidgfigfebkieaaMgBa1
import Derived.Test.YtidgfigfebkieaaRfT
import Derived.Deep.Slices
import Derived.Deep.Fields
import Derived.ChangeSame
import Derived.SizedLaws
import Derived.Lib.SmallJoins
import Derived.ProofKit
import Derived.OpenShut
section
namespace Go.Proofs.Ytidgfigfebkieaa
open Go.RowKit Go.Proofs.YtidgfigfebkieaaW.PrintWords Go.Proofs.YtidgfigfebkieaaW.PrintLast Go.Proofs.YtidgfigfebkieaaW.PrintMore
open Rf
set_option linter.unusedVariables false
set_option linter.unusedSimpArgs false
theorem turn_ok (w : World) (k : Int) (a b c : ByteArray) (ha : a.size ≤ 140737488351232) (hb : b.size ≤ 140737488351232) (hc : c.size ≤ 140737488351232) (hm : actMay k a b c = true) : Calls Try.prog 11 #[.agg #[.int .i64 k, .string a, .string b, .string c]] w fun e w' => e = .returned (.agg #[.int .i64 (turnK k), .string a, .string c, .string b]) ∧ Below w.heap.size w w' := by
  have h := turn_calls w k a b c ha hb hc
  rw [show actTurn k a b c = (turnK k, a, c, b) from by unfold actTurn; rw [hm]; rfl] at h
  exact h
theorem once_of {l : List SGPair} {cs : List SGCell} (hv : Valid cs) (hu : Used cs) (h : l.Perm (prs cs)) : ∀ a ∈ l, ∀ b ∈ l, a.f0 = b.f0 → a = b :=
  fun a ha b hb he => prs_once hv hu a (h.mem_iff.1 ha) b (h.mem_iff.1 hb) he
theorem srt_same {l m : List SGPair} {cs : List SGCell} (hv : Valid cs) (hu : Used cs) (h1 : l.Perm (prs cs)) (h2 : m.Perm (prs cs)) (s1 : Srt l) (s2 : Srt m) : l = m :=
  srt_eq (h1.trans h2.symm) s1 s2 (once_of hv hu h1)
set_option maxRecDepth 100000 in
set_option maxHeartbeats 10000000 in
theorem back_walk (w : World) (l : List SGPair) (A : Option Addr) (c : Nat) (hC : Kd.C kGPair w A l.length l) (hl : l.length ≤ 9223372036854775807) (hsz : ∀ x ∈ l, x.f0.size ≤ 140737488351232 ∧ x.f1.size ≤ 140737488351232)
    (m : List SGAct) (Am : Option Addr) (cm : Nat) (hM : Kd.C kGAct w Am m.length m) (hml : m.length ≤ 9223372036854775807) (hmz : ∀ x ∈ m, x.f1.size ≤ 140737488351232 ∧ x.f2.size ≤ 140737488351232 ∧ x.f3.size ≤ 140737488351232)
    (ak : Int) (sa sb sc : ByteArray) (ha : sa.size ≤ 140737488351232) (hb : sb.size ≤ 140737488351232) (hc : sc.size ≤ 140737488351232) :
    Calls Try.prog 8 #[.slice A l.length c, .slice Am m.length cm, .agg #[.int .i64 ak, .string sa, .string sb, .string sc]] w fun e w' => e = .returned (.bool true) ∧ Below w.heap.size w w' := by
  have HM := Aside0.mk hM
  have HMZ := Aside0.mk hmz
  go_enter Try.func8, Try.ntmps8
  go_wp2_with fail
  have hb0 : Below w.heap.size w (w.alloc (.cells #[.int .i64 ak, .string sa, .string sb, .string sc] 24)) := below_alloc (Below.refl _ _) _
  have hax := heap_alloc_new w (.cells #[.int .i64 ak, .string sa, .string sb, .string sc] 24)
  have hC0 := Kd.C_below hC hb0
  have hM0 := Kd.C_below hM hb0
  obtain ⟨AB, hAB⟩ : ∃ x, x = w.heap.size := ⟨_, rfl⟩
  generalize w.alloc (.cells #[.int .i64 ak, .string sa, .string sb, .string sc] 24) = wa at hb0 hax hC0 hM0 ⊢
  have HB0 := Aside0.mk hb0
  rw [← hAB] at hax ⊢
  have HAX0 := Aside0.mk hax
  have HM := Aside0.mk hM0
  clear hb0 hax hC hM hM0 hAB
  refine (pair2_calls wa 2 (by decide) l A c hC0 hl hsz).mono ?_
  rintro e w1 ⟨g, cs, v, rfl, hT, hu⟩
  obtain ⟨Av, cv, rfl, _, _⟩ := hT.row
  obtain ⟨ok1, hh1⟩ := hT.here
  have HH := Aside0.mk (show ∃ ok, Here wa w1 ok g 2 0 cs from ⟨_, hh1⟩)
  have HU := Aside0.mk hu
  have HAX1 := Aside0.mk (blk_below HAX0.out hh1.bel)
  have x0 : ∀ o, (w1.alloc o).cell? ⟨AB, 0, none⟩ = some (.int .i64 ak) := fun o => blk_cell (blk_alloc HAX1.out o) 0
  have x1 : ∀ o, (w1.alloc o).cell? ⟨AB, 1, none⟩ = some (.string sa) := fun o => blk_cell (blk_alloc HAX1.out o) 1
  have x2 : ∀ o, (w1.alloc o).cell? ⟨AB, 2, none⟩ = some (.string sb) := fun o => blk_cell (blk_alloc HAX1.out o) 2
  have x3 : ∀ o, (w1.alloc o).cell? ⟨AB, 3, none⟩ = some (.string sc) := fun o => blk_cell (blk_alloc HAX1.out o) 3
  have HB1 := Aside0.mk (show ∀ o, Below w1.heap.size w1 (w1.alloc o) from fun o => below_alloc (Below.refl _ _) o)
  clear hC0 hsz hmz hT hu hh1
  go_wp2_with fail
  clear x0 x1 x2 x3
  have hb2 := HB1.out (.cells #[.int .i64 2, .int .u64 0, .slice Av cs.length cv] 46)
  generalize w1.alloc (.cells #[.int .i64 2, .int .u64 0, .slice Av cs.length cv] 46) = w2 at hb2 ⊢
  refine (short_calls _ _ _ _ w2 ha hb hc).mono ?_
  rintro e w3 ⟨rfl, hb3⟩
  have HH3 := Aside0.mk (show ∃ ok, Here wa w3 ok g 2 0 cs from by obtain ⟨ok, h⟩ := HH.out; exact ⟨ok, (h.next hb2).next hb3⟩)
  clear hb2 hb3 HB1 HH HAX1
  cases decide (sa.size + sb.size + sc.size ≤ 1000) with
  | false =>
    have HBn := Aside0.mk (show Below w.heap.size w w3 from by obtain ⟨ok, h⟩ := HH3.out; exact below_then HB0.out HB0.out.size h.bel)
    go_wp2_with (go_at_call 10; refine (lives_calls _).mono ?_; rintro e wq ⟨rfl, hb⟩; have HBn := Aside0.mk (below_then HBn.out HBn.out.size hb); clear hb)
    go_ret
    exact ⟨rfl, HBn.out⟩
  | true =>
    go_wp2_with fail
    go_loopg [9] m.length (fun gk v9 wr => ∃ (k : Nat) (cs : List SGCell), Aside0 (k + gk = m.length ∧ Used cs) ∧ v9 = .int .i64 k ∧ k ≤ m.length ∧ Aside0 (∃ ok, Here wa wr ok g 2 0 cs))
    case atStart => exact ⟨0, cs, ⟨by omega, HU.out⟩, rfl, by omega, HH3⟩
    case round =>
      obtain ⟨k, cs, Hk, rfl, hkl, HH⟩ := hrel
      obtain ⟨G, rfl⟩ : ∃ x, x = gk := ⟨_, rfl⟩
      clear HH3 HU
      by_cases hend : k < m.length ∧ k < 60
      · obtain ⟨hlt, h60⟩ := hend
        have hd60 : decide ((k : Int) < 60) = true := by simp; omega
        obtain ⟨ok, hh⟩ := HH.out
        obtain ⟨ad, rfl, hx0, hx1, hx2, hx3⟩ := act_at (Kd.C_below HM.out hh.bel) k hlt
        obtain ⟨hz1, hz2, hz3⟩ := HMZ.out _ (act_mem m k hlt)
        go_wp2_with fail
        refine (short_calls _ _ _ _ wr hz1 hz2 hz3).mono ?_
        rintro e w4 ⟨rfl, hb4⟩
        have hh4 := hh.next hb4
        clear hx0 hx1 hx2 hx3 hb4
        cases decide ((rd_TGAct m k).f1.size + (rd_TGAct m k).f2.size + (rd_TGAct m k).f3.size ≤ 1000) with
        | false =>
          have HH4 := Aside0.mk (show ∃ ok, Here wa w4 ok g 2 0 cs from ⟨_, hh4⟩)
          clear hh hh4
          go_wp2_with fail
          go_roundg (G - 1)
          case measure => have := Hk.out.1; omega
          case rel => exact ⟨k + 1, cs, ⟨by have := Hk.out.1; omega, Hk.out.2⟩, by simp, by omega, HH4⟩
        | true =>
          obtain ⟨ad', ea', x0, x1, x2, x3⟩ := act_at (Kd.C_below HM.out hh4.bel) k hlt
          cases ea'
          go_wp2_with fail
          refine (do_calls hh4 (rd_TGAct m k).f0 (rd_TGAct m k).f1 (rd_TGAct m k).f2 (rd_TGAct m k).f3 hz1 hz2 hz3).mono ?_
          rintro e w5 ⟨rfl, hA⟩
          have HH5 := Aside0.mk (show ∃ ok, Here wa w5 ok g 2 0 (actDo cs (rd_TGAct m k).f0 (rd_TGAct m k).f1 (rd_TGAct m k).f2 (rd_TGAct m k).f3).1 from ⟨_, hA.here⟩)
          clear hh hh4 hA x0 x1 x2 x3
          go_wp2_with fail
          go_roundg (G - 1)
          case measure => have := Hk.out.1; omega
          case rel => exact ⟨k + 1, _, ⟨by have := Hk.out.1; omega, Hk.out.2.actDo _ _ _ _⟩, by simp, by omega, HH5⟩
      · have hend2 : ¬ k < m.length ∨ ¬ k < 60 := by omega
        obtain ⟨ok, hh⟩ := HH.out
        have HU := Aside0.mk Hk.out.2
        have HV := Aside0.mk hh.val
        have HS := Aside0.mk hh.bound
        clear Hk HH
        go_wp2_with fail
        all_goals
          refine HS.out.pairs.mono ?_
          rintro e w6 ⟨Ar, cr, ls, rfl, hR, hperm, hsrt, _, hb6⟩
          have HD6 := Aside0.mk (Duo.of HS.out (fun k hk => hk.2) hb6 hR)
          have HP := Aside0.mk hperm
          have HSR := Aside0.mk hsrt
          clear hR hperm hsrt hb6
          have HAX6 := Aside0.mk (blk_below HAX0.out HD6.out.bel)
          have x0 := blk_cell HAX6.out 0
          have x1 := blk_cell HAX6.out 1
          have x2 := blk_cell HAX6.out 2
          have x3 := blk_cell HAX6.out 3
          go_wp2_with fail
          refine (HD6.out.do_ ak sa sb sc ha hb hc).mono ?_
          rintro e w7 ⟨rfl, hD7, _⟩
          have HD7 := Aside0.mk hD7
          have HAX7 := Aside0.mk (blk_below HAX0.out hD7.bel)
          clear hD7 x0 x1 x2 x3
          have x0 := blk_cell HAX7.out 0
          have x1 := blk_cell HAX7.out 1
          have x2 := blk_cell HAX7.out 2
          have x3 := blk_cell HAX7.out 3
          by_cases hd : (actDo cs ak sa sb sc).2 = 0
          · have HBK := Aside0.mk (do_back HV.out HU.out ak sa sb sc hd)
            rw [hd]
            clear hd
            go_wp2_with fail
            -- BEGIN
            have HLE := Aside0.mk (show ls.length ≤ 100000 from by have h1 := HP.out.length_eq; rw [prs_length HU.out] at h1; have h2 := HV.out.len; omega)
            have HFL := Aside0.mk (show ∀ l2 : List SGPair, l2.Perm (prs (actDo cs ak sa sb sc).1) → Srt l2 → (ls = l2 ↔ (ak = 2 ∧ sb = sc)) from fun l2 p2 s2 => ⟨fun he => HBK.out.differ.1 (p2.symm.trans (he ▸ HP.out)), fun hq => srt_same HV.out HU.out HP.out (p2.trans (HBK.out.differ.2 hq)) HSR.out s2⟩)
            by_cases k2 : ak = 2
            · subst k2
              by_cases hbc : sb = sc
              · have e1 : (sb.toList == sc.toList) = true := by rw [beq_toList]; simpa using hbc
                have HBC := Aside0.mk hbc
                clear hbc
                refine start_ (n := 33) (S := fun wx => wx.cell? ⟨AB, 0, none⟩ = some (.int .i64 2) ∧ wx.cell? ⟨AB, 1, none⟩ = some (.string sa) ∧ wx.cell? ⟨AB, 2, none⟩ = some (.string sb) ∧ wx.cell? ⟨AB, 3, none⟩ = some (.string sc)) (ds := []) #[false, false, false, false, false, false, false, false, false, false, false, false, false, false, false, false, false, false, false, false, false, false, false, false, false, false, false, false, false, false, false, false, false] (by kernel_rfl) rfl rfl (⟨x0, x1, x2, x3⟩) (fun hHeld => ?_)
                refine pure_ (i := 0) (N := some 62) (v := ?_) (a' := ?_) #[true, false, false, false, false, false, false, false, false, false, false, false, false, false, false, false, false, false, false, false, false, false, false, false, false, false, false, false, false, false, false, false, false] rfl rfl (by kernel_rfl) (fun _ _ _ h => h) (Or.inl ⟨by rfl, ?_⟩) ?_ ?_
                rotate_left
                · intro w'
                  go_simp
                  all_goals (with_reducible rfl)
                rotate_left
                · simp only [Act.put, List.setIfInBounds_toArray, List.set_cons_zero, List.set_cons_succ, i64_w, i32_w]
                  rfl
                refine pure_ (i := 1) (N := some 63) (v := ?_) (a' := ?_) #[true, true, false, false, false, false, false, false, false, false, false, false, false, false, false, false, false, false, false, false, false, false, false, false, false, false, false, false, false, false, false, false, false] rfl rfl (by kernel_rfl) (fun _ _ _ h => h) (Or.inl ⟨by rfl, ?_⟩) ?_ ?_
                rotate_left
                · intro w'
                  go_simp
                  all_goals (with_reducible rfl)
                rotate_left
                · simp only [Act.put, List.setIfInBounds_toArray, List.set_cons_zero, List.set_cons_succ, i64_w, i32_w]
                  rfl
                refine pure_ (i := 5) (N := some 67) (v := ?_) (a' := ?_) #[true, true, false, false, false, true, false, false, false, false, false, false, false, false, false, false, false, false, false, false, false, false, false, false, false, false, false, false, false, false, false, false, false] rfl rfl (by kernel_rfl) (fun _ _ _ h => h) (Or.inl ⟨by rfl, ?_⟩) ?_ ?_
                rotate_left
                · intro w'
                  go_simp
                  all_goals (with_reducible rfl)
                rotate_left
                · simp only [Act.put, List.setIfInBounds_toArray, List.set_cons_zero, List.set_cons_succ, i64_w, i32_w]
                  rfl
                refine take_ (i := 6) (N := some 68) (v := ?_) (a' := ?_) #[true, true, false, false, false, true, true, false, false, false, false, false, false, false, false, false, false, false, false, false, false, false, false, false, false, false, false, false, false, false, false, false, false] rfl rfl (by kernel_rfl) (fun _ _ _ h => h) (Or.inl ⟨by rfl, ?_⟩) hHeld ?_ ?_
                rotate_left
                · intro w' hSw
                  (try dsimp only at hSw)
                  go_simp
                  all_goals (with_reducible rfl)
                rotate_left
                · simp only [Act.put, List.setIfInBounds_toArray, List.set_cons_zero, List.set_cons_succ, i64_w, i32_w]
                  rfl
                refine pure_ (i := 7) (N := some 69) (v := ?_) (a' := ?_) #[true, true, false, false, false, true, true, true, false, false, false, false, false, false, false, false, false, false, false, false, false, false, false, false, false, false, false, false, false, false, false, false, false] rfl rfl (by kernel_rfl) (fun _ _ _ h => h) (Or.inl ⟨by rfl, ?_⟩) ?_ ?_
                rotate_left
                · intro w'
                  go_simp
                  all_goals (with_reducible rfl)
                rotate_left
                · simp only [Act.put, List.setIfInBounds_toArray, List.set_cons_zero, List.set_cons_succ, i64_w, i32_w]
                  rfl
                refine one_ (i := 2) (N := some 64) #[true, true, true, false, false, true, true, true, false, false, false, false, false, false, false, false, false, false, false, false, false, false, false, false, false, false, false, false, false, false, false, false, false] rfl rfl (by kernel_rfl) (by decide) (fun K hK => ?_)
                go_simp
                go_at_call 26
                obtain ⟨okA, hhA⟩ := HD7.out.here
                refine (hhA.drew.pairs).mono ?_
                rintro e wAP ⟨AP, cP, lP, rfl, hRA, hpA, hsA, _, hbA⟩
                have HDp := Aside0.mk (HD7.out.next (below_then (below_drew (Below.refl _ _)) (Nat.le_refl _) hbA))
                obtain ⟨A2', c2', he2, _, hCA⟩ := Kd.R_reads hRA
                cases he2
                have HPLP := Aside0.mk hpA
                have HSLP := Aside0.mk hsA
                have HCLP := Aside0.mk hCA
                clear hRA hpA hsA hCA hbA hhA
                clear x0 x1 x2 x3
                have HAXp := Aside0.mk (blk_below HAX0.out HDp.out.bel)
                have x0 := blk_cell HAXp.out 0
                have x1 := blk_cell HAXp.out 1
                have x2 := blk_cell HAXp.out 2
                have x3 := blk_cell HAXp.out 3
                (try go_wp2_with fail)
                refine hK.out _ _ (⟨x0, x1, x2, x3⟩) (fun hHeld => ?_)
                clear hK K
                (try simp only [Act.put, List.setIfInBounds_toArray, List.set_cons_zero, List.set_cons_succ])
                refine one_ (i := 3) (N := some 65) #[true, true, true, true, false, true, true, true, false, false, false, false, false, false, false, false, false, false, false, false, false, false, false, false, false, false, false, false, false, false, false, false, false] rfl rfl (by kernel_rfl) (by decide) (fun K hK => ?_)
                go_simp
                go_at_call 27
                obtain ⟨Ar', cr', he, _, hCr⟩ := HDp.out.row
                cases he
                refine (same_calls _ _ _ _ _ ls lP hCr HCLP.out HLE.out).mono ?_
                rintro e wBP ⟨r, rfl, hr, hbB⟩
                obtain rfl : r = true := hr.2 ((HFL.out lP HPLP.out HSLP.out).2 ⟨by first | rfl | trivial, HBC.out⟩)
                have HDs := Aside0.mk (HDp.out.next hbB)
                clear hr hbB hCr
                clear x0 x1 x2 x3
                have HAXs := Aside0.mk (blk_below HAX0.out HDs.out.bel)
                have x0 := blk_cell HAXs.out 0
                have x1 := blk_cell HAXs.out 1
                have x2 := blk_cell HAXs.out 2
                have x3 := blk_cell HAXs.out 3
                (try go_wp2_with fail)
                refine hK.out _ _ (⟨x0, x1, x2, x3⟩) (fun hHeld => ?_)
                clear hK K
                (try simp only [Act.put, List.setIfInBounds_toArray, List.set_cons_zero, List.set_cons_succ])
                refine pure_ (i := 4) (N := some 66) (v := ?_) (a' := ?_) #[true, true, true, true, true, true, true, true, false, false, false, false, false, false, false, false, false, false, false, false, false, false, false, false, false, false, false, false, false, false, false, false, false] rfl rfl (by kernel_rfl) (fun _ _ _ h => h) (Or.inl ⟨by rfl, ?_⟩) ?_ ?_
                rotate_left
                · intro w'
                  go_simp
                  all_goals (with_reducible rfl)
                rotate_left
                · simp only [Act.put, List.setIfInBounds_toArray, List.set_cons_zero, List.set_cons_succ, i64_w, i32_w]
                  rfl
                refine pure_ (i := 8) (N := some 70) (v := ?_) (a' := ?_) #[true, true, true, true, true, true, true, true, true, false, false, false, false, false, false, false, false, false, false, false, false, false, false, false, false, false, false, false, false, false, false, false, false] rfl rfl (by kernel_rfl) (fun _ _ _ h => h) (Or.inl ⟨by rfl, ?_⟩) ?_ ?_
                rotate_left
                · intro w'
                  go_simp
                  all_goals (with_reducible rfl)
                rotate_left
                · simp only [Act.put, List.setIfInBounds_toArray, List.set_cons_zero, List.set_cons_succ, i64_w, i32_w]
                  rfl
                refine pure_ (i := 9) (N := some 71) (v := ?_) (a' := ?_) #[true, true, true, true, true, true, true, true, true, true, false, false, false, false, false, false, false, false, false, false, false, false, false, false, false, false, false, false, false, false, false, false, false] rfl rfl (by kernel_rfl) (fun _ _ _ h => h) (Or.inl ⟨by rfl, ?_⟩) ?_ ?_
                rotate_left
                · intro w'
                  go_simp
                  all_goals (with_reducible rfl)
                rotate_left
                · simp only [Act.put, List.setIfInBounds_toArray, List.set_cons_zero, List.set_cons_succ, i64_w, i32_w]
                  rfl
                refine pure_ (i := 11) (N := some 73) (v := ?_) (a' := ?_) #[true, true, true, true, true, true, true, true, true, true, false, true, false, false, false, false, false, false, false, false, false, false, false, false, false, false, false, false, false, false, false, false, false] rfl rfl (by kernel_rfl) (fun _ _ _ h => h) (Or.inl ⟨by rfl, ?_⟩) ?_ ?_
                rotate_left
                · intro w'
                  go_simp
                  all_goals (with_reducible rfl)
                rotate_left
                · simp only [Act.put, List.setIfInBounds_toArray, List.set_cons_zero, List.set_cons_succ, i64_w, i32_w]
                  rfl
                refine take_ (i := 10) (N := some 72) (v := ?_) (a' := ?_) #[true, true, true, true, true, true, true, true, true, true, true, true, false, false, false, false, false, false, false, false, false, false, false, false, false, false, false, false, false, false, false, false, false] rfl rfl (by kernel_rfl) (fun _ _ _ h => h) (Or.inl ⟨by rfl, ?_⟩) hHeld ?_ ?_
                rotate_left
                · intro w' hSw
                  (try dsimp only at hSw)
                  go_simp
                  all_goals (with_reducible rfl)
                rotate_left
                · simp only [Act.put, List.setIfInBounds_toArray, List.set_cons_zero, List.set_cons_succ, i64_w, i32_w]
                  rfl
                refine take_ (i := 12) (N := some 74) (v := ?_) (a' := ?_) #[true, true, true, true, true, true, true, true, true, true, true, true, true, false, false, false, false, false, false, false, false, false, false, false, false, false, false, false, false, false, false, false, false] rfl rfl (by kernel_rfl) (fun _ _ _ h => h) (Or.inl ⟨by rfl, ?_⟩) hHeld ?_ ?_
                rotate_left
                · intro w' hSw
                  (try dsimp only at hSw)
                  go_simp
                  all_goals (with_reducible rfl)
                rotate_left
                · simp only [Act.put, List.setIfInBounds_toArray, List.set_cons_zero, List.set_cons_succ, i64_w, i32_w]
                  rfl
                refine pure_ (i := 13) (N := some 75) (v := ?_) (a' := ?_) #[true, true, true, true, true, true, true, true, true, true, true, true, true, true, false, false, false, false, false, false, false, false, false, false, false, false, false, false, false, false, false, false, false] rfl rfl (by kernel_rfl) (fun _ _ _ h => h) (Or.inl ⟨by rfl, ?_⟩) ?_ ?_
                rotate_left
                · intro w'
                  go_simp
                  all_goals (with_reducible rfl)
                rotate_left
                · simp only [Act.put, List.setIfInBounds_toArray, List.set_cons_zero, List.set_cons_succ, i64_w, i32_w]
                  rfl
                refine pure_ (i := 14) (N := some 76) (v := ?_) (a' := ?_) #[true, true, true, true, true, true, true, true, true, true, true, true, true, true, true, false, false, false, false, false, false, false, false, false, false, false, false, false, false, false, false, false, false] rfl rfl (by kernel_rfl) (fun _ _ _ h => h) (Or.inl ⟨by rfl, ?_⟩) ?_ ?_
                rotate_left
                · intro w'
                  go_simp
                  all_goals (with_reducible rfl)
                rotate_left
                · simp only [Act.put, List.setIfInBounds_toArray, List.set_cons_zero, List.set_cons_succ, i64_w, i32_w]
                  rfl
                refine pure_ (i := 15) (N := some 77) (v := ?_) (a' := ?_) #[true, true, true, true, true, true, true, true, true, true, true, true, true, true, true, true, false, false, false, false, false, false, false, false, false, false, false, false, false, false, false, false, false] rfl rfl (by kernel_rfl) (fun _ _ _ h => h) (Or.inl ⟨by rfl, ?_⟩) ?_ ?_
                rotate_left
                · intro w'
                  go_simp
                  all_goals (with_reducible rfl)
                rotate_left
                · simp only [Act.put, List.setIfInBounds_toArray, List.set_cons_zero, List.set_cons_succ, i64_w, i32_w]
                  rfl
                refine pure_ (i := 16) (N := some 78) (v := ?_) (a' := ?_) #[true, true, true, true, true, true, true, true, true, true, true, true, true, true, true, true, true, false, false, false, false, false, false, false, false, false, false, false, false, false, false, false, false] rfl rfl (by kernel_rfl) (fun _ _ _ h => h) (Or.inl ⟨by rfl, ?_⟩) ?_ ?_
                rotate_left
                · intro w'
                  go_simp
                  all_goals (with_reducible rfl)
                rotate_left
                · simp only [Act.put, List.setIfInBounds_toArray, List.set_cons_zero, List.set_cons_succ, i64_w, i32_w]
                  rfl
                refine pure_ (i := 17) (N := some 79) (v := ?_) (a' := ?_) #[true, true, true, true, true, true, true, true, true, true, true, true, true, true, true, true, true, true, false, false, false, false, false, false, false, false, false, false, false, false, false, false, false] rfl rfl (by kernel_rfl) (fun _ _ _ h => h) (Or.inl ⟨by rfl, ?_⟩) ?_ ?_
                rotate_left
                · intro w'
                  go_simp
                  all_goals (with_reducible rfl)
                rotate_left
                · simp only [Act.put, List.setIfInBounds_toArray, List.set_cons_zero, List.set_cons_succ, i64_w, i32_w]
                  rfl
                refine take_ (i := 18) (N := some 80) (v := ?_) (a' := ?_) #[true, true, true, true, true, true, true, true, true, true, true, true, true, true, true, true, true, true, true, false, false, false, false, false, false, false, false, false, false, false, false, false, false] rfl rfl (by kernel_rfl) (fun _ _ _ h => h) (Or.inl ⟨by rfl, ?_⟩) hHeld ?_ ?_
                rotate_left
                · intro w' hSw
                  (try dsimp only at hSw)
                  go_simp
                  all_goals (with_reducible rfl)
                rotate_left
                · simp only [Act.put, List.setIfInBounds_toArray, List.set_cons_zero, List.set_cons_succ, i64_w, i32_w]
                  rfl
                refine one_ (i := 19) (N := some 81) #[true, true, true, true, true, true, true, true, true, true, true, true, true, true, true, true, true, true, true, true, false, false, false, false, false, false, false, false, false, false, false, false, false] rfl rfl (by kernel_rfl) (by decide) (fun K hK => ?_)
                go_simp
                go_at_call 11
                refine (turn_ok _ 2 sa sb sc ha hb hc HBK.out.may).mono ?_
                rintro e wC ⟨rfl, hbC⟩
                have HDt := Aside0.mk (HDs.out.next hbC)
                clear hbC
                clear x0 x1 x2 x3
                have HAXt := Aside0.mk (blk_below HAX0.out HDt.out.bel)
                have x0 := blk_cell HAXt.out 0
                have x1 := blk_cell HAXt.out 1
                have x2 := blk_cell HAXt.out 2
                have x3 := blk_cell HAXt.out 3
                (try go_wp2_with fail)
                refine hK.out _ _ (⟨x0, x1, x2, x3⟩) (fun hHeld => ?_)
                clear hK K
                (try simp only [Act.put, List.setIfInBounds_toArray, List.set_cons_zero, List.set_cons_succ])
                refine one_ (i := 20) (N := some 82) #[true, true, true, true, true, true, true, true, true, true, true, true, true, true, true, true, true, true, true, true, true, false, false, false, false, false, false, false, false, false, false, false, false] rfl rfl (by kernel_rfl) (by decide) (fun K hK => ?_)
                go_simp
                go_at_call 21
                refine (HDt.out.do_ (turnK 2) sa sc sb ha hc hb).mono ?_
                rintro e wD ⟨rfl, hDD, _⟩
                rw [HBK.out.done]
                have HDu := Aside0.mk hDD
                clear hDD
                clear x0 x1 x2 x3
                have HAXu := Aside0.mk (blk_below HAX0.out HDu.out.bel)
                have x0 := blk_cell HAXu.out 0
                have x1 := blk_cell HAXu.out 1
                have x2 := blk_cell HAXu.out 2
                have x3 := blk_cell HAXu.out 3
                (try go_wp2_with fail)
                refine hK.out _ _ (⟨x0, x1, x2, x3⟩) (fun hHeld => ?_)
                clear hK K
                (try simp only [Act.put, List.setIfInBounds_toArray, List.set_cons_zero, List.set_cons_succ])
                refine pure_ (i := 21) (N := some 83) (v := ?_) (a' := ?_) #[true, true, true, true, true, true, true, true, true, true, true, true, true, true, true, true, true, true, true, true, true, true, false, false, false, false, false, false, false, false, false, false, false] rfl rfl (by kernel_rfl) (fun _ _ _ h => h) (Or.inl ⟨by rfl, ?_⟩) ?_ ?_
                rotate_left
                · intro w'
                  go_simp
                  all_goals (with_reducible rfl)
                rotate_left
                · simp only [Act.put, List.setIfInBounds_toArray, List.set_cons_zero, List.set_cons_succ, i64_w, i32_w]
                  rfl
                refine pure_ (i := 22) (N := some 84) (v := ?_) (a' := ?_) #[true, true, true, true, true, true, true, true, true, true, true, true, true, true, true, true, true, true, true, true, true, true, true, false, false, false, false, false, false, false, false, false, false] rfl rfl (by kernel_rfl) (fun _ _ _ h => h) (Or.inl ⟨by rfl, ?_⟩) ?_ ?_
                rotate_left
                · intro w'
                  go_simp
                  all_goals (with_reducible rfl)
                rotate_left
                · simp only [Act.put, List.setIfInBounds_toArray, List.set_cons_zero, List.set_cons_succ, i64_w, i32_w]
                  rfl
                refine pure_ (i := 23) (N := some 85) (v := ?_) (a' := ?_) #[true, true, true, true, true, true, true, true, true, true, true, true, true, true, true, true, true, true, true, true, true, true, true, true, false, false, false, false, false, false, false, false, false] rfl rfl (by kernel_rfl) (fun _ _ _ h => h) (Or.inl ⟨by rfl, ?_⟩) ?_ ?_
                rotate_left
                · intro w'
                  go_simp
                  all_goals (with_reducible rfl)
                rotate_left
                · simp only [Act.put, List.setIfInBounds_toArray, List.set_cons_zero, List.set_cons_succ, i64_w, i32_w]
                  rfl
                refine pure_ (i := 24) (N := some 86) (v := ?_) (a' := ?_) #[true, true, true, true, true, true, true, true, true, true, true, true, true, true, true, true, true, true, true, true, true, true, true, true, true, false, false, false, false, false, false, false, false] rfl rfl (by kernel_rfl) (fun _ _ _ h => h) (Or.inl ⟨by rfl, ?_⟩) ?_ ?_
                rotate_left
                · intro w'
                  go_simp
                  all_goals (with_reducible rfl)
                rotate_left
                · simp only [Act.put, List.setIfInBounds_toArray, List.set_cons_zero, List.set_cons_succ, i64_w, i32_w]
                  rfl
                refine pure_ (i := 25) (N := some 87) (v := ?_) (a' := ?_) #[true, true, true, true, true, true, true, true, true, true, true, true, true, true, true, true, true, true, true, true, true, true, true, true, true, true, false, false, false, false, false, false, false] rfl rfl (by kernel_rfl) (fun _ _ _ h => h) (Or.inl ⟨by rfl, ?_⟩) ?_ ?_
                rotate_left
                · intro w'
                  go_simp
                  all_goals (with_reducible rfl)
                rotate_left
                · simp only [Act.put, List.setIfInBounds_toArray, List.set_cons_zero, List.set_cons_succ, i64_w, i32_w]
                  rfl
                refine one_ (i := 26) (N := some 88) #[true, true, true, true, true, true, true, true, true, true, true, true, true, true, true, true, true, true, true, true, true, true, true, true, true, true, true, false, false, false, false, false, false] rfl rfl (by kernel_rfl) (by decide) (fun K hK => ?_)
                go_simp
                go_at_call 26
                obtain ⟨okA, hhA⟩ := HDu.out.here
                refine (hhA.pairs).mono ?_
                rintro e wAQ ⟨AQ, cQ, lQ, rfl, hRA, hpA, hsA, _, hbA⟩
                have HDv := Aside0.mk (HDu.out.next hbA)
                obtain ⟨A2', c2', he2, _, hCA⟩ := Kd.R_reads hRA
                cases he2
                have HPLQ := Aside0.mk hpA
                have HSLQ := Aside0.mk hsA
                have HCLQ := Aside0.mk hCA
                clear hRA hpA hsA hCA hbA hhA
                clear x0 x1 x2 x3
                have HAXv := Aside0.mk (blk_below HAX0.out HDv.out.bel)
                have x0 := blk_cell HAXv.out 0
                have x1 := blk_cell HAXv.out 1
                have x2 := blk_cell HAXv.out 2
                have x3 := blk_cell HAXv.out 3
                (try go_wp2_with fail)
                refine hK.out _ _ (⟨x0, x1, x2, x3⟩) (fun hHeld => ?_)
                clear hK K
                (try simp only [Act.put, List.setIfInBounds_toArray, List.set_cons_zero, List.set_cons_succ])
                refine one_ (i := 27) (N := some 89) #[true, true, true, true, true, true, true, true, true, true, true, true, true, true, true, true, true, true, true, true, true, true, true, true, true, true, true, true, false, false, false, false, false] rfl rfl (by kernel_rfl) (by decide) (fun K hK => ?_)
                go_simp
                go_at_call 27
                obtain ⟨Ar', cr', he, _, hCr⟩ := HDv.out.row
                cases he
                refine (same_calls _ _ _ _ _ ls lQ hCr HCLQ.out HLE.out).mono ?_
                rintro e wBQ ⟨r, rfl, hr, hbB⟩
                obtain rfl : r = true := hr.2 (srt_same HV.out HU.out HP.out (HPLQ.out.trans HBK.out.same) HSR.out HSLQ.out)
                have HDw := Aside0.mk (HDv.out.next hbB)
                clear hr hbB hCr
                clear x0 x1 x2 x3
                have HAXw := Aside0.mk (blk_below HAX0.out HDw.out.bel)
                have x0 := blk_cell HAXw.out 0
                have x1 := blk_cell HAXw.out 1
                have x2 := blk_cell HAXw.out 2
                have x3 := blk_cell HAXw.out 3
                (try go_wp2_with fail)
                refine hK.out _ _ (⟨x0, x1, x2, x3⟩) (fun hHeld => ?_)
                clear hK K
                (try simp only [Act.put, List.setIfInBounds_toArray, List.set_cons_zero, List.set_cons_succ])
                refine pure_ (i := 28) (N := some 90) (v := ?_) (a' := ?_) #[true, true, true, true, true, true, true, true, true, true, true, true, true, true, true, true, true, true, true, true, true, true, true, true, true, true, true, true, true, false, false, false, false] rfl rfl (by kernel_rfl) (fun _ _ _ h => h) (Or.inl ⟨by rfl, ?_⟩) ?_ ?_
                rotate_left
                · intro w'
                  go_simp
                  all_goals (with_reducible rfl)
                rotate_left
                · simp only [Act.put, List.setIfInBounds_toArray, List.set_cons_zero, List.set_cons_succ, i64_w, i32_w]
                  rfl
                refine pure_ (i := 29) (N := some 91) (v := ?_) (a' := ?_) #[true, true, true, true, true, true, true, true, true, true, true, true, true, true, true, true, true, true, true, true, true, true, true, true, true, true, true, true, true, true, false, false, false] rfl rfl (by kernel_rfl) (fun _ _ _ h => h) (Or.inl ⟨by rfl, ?_⟩) ?_ ?_
                rotate_left
                · intro w'
                  go_simp
                  all_goals (with_reducible rfl)
                rotate_left
                · simp only [Act.put, List.setIfInBounds_toArray, List.set_cons_zero, List.set_cons_succ, i64_w, i32_w]
                  rfl
                refine one_ (i := 30) (N := some 92) #[true, true, true, true, true, true, true, true, true, true, true, true, true, true, true, true, true, true, true, true, true, true, true, true, true, true, true, true, true, true, true, false, false] rfl rfl (by kernel_rfl) (by decide) (fun K hK => ?_)
                go_simp
                go_at_call 10
                refine (lives_calls _).mono ?_
                rintro e wE ⟨rfl, hbE⟩
                have HDx := Aside0.mk (HDw.out.next hbE)
                clear hbE
                clear x0 x1 x2 x3
                have HAXx := Aside0.mk (blk_below HAX0.out HDx.out.bel)
                have x0 := blk_cell HAXx.out 0
                have x1 := blk_cell HAXx.out 1
                have x2 := blk_cell HAXx.out 2
                have x3 := blk_cell HAXx.out 3
                (try go_wp2_with fail)
                refine hK.out _ _ (⟨x0, x1, x2, x3⟩) (fun hHeld => ?_)
                clear hK K
                (try simp only [Act.put, List.setIfInBounds_toArray, List.set_cons_zero, List.set_cons_succ])
                refine pure_ (i := 31) (N := some 93) (v := ?_) (a' := ?_) #[true, true, true, true, true, true, true, true, true, true, true, true, true, true, true, true, true, true, true, true, true, true, true, true, true, true, true, true, true, true, true, true, false] rfl rfl (by kernel_rfl) (fun _ _ _ h => h) (Or.inl ⟨by rfl, ?_⟩) ?_ ?_
                rotate_left
                · intro w'
                  go_simp
                  all_goals (with_reducible rfl)
                rotate_left
                · simp only [Act.put, List.setIfInBounds_toArray, List.set_cons_zero, List.set_cons_succ, i64_w, i32_w]
                  rfl
                refine pure_ (i := 32) (N := some 6) (v := ?_) (a' := ?_) #[true, true, true, true, true, true, true, true, true, true, true, true, true, true, true, true, true, true, true, true, true, true, true, true, true, true, true, true, true, true, true, true, true] rfl rfl (by kernel_rfl) (fun _ _ _ h => h) (Or.inl ⟨by rfl, ?_⟩) ?_ ?_
                rotate_left
                · intro w'
                  go_simp
                  all_goals (with_reducible rfl)
                rotate_left
                · simp only [Act.put, List.setIfInBounds_toArray, List.set_cons_zero, List.set_cons_succ, i64_w, i32_w]
                  rfl
                refine done_ (by kernel_rfl) ?_
                go_wp2_with fail
                go_ret
                exact ⟨rfl, below_then HB0.out HB0.out.size HDx.out.bel⟩
              · have e1 : (sb.toList == sc.toList) = false := by rw [beq_toList]; simpa using hbc
                have HBC := Aside0.mk hbc
                clear hbc
                refine start_ (n := 33) (S := fun wx => wx.cell? ⟨AB, 0, none⟩ = some (.int .i64 2) ∧ wx.cell? ⟨AB, 1, none⟩ = some (.string sa) ∧ wx.cell? ⟨AB, 2, none⟩ = some (.string sb) ∧ wx.cell? ⟨AB, 3, none⟩ = some (.string sc)) (ds := []) #[false, false, false, false, false, false, false, false, false, false, false, false, false, false, false, false, false, false, false, false, false, false, false, false, false, false, false, false, false, false, false, false, false] (by kernel_rfl) rfl rfl (⟨x0, x1, x2, x3⟩) (fun hHeld => ?_)
                refine pure_ (i := 0) (N := some 62) (v := ?_) (a' := ?_) #[true, false, false, false, false, false, false, false, false, false, false, false, false, false, false, false, false, false, false, false, false, false, false, false, false, false, false, false, false, false, false, false, false] rfl rfl (by kernel_rfl) (fun _ _ _ h => h) (Or.inl ⟨by rfl, ?_⟩) ?_ ?_
                rotate_left
                · intro w'
                  go_simp
                  all_goals (with_reducible rfl)
                rotate_left
                · simp only [Act.put, List.setIfInBounds_toArray, List.set_cons_zero, List.set_cons_succ, i64_w, i32_w]
                  rfl
                refine pure_ (i := 1) (N := some 63) (v := ?_) (a' := ?_) #[true, true, false, false, false, false, false, false, false, false, false, false, false, false, false, false, false, false, false, false, false, false, false, false, false, false, false, false, false, false, false, false, false] rfl rfl (by kernel_rfl) (fun _ _ _ h => h) (Or.inl ⟨by rfl, ?_⟩) ?_ ?_
                rotate_left
                · intro w'
                  go_simp
                  all_goals (with_reducible rfl)
                rotate_left
                · simp only [Act.put, List.setIfInBounds_toArray, List.set_cons_zero, List.set_cons_succ, i64_w, i32_w]
                  rfl
                refine pure_ (i := 5) (N := some 67) (v := ?_) (a' := ?_) #[true, true, false, false, false, true, false, false, false, false, false, false, false, false, false, false, false, false, false, false, false, false, false, false, false, false, false, false, false, false, false, false, false] rfl rfl (by kernel_rfl) (fun _ _ _ h => h) (Or.inl ⟨by rfl, ?_⟩) ?_ ?_
                rotate_left
                · intro w'
                  go_simp
                  all_goals (with_reducible rfl)
                rotate_left
                · simp only [Act.put, List.setIfInBounds_toArray, List.set_cons_zero, List.set_cons_succ, i64_w, i32_w]
                  rfl
                refine take_ (i := 6) (N := some 68) (v := ?_) (a' := ?_) #[true, true, false, false, false, true, true, false, false, false, false, false, false, false, false, false, false, false, false, false, false, false, false, false, false, false, false, false, false, false, false, false, false] rfl rfl (by kernel_rfl) (fun _ _ _ h => h) (Or.inl ⟨by rfl, ?_⟩) hHeld ?_ ?_
                rotate_left
                · intro w' hSw
                  (try dsimp only at hSw)
                  go_simp
                  all_goals (with_reducible rfl)
                rotate_left
                · simp only [Act.put, List.setIfInBounds_toArray, List.set_cons_zero, List.set_cons_succ, i64_w, i32_w]
                  rfl
                refine pure_ (i := 7) (N := some 69) (v := ?_) (a' := ?_) #[true, true, false, false, false, true, true, true, false, false, false, false, false, false, false, false, false, false, false, false, false, false, false, false, false, false, false, false, false, false, false, false, false] rfl rfl (by kernel_rfl) (fun _ _ _ h => h) (Or.inl ⟨by rfl, ?_⟩) ?_ ?_
                rotate_left
                · intro w'
                  go_simp
                  all_goals (with_reducible rfl)
                rotate_left
                · simp only [Act.put, List.setIfInBounds_toArray, List.set_cons_zero, List.set_cons_succ, i64_w, i32_w]
                  rfl
                refine one_ (i := 2) (N := some 64) #[true, true, true, false, false, true, true, true, false, false, false, false, false, false, false, false, false, false, false, false, false, false, false, false, false, false, false, false, false, false, false, false, false] rfl rfl (by kernel_rfl) (by decide) (fun K hK => ?_)
                go_simp
                go_at_call 26
                obtain ⟨okA, hhA⟩ := HD7.out.here
                refine (hhA.drew.pairs).mono ?_
                rintro e wAP ⟨AP, cP, lP, rfl, hRA, hpA, hsA, _, hbA⟩
                have HDp := Aside0.mk (HD7.out.next (below_then (below_drew (Below.refl _ _)) (Nat.le_refl _) hbA))
                obtain ⟨A2', c2', he2, _, hCA⟩ := Kd.R_reads hRA
                cases he2
                have HPLP := Aside0.mk hpA
                have HSLP := Aside0.mk hsA
                have HCLP := Aside0.mk hCA
                clear hRA hpA hsA hCA hbA hhA
                clear x0 x1 x2 x3
                have HAXp := Aside0.mk (blk_below HAX0.out HDp.out.bel)
                have x0 := blk_cell HAXp.out 0
                have x1 := blk_cell HAXp.out 1
                have x2 := blk_cell HAXp.out 2
                have x3 := blk_cell HAXp.out 3
                (try go_wp2_with fail)
                refine hK.out _ _ (⟨x0, x1, x2, x3⟩) (fun hHeld => ?_)
                clear hK K
                (try simp only [Act.put, List.setIfInBounds_toArray, List.set_cons_zero, List.set_cons_succ])
                refine one_ (i := 3) (N := some 65) #[true, true, true, true, false, true, true, true, false, false, false, false, false, false, false, false, false, false, false, false, false, false, false, false, false, false, false, false, false, false, false, false, false] rfl rfl (by kernel_rfl) (by decide) (fun K hK => ?_)
                go_simp
                go_at_call 27
                obtain ⟨Ar', cr', he, _, hCr⟩ := HDp.out.row
                cases he
                refine (same_calls _ _ _ _ _ ls lP hCr HCLP.out HLE.out).mono ?_
                rintro e wBP ⟨r, rfl, hr, hbB⟩
                obtain rfl : r = false := by rw [Bool.eq_false_iff]; intro hq; exact HBC.out ((HFL.out lP HPLP.out HSLP.out).1 (hr.1 hq)).2
                have HDs := Aside0.mk (HDp.out.next hbB)
                clear hr hbB hCr
                clear x0 x1 x2 x3
                have HAXs := Aside0.mk (blk_below HAX0.out HDs.out.bel)
                have x0 := blk_cell HAXs.out 0
                have x1 := blk_cell HAXs.out 1
                have x2 := blk_cell HAXs.out 2
                have x3 := blk_cell HAXs.out 3
                (try go_wp2_with fail)
                refine hK.out _ _ (⟨x0, x1, x2, x3⟩) (fun hHeld => ?_)
                clear hK K
                (try simp only [Act.put, List.setIfInBounds_toArray, List.set_cons_zero, List.set_cons_succ])
                refine pure_ (i := 4) (N := some 66) (v := ?_) (a' := ?_) #[true, true, true, true, true, true, true, true, false, false, false, false, false, false, false, false, false, false, false, false, false, false, false, false, false, false, false, false, false, false, false, false, false] rfl rfl (by kernel_rfl) (fun _ _ _ h => h) (Or.inl ⟨by rfl, ?_⟩) ?_ ?_
                rotate_left
                · intro w'
                  go_simp
                  all_goals (with_reducible rfl)
                rotate_left
                · simp only [Act.put, List.setIfInBounds_toArray, List.set_cons_zero, List.set_cons_succ, i64_w, i32_w]
                  rfl
                refine pure_ (i := 8) (N := some 70) (v := ?_) (a' := ?_) #[true, true, true, true, true, true, true, true, true, false, false, false, false, false, false, false, false, false, false, false, false, false, false, false, false, false, false, false, false, false, false, false, false] rfl rfl (by kernel_rfl) (fun _ _ _ h => h) (Or.inl ⟨by rfl, ?_⟩) ?_ ?_
                rotate_left
                · intro w'
                  go_simp
                  all_goals (with_reducible rfl)
                rotate_left
                · simp only [Act.put, List.setIfInBounds_toArray, List.set_cons_zero, List.set_cons_succ, i64_w, i32_w]
                  rfl
                refine pure_ (i := 9) (N := some 71) (v := ?_) (a' := ?_) #[true, true, true, true, true, true, true, true, true, true, false, false, false, false, false, false, false, false, false, false, false, false, false, false, false, false, false, false, false, false, false, false, false] rfl rfl (by kernel_rfl) (fun _ _ _ h => h) (Or.inl ⟨by rfl, ?_⟩) ?_ ?_
                rotate_left
                · intro w'
                  go_simp
                  all_goals (with_reducible rfl)
                rotate_left
                · simp only [Act.put, List.setIfInBounds_toArray, List.set_cons_zero, List.set_cons_succ, i64_w, i32_w]
                  rfl
                refine pure_ (i := 11) (N := some 73) (v := ?_) (a' := ?_) #[true, true, true, true, true, true, true, true, true, true, false, true, false, false, false, false, false, false, false, false, false, false, false, false, false, false, false, false, false, false, false, false, false] rfl rfl (by kernel_rfl) (fun _ _ _ h => h) (Or.inl ⟨by rfl, ?_⟩) ?_ ?_
                rotate_left
                · intro w'
                  go_simp
                  all_goals (with_reducible rfl)
                rotate_left
                · simp only [Act.put, List.setIfInBounds_toArray, List.set_cons_zero, List.set_cons_succ, i64_w, i32_w]
                  rfl
                refine take_ (i := 10) (N := some 72) (v := ?_) (a' := ?_) #[true, true, true, true, true, true, true, true, true, true, true, true, false, false, false, false, false, false, false, false, false, false, false, false, false, false, false, false, false, false, false, false, false] rfl rfl (by kernel_rfl) (fun _ _ _ h => h) (Or.inl ⟨by rfl, ?_⟩) hHeld ?_ ?_
                rotate_left
                · intro w' hSw
                  (try dsimp only at hSw)
                  go_simp
                  all_goals (with_reducible rfl)
                rotate_left
                · simp only [Act.put, List.setIfInBounds_toArray, List.set_cons_zero, List.set_cons_succ, i64_w, i32_w]
                  rfl
                refine take_ (i := 12) (N := some 74) (v := ?_) (a' := ?_) #[true, true, true, true, true, true, true, true, true, true, true, true, true, false, false, false, false, false, false, false, false, false, false, false, false, false, false, false, false, false, false, false, false] rfl rfl (by kernel_rfl) (fun _ _ _ h => h) (Or.inl ⟨by rfl, ?_⟩) hHeld ?_ ?_
                rotate_left
                · intro w' hSw
                  (try dsimp only at hSw)
                  go_simp
                  all_goals (with_reducible rfl)
                rotate_left
                · simp only [Act.put, List.setIfInBounds_toArray, List.set_cons_zero, List.set_cons_succ, i64_w, i32_w]
                  rfl
                refine pure_ (i := 13) (N := some 75) (v := ?_) (a' := ?_) #[true, true, true, true, true, true, true, true, true, true, true, true, true, true, false, false, false, false, false, false, false, false, false, false, false, false, false, false, false, false, false, false, false] rfl rfl (by kernel_rfl) (fun _ _ _ h => h) (Or.inl ⟨by rfl, ?_⟩) ?_ ?_
                rotate_left
                · intro w'
                  go_simp
                  all_goals (with_reducible rfl)
                rotate_left
                · simp only [Act.put, List.setIfInBounds_toArray, List.set_cons_zero, List.set_cons_succ, i64_w, i32_w]
                  rfl
                refine pure_ (i := 14) (N := some 76) (v := ?_) (a' := ?_) #[true, true, true, true, true, true, true, true, true, true, true, true, true, true, true, false, false, false, false, false, false, false, false, false, false, false, false, false, false, false, false, false, false] rfl rfl (by kernel_rfl) (fun _ _ _ h => h) (Or.inl ⟨by rfl, ?_⟩) ?_ ?_
                rotate_left
                · intro w'
                  go_simp
                  all_goals (with_reducible rfl)
                rotate_left
                · simp only [Act.put, List.setIfInBounds_toArray, List.set_cons_zero, List.set_cons_succ, i64_w, i32_w]
                  rfl
                refine pure_ (i := 15) (N := some 77) (v := ?_) (a' := ?_) #[true, true, true, true, true, true, true, true, true, true, true, true, true, true, true, true, false, false, false, false, false, false, false, false, false, false, false, false, false, false, false, false, false] rfl rfl (by kernel_rfl) (fun _ _ _ h => h) (Or.inl ⟨by rfl, ?_⟩) ?_ ?_
                rotate_left
                · intro w'
                  go_simp
                  all_goals (with_reducible rfl)
                rotate_left
                · simp only [Act.put, List.setIfInBounds_toArray, List.set_cons_zero, List.set_cons_succ, i64_w, i32_w]
                  rfl
                refine pure_ (i := 16) (N := some 78) (v := ?_) (a' := ?_) #[true, true, true, true, true, true, true, true, true, true, true, true, true, true, true, true, true, false, false, false, false, false, false, false, false, false, false, false, false, false, false, false, false] rfl rfl (by kernel_rfl) (fun _ _ _ h => h) (Or.inl ⟨by rfl, ?_⟩) ?_ ?_
                rotate_left
                · intro w'
                  go_simp
                  all_goals (with_reducible rfl)
                rotate_left
                · simp only [Act.put, List.setIfInBounds_toArray, List.set_cons_zero, List.set_cons_succ, i64_w, i32_w]
                  rfl
                refine pure_ (i := 17) (N := some 79) (v := ?_) (a' := ?_) #[true, true, true, true, true, true, true, true, true, true, true, true, true, true, true, true, true, true, false, false, false, false, false, false, false, false, false, false, false, false, false, false, false] rfl rfl (by kernel_rfl) (fun _ _ _ h => h) (Or.inl ⟨by rfl, ?_⟩) ?_ ?_
                rotate_left
                · intro w'
                  go_simp
                  all_goals (with_reducible rfl)
                rotate_left
                · simp only [Act.put, List.setIfInBounds_toArray, List.set_cons_zero, List.set_cons_succ, i64_w, i32_w]
                  rfl
                refine take_ (i := 18) (N := some 80) (v := ?_) (a' := ?_) #[true, true, true, true, true, true, true, true, true, true, true, true, true, true, true, true, true, true, true, false, false, false, false, false, false, false, false, false, false, false, false, false, false] rfl rfl (by kernel_rfl) (fun _ _ _ h => h) (Or.inl ⟨by rfl, ?_⟩) hHeld ?_ ?_
                rotate_left
                · intro w' hSw
                  (try dsimp only at hSw)
                  go_simp
                  all_goals (with_reducible rfl)
                rotate_left
                · simp only [Act.put, List.setIfInBounds_toArray, List.set_cons_zero, List.set_cons_succ, i64_w, i32_w]
                  rfl
                refine one_ (i := 19) (N := some 81) #[true, true, true, true, true, true, true, true, true, true, true, true, true, true, true, true, true, true, true, true, false, false, false, false, false, false, false, false, false, false, false, false, false] rfl rfl (by kernel_rfl) (by decide) (fun K hK => ?_)
                go_simp
                go_at_call 11
                refine (turn_ok _ 2 sa sb sc ha hb hc HBK.out.may).mono ?_
                rintro e wC ⟨rfl, hbC⟩
                have HDt := Aside0.mk (HDs.out.next hbC)
                clear hbC
                clear x0 x1 x2 x3
                have HAXt := Aside0.mk (blk_below HAX0.out HDt.out.bel)
                have x0 := blk_cell HAXt.out 0
                have x1 := blk_cell HAXt.out 1
                have x2 := blk_cell HAXt.out 2
                have x3 := blk_cell HAXt.out 3
                (try go_wp2_with fail)
                refine hK.out _ _ (⟨x0, x1, x2, x3⟩) (fun hHeld => ?_)
                clear hK K
                (try simp only [Act.put, List.setIfInBounds_toArray, List.set_cons_zero, List.set_cons_succ])
                refine one_ (i := 20) (N := some 82) #[true, true, true, true, true, true, true, true, true, true, true, true, true, true, true, true, true, true, true, true, true, false, false, false, false, false, false, false, false, false, false, false, false] rfl rfl (by kernel_rfl) (by decide) (fun K hK => ?_)
                go_simp
                go_at_call 21
                refine (HDt.out.do_ (turnK 2) sa sc sb ha hc hb).mono ?_
                rintro e wD ⟨rfl, hDD, _⟩
                rw [HBK.out.done]
                have HDu := Aside0.mk hDD
                clear hDD
                clear x0 x1 x2 x3
                have HAXu := Aside0.mk (blk_below HAX0.out HDu.out.bel)
                have x0 := blk_cell HAXu.out 0
                have x1 := blk_cell HAXu.out 1
                have x2 := blk_cell HAXu.out 2
                have x3 := blk_cell HAXu.out 3
                (try go_wp2_with fail)
                refine hK.out _ _ (⟨x0, x1, x2, x3⟩) (fun hHeld => ?_)
                clear hK K
                (try simp only [Act.put, List.setIfInBounds_toArray, List.set_cons_zero, List.set_cons_succ])
                refine pure_ (i := 21) (N := some 83) (v := ?_) (a' := ?_) #[true, true, true, true, true, true, true, true, true, true, true, true, true, true, true, true, true, true, true, true, true, true, false, false, false, false, false, false, false, false, false, false, false] rfl rfl (by kernel_rfl) (fun _ _ _ h => h) (Or.inl ⟨by rfl, ?_⟩) ?_ ?_
                rotate_left
                · intro w'
                  go_simp
                  all_goals (with_reducible rfl)
                rotate_left
                · simp only [Act.put, List.setIfInBounds_toArray, List.set_cons_zero, List.set_cons_succ, i64_w, i32_w]
                  rfl
                refine pure_ (i := 22) (N := some 84) (v := ?_) (a' := ?_) #[true, true, true, true, true, true, true, true, true, true, true, true, true, true, true, true, true, true, true, true, true, true, true, false, false, false, false, false, false, false, false, false, false] rfl rfl (by kernel_rfl) (fun _ _ _ h => h) (Or.inl ⟨by rfl, ?_⟩) ?_ ?_
                rotate_left
                · intro w'
                  go_simp
                  all_goals (with_reducible rfl)
                rotate_left
                · simp only [Act.put, List.setIfInBounds_toArray, List.set_cons_zero, List.set_cons_succ, i64_w, i32_w]
                  rfl
                refine pure_ (i := 23) (N := some 85) (v := ?_) (a' := ?_) #[true, true, true, true, true, true, true, true, true, true, true, true, true, true, true, true, true, true, true, true, true, true, true, true, false, false, false, false, false, false, false, false, false] rfl rfl (by kernel_rfl) (fun _ _ _ h => h) (Or.inl ⟨by rfl, ?_⟩) ?_ ?_
                rotate_left
                · intro w'
                  go_simp
                  all_goals (with_reducible rfl)
                rotate_left
                · simp only [Act.put, List.setIfInBounds_toArray, List.set_cons_zero, List.set_cons_succ, i64_w, i32_w]
                  rfl
                refine pure_ (i := 24) (N := some 86) (v := ?_) (a' := ?_) #[true, true, true, true, true, true, true, true, true, true, true, true, true, true, true, true, true, true, true, true, true, true, true, true, true, false, false, false, false, false, false, false, false] rfl rfl (by kernel_rfl) (fun _ _ _ h => h) (Or.inl ⟨by rfl, ?_⟩) ?_ ?_
                rotate_left
                · intro w'
                  go_simp
                  all_goals (with_reducible rfl)
                rotate_left
                · simp only [Act.put, List.setIfInBounds_toArray, List.set_cons_zero, List.set_cons_succ, i64_w, i32_w]
                  rfl
                refine pure_ (i := 25) (N := some 87) (v := ?_) (a' := ?_) #[true, true, true, true, true, true, true, true, true, true, true, true, true, true, true, true, true, true, true, true, true, true, true, true, true, true, false, false, false, false, false, false, false] rfl rfl (by kernel_rfl) (fun _ _ _ h => h) (Or.inl ⟨by rfl, ?_⟩) ?_ ?_
                rotate_left
                · intro w'
                  go_simp
                  all_goals (with_reducible rfl)
                rotate_left
                · simp only [Act.put, List.setIfInBounds_toArray, List.set_cons_zero, List.set_cons_succ, i64_w, i32_w]
                  rfl
                refine one_ (i := 26) (N := some 88) #[true, true, true, true, true, true, true, true, true, true, true, true, true, true, true, true, true, true, true, true, true, true, true, true, true, true, true, false, false, false, false, false, false] rfl rfl (by kernel_rfl) (by decide) (fun K hK => ?_)
                go_simp
                go_at_call 26
                obtain ⟨okA, hhA⟩ := HDu.out.here
                refine (hhA.pairs).mono ?_
                rintro e wAQ ⟨AQ, cQ, lQ, rfl, hRA, hpA, hsA, _, hbA⟩
                have HDv := Aside0.mk (HDu.out.next hbA)
                obtain ⟨A2', c2', he2, _, hCA⟩ := Kd.R_reads hRA
                cases he2
                have HPLQ := Aside0.mk hpA
                have HSLQ := Aside0.mk hsA
                have HCLQ := Aside0.mk hCA
                clear hRA hpA hsA hCA hbA hhA
                clear x0 x1 x2 x3
                have HAXv := Aside0.mk (blk_below HAX0.out HDv.out.bel)
                have x0 := blk_cell HAXv.out 0
                have x1 := blk_cell HAXv.out 1
                have x2 := blk_cell HAXv.out 2
                have x3 := blk_cell HAXv.out 3
                (try go_wp2_with fail)
                refine hK.out _ _ (⟨x0, x1, x2, x3⟩) (fun hHeld => ?_)
                clear hK K
                (try simp only [Act.put, List.setIfInBounds_toArray, List.set_cons_zero, List.set_cons_succ])
                refine one_ (i := 27) (N := some 89) #[true, true, true, true, true, true, true, true, true, true, true, true, true, true, true, true, true, true, true, true, true, true, true, true, true, true, true, true, false, false, false, false, false] rfl rfl (by kernel_rfl) (by decide) (fun K hK => ?_)
                go_simp
                go_at_call 27
                obtain ⟨Ar', cr', he, _, hCr⟩ := HDv.out.row
                cases he
                refine (same_calls _ _ _ _ _ ls lQ hCr HCLQ.out HLE.out).mono ?_
                rintro e wBQ ⟨r, rfl, hr, hbB⟩
                obtain rfl : r = true := hr.2 (srt_same HV.out HU.out HP.out (HPLQ.out.trans HBK.out.same) HSR.out HSLQ.out)
                have HDw := Aside0.mk (HDv.out.next hbB)
                clear hr hbB hCr
                clear x0 x1 x2 x3
                have HAXw := Aside0.mk (blk_below HAX0.out HDw.out.bel)
                have x0 := blk_cell HAXw.out 0
                have x1 := blk_cell HAXw.out 1
                have x2 := blk_cell HAXw.out 2
                have x3 := blk_cell HAXw.out 3
                (try go_wp2_with fail)
                refine hK.out _ _ (⟨x0, x1, x2, x3⟩) (fun hHeld => ?_)
                clear hK K
                (try simp only [Act.put, List.setIfInBounds_toArray, List.set_cons_zero, List.set_cons_succ])
                refine pure_ (i := 28) (N := some 90) (v := ?_) (a' := ?_) #[true, true, true, true, true, true, true, true, true, true, true, true, true, true, true, true, true, true, true, true, true, true, true, true, true, true, true, true, true, false, false, false, false] rfl rfl (by kernel_rfl) (fun _ _ _ h => h) (Or.inl ⟨by rfl, ?_⟩) ?_ ?_
                rotate_left
                · intro w'
                  go_simp
                  all_goals (with_reducible rfl)
                rotate_left
                · simp only [Act.put, List.setIfInBounds_toArray, List.set_cons_zero, List.set_cons_succ, i64_w, i32_w]
                  rfl
                refine pure_ (i := 29) (N := some 91) (v := ?_) (a' := ?_) #[true, true, true, true, true, true, true, true, true, true, true, true, true, true, true, true, true, true, true, true, true, true, true, true, true, true, true, true, true, true, false, false, false] rfl rfl (by kernel_rfl) (fun _ _ _ h => h) (Or.inl ⟨by rfl, ?_⟩) ?_ ?_
                rotate_left
                · intro w'
                  go_simp
                  all_goals (with_reducible rfl)
                rotate_left
                · simp only [Act.put, List.setIfInBounds_toArray, List.set_cons_zero, List.set_cons_succ, i64_w, i32_w]
                  rfl
                refine one_ (i := 30) (N := some 92) #[true, true, true, true, true, true, true, true, true, true, true, true, true, true, true, true, true, true, true, true, true, true, true, true, true, true, true, true, true, true, true, false, false] rfl rfl (by kernel_rfl) (by decide) (fun K hK => ?_)
                go_simp
                go_at_call 10
                refine (lives_calls _).mono ?_
                rintro e wE ⟨rfl, hbE⟩
                have HDx := Aside0.mk (HDw.out.next hbE)
                clear hbE
                clear x0 x1 x2 x3
                have HAXx := Aside0.mk (blk_below HAX0.out HDx.out.bel)
                have x0 := blk_cell HAXx.out 0
                have x1 := blk_cell HAXx.out 1
                have x2 := blk_cell HAXx.out 2
                have x3 := blk_cell HAXx.out 3
                (try go_wp2_with fail)
                refine hK.out _ _ (⟨x0, x1, x2, x3⟩) (fun hHeld => ?_)
                clear hK K
                (try simp only [Act.put, List.setIfInBounds_toArray, List.set_cons_zero, List.set_cons_succ])
                refine pure_ (i := 31) (N := some 93) (v := ?_) (a' := ?_) #[true, true, true, true, true, true, true, true, true, true, true, true, true, true, true, true, true, true, true, true, true, true, true, true, true, true, true, true, true, true, true, true, false] rfl rfl (by kernel_rfl) (fun _ _ _ h => h) (Or.inl ⟨by rfl, ?_⟩) ?_ ?_
                rotate_left
                · intro w'
                  go_simp
                  all_goals (with_reducible rfl)
                rotate_left
                · simp only [Act.put, List.setIfInBounds_toArray, List.set_cons_zero, List.set_cons_succ, i64_w, i32_w]
                  rfl
                refine pure_ (i := 32) (N := some 6) (v := ?_) (a' := ?_) #[true, true, true, true, true, true, true, true, true, true, true, true, true, true, true, true, true, true, true, true, true, true, true, true, true, true, true, true, true, true, true, true, true] rfl rfl (by kernel_rfl) (fun _ _ _ h => h) (Or.inl ⟨by rfl, ?_⟩) ?_ ?_
                rotate_left
                · intro w'
                  go_simp
                  all_goals (with_reducible rfl)
                rotate_left
                · simp only [Act.put, List.setIfInBounds_toArray, List.set_cons_zero, List.set_cons_succ, i64_w, i32_w]
                  rfl
                refine done_ (by kernel_rfl) ?_
                go_wp2_with fail
                go_ret
                exact ⟨rfl, below_then HB0.out HB0.out.size HDx.out.bel⟩
            · have e2 : (ak != 2) = true := by simpa using k2
              have HK2 := Aside0.mk k2
              refine start_ (n := 33) (S := fun wx => wx.cell? ⟨AB, 0, none⟩ = some (.int .i64 ak) ∧ wx.cell? ⟨AB, 1, none⟩ = some (.string sa) ∧ wx.cell? ⟨AB, 2, none⟩ = some (.string sb) ∧ wx.cell? ⟨AB, 3, none⟩ = some (.string sc)) (ds := []) #[false, false, false, false, false, false, false, false, false, false, false, false, false, false, false, false, false, false, false, false, false, false, false, false, false, false, false, false, false, false, false, false, false] (by kernel_rfl) rfl rfl (⟨x0, x1, x2, x3⟩) (fun hHeld => ?_)
              refine pure_ (i := 0) (N := some 62) (v := ?_) (a' := ?_) #[true, false, false, false, false, false, false, false, false, false, false, false, false, false, false, false, false, false, false, false, false, false, false, false, false, false, false, false, false, false, false, false, false] rfl rfl (by kernel_rfl) (fun _ _ _ h => h) (Or.inl ⟨by rfl, ?_⟩) ?_ ?_
              rotate_left
              · intro w'
                go_simp
                all_goals (with_reducible rfl)
              rotate_left
              · simp only [Act.put, List.setIfInBounds_toArray, List.set_cons_zero, List.set_cons_succ, i64_w, i32_w]
                rfl
              refine pure_ (i := 1) (N := some 63) (v := ?_) (a' := ?_) #[true, true, false, false, false, false, false, false, false, false, false, false, false, false, false, false, false, false, false, false, false, false, false, false, false, false, false, false, false, false, false, false, false] rfl rfl (by kernel_rfl) (fun _ _ _ h => h) (Or.inl ⟨by rfl, ?_⟩) ?_ ?_
              rotate_left
              · intro w'
                go_simp
                all_goals (with_reducible rfl)
              rotate_left
              · simp only [Act.put, List.setIfInBounds_toArray, List.set_cons_zero, List.set_cons_succ, i64_w, i32_w]
                rfl
              refine pure_ (i := 5) (N := some 67) (v := ?_) (a' := ?_) #[true, true, false, false, false, true, false, false, false, false, false, false, false, false, false, false, false, false, false, false, false, false, false, false, false, false, false, false, false, false, false, false, false] rfl rfl (by kernel_rfl) (fun _ _ _ h => h) (Or.inl ⟨by rfl, ?_⟩) ?_ ?_
              rotate_left
              · intro w'
                go_simp
                all_goals (with_reducible rfl)
              rotate_left
              · simp only [Act.put, List.setIfInBounds_toArray, List.set_cons_zero, List.set_cons_succ, i64_w, i32_w]
                rfl
              refine take_ (i := 6) (N := some 68) (v := ?_) (a' := ?_) #[true, true, false, false, false, true, true, false, false, false, false, false, false, false, false, false, false, false, false, false, false, false, false, false, false, false, false, false, false, false, false, false, false] rfl rfl (by kernel_rfl) (fun _ _ _ h => h) (Or.inl ⟨by rfl, ?_⟩) hHeld ?_ ?_
              rotate_left
              · intro w' hSw
                (try dsimp only at hSw)
                go_simp
                all_goals (with_reducible rfl)
              rotate_left
              · simp only [Act.put, List.setIfInBounds_toArray, List.set_cons_zero, List.set_cons_succ, i64_w, i32_w]
                rfl
              refine pure_ (i := 7) (N := some 69) (v := .bool true) (a' := ?_) #[true, true, false, false, false, true, true, true, false, false, false, false, false, false, false, false, false, false, false, false, false, false, false, false, false, false, false, false, false, false, false, false, false] rfl rfl (by kernel_rfl) (fun _ _ _ h => h) (Or.inl ⟨by rfl, ?_⟩) ?_ ?_
              · intro w'
                go_simp
                all_goals simp only [e2]
              rotate_left
              · simp only [Act.put, List.setIfInBounds_toArray, List.set_cons_zero, List.set_cons_succ, i64_w, i32_w]
                rfl
              refine one_ (i := 2) (N := some 64) #[true, true, true, false, false, true, true, true, false, false, false, false, false, false, false, false, false, false, false, false, false, false, false, false, false, false, false, false, false, false, false, false, false] rfl rfl (by kernel_rfl) (by decide) (fun K hK => ?_)
              go_simp
              go_at_call 26
              obtain ⟨okA, hhA⟩ := HD7.out.here
              refine (hhA.drew.pairs).mono ?_
              rintro e wAP ⟨AP, cP, lP, rfl, hRA, hpA, hsA, _, hbA⟩
              have HDp := Aside0.mk (HD7.out.next (below_then (below_drew (Below.refl _ _)) (Nat.le_refl _) hbA))
              obtain ⟨A2', c2', he2, _, hCA⟩ := Kd.R_reads hRA
              cases he2
              have HPLP := Aside0.mk hpA
              have HSLP := Aside0.mk hsA
              have HCLP := Aside0.mk hCA
              clear hRA hpA hsA hCA hbA hhA
              clear x0 x1 x2 x3
              have HAXp := Aside0.mk (blk_below HAX0.out HDp.out.bel)
              have x0 := blk_cell HAXp.out 0
              have x1 := blk_cell HAXp.out 1
              have x2 := blk_cell HAXp.out 2
              have x3 := blk_cell HAXp.out 3
              (try go_wp2_with fail)
              refine hK.out _ _ (⟨x0, x1, x2, x3⟩) (fun hHeld => ?_)
              clear hK K
              (try simp only [Act.put, List.setIfInBounds_toArray, List.set_cons_zero, List.set_cons_succ])
              refine one_ (i := 3) (N := some 65) #[true, true, true, true, false, true, true, true, false, false, false, false, false, false, false, false, false, false, false, false, false, false, false, false, false, false, false, false, false, false, false, false, false] rfl rfl (by kernel_rfl) (by decide) (fun K hK => ?_)
              go_simp
              go_at_call 27
              obtain ⟨Ar', cr', he, _, hCr⟩ := HDp.out.row
              cases he
              refine (same_calls _ _ _ _ _ ls lP hCr HCLP.out HLE.out).mono ?_
              rintro e wBP ⟨r, rfl, hr, hbB⟩
              obtain rfl : r = false := by rw [Bool.eq_false_iff]; intro hq; exact HK2.out ((HFL.out lP HPLP.out HSLP.out).1 (hr.1 hq)).1
              have HDs := Aside0.mk (HDp.out.next hbB)
              clear hr hbB hCr
              clear x0 x1 x2 x3
              have HAXs := Aside0.mk (blk_below HAX0.out HDs.out.bel)
              have x0 := blk_cell HAXs.out 0
              have x1 := blk_cell HAXs.out 1
              have x2 := blk_cell HAXs.out 2
              have x3 := blk_cell HAXs.out 3
              (try go_wp2_with fail)
              refine hK.out _ _ (⟨x0, x1, x2, x3⟩) (fun hHeld => ?_)
              clear hK K
              (try simp only [Act.put, List.setIfInBounds_toArray, List.set_cons_zero, List.set_cons_succ])
              refine pure_ (i := 4) (N := some 66) (v := ?_) (a' := ?_) #[true, true, true, true, true, true, true, true, false, false, false, false, false, false, false, false, false, false, false, false, false, false, false, false, false, false, false, false, false, false, false, false, false] rfl rfl (by kernel_rfl) (fun _ _ _ h => h) (Or.inl ⟨by rfl, ?_⟩) ?_ ?_
              rotate_left
              · intro w'
                go_simp
                all_goals (with_reducible rfl)
              rotate_left
              · simp only [Act.put, List.setIfInBounds_toArray, List.set_cons_zero, List.set_cons_succ, i64_w, i32_w]
                rfl
              refine pure_ (i := 8) (N := some 70) (v := ?_) (a' := ?_) #[true, true, true, true, true, true, true, true, true, false, false, false, false, false, false, false, false, false, false, false, false, false, false, false, false, false, false, false, false, false, false, false, false] rfl rfl (by kernel_rfl) (fun _ _ _ h => h) (Or.inl ⟨by rfl, ?_⟩) ?_ ?_
              rotate_left
              · intro w'
                go_simp
                all_goals (with_reducible rfl)
              rotate_left
              · simp only [Act.put, List.setIfInBounds_toArray, List.set_cons_zero, List.set_cons_succ, i64_w, i32_w]
                rfl
              refine pure_ (i := 9) (N := some 71) (v := undef) (a' := ?_) #[true, true, true, true, true, true, true, true, true, true, false, false, false, false, false, false, false, false, false, false, false, false, false, false, false, false, false, false, false, false, false, false, false] rfl rfl (by kernel_rfl) (fun _ _ _ h => h) (Or.inr ⟨by rfl, rfl⟩) ?_ ?_
              rotate_left
              · simp only [Act.put, List.setIfInBounds_toArray, List.set_cons_zero, List.set_cons_succ, i64_w, i32_w]
                rfl
              refine pure_ (i := 11) (N := some 73) (v := undef) (a' := ?_) #[true, true, true, true, true, true, true, true, true, true, false, true, false, false, false, false, false, false, false, false, false, false, false, false, false, false, false, false, false, false, false, false, false] rfl rfl (by kernel_rfl) (fun _ _ _ h => h) (Or.inr ⟨by rfl, rfl⟩) ?_ ?_
              rotate_left
              · simp only [Act.put, List.setIfInBounds_toArray, List.set_cons_zero, List.set_cons_succ, i64_w, i32_w]
                rfl
              refine pure_ (i := 10) (N := some 72) (v := undef) (a' := ?_) #[true, true, true, true, true, true, true, true, true, true, true, true, false, false, false, false, false, false, false, false, false, false, false, false, false, false, false, false, false, false, false, false, false] rfl rfl (by kernel_rfl) (fun _ _ _ h => h) (Or.inr ⟨by rfl, rfl⟩) ?_ ?_
              rotate_left
              · simp only [Act.put, List.setIfInBounds_toArray, List.set_cons_zero, List.set_cons_succ, i64_w, i32_w]
                rfl
              refine pure_ (i := 12) (N := some 74) (v := undef) (a' := ?_) #[true, true, true, true, true, true, true, true, true, true, true, true, true, false, false, false, false, false, false, false, false, false, false, false, false, false, false, false, false, false, false, false, false] rfl rfl (by kernel_rfl) (fun _ _ _ h => h) (Or.inr ⟨by rfl, rfl⟩) ?_ ?_
              rotate_left
              · simp only [Act.put, List.setIfInBounds_toArray, List.set_cons_zero, List.set_cons_succ, i64_w, i32_w]
                rfl
              refine pure_ (i := 13) (N := some 75) (v := undef) (a' := ?_) #[true, true, true, true, true, true, true, true, true, true, true, true, true, true, false, false, false, false, false, false, false, false, false, false, false, false, false, false, false, false, false, false, false] rfl rfl (by kernel_rfl) (fun _ _ _ h => h) (Or.inr ⟨by rfl, rfl⟩) ?_ ?_
              rotate_left
              · simp only [Act.put, List.setIfInBounds_toArray, List.set_cons_zero, List.set_cons_succ, i64_w, i32_w]
                rfl
              refine pure_ (i := 14) (N := some 76) (v := ?_) (a' := ?_) #[true, true, true, true, true, true, true, true, true, true, true, true, true, true, true, false, false, false, false, false, false, false, false, false, false, false, false, false, false, false, false, false, false] rfl rfl (by kernel_rfl) (fun _ _ _ h => h) (Or.inl ⟨by rfl, ?_⟩) ?_ ?_
              rotate_left
              · intro w'
                go_simp
                all_goals (with_reducible rfl)
              rotate_left
              · simp only [Act.put, List.setIfInBounds_toArray, List.set_cons_zero, List.set_cons_succ, i64_w, i32_w]
                rfl
              refine pure_ (i := 15) (N := some 77) (v := ?_) (a' := ?_) #[true, true, true, true, true, true, true, true, true, true, true, true, true, true, true, true, false, false, false, false, false, false, false, false, false, false, false, false, false, false, false, false, false] rfl rfl (by kernel_rfl) (fun _ _ _ h => h) (Or.inl ⟨by rfl, ?_⟩) ?_ ?_
              rotate_left
              · intro w'
                go_simp
                all_goals (with_reducible rfl)
              rotate_left
              · simp only [Act.put, List.setIfInBounds_toArray, List.set_cons_zero, List.set_cons_succ, i64_w, i32_w]
                rfl
              refine pure_ (i := 16) (N := some 78) (v := ?_) (a' := ?_) #[true, true, true, true, true, true, true, true, true, true, true, true, true, true, true, true, true, false, false, false, false, false, false, false, false, false, false, false, false, false, false, false, false] rfl rfl (by kernel_rfl) (fun _ _ _ h => h) (Or.inl ⟨by rfl, ?_⟩) ?_ ?_
              rotate_left
              · intro w'
                go_simp
                all_goals (with_reducible rfl)
              rotate_left
              · simp only [Act.put, List.setIfInBounds_toArray, List.set_cons_zero, List.set_cons_succ, i64_w, i32_w]
                rfl
              refine pure_ (i := 17) (N := some 79) (v := ?_) (a' := ?_) #[true, true, true, true, true, true, true, true, true, true, true, true, true, true, true, true, true, true, false, false, false, false, false, false, false, false, false, false, false, false, false, false, false] rfl rfl (by kernel_rfl) (fun _ _ _ h => h) (Or.inl ⟨by rfl, ?_⟩) ?_ ?_
              rotate_left
              · intro w'
                go_simp
                all_goals (with_reducible rfl)
              rotate_left
              · simp only [Act.put, List.setIfInBounds_toArray, List.set_cons_zero, List.set_cons_succ, i64_w, i32_w]
                rfl
              refine take_ (i := 18) (N := some 80) (v := ?_) (a' := ?_) #[true, true, true, true, true, true, true, true, true, true, true, true, true, true, true, true, true, true, true, false, false, false, false, false, false, false, false, false, false, false, false, false, false] rfl rfl (by kernel_rfl) (fun _ _ _ h => h) (Or.inl ⟨by rfl, ?_⟩) hHeld ?_ ?_
              rotate_left
              · intro w' hSw
                (try dsimp only at hSw)
                go_simp
                all_goals (with_reducible rfl)
              rotate_left
              · simp only [Act.put, List.setIfInBounds_toArray, List.set_cons_zero, List.set_cons_succ, i64_w, i32_w]
                rfl
              refine one_ (i := 19) (N := some 81) #[true, true, true, true, true, true, true, true, true, true, true, true, true, true, true, true, true, true, true, true, false, false, false, false, false, false, false, false, false, false, false, false, false] rfl rfl (by kernel_rfl) (by decide) (fun K hK => ?_)
              go_simp
              go_at_call 11
              refine (turn_ok _ ak sa sb sc ha hb hc HBK.out.may).mono ?_
              rintro e wC ⟨rfl, hbC⟩
              have HDt := Aside0.mk (HDs.out.next hbC)
              clear hbC
              clear x0 x1 x2 x3
              have HAXt := Aside0.mk (blk_below HAX0.out HDt.out.bel)
              have x0 := blk_cell HAXt.out 0
              have x1 := blk_cell HAXt.out 1
              have x2 := blk_cell HAXt.out 2
              have x3 := blk_cell HAXt.out 3
              (try go_wp2_with fail)
              refine hK.out _ _ (⟨x0, x1, x2, x3⟩) (fun hHeld => ?_)
              clear hK K
              (try simp only [Act.put, List.setIfInBounds_toArray, List.set_cons_zero, List.set_cons_succ])
              refine one_ (i := 20) (N := some 82) #[true, true, true, true, true, true, true, true, true, true, true, true, true, true, true, true, true, true, true, true, true, false, false, false, false, false, false, false, false, false, false, false, false] rfl rfl (by kernel_rfl) (by decide) (fun K hK => ?_)
              go_simp
              go_at_call 21
              refine (HDt.out.do_ (turnK ak) sa sc sb ha hc hb).mono ?_
              rintro e wD ⟨rfl, hDD, _⟩
              rw [HBK.out.done]
              have HDu := Aside0.mk hDD
              clear hDD
              clear x0 x1 x2 x3
              have HAXu := Aside0.mk (blk_below HAX0.out HDu.out.bel)
              have x0 := blk_cell HAXu.out 0
              have x1 := blk_cell HAXu.out 1
              have x2 := blk_cell HAXu.out 2
              have x3 := blk_cell HAXu.out 3
              (try go_wp2_with fail)
              refine hK.out _ _ (⟨x0, x1, x2, x3⟩) (fun hHeld => ?_)
              clear hK K
              (try simp only [Act.put, List.setIfInBounds_toArray, List.set_cons_zero, List.set_cons_succ])
              refine pure_ (i := 21) (N := some 83) (v := ?_) (a' := ?_) #[true, true, true, true, true, true, true, true, true, true, true, true, true, true, true, true, true, true, true, true, true, true, false, false, false, false, false, false, false, false, false, false, false] rfl rfl (by kernel_rfl) (fun _ _ _ h => h) (Or.inl ⟨by rfl, ?_⟩) ?_ ?_
              rotate_left
              · intro w'
                go_simp
                all_goals (with_reducible rfl)
              rotate_left
              · simp only [Act.put, List.setIfInBounds_toArray, List.set_cons_zero, List.set_cons_succ, i64_w, i32_w]
                rfl
              refine pure_ (i := 22) (N := some 84) (v := ?_) (a' := ?_) #[true, true, true, true, true, true, true, true, true, true, true, true, true, true, true, true, true, true, true, true, true, true, true, false, false, false, false, false, false, false, false, false, false] rfl rfl (by kernel_rfl) (fun _ _ _ h => h) (Or.inl ⟨by rfl, ?_⟩) ?_ ?_
              rotate_left
              · intro w'
                go_simp
                all_goals (with_reducible rfl)
              rotate_left
              · simp only [Act.put, List.setIfInBounds_toArray, List.set_cons_zero, List.set_cons_succ, i64_w, i32_w]
                rfl
              refine pure_ (i := 23) (N := some 85) (v := ?_) (a' := ?_) #[true, true, true, true, true, true, true, true, true, true, true, true, true, true, true, true, true, true, true, true, true, true, true, true, false, false, false, false, false, false, false, false, false] rfl rfl (by kernel_rfl) (fun _ _ _ h => h) (Or.inl ⟨by rfl, ?_⟩) ?_ ?_
              rotate_left
              · intro w'
                go_simp
                all_goals (with_reducible rfl)
              rotate_left
              · simp only [Act.put, List.setIfInBounds_toArray, List.set_cons_zero, List.set_cons_succ, i64_w, i32_w]
                rfl
              refine pure_ (i := 24) (N := some 86) (v := ?_) (a' := ?_) #[true, true, true, true, true, true, true, true, true, true, true, true, true, true, true, true, true, true, true, true, true, true, true, true, true, false, false, false, false, false, false, false, false] rfl rfl (by kernel_rfl) (fun _ _ _ h => h) (Or.inl ⟨by rfl, ?_⟩) ?_ ?_
              rotate_left
              · intro w'
                go_simp
                all_goals (with_reducible rfl)
              rotate_left
              · simp only [Act.put, List.setIfInBounds_toArray, List.set_cons_zero, List.set_cons_succ, i64_w, i32_w]
                rfl
              refine pure_ (i := 25) (N := some 87) (v := ?_) (a' := ?_) #[true, true, true, true, true, true, true, true, true, true, true, true, true, true, true, true, true, true, true, true, true, true, true, true, true, true, false, false, false, false, false, false, false] rfl rfl (by kernel_rfl) (fun _ _ _ h => h) (Or.inl ⟨by rfl, ?_⟩) ?_ ?_
              rotate_left
              · intro w'
                go_simp
                all_goals (with_reducible rfl)
              rotate_left
              · simp only [Act.put, List.setIfInBounds_toArray, List.set_cons_zero, List.set_cons_succ, i64_w, i32_w]
                rfl
              refine one_ (i := 26) (N := some 88) #[true, true, true, true, true, true, true, true, true, true, true, true, true, true, true, true, true, true, true, true, true, true, true, true, true, true, true, false, false, false, false, false, false] rfl rfl (by kernel_rfl) (by decide) (fun K hK => ?_)
              go_simp
              go_at_call 26
              obtain ⟨okA, hhA⟩ := HDu.out.here
              refine (hhA.pairs).mono ?_
              rintro e wAQ ⟨AQ, cQ, lQ, rfl, hRA, hpA, hsA, _, hbA⟩
              have HDv := Aside0.mk (HDu.out.next hbA)
              obtain ⟨A2', c2', he2, _, hCA⟩ := Kd.R_reads hRA
              cases he2
              have HPLQ := Aside0.mk hpA
              have HSLQ := Aside0.mk hsA
              have HCLQ := Aside0.mk hCA
              clear hRA hpA hsA hCA hbA hhA
              clear x0 x1 x2 x3
              have HAXv := Aside0.mk (blk_below HAX0.out HDv.out.bel)
              have x0 := blk_cell HAXv.out 0
              have x1 := blk_cell HAXv.out 1
              have x2 := blk_cell HAXv.out 2
              have x3 := blk_cell HAXv.out 3
              (try go_wp2_with fail)
              refine hK.out _ _ (⟨x0, x1, x2, x3⟩) (fun hHeld => ?_)
              clear hK K
              (try simp only [Act.put, List.setIfInBounds_toArray, List.set_cons_zero, List.set_cons_succ])
              refine one_ (i := 27) (N := some 89) #[true, true, true, true, true, true, true, true, true, true, true, true, true, true, true, true, true, true, true, true, true, true, true, true, true, true, true, true, false, false, false, false, false] rfl rfl (by kernel_rfl) (by decide) (fun K hK => ?_)
              go_simp
              go_at_call 27
              obtain ⟨Ar', cr', he, _, hCr⟩ := HDv.out.row
              cases he
              refine (same_calls _ _ _ _ _ ls lQ hCr HCLQ.out HLE.out).mono ?_
              rintro e wBQ ⟨r, rfl, hr, hbB⟩
              obtain rfl : r = true := hr.2 (srt_same HV.out HU.out HP.out (HPLQ.out.trans HBK.out.same) HSR.out HSLQ.out)
              have HDw := Aside0.mk (HDv.out.next hbB)
              clear hr hbB hCr
              clear x0 x1 x2 x3
              have HAXw := Aside0.mk (blk_below HAX0.out HDw.out.bel)
              have x0 := blk_cell HAXw.out 0
              have x1 := blk_cell HAXw.out 1
              have x2 := blk_cell HAXw.out 2
              have x3 := blk_cell HAXw.out 3
              (try go_wp2_with fail)
              refine hK.out _ _ (⟨x0, x1, x2, x3⟩) (fun hHeld => ?_)
              clear hK K
              (try simp only [Act.put, List.setIfInBounds_toArray, List.set_cons_zero, List.set_cons_succ])
              refine pure_ (i := 28) (N := some 90) (v := ?_) (a' := ?_) #[true, true, true, true, true, true, true, true, true, true, true, true, true, true, true, true, true, true, true, true, true, true, true, true, true, true, true, true, true, false, false, false, false] rfl rfl (by kernel_rfl) (fun _ _ _ h => h) (Or.inl ⟨by rfl, ?_⟩) ?_ ?_
              rotate_left
              · intro w'
                go_simp
                all_goals (with_reducible rfl)
              rotate_left
              · simp only [Act.put, List.setIfInBounds_toArray, List.set_cons_zero, List.set_cons_succ, i64_w, i32_w]
                rfl
              refine pure_ (i := 29) (N := some 91) (v := ?_) (a' := ?_) #[true, true, true, true, true, true, true, true, true, true, true, true, true, true, true, true, true, true, true, true, true, true, true, true, true, true, true, true, true, true, false, false, false] rfl rfl (by kernel_rfl) (fun _ _ _ h => h) (Or.inl ⟨by rfl, ?_⟩) ?_ ?_
              rotate_left
              · intro w'
                go_simp
                all_goals (with_reducible rfl)
              rotate_left
              · simp only [Act.put, List.setIfInBounds_toArray, List.set_cons_zero, List.set_cons_succ, i64_w, i32_w]
                rfl
              refine one_ (i := 30) (N := some 92) #[true, true, true, true, true, true, true, true, true, true, true, true, true, true, true, true, true, true, true, true, true, true, true, true, true, true, true, true, true, true, true, false, false] rfl rfl (by kernel_rfl) (by decide) (fun K hK => ?_)
              go_simp
              go_at_call 10
              refine (lives_calls _).mono ?_
              rintro e wE ⟨rfl, hbE⟩
              have HDx := Aside0.mk (HDw.out.next hbE)
              clear hbE
              clear x0 x1 x2 x3
              have HAXx := Aside0.mk (blk_below HAX0.out HDx.out.bel)
              have x0 := blk_cell HAXx.out 0
              have x1 := blk_cell HAXx.out 1
              have x2 := blk_cell HAXx.out 2
              have x3 := blk_cell HAXx.out 3
              (try go_wp2_with fail)
              refine hK.out _ _ (⟨x0, x1, x2, x3⟩) (fun hHeld => ?_)
              clear hK K
              (try simp only [Act.put, List.setIfInBounds_toArray, List.set_cons_zero, List.set_cons_succ])
              refine pure_ (i := 31) (N := some 93) (v := ?_) (a' := ?_) #[true, true, true, true, true, true, true, true, true, true, true, true, true, true, true, true, true, true, true, true, true, true, true, true, true, true, true, true, true, true, true, true, false] rfl rfl (by kernel_rfl) (fun _ _ _ h => h) (Or.inl ⟨by rfl, ?_⟩) ?_ ?_
              rotate_left
              · intro w'
                go_simp
                all_goals (with_reducible rfl)
              rotate_left
              · simp only [Act.put, List.setIfInBounds_toArray, List.set_cons_zero, List.set_cons_succ, i64_w, i32_w]
                rfl
              refine pure_ (i := 32) (N := some 6) (v := ?_) (a' := ?_) #[true, true, true, true, true, true, true, true, true, true, true, true, true, true, true, true, true, true, true, true, true, true, true, true, true, true, true, true, true, true, true, true, true] rfl rfl (by kernel_rfl) (fun _ _ _ h => h) (Or.inl ⟨by rfl, ?_⟩) ?_ ?_
              rotate_left
              · intro w'
                go_simp
                all_goals (with_reducible rfl)
              rotate_left
              · simp only [Act.put, List.setIfInBounds_toArray, List.set_cons_zero, List.set_cons_succ, i64_w, i32_w]
                rfl
              refine done_ (by kernel_rfl) ?_
              go_wp2_with fail
              go_ret
              exact ⟨rfl, below_then HB0.out HB0.out.size HDx.out.bel⟩
            -- END
          · have hcs := actDo_fail HU.out ak sa sb sc hd
            rw [hcs] at HD7
            have e7 : ((actDo cs ak sa sb sc).2 != 0) = true := by simpa using hd
            clear hcs hd
            generalize (actDo cs ak sa sb sc).2 = er at e7 ⊢
            go_wp2_with fail
            obtain ⟨ok7, hh7⟩ := HD7.out.here
            refine hh7.pairs.mono ?_
            rintro e w8 ⟨A2, c2, l2, rfl, hR2, hp2, hs2, _, hb8⟩
            have HD8 := Aside0.mk (HD7.out.next hb8)
            have hC2 := (Kd.R_reads hR2)
            obtain ⟨A2', c2', he2, _, hC2⟩ := hC2
            cases he2
            have hrow := HD8.out.row
            obtain ⟨Ar', cr', he, _, hCr⟩ := hrow
            cases he
            have hle : ls.length ≤ 100000 := by have h1 := HP.out.length_eq; rw [prs_length HU.out] at h1; have h2 := HV.out.len; omega
            have HEQ := Aside0.mk (srt_same HV.out HU.out HP.out hp2 HSR.out hs2)
            clear hR2 hp2 hs2 hb8 hh7
            go_wp2_with fail
            refine (same_calls w8 _ _ _ _ ls l2 hCr hC2 hle).mono ?_
            rintro e w9 ⟨r, rfl, hr, hb9⟩
            obtain rfl : r = true := hr.2 HEQ.out
            have HBn := Aside0.mk (below_then (below_then HB0.out HB0.out.size HD8.out.bel) (below_then HB0.out HB0.out.size HD8.out.bel).size hb9)
            clear hr hb9 hCr hC2
            go_wp2_with (go_at_call 10; refine (lives_calls _).mono ?_; rintro e wq ⟨rfl, hb⟩; have HBn := Aside0.mk (below_then HBn.out HBn.out.size hb); clear hb)
            go_ret
            exact ⟨rfl, HBn.out⟩
end Go.Proofs.Ytidgfigfebkieaa
end
section
namespace Go.Proofs.Ytidgfigfebkieaa
open Go.RowKit Go.Proofs.YtidgfigfebkieaaW.PrintWords Go.Proofs.YtidgfigfebkieaaW.PrintLast Go.Proofs.YtidgfigfebkieaaW.PrintMore
open Go.ChangeShapes Go.WideShapes Go.ChangeAt Go.Deep Go.Joins
open Rf
set_option linter.unusedVariables false
set_option linter.unusedSimpArgs false
theorem list_of {α : Type} (P : Nat → α → Prop) (n : Nat) (h : ∀ i, i < n → ∃ o, P i o) : ∃ l : List α, l.length = n ∧ ∀ i o, l[i]? = some o → P i o := by
  induction n with
  | zero => exact ⟨[], rfl, by simp⟩
  | succ n ih =>
    obtain ⟨l, hl, hp⟩ := ih (fun i hi => h i (by omega))
    obtain ⟨o, ho⟩ := h n (by omega)
    refine ⟨l ++ [o], by simp [hl], fun i x hx => ?_⟩
    rcases Nat.lt_or_ge i l.length with hi | hi
    · rw [List.getElem?_append_left hi] at hx; exact hp i x hx
    · have : i = n := by
        have := (List.getElem?_eq_some_iff.1 hx).1
        simp at this; omega
      subst this
      rw [List.getElem?_append_right (by omega)] at hx
      simp [hl] at hx
      rw [← hx]; exact ho
section
variable {H : Type} {enc : TypeId × Value → H} {W : World} {P : Program}
/-- K: the elements' kind; out: an element's cells; one: an element's cells are some element's. Good: what is known of each. -/
theorem open_list {α : Type} (K : Kd α) (out : α → List Value) (Good : α → Prop) {t e : TypeId} (U : P.underlying t = some (.slice e)) (hC : P.cellsOf e = K.sz) (hK : ∀ x, K.K W x (out x)) (hout : ∀ x, (out x).length = K.sz)
    {fuel : Nat} {cs : List Value} {d : DataW H} {p : List MemPlace} (hf : DataW.trod enc P W 0 (fun _ => true) true fuel t cs = some (d, p))
    (one : ∀ n cs' d' p', cs'.length = K.sz → DataW.trod enc P W 0 (fun _ => true) true n e cs' = some (d', p') → ∃ x, cs' = out x ∧ Good x) :
    ∃ A c, ∃ l : List α, cs = [.slice A l.length c] ∧ Kd.C K W A l.length l ∧ l.length ≤ c ∧ ∀ x ∈ l, Good x := by
  rcases open_slice U hf with ⟨hcs, _⟩ | ⟨a, len, cap, m, n, D, Pl, hcs, hb, hl, hm, hmm, hx, hi⟩
  · exact ⟨none, 0, [], hcs, ⟨rfl, by simp, fun h => by simp at h⟩, by simp, by simp⟩
  · obtain ⟨l, hll, hp⟩ := list_of (fun i (o : α) => Good o ∧ ∀ j u, (out o)[j]? = some u → W.cell? (a.add (i * K.sz + j)) = some u) len (fun i hil => by
      obtain ⟨cs', hc, ht'⟩ := hi i (by rw [hmm]; split <;> omega)
      rw [hC] at hc
      obtain ⟨_, hcl, hat⟩ := World.cells?_some hc
      obtain ⟨o, rfl, hg⟩ := one n cs' _ _ hcl ht'
      refine ⟨o, hg, fun j u hj => ?_⟩
      have hjl : j < K.sz := by have := (List.getElem?_eq_some_iff.1 hj).1; rw [hout] at this; exact this
      rw [← Go.Deep.add_add, hat j hjl, hj])
    have hml : cap ≤ 9223372036854775807 := by have : maxLen ≤ 9223372036854775807 := by decide
                                               omega
    refine ⟨some a, cap, l, by rw [hll]; exact hcs, ⟨rfl, by omega, fun _ => ⟨a, rfl, fun j o hj => ⟨out o, hout o, hK o, (hp j o hj).2⟩⟩⟩, by omega, fun o ho => ?_⟩
    obtain ⟨i, hi2⟩ := List.mem_iff_getElem?.1 ho
    exact (hp i o hi2).1
end
end Go.Proofs.Ytidgfigfebkieaa
end
section
namespace Go.Proofs.Ytidgfigfebkieaa
open Go.RowKit Go.Proofs.YtidgfigfebkieaaW.PrintWords Go.Proofs.YtidgfigfebkieaaW.PrintLast Go.Proofs.YtidgfigfebkieaaW.PrintMore
open Go.ChangeShapes Go.WideShapes Go.ChangeAt Go.Deep Go.Joins
open Rf
set_option linter.unusedVariables false
set_option linter.unusedSimpArgs false
section
variable {H : Type} {enc : TypeId × Value → H} {W : World}
set_option maxRecDepth 100000 in
theorem pair_cells {held : Bool} {n : Nat} {cs : List Value} {d : DataW H} {p : List MemPlace} (hl : cs.length = 2) (h : DataW.trod enc Try.prog W 0 (fun _ => true) held n 79 cs = some (d, p)) :
    ∃ o : SGPair, cs = [.string o.f0, .string o.f1] ∧ d = .agg [.lit (.string o.f0.data.toList), .lit (.string o.f1.data.toList)] := by
  obtain ⟨c0, c1, rfl⟩ : ∃ c0 c1, cs = [c0, c1] := by
    match cs, hl with
    | [c0, c1], _ => exact ⟨c0, c1, rfl⟩
  obtain ⟨ys, n', hn', hy, hlen, hyl, hf⟩ := DataW.trod_struct Try.underlying79 h
  have k9 : Try.prog.cellsOf 9 = 1 := by kernel_rfl
  have h0 := hf 0 ⟨"Key", 9, 0, false, "", "", 0⟩ rfl
  have h1 := hf 1 ⟨"Value", 9, 1, false, "", "", 16⟩ rfl
  simp only [k9, List.drop_zero, List.drop_succ_cons, List.take_succ_cons, List.take_zero] at h0 h1
  obtain ⟨y0, y1, rfl⟩ : ∃ a b, ys = [a, b] := by
    match ys, hyl with
    | [a, b], _ => exact ⟨a, b, rfl⟩
  obtain ⟨s0, e0, x0, w0⟩ := DataW.trod_string Try.underlying9 h0
  obtain ⟨s1, e1, x1, w1⟩ := DataW.trod_string Try.underlying9 h1
  cases e0; cases e1; cases x0; cases x1
  obtain ⟨hd, _⟩ := Prod.mk.inj hy
  exact ⟨⟨s0, s1⟩, rfl, hd⟩
set_option maxRecDepth 100000 in
theorem act_cells {held : Bool} {n : Nat} {cs : List Value} {d : DataW H} {p : List MemPlace} (hl : cs.length = 4) (h : DataW.trod enc Try.prog W 0 (fun _ => true) held n 24 cs = some (d, p)) :
    ∃ o : SGAct, cs = [.int .i64 o.f0, .string o.f1, .string o.f2, .string o.f3] ∧ d = .agg [.lit (.int .i64 o.f0), .lit (.string o.f1.data.toList), .lit (.string o.f2.data.toList), .lit (.string o.f3.data.toList)] := by
  obtain ⟨c0, c1, c2, c3, rfl⟩ : ∃ c0 c1 c2 c3, cs = [c0, c1, c2, c3] := by
    match cs, hl with
    | [c0, c1, c2, c3], _ => exact ⟨c0, c1, c2, c3, rfl⟩
  obtain ⟨ys, n', hn', hy, hlen, hyl, hf⟩ := DataW.trod_struct Try.underlying24 h
  have k3 : Try.prog.cellsOf 22 = 1 := by kernel_rfl
  have k9 : Try.prog.cellsOf 9 = 1 := by kernel_rfl
  have h0 := hf 0 ⟨"Kind", 22, 0, false, "", "", 0⟩ rfl
  have h1 := hf 1 ⟨"Key", 9, 1, false, "", "", 8⟩ rfl
  have h2 := hf 2 ⟨"Old", 9, 2, false, "", "", 24⟩ rfl
  have h3 := hf 3 ⟨"New", 9, 3, false, "", "", 40⟩ rfl
  simp only [k3, k9, List.drop_zero, List.drop_succ_cons, List.take_succ_cons, List.take_zero] at h0 h1 h2 h3
  obtain ⟨y0, y1, y2, y3, rfl⟩ : ∃ a b c d, ys = [a, b, c, d] := by
    match ys, hyl with
    | [a, b, c, d], _ => exact ⟨a, b, c, d, rfl⟩
  obtain ⟨n0, e0, x0, w0⟩ := DataW.trod_int Try.underlying22 h0
  obtain ⟨s1, e1, x1, w1⟩ := DataW.trod_string Try.underlying9 h1
  obtain ⟨s2, e2, x2, w2⟩ := DataW.trod_string Try.underlying9 h2
  obtain ⟨s3, e3, x3, w3⟩ := DataW.trod_string Try.underlying9 h3
  cases e0; cases e1; cases e2; cases e3
  cases x0; cases x1; cases x2; cases x3
  obtain ⟨hd, _⟩ := Prod.mk.inj hy
  exact ⟨⟨n0, s1, s2, s3⟩, rfl, hd⟩
theorem mem_weightsAll {H : Type} {P : Program} {e : TypeId} : ∀ {ds : List (DataW H)} {d : DataW H}, d ∈ ds → ∀ n ∈ d.weights P e, n ∈ DataW.weightsAll P e ds
  | [], _, h, _, _ => by simp at h
  | a :: r, d, h, n, hn => by
    simp only [DataW.weightsAll, List.mem_append]
    rcases List.mem_cons.1 h with rfl | h
    · exact .inl hn
    · exact .inr (mem_weightsAll h n hn)
/-- As open_list, with each element's weights at hand. -/
theorem open_listw {α : Type} (K : Kd α) (out : α → List Value) (Good : α → Prop) {t e : TypeId} (U : Try.prog.underlying t = some (.slice e)) (hC : Try.prog.cellsOf e = K.sz) (hB : 1 ≤ Try.prog.bytesOf e) (hK : ∀ x, K.K W x (out x)) (hout : ∀ x, (out x).length = K.sz)
    {fuel : Nat} {cs : List Value} {d : DataW H} {p : List MemPlace} (hf : DataW.trod enc Try.prog W 0 (fun _ => true) true fuel t cs = some (d, p))
    (hw : ∀ x ∈ d.weights Try.prog t, x ≤ reachBytes)
    (one : ∀ n cs' d' p', cs'.length = K.sz → DataW.trod enc Try.prog W 0 (fun _ => true) true n e cs' = some (d', p') → (∀ x ∈ d'.weights Try.prog e, x ≤ reachBytes) → ∃ x, cs' = out x ∧ Good x) :
    ∃ A c, ∃ l : List α, cs = [.slice A l.length c] ∧ Kd.C K W A l.length l ∧ l.length ≤ c ∧ l.length ≤ 140737488351232 ∧ ∀ x ∈ l, Good x := by
  rcases open_slice U hf with ⟨hcs, _⟩ | ⟨a, len, cap, m, n, D, Pl, hcs, hb, hl, hm, hmm, hx, hi⟩
  · exact ⟨none, 0, [], hcs, ⟨rfl, by simp, fun h => by simp at h⟩, by simp, by simp, by simp⟩
  · obtain ⟨hd, _⟩ := Prod.mk.inj hx
    subst hd
    have hlen : len ≤ reachBytes := by
      have := hw ((((List.range len).map D).length + ((List.range (m - len)).map fun j => D (len + j)).length) * Try.prog.bytesOf e) (by rw [DataW.weights, U]; simp)
      rw [List.length_map, List.length_range] at this
      have h2 : (len + ((List.range (m - len)).map fun j => D (len + j)).length) * 1 ≤ (len + ((List.range (m - len)).map fun j => D (len + j)).length) * Try.prog.bytesOf e := Nat.mul_le_mul_left _ hB
      omega
    have hr : reachBytes = 140737488351232 := by kernel_rfl
    obtain ⟨l, hll, hp⟩ := list_of (fun i (o : α) => Good o ∧ ∀ j u, (out o)[j]? = some u → W.cell? (a.add (i * K.sz + j)) = some u) len (fun i hil => by
      obtain ⟨cs', hc, ht'⟩ := hi i (by rw [hmm]; split <;> omega)
      rw [hC] at hc
      obtain ⟨_, hcl, hat⟩ := World.cells?_some hc
      obtain ⟨o, rfl, hg⟩ := one n cs' _ _ hcl ht' (fun x hx => hw x (by
        rw [DataW.weights, U]
        simp only [List.mem_cons, List.mem_append]
        exact .inr (.inl (mem_weightsAll (List.mem_map.2 ⟨i, List.mem_range.2 hil, rfl⟩) x hx))))
      refine ⟨o, hg, fun j u hj => ?_⟩
      have hjl : j < K.sz := by have := (List.getElem?_eq_some_iff.1 hj).1; rw [hout] at this; exact this
      rw [← Go.Deep.add_add, hat j hjl, hj])
    have hml : cap ≤ 9223372036854775807 := by have : maxLen ≤ 9223372036854775807 := by decide
                                               omega
    refine ⟨some a, cap, l, by rw [hll]; exact hcs, ⟨rfl, by omega, fun _ => ⟨a, rfl, fun j o hj => ⟨out o, hout o, hK o, (hp j o hj).2⟩⟩⟩, by omega, by omega, fun o ho => ?_⟩
    obtain ⟨i, hi2⟩ := List.mem_iff_getElem?.1 ho
    exact (hp i o hi2).1
set_option maxRecDepth 100000 in
/-- A slice of Pair. -/
theorem open_pairs {r : Reach} {b0 : Nat} {v : Value} {d : DataW H} {p : List MemPlace} (hv : Value.okWide Try.prog W r b0 41 v) (h : DataW.Trod enc Try.prog W 0 (fun _ => true) true 41 v d p)
    (hw : ∀ x ∈ d.weights Try.prog 41, x ≤ reachBytes) :
    ∃ A c, ∃ l : List SGPair, v = .slice A l.length c ∧ Kd.C kGPair W A l.length l ∧ l.length ≤ 140737488351232 ∧ ∀ x ∈ l, x.f0.size ≤ 140737488351232 ∧ x.f1.size ≤ 140737488351232 := by
  obtain ⟨A, len, cap, rfl⟩ := okWide_slice Try.underlying41 hv
  obtain ⟨fuel, hf⟩ := h
  obtain ⟨A', c', l, hcs, hC, _, hl, hg⟩ := open_listw kGPair (fun o => [.string o.f0, .string o.f1]) (fun x => x.f0.size ≤ reachBytes ∧ x.f1.size ≤ reachBytes) Try.underlying41 (by kernel_rfl) (of_decide_eq_true (by kernel_rfl)) (fun x => kGPair_mk W x) (fun x => rfl) hf hw
    (fun n cs' d' p' hl ht hw' => by
      obtain ⟨o, rfl, rfl⟩ := pair_cells hl ht
      refine ⟨o, rfl, hw' _ ?_, hw' _ ?_⟩
      · rw [DataW.weights, Try.underlying79]
        simp [DataW.weightsEach, DataW.weights]
      · rw [DataW.weights, Try.underlying79]
        simp [DataW.weightsEach, DataW.weights])
  simp [Value.cells] at hcs
  obtain ⟨rfl, rfl, rfl⟩ := hcs
  exact ⟨_, _, l, rfl, hC, hl, hg⟩
set_option maxRecDepth 100000 in
/-- A slice of Act. -/
theorem open_acts {r : Reach} {b0 : Nat} {v : Value} {d : DataW H} {p : List MemPlace} (hv : Value.okWide Try.prog W r b0 42 v) (h : DataW.Trod enc Try.prog W 0 (fun _ => true) true 42 v d p)
    (hw : ∀ x ∈ d.weights Try.prog 42, x ≤ reachBytes) :
    ∃ A c, ∃ l : List SGAct, v = .slice A l.length c ∧ Kd.C kGAct W A l.length l ∧ l.length ≤ 140737488351232 ∧ ∀ x ∈ l, x.f1.size ≤ 140737488351232 ∧ x.f2.size ≤ 140737488351232 ∧ x.f3.size ≤ 140737488351232 := by
  obtain ⟨A, len, cap, rfl⟩ := okWide_slice Try.underlying42 hv
  obtain ⟨fuel, hf⟩ := h
  obtain ⟨A', c', l, hcs, hC, _, hl, hg⟩ := open_listw kGAct (fun o => [.int .i64 o.f0, .string o.f1, .string o.f2, .string o.f3]) (fun x => x.f1.size ≤ reachBytes ∧ x.f2.size ≤ reachBytes ∧ x.f3.size ≤ reachBytes) Try.underlying42 (by kernel_rfl) (of_decide_eq_true (by kernel_rfl)) (fun x => kGAct_mk W x) (fun x => rfl) hf hw
    (fun n cs' d' p' hl ht hw' => by
      obtain ⟨o, rfl, rfl⟩ := act_cells hl ht
      refine ⟨o, rfl, hw' _ ?_, hw' _ ?_, hw' _ ?_⟩
      · rw [DataW.weights, Try.underlying24]
        simp [DataW.weightsEach, DataW.weights]
      · rw [DataW.weights, Try.underlying24]
        simp [DataW.weightsEach, DataW.weights]
      · rw [DataW.weights, Try.underlying24]
        simp [DataW.weightsEach, DataW.weights])
  simp [Value.cells] at hcs
  obtain ⟨rfl, rfl, rfl⟩ := hcs
  exact ⟨_, _, l, rfl, hC, hl, hg⟩
end
end Go.Proofs.Ytidgfigfebkieaa
end
section
namespace Go.Proofs.Ytidgfigfebkieaa
open Go.RowKit Go.Proofs.YtidgfigfebkieaaW.PrintWords Go.Proofs.YtidgfigfebkieaaW.PrintLast Go.Proofs.YtidgfigfebkieaaW.PrintMore
open Go.ChangeShapes Go.WideShapes Go.ChangeAt Go.Deep Go.Joins
open Rf
set_option linter.unusedVariables false
set_option linter.unusedSimpArgs false
section
variable {H : Type} {enc : TypeId × Value → H} {W : World}
set_option maxRecDepth 100000 in
/-- An Act by value. -/
theorem open_act {r : Reach} {b0 : Nat} {v : Value} {d : DataW H} {p : List MemPlace} (hv : Value.okWide Try.prog W r b0 24 v) (h : DataW.Trod enc Try.prog W 0 (fun _ => true) true 24 v d p)
    (hw : ∀ x ∈ d.weights Try.prog 24, x ≤ reachBytes) :
    ∃ (k : Int) (a b c : ByteArray), v = .agg #[.int .i64 k, .string a, .string b, .string c] ∧ a.size ≤ reachBytes ∧ b.size ≤ reachBytes ∧ c.size ≤ reachBytes ∧ (Lit.int .i64 k).wf = true := by
  obtain ⟨v0, v1, v2, v3, y0, y1, y2, y3, n, rfl, rfl, rfl, h0, h1, h2, h3⟩ := open_agg4 Try.underlying24 (by kernel_rfl) (by kernel_rfl) hv h
  obtain ⟨n0, e0, x0, w0⟩ := DataW.trod_int Try.underlying22 h0
  obtain ⟨s1, e1, x1, w1⟩ := DataW.trod_string Try.underlying9 h1
  obtain ⟨s2, e2, x2, w2⟩ := DataW.trod_string Try.underlying9 h2
  obtain ⟨s3, e3, x3, w3⟩ := DataW.trod_string Try.underlying9 h3
  cases e0; cases e1; cases e2; cases e3
  cases x0; cases x1; cases x2; cases x3
  refine ⟨n0, s1, s2, s3, rfl, hw _ ?_, hw _ ?_, hw _ ?_, w0⟩
  all_goals
    rw [DataW.weights, Try.underlying24]
    simp [DataW.weightsEach, DataW.weights]
end
end Go.Proofs.Ytidgfigfebkieaa
end
