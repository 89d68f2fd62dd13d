/- Layer 6: PagePlays' walk. 
THE ROW: PagePlays: for every input it returns true, and each argument reads as it read before. No condition. -/
import Derived.Test.YtidkdbohkbfhbaaZMgRr3
import Derived.Test.YtidkdbohkbfhbaaZMgPl1
import Derived.Test.YtidkdbohkbfhbaaZMgRr5
import Derived.Test.YtidkdbohkbfhbaaZMgPl2
import Derived.Test.YtidkdbohkbfhbaaRows
import Derived.WalkKit
import Derived.ProofKit
import Derived.OpenShut
import Derived.ShutString
import Derived.ChangeOld
import Derived.Below
import Derived.SizedLaws
section
namespace Go.Proofs.Ytidkdbohkbfhbaa
open Go.RowKit Go.Proofs.YtidkdbohkbfhbaaW.PrintWords Go.Proofs.YtidkdbohkbfhbaaW.PrintLast Go.Proofs.YtidkdbohkbfhbaaW.PrintMore
open Rf
set_option linter.unusedVariables false
set_option linter.unusedSimpArgs false
attribute [local go_sem high] yundz
theorem prs_few {cs : List SGCell} (hv : Valid cs) {l : List SGPair} (hp : l.Perm (prs cs)) : l.length ≤ 1000 := by
  rw [hp.length_eq]
  unfold prs
  rw [List.length_map]
  have h1 := List.length_filter_le (fun c : SGCell => c.f0) cs
  have h2 := hv.len
  omega
theorem twin_start {w0 w : World} {ok : Nat → Prop} {g id lsn : Nat} {cs : List SGCell} (h : Here w0 w ok g id lsn cs) : Twin w0 w (fun _ => False) g id lsn cs [] (.slice none 0 0) :=
  ⟨⟨_, h.bound, fun k hk => ⟨hk.2, fun h => h⟩, Kd.R_nil _ _ _ _ _⟩, fun k h => h.elim⟩
set_option maxRecDepth 100000 in
set_option maxHeartbeats 16000000 in
theorem plays_walk (w : World) (id : Int) (l : List SGOp) (A : Option Addr) (c : Nat) (hC : Kd.C kGOp w A l.length l) (hl : l.length ≤ 140737488351232) (ho : ∀ o ∈ l, OkOp o) :
    Calls Try.prog 9 #[.int .i64 id, .slice A l.length c] w fun e w' => e = .returned (.bool true) ∧ Below w.heap.size w w' := by
  have HC := Aside0.mk hC
  have HO := Aside0.mk ho
  clear hC ho
  go_enter Try.func9, Try.ntmps9
  go_wp2_with fail
  by_cases hid : 0 ≤ id ∧ id < 16
  · obtain ⟨i, rfl⟩ := Int.eq_ofNat_of_zero_le hid.1
    have hi : i < 16 := by omega
    refine (new_here i w hi).mono ?_
    rintro e w1 ⟨rfl, hh⟩
    have HB1 := Aside0.mk hh.bel
    have HT1 := Aside0.mk (twin_start hh)
    clear hh hid hi
    go_wp2_with fail
    obtain ⟨DB, hDB⟩ : ∃ x, x = w1.heap.size := ⟨_, rfl⟩
    have hd2 : (w1.alloc (.cells #[.int .i64 (i : Int), .int .u64 0, .slice none 0 0] 33)).heap[w1.heap.size]? = some (.cells #[.int .i64 (i : Int), .int .u64 0, .slice none 0 0] 33 (0, 0)) := heap_alloc_new w1 _
    have hb2 : Below w1.heap.size w1 (w1.alloc (.cells #[.int .i64 (i : Int), .int .u64 0, .slice none 0 0] 33)) := below_alloc (Below.refl _ _) _
    have hs2 : (w1.alloc (.cells #[.int .i64 (i : Int), .int .u64 0, .slice none 0 0] 33)).heap.size = w1.heap.size + 1 := by rw [World.size_alloc]
    generalize w1.alloc (.cells #[.int .i64 (i : Int), .int .u64 0, .slice none 0 0] 33) = w2 at hd2 hb2 hs2 ⊢
    rw [← hDB] at hd2 hs2 ⊢
    have HD2 := Aside0.mk hd2
    have HDW := Aside0.mk (show w.heap.size ≤ DB by rw [hDB]; exact HB1.out.size)
    have HT2 := Aside0.mk (HT1.out.apart (B' := fun q => q = DB) hb2 (fun k hk => .inr (by omega)))
    clear hd2 hb2 hs2 hDB
    go_loopg [5, 8, 9] 150 (fun gk v5 v8 v9 wr => ∃ (k g lsn : Nat) (cs : List SGCell) (v : Value), Aside0 (k + gk = 150) ∧ v5 = .pointer (some ⟨g, 0, none⟩) ∧ v8 = .int .i64 k ∧ k ≤ 150 ∧ k ≤ l.length ∧ Aside0 (Twin w wr (fun q => q = DB) g i lsn cs cs v) ∧ Aside0 (wr.heap[DB]? = some (.cells #[.int .i64 (i : Int), .int .u64 (lsn : Int), v] 33 (0, 0))))
    case atStart => exact ⟨0, _, 0, [], .slice none 0 0, ⟨by omega⟩, rfl, rfl, by omega, by omega, HT2, HD2⟩
    case round =>
      obtain ⟨k, g, lsn, cs, v, HK, rfl, rfl, hk150, hkl, HT, HD⟩ := hrel
      obtain ⟨Av, cv, rfl, _, _⟩ := HT.out.row
      by_cases hend : k < l.length ∧ k < 150
      · obtain ⟨hlt, hlt2⟩ := hend
        have hd150 : decide ((k : Int) < 150) = true := by simp; omega
        obtain ⟨ad, rfl, hx0, hx1, hx2, hx3⟩ := op_at (Kd.C_below HC.out HT.out.bel) k hlt
        have hok := HO.out _ (op_mem l k hlt)
        obtain ⟨n3, hn3⟩ : ∃ n : Nat, (rd_TGOp l k).f3 = (n : Int) := ⟨(rd_TGOp l k).f3.toNat, by have := hok.u64.1; omega⟩
        have hn64 : n3 < 18446744073709551616 := by have := hok.u64.2; omega
        have hr1 := hok.key
        have hr2 := hok.val
        have hrb : reachBytes = 140737488351232 := by rfl
        rw [hn3] at hx3
        have HX := Aside0.mk (And.intro hx0 (And.intro hx1 (And.intro hx2 hx3)))
        have HN3 := Aside0.mk (show (rd_TGOp l k).f3 = (n3 : Int) from hn3)
        have HN64 := Aside0.mk hn64
        have hsh : wrap64 (((rd_TGOp l k).f1.size : Int) + ((rd_TGOp l k).f2.size : Int)) = ((rd_TGOp l k).f1.size : Int) + ((rd_TGOp l k).f2.size : Int) := w64 (by omega) (by omega)
        have hsc := fun (r : Bool) (hr : r = decide (((rd_TGOp l k).f1.size : Int) + ((rd_TGOp l k).f2.size : Int) ≤ 1000)) (W : World) => flotillalaw06_short.calls (rd_TGOp l k).f0 (rd_TGOp l k).f1 (rd_TGOp l k).f2 (n3 : Int) r W (by unfold flotillalaw06_short.f; rw [hsh, hr])
        clear hok hn3 hn64 hr1 hr2 hrb hsh
        by_cases hs : ((rd_TGOp l k).f1.size : Int) + ((rd_TGOp l k).f2.size : Int) ≤ 1000
        · have hst := hsc true (by rw [decide_eq_true hs])
          clear hsc hs
          go_wp2_with fail
          refine (hst _).mono ?_
          rintro e w3 ⟨rfl, hb⟩
          have HT3 := Aside0.mk (HT.out.next hb)
          have HD3 := Aside0.mk (blk_below HD.out hb)
          clear hb hst hx0 hx1 hx2 hx3
          obtain ⟨ad', hae, hx0, hx1, hx2, hx3⟩ := op_at (Kd.C_below HC.out HT3.out.bel) k hlt
          obtain rfl := Option.some.inj hae
          rw [HN3.out] at hx3
          have d0 := blk_cell (blk_drew HD3.out) 0
          have d1 := blk_cell (blk_drew HD3.out) 1
          have d2 := blk_cell (blk_drew HD3.out) 2
          have HT3 := Aside0.mk (HT3.out.next (below_drew (Below.refl _ _)))
          go_wp2_with fail
          -- [A
          refine start_ (n := 14) (S := fun wx => wx.cell? (ad.add (k * 4)) = some (.int .i64 (rd_TGOp l k).f0) ∧ wx.cell? ⟨(ad.add (k * 4)).block, (ad.add (k * 4)).off + 1, none⟩ = some (.string (rd_TGOp l k).f1) ∧ wx.cell? ⟨(ad.add (k * 4)).block, (ad.add (k * 4)).off + 2, none⟩ = some (.string (rd_TGOp l k).f2) ∧ wx.cell? ⟨(ad.add (k * 4)).block, (ad.add (k * 4)).off + 3, none⟩ = some (.int .u64 (n3 : Int))) (ds := []) #[false, false, false, false, false, false, false, false, false, false, false, false, false, false] (by kernel_rfl) rfl rfl (⟨hx0, hx1, hx2, hx3⟩) (fun hHeld => ?_)
          refine pure_ (i := 0) (N := some 43) (v := ?_) (a' := ?_) #[true, false, false, false, false, false, false, false, false, false, false, false, false, false] rfl rfl (by kernel_rfl) (fun _ _ _ h => h) (Or.inl ⟨by rfl, ?_⟩) ?_ ?_
          rotate_left
          · intro w'
            go_simp
            all_goals (with_reducible rfl)
          rotate_left
          · simp only [Act.put, List.setIfInBounds_toArray, List.set_cons_zero, List.set_cons_succ, i64_w, i32_w]
            rfl
          refine pure_ (i := 2) (N := some 45) (v := ?_) (a' := ?_) #[true, false, true, false, false, false, false, false, false, false, false, false, false, false] rfl rfl (by kernel_rfl) (fun _ _ _ h => h) (Or.inl ⟨by rfl, ?_⟩) ?_ ?_
          rotate_left
          · intro w'
            go_simp
            all_goals (with_reducible rfl)
          rotate_left
          · simp only [Act.put, List.setIfInBounds_toArray, List.set_cons_zero, List.set_cons_succ, i64_w, i32_w]
            rfl
          refine pure_ (i := 3) (N := some 46) (v := ?_) (a' := ?_) #[true, false, true, true, false, false, false, false, false, false, false, false, false, false] rfl rfl (by kernel_rfl) (fun _ _ _ h => h) (Or.inl ⟨by rfl, ?_⟩) ?_ ?_
          rotate_left
          · intro w'
            go_simp
            all_goals (with_reducible rfl)
          rotate_left
          · simp only [Act.put, List.setIfInBounds_toArray, List.set_cons_zero, List.set_cons_succ, i64_w, i32_w]
            rfl
          refine pure_ (i := 4) (N := some 47) (v := ?_) (a' := ?_) #[true, false, true, true, true, false, false, false, false, false, false, false, false, false] rfl rfl (by kernel_rfl) (fun _ _ _ h => h) (Or.inl ⟨by rfl, ?_⟩) ?_ ?_
          rotate_left
          · intro w'
            go_simp
            all_goals (with_reducible rfl)
          rotate_left
          · simp only [Act.put, List.setIfInBounds_toArray, List.set_cons_zero, List.set_cons_succ, i64_w, i32_w]
            rfl
          refine take_ (i := 5) (N := some 48) (v := ?_) (a' := ?_) #[true, false, true, true, true, true, false, false, false, false, false, false, false, false] rfl rfl (by kernel_rfl) (fun _ _ _ h => h) (Or.inl ⟨by rfl, ?_⟩) hHeld ?_ ?_
          rotate_left
          · intro w' hSw
            (try dsimp only at hSw)
            go_simp
            all_goals (with_reducible rfl)
          rotate_left
          · simp only [Act.put, List.setIfInBounds_toArray, List.set_cons_zero, List.set_cons_succ, i64_w, i32_w]
            rfl
          refine one_ (i := 1) (N := some 44) #[true, true, true, true, true, true, false, false, false, false, false, false, false, false] rfl rfl (by kernel_rfl) (by decide) (fun K hK => ?_)
          go_simp
          skip
          have y0 := hx0
          have y1 := hx1
          have y2 := hx2
          have y3 := hx3
          (try go_wp2_with fail)
          refine hK.out _ _ (⟨y0, y1, y2, y3⟩) (fun hHeld => ?_)
          clear hK K
          (try simp only [Act.put, List.setIfInBounds_toArray, List.set_cons_zero, List.set_cons_succ])
          refine one_ (i := 6) (N := some 49) #[true, true, true, true, true, true, true, false, false, false, false, false, false, false] rfl rfl (by kernel_rfl) (by decide) (fun K hK => ?_)
          go_simp
          go_at_call 31
          refine (step_calls w _ (fun q => q = DB) g i lsn cs _ (rd_TGOp l k).f0 (rd_TGOp l k).f1 (rd_TGOp l k).f2 n3 HT3.out HN64.out).mono ?_
          rintro e w5 ⟨g5, lsn5, cs5, v5, rfl, hT, hB⟩
          obtain ⟨A5, c5, hv5, _, _⟩ := hT.row
          obtain ⟨m5, hm5⟩ : ∃ m, m = cs5.length := ⟨_, rfl⟩
          rw [← hm5] at hv5
          subst hv5
          clear hm5
          have HT5 := Aside0.mk hT
          have HD5 := Aside0.mk ((hB DB rfl).trans (blk_drew HD3.out))
          clear hT hB hx0 hx1 hx2 hx3 d0 d1 d2
          have d0 := blk_cell HD5.out 0
          have d1 := blk_cell HD5.out 1
          have d2 := blk_cell HD5.out 2
          have f0 := blk_frozen HD5.out 0
          have f1 := blk_frozen HD5.out 1
          have f2 := blk_frozen HD5.out 2
          obtain ⟨ad', hae, y0, y1, y2, y3⟩ := op_at (Kd.C_below HC.out HT5.out.bel) k hlt
          obtain rfl := Option.some.inj hae
          rw [HN3.out] at y3
          (try go_wp2_with fail)
          refine hK.out _ _ (⟨y0, y1, y2, y3⟩) (fun hHeld => ?_)
          clear hK K
          (try simp only [Act.put, List.setIfInBounds_toArray, List.set_cons_zero, List.set_cons_succ])
          refine pure_ (i := 7) (N := some 42) (v := ?_) (a' := ?_) #[true, true, true, true, true, true, true, true, false, false, false, false, false, false] rfl rfl (by kernel_rfl) (fun _ _ _ h => h) (Or.inl ⟨by rfl, ?_⟩) ?_ ?_
          rotate_left
          · intro w'
            go_simp
            all_goals (with_reducible rfl)
          rotate_left
          · simp only [Act.put, List.setIfInBounds_toArray, List.set_cons_zero, List.set_cons_succ, i64_w, i32_w]
            rfl
          refine pure_ (i := 8) (N := some 50) (v := ?_) (a' := ?_) #[true, true, true, true, true, true, true, true, true, false, false, false, false, false] rfl rfl (by kernel_rfl) (fun _ _ _ h => h) (Or.inl ⟨by rfl, ?_⟩) ?_ ?_
          rotate_left
          · intro w'
            go_simp
            all_goals (with_reducible rfl)
          rotate_left
          · simp only [Act.put, List.setIfInBounds_toArray, List.set_cons_zero, List.set_cons_succ, i64_w, i32_w]
            rfl
          refine pure_ (i := 9) (N := some 51) (v := ?_) (a' := ?_) #[true, true, true, true, true, true, true, true, true, true, false, false, false, false] rfl rfl (by kernel_rfl) (fun _ _ _ h => h) (Or.inl ⟨by rfl, ?_⟩) ?_ ?_
          rotate_left
          · intro w'
            go_simp
            all_goals (with_reducible rfl)
          rotate_left
          · simp only [Act.put, List.setIfInBounds_toArray, List.set_cons_zero, List.set_cons_succ, i64_w, i32_w]
            rfl
          refine pure_ (i := 10) (N := some 52) (v := ?_) (a' := ?_) #[true, true, true, true, true, true, true, true, true, true, true, false, false, false] rfl rfl (by kernel_rfl) (fun _ _ _ h => h) (Or.inl ⟨by rfl, ?_⟩) ?_ ?_
          rotate_left
          · intro w'
            go_simp
            all_goals (with_reducible rfl)
          rotate_left
          · simp only [Act.put, List.setIfInBounds_toArray, List.set_cons_zero, List.set_cons_succ, i64_w, i32_w]
            rfl
          refine pure_ (i := 11) (N := some 5) (v := ?_) (a' := ?_) #[true, true, true, true, true, true, true, true, true, true, true, true, false, false] rfl rfl (by kernel_rfl) (fun _ _ _ h => h) (Or.inl ⟨by rfl, ?_⟩) ?_ ?_
          rotate_left
          · intro w'
            go_simp
            all_goals (with_reducible rfl)
          rotate_left
          · simp only [Act.put, List.setIfInBounds_toArray, List.set_cons_zero, List.set_cons_succ, i64_w, i32_w]
            rfl
          refine one_ (i := 12) (N := none) #[true, true, true, true, true, true, true, true, true, true, true, true, true, false] rfl rfl (by kernel_rfl) (by decide) (fun K hK => ?_)
          go_simp
          skip
          have HT6 := Aside0.mk (((HT5.out.set (q := ⟨DB, 0, none⟩) rfl HDW.out (.int .i64 (i : Int))).set (q := ⟨DB, 1, none⟩) rfl HDW.out (.int .u64 (lsn5 : Int))).set (q := ⟨DB, 2, none⟩) rfl HDW.out (.slice A5 m5 c5))
          have HD6 := Aside0.mk (show (((w5.setCell ⟨DB, 0, none⟩ (.int .i64 (i : Int))).setCell ⟨DB, 1, none⟩ (.int .u64 (lsn5 : Int))).setCell ⟨DB, 2, none⟩ (.slice A5 m5 c5)).heap[DB]? = some (.cells #[.int .i64 (i : Int), .int .u64 (lsn5 : Int), .slice A5 m5 c5] 33 (0, 0)) from put3 HD5.out)
          clear y0 y1 y2 y3
          obtain ⟨ad', hae, y0, y1, y2, y3⟩ := op_at (Kd.C_below HC.out HT6.out.bel) k hlt
          obtain rfl := Option.some.inj hae
          rw [HN3.out] at y3
          (try go_wp2_with fail)
          refine hK.out _ _ (⟨y0, y1, y2, y3⟩) (fun hHeld => ?_)
          clear hK K
          (try simp only [Act.put, List.setIfInBounds_toArray, List.set_cons_zero, List.set_cons_succ])
          refine pure_ (i := 13) (N := some 9) (v := ?_) (a' := ?_) #[true, true, true, true, true, true, true, true, true, true, true, true, true, true] rfl rfl (by kernel_rfl) (fun _ _ _ h => h) (Or.inl ⟨by rfl, ?_⟩) ?_ ?_
          rotate_left
          · intro w'
            go_simp
            all_goals (with_reducible rfl)
          rotate_left
          · simp only [Act.put, List.setIfInBounds_toArray, List.set_cons_zero, List.set_cons_succ, i64_w, i32_w]
            rfl
          refine done_ (by kernel_rfl) ?_
          clear y0 y1 y2 y3
          (try clear d0 d1 d2 f0 f1 f2)
          generalize (((w5.setCell ⟨DB, 0, none⟩ (.int .i64 (i : Int))).setCell ⟨DB, 1, none⟩ (.int .u64 (lsn5 : Int))).setCell ⟨DB, 2, none⟩ (.slice A5 m5 c5)) = w6 at HT6 HD6 ⊢
          have HT7 := Aside0.mk (HT6.out.next (below_drew (Below.refl _ _)))
          have HD7 := Aside0.mk (blk_drew HD6.out)
          obtain ⟨ok7, hh7⟩ := HT7.out.here
          have hal := alike_calls w w6.drew ok7 g5 i lsn5 cs5 A5 c5 hh7 HT7.out.rowC.2.2 HT7.out.rowC.2.1
          rw [← HT7.out.rowC.1] at hal
          have d0 := blk_cell HD7.out 0
          have d1 := blk_cell HD7.out 1
          have d2 := blk_cell HD7.out 2
          clear hh7
          go_wp2_with fail
          refine start_ (n := 16) (S := fun wx => wx.cell? ⟨DB, 0, none⟩ = some (.int .i64 (i : Int)) ∧ wx.cell? ⟨DB, 1, none⟩ = some (.int .u64 (lsn5 : Int)) ∧ wx.cell? ⟨DB, 2, none⟩ = some (.slice A5 m5 c5)) (ds := []) #[false, false, false, false, false, false, false, false, false, false, false, false, false, false, false, false] (by kernel_rfl) rfl rfl (⟨d0, d1, d2⟩) (fun hHeld => ?_)
          refine pure_ (i := 0) (N := some 53) (v := ?_) (a' := ?_) #[true, false, false, false, false, false, false, false, false, false, false, false, false, false, false, false] rfl rfl (by kernel_rfl) (fun _ _ _ h => h) (Or.inl ⟨by rfl, ?_⟩) ?_ ?_
          rotate_left
          · intro w'
            go_simp
            all_goals (with_reducible rfl)
          rotate_left
          · simp only [Act.put, List.setIfInBounds_toArray, List.set_cons_zero, List.set_cons_succ, i64_w, i32_w]
            rfl
          refine pure_ (i := 1) (N := some 54) (v := ?_) (a' := ?_) #[true, true, false, false, false, false, false, false, false, false, false, false, false, false, false, false] rfl rfl (by kernel_rfl) (fun _ _ _ h => h) (Or.inl ⟨by rfl, ?_⟩) ?_ ?_
          rotate_left
          · intro w'
            go_simp
            all_goals (with_reducible rfl)
          rotate_left
          · simp only [Act.put, List.setIfInBounds_toArray, List.set_cons_zero, List.set_cons_succ, i64_w, i32_w]
            rfl
          refine pure_ (i := 2) (N := some 55) (v := ?_) (a' := ?_) #[true, true, true, false, false, false, false, false, false, false, false, false, false, false, false, false] rfl rfl (by kernel_rfl) (fun _ _ _ h => h) (Or.inl ⟨by rfl, ?_⟩) ?_ ?_
          rotate_left
          · intro w'
            go_simp
            all_goals (with_reducible rfl)
          rotate_left
          · simp only [Act.put, List.setIfInBounds_toArray, List.set_cons_zero, List.set_cons_succ, i64_w, i32_w]
            rfl
          refine pure_ (i := 3) (N := some 56) (v := ?_) (a' := ?_) #[true, true, true, true, false, false, false, false, false, false, false, false, false, false, false, false] rfl rfl (by kernel_rfl) (fun _ _ _ h => h) (Or.inl ⟨by rfl, ?_⟩) ?_ ?_
          rotate_left
          · intro w'
            go_simp
            all_goals (with_reducible rfl)
          rotate_left
          · simp only [Act.put, List.setIfInBounds_toArray, List.set_cons_zero, List.set_cons_succ, i64_w, i32_w]
            rfl
          refine take_ (i := 4) (N := some 57) (v := ?_) (a' := ?_) #[true, true, true, true, true, false, false, false, false, false, false, false, false, false, false, false] rfl rfl (by kernel_rfl) (fun _ _ _ h => h) (Or.inl ⟨by rfl, ?_⟩) hHeld ?_ ?_
          rotate_left
          · intro w' hSw
            (try dsimp only at hSw)
            go_simp
            all_goals (with_reducible rfl)
          rotate_left
          · simp only [Act.put, List.setIfInBounds_toArray, List.set_cons_zero, List.set_cons_succ, i64_w, i32_w]
            rfl
          refine one_ (i := 5) (N := some 58) #[true, true, true, true, true, true, false, false, false, false, false, false, false, false, false, false] rfl rfl (by kernel_rfl) (by decide) (fun K hK => ?_)
          go_simp
          go_at_call 13
          refine hal.mono ?_
          rintro e w8 ⟨rfl, hh, hb⟩
          have HH8 := Aside0.mk hh
          have HT8 := Aside0.mk (HT7.out.next hb)
          have HD8 := Aside0.mk (blk_below HD7.out hb)
          clear hh hb hal d0 d1 d2
          have d0 := blk_cell HD8.out 0
          have d1 := blk_cell HD8.out 1
          have d2 := blk_cell HD8.out 2
          (try go_wp2_with fail)
          refine hK.out _ _ (⟨d0, d1, d2⟩) (fun hHeld => ?_)
          clear hK K
          (try simp only [Act.put, List.setIfInBounds_toArray, List.set_cons_zero, List.set_cons_succ])
          refine pure_ (i := 6) (N := some 59) (v := ?_) (a' := ?_) #[true, true, true, true, true, true, true, false, false, false, false, false, false, false, false, false] rfl rfl (by kernel_rfl) (fun _ _ _ h => h) (Or.inl ⟨by rfl, ?_⟩) ?_ ?_
          rotate_left
          · intro w'
            go_simp
            all_goals (with_reducible rfl)
          rotate_left
          · simp only [Act.put, List.setIfInBounds_toArray, List.set_cons_zero, List.set_cons_succ, i64_w, i32_w]
            rfl
          refine pure_ (i := 7) (N := some 60) (v := ?_) (a' := ?_) #[true, true, true, true, true, true, true, true, false, false, false, false, false, false, false, false] rfl rfl (by kernel_rfl) (fun _ _ _ h => h) (Or.inl ⟨by rfl, ?_⟩) ?_ ?_
          rotate_left
          · intro w'
            go_simp
            all_goals (with_reducible rfl)
          rotate_left
          · simp only [Act.put, List.setIfInBounds_toArray, List.set_cons_zero, List.set_cons_succ, i64_w, i32_w]
            rfl
          refine pure_ (i := 8) (N := some 61) (v := ?_) (a' := ?_) #[true, true, true, true, true, true, true, true, true, false, false, false, false, false, false, false] rfl rfl (by kernel_rfl) (fun _ _ _ h => h) (Or.inl ⟨by rfl, ?_⟩) ?_ ?_
          rotate_left
          · intro w'
            go_simp
            all_goals (with_reducible rfl)
          rotate_left
          · simp only [Act.put, List.setIfInBounds_toArray, List.set_cons_zero, List.set_cons_succ, i64_w, i32_w]
            rfl
          refine pure_ (i := 9) (N := some 62) (v := ?_) (a' := ?_) #[true, true, true, true, true, true, true, true, true, true, false, false, false, false, false, false] rfl rfl (by kernel_rfl) (fun _ _ _ h => h) (Or.inl ⟨by rfl, ?_⟩) ?_ ?_
          rotate_left
          · intro w'
            go_simp
            all_goals (with_reducible rfl)
          rotate_left
          · simp only [Act.put, List.setIfInBounds_toArray, List.set_cons_zero, List.set_cons_succ, i64_w, i32_w]
            rfl
          refine take_ (i := 11) (N := some 64) (v := ?_) (a' := ?_) #[true, true, true, true, true, true, true, true, true, true, false, true, false, false, false, false] rfl rfl (by kernel_rfl) (fun _ _ _ h => h) (Or.inl ⟨by rfl, ?_⟩) hHeld ?_ ?_
          rotate_left
          · intro w' hSw
            (try dsimp only at hSw)
            go_simp
            all_goals (with_reducible rfl)
          rotate_left
          · simp only [Act.put, List.setIfInBounds_toArray, List.set_cons_zero, List.set_cons_succ, i64_w, i32_w]
            rfl
          refine one_ (i := 10) (N := some 63) #[true, true, true, true, true, true, true, true, true, true, true, true, false, false, false, false] rfl rfl (by kernel_rfl) (by decide) (fun K hK => ?_)
          go_simp
          go_at_call 27
          refine HH8.out.pairs.mono ?_
          rintro e w9 ⟨A9, c9, l9, rfl, hR, hp, hs, hh, hb⟩
          have HT9 := Aside0.mk (HT8.out.next hb)
          have HD9 := Aside0.mk (blk_below HD8.out hb)
          have HR9 := Aside0.mk hR
          have HP9 := Aside0.mk hp
          have HS9 := Aside0.mk hs
          clear hh hb hR hp hs d0 d1 d2
          have d0 := blk_cell HD9.out 0
          have d1 := blk_cell HD9.out 1
          have d2 := blk_cell HD9.out 2
          (try go_wp2_with fail)
          refine hK.out _ _ (⟨d0, d1, d2⟩) (fun hHeld => ?_)
          clear hK K
          (try simp only [Act.put, List.setIfInBounds_toArray, List.set_cons_zero, List.set_cons_succ])
          refine one_ (i := 12) (N := some 65) #[true, true, true, true, true, true, true, true, true, true, true, true, true, false, false, false] rfl rfl (by kernel_rfl) (by decide) (fun K hK => ?_)
          go_simp
          go_at_call 33
          have hrp := rpairs_calls w9 i lsn5 A5 c5 cs5 l9 HT9.out.rowC.2.2 HT9.out.rowC.2.1 HT9.out.val HP9.out HS9.out
          rw [← HT9.out.rowC.1] at hrp
          refine hrp.mono ?_
          rintro e wa ⟨va, rfl, hR, hb⟩
          obtain ⟨Aa, ca, rfl⟩ := Kd.R_slice hR
          have HTa := Aside0.mk (HT9.out.next hb)
          have HDa := Aside0.mk (blk_below HD9.out hb)
          have HRa := Aside0.mk hR
          have HR9 := Aside0.mk (Kd.R_below HR9.out hb)
          clear hb hR hrp d0 d1 d2
          have d0 := blk_cell HDa.out 0
          have d1 := blk_cell HDa.out 1
          have d2 := blk_cell HDa.out 2
          (try go_wp2_with fail)
          refine hK.out _ _ (⟨d0, d1, d2⟩) (fun hHeld => ?_)
          clear hK K
          (try simp only [Act.put, List.setIfInBounds_toArray, List.set_cons_zero, List.set_cons_succ])
          refine one_ (i := 13) (N := some 66) #[true, true, true, true, true, true, true, true, true, true, true, true, true, true, false, false] rfl rfl (by kernel_rfl) (by decide) (fun K hK => ?_)
          go_simp
          go_at_call 32
          refine (rsamep_calls wa A9 Aa c9 ca l9 (Kd.R_reads' HR9.out).2.2 (Kd.R_reads' HR9.out).2.1 (Kd.R_reads' HRa.out).2.2 (Kd.R_reads' HRa.out).2.1 (prs_few HTa.out.val HP9.out)).mono ?_
          rintro e wb ⟨rfl, hb⟩
          have HTb := Aside0.mk (HTa.out.next hb)
          have HDb := Aside0.mk (blk_below HDa.out hb)
          clear hb d0 d1 d2
          have d0 := blk_cell HDb.out 0
          have d1 := blk_cell HDb.out 1
          have d2 := blk_cell HDb.out 2
          (try go_wp2_with fail)
          refine hK.out _ _ (⟨d0, d1, d2⟩) (fun hHeld => ?_)
          clear hK K
          (try simp only [Act.put, List.setIfInBounds_toArray, List.set_cons_zero, List.set_cons_succ])
          refine pure_ (i := 14) (N := some 67) (v := ?_) (a' := ?_) #[true, true, true, true, true, true, true, true, true, true, true, true, true, true, true, false] rfl rfl (by kernel_rfl) (fun _ _ _ h => h) (Or.inl ⟨by rfl, ?_⟩) ?_ ?_
          rotate_left
          · intro w'
            go_simp
            all_goals (with_reducible rfl)
          rotate_left
          · simp only [Act.put, List.setIfInBounds_toArray, List.set_cons_zero, List.set_cons_succ, i64_w, i32_w]
            rfl
          refine pure_ (i := 15) (N := some 68) (v := ?_) (a' := ?_) #[true, true, true, true, true, true, true, true, true, true, true, true, true, true, true, true] rfl rfl (by kernel_rfl) (fun _ _ _ h => h) (Or.inl ⟨by rfl, ?_⟩) ?_ ?_
          rotate_left
          · intro w'
            go_simp
            all_goals (with_reducible rfl)
          rotate_left
          · simp only [Act.put, List.setIfInBounds_toArray, List.set_cons_zero, List.set_cons_succ, i64_w, i32_w]
            rfl
          refine done_ (by kernel_rfl) ?_
          clear d0 d1 d2
          go_wp2_with fail
          go_roundg (gk - 1)
          case measure => have := HK.out; omega
          case rel => exact ⟨k + 1, g5, lsn5, cs5, _, ⟨by have := HK.out; omega⟩, rfl, by go_num, by omega, by omega, HTb, HDb⟩
          -- A]
        · have hst := hsc false (by rw [decide_eq_false hs])
          clear hsc hs
          go_wp2_with fail
          refine (hst _).mono ?_
          rintro e w3 ⟨rfl, hb⟩
          have HB3 := Aside0.mk (below_then HT.out.bel HT.out.bel.size hb)
          clear hb hst
          go_wp2_with (go_at_call 12; refine (lives_calls _).mono ?_; rintro e w4 ⟨rfl, hb⟩; have HB4 := Aside0.mk (below_then HB3.out HB3.out.size hb); clear hb)
          go_ret
          exact ⟨rfl, HB4.out⟩
      · by_cases hkl2 : k < l.length
        · have h150 : ¬ k < 150 := fun h => hend ⟨hkl2, h⟩
          have hd150 : decide ((k : Int) < 150) = false := by simp; omega
          go_wp2_with (go_at_call 12; refine (lives_calls _).mono ?_; rintro e w4 ⟨rfl, hb⟩; have HB4 := Aside0.mk (below_then HT.out.bel HT.out.bel.size hb); clear hb)
          go_ret
          exact ⟨rfl, HB4.out⟩
        · go_wp2_with (go_at_call 12; refine (lives_calls _).mono ?_; rintro e w4 ⟨rfl, hb⟩; have HB4 := Aside0.mk (below_then HT.out.bel HT.out.bel.size hb); clear hb)
          go_ret
          exact ⟨rfl, HB4.out⟩
  · have hbad : id < 0 ∨ 16 ≤ id := by omega
    refine (new_bad id w hbad).mono ?_
    rintro e w1 ⟨rfl, rfl⟩
    go_wp2_with fail
    refine (rid_calls w id).mono ?_
    rintro e w2 ⟨rfl, hb⟩
    have HB2 := Aside0.mk hb
    rw [decide_eq_false hid]
    clear hb hid
    go_wp2_with (go_at_call 12; refine (lives_calls _).mono ?_; rintro e w4 ⟨rfl, hb⟩; have HB4 := Aside0.mk (below_then HB2.out HB2.out.size hb); clear hb)
    go_ret
    exact ⟨rfl, HB4.out⟩
end Go.Proofs.Ytidkdbohkbfhbaa
end
section
namespace Go.Proofs.Ytidkdbohkbfhbaa.pagePlays
open Go.ChangeShapes Go.WideShapes Go.ChangeAt Go.RowKit
open Go.ChangeMaps (open_string shut_string)
set_option linter.unusedVariables false
theorem own : ownKnob Try.prog.godebug = none := by kernel_rfl
theorem laidOut : laidOutB Try.prog = true := by kernel_rfl
open Go.Proofs.YtidkdbohkbfhbaaW.PrintWords Rf in
theorem plays_row (W : World) (a0 : Int) (w0 : (Lit.int .i64 a0).wf = true) (l : List SGOp) (A : Option Addr) (c : Nat) (hC : RowsOf W A l) (hl : l.length ≤ 140737488351232) (ho : ∀ o ∈ l, OkOp o) :
    Calls Try.prog 9 #[.int .i64 a0, .slice A l.length c] W fun e w' => e = .returned (.bool true) ∧ Below W.heap.size W w' :=
  plays_walk W a0 l A c hC hl ho
set_option maxRecDepth 100000 in
theorem lifted (os : Os) (started : os.Started) (H : Type) (enc : TypeId × Value → H) :
    ReturnsInHanded {} Try.checked os 9 .any (Rows.pagePlaysSpec.pre6 enc Try.prog Try.f9 Rows.pagePlaysRow.domain false) (Rows.pagePlaysSpec.post enc Try.prog Try.f9 false true false false) := by
  refine returnsInHanded_of_change_sized (C := Try.checked) own started (by kernel_rfl) Try.func9
    (ChangeSpec.witness6 (enc := enc) (C := Try.checked) false ⟨#[], #[.int .i64 0, .slice none 0 0], []⟩ 8 (by kernel_rfl) (by kernel_rfl) (by kernel_rfl) (by kernel_rfl)) ?_
  intro W base args ds gs before hval0 hW hcnd hsz0 _
  have hsz : (DataW.weightsEach Try.prog (Try.f9.params.toList ++ Rows.pagePlaysSpec.plain.varTypes Try.prog) (ds ++ gs)).all (· ≤ reachBytes) = true := hsz0
  have hval : ∀ (j : Nat) t v, Try.f9.params[j]? = some t → args[j]? = some v → Value.okWide Try.prog W .any base t v := hval0
  have hW' := hW
  obtain ⟨p, q, hA0, hV, rfl, hfz, hnd⟩ := hW
  have hA : DataW.TrodAll enc Try.prog W 0 (fun _ => true) true Try.f9.params.toList args.toList ds p := hA0
  rw [Try.params9] at hA hval hsz
  obtain ⟨v0, vs0, d0, ds0, p0, q0, hargs, rfl, rfl, h0, r0⟩ := trodAll_cons hA
  obtain ⟨v1, vs1, d1, ds1, p1, q1, rfl, rfl, rfl, h1, r1⟩ := trodAll_cons r0
  obtain ⟨rfl, rfl, rfl⟩ := trodAll_nil r1
  obtain rfl : args = #[v0, v1] := by cases args; simp_all
  obtain ⟨rfl, rfl⟩ := trodVars_none hV
  obtain ⟨a0, rfl, rfl, rfl, w0⟩ := open_int Try.underlying3 (hval 0 3 v0 rfl rfl) h0
  have k1 := h1
  have lt1 : ∀ x ∈ p1, x.block < W.heap.size := by obtain ⟨m, hm⟩ := k1; exact DataW.trod_lt m _ _ _ hm
  obtain ⟨A1, c1, l1, rfl, hC1, hl1, ho1⟩ := open_ops (hval 1 34 v1 rfl rfl) h1 (fun x hx => by have := List.all_eq_true.1 hsz _ (DataW.weights_mem_each (j := 1) (t := 34) rfl rfl x hx); simpa using this)
  clear hA0 hval0 hsz0 hsz
  refine (plays_row W a0 w0 l1 A1 c1 hC1 hl1 ho1).mono fun e W' ⟨he, bel⟩ => ?_
  subst he
  exact ⟨_, rfl, _, _, _, [], _, [], hW', trodAll_mk1 (shut_bool Try.underlying4 _), (trodAll_cons_mk (shut_int Try.underlying3 w0) (trodAll_cons_mk (Below.trod laidOut (by kernel_rfl) (of_decide_eq_true (by kernel_rfl)) k1 bel lt1) trodAll_mk0)), rfl, bel.frame _, fun h => by cases h⟩
theorem over : Rows.pagePlaysRow.holds Try.pinned (OpenSpec.ofChange Rows.pagePlaysSpec) :=
  OpenClaim.holds_of_wide 9 Try.f9 rfl rfl rfl rfl rfl rfl rfl ⟨rfl, rfl, rfl, rfl, rfl⟩ rfl rfl rfl rfl rfl (by kernel_rfl) Try.func9 (by kernel_rfl)
    (of_decide_eq_true (by kernel_rfl)) (by unfold Func.isWrapper; first | (rw [if_pos (by decide +kernel)]; kernel_rfl) | (rw [if_neg (by decide +kernel)]; exact ⟨rfl, rfl⟩))
    (fun os started H enc _ => lifted os started H enc)
theorem proved : Rows.PagePlaysSaid := over
end Go.Proofs.Ytidkdbohkbfhbaa.pagePlays
namespace Go.Proofs.Ytidkdbohkbfhbaa
/-- The row, under a short name, for the claim. -/
theorem pagePlays_holds : Rows.PagePlaysSaid := pagePlays.proved
#print axioms pagePlays_holds
end Go.Proofs.Ytidkdbohkbfhbaa
end
