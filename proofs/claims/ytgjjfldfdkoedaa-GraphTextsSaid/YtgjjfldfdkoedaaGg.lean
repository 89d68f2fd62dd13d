/- The call of graph's Gone. -/
import Derived.Test.YtgjjfldfdkoedaaGc
namespace Go.Proofs.Ytgjjfldfdkoedaa
open Go.RowKit Go.Proofs.YtgjjfldfdkoedaaW.PrintWords Go.Proofs.YtgjjfldfdkoedaaW.PrintLast Go.Proofs.YtgjjfldfdkoedaaW.PrintMore
open Rf MapL Graph
set_option linter.unusedVariables false
set_option linter.unusedSimpArgs false
def keepK (x : Int) (e : Int × Int) : Bool := decide (e.1 ≠ x) && decide (e.2 ≠ x)
def goneK (ks : List (Int × Int)) (x : Int) : List (Int × Int) := ks.filter (keepK x)
def leftK (ks todo : List (Int × Int)) (x : Int) : List (Int × Int) := ks.filter fun e => decide (e ∈ todo) || keepK x e
theorem leftK_all (ks : List (Int × Int)) (x : Int) : leftK ks ks x = ks := List.filter_eq_self.2 (fun e he => by simp [he])
theorem leftK_end (ks : List (Int × Int)) (x : Int) : leftK ks [] x = goneK ks x := by unfold leftK goneK; simp
theorem leftK_keep (ks : List (Int × Int)) {todo : List (Int × Int)} {x : Int} {e : Int × Int} (h : keepK x e = true) : leftK ks (todo.filter fun z => decide (z ≠ e)) x = leftK ks todo x := by
  unfold leftK
  apply List.filter_congr
  intro z _
  by_cases hz : z = e
  · subst hz; simp [h]
  · simp [hz]
theorem leftK_del (ks : List (Int × Int)) {todo : List (Int × Int)} {x : Int} {e : Int × Int} (h : keepK x e = false) : (leftK ks todo x).filter (fun z => decide (z ≠ e)) = leftK ks (todo.filter fun z => decide (z ≠ e)) x := by
  unfold leftK
  rw [List.filter_filter]
  apply List.filter_congr
  intro z _
  by_cases hz : z = e
  · subst hz; simp [h]
  · simp [hz]
theorem filter_twice {todo : List (Int × Int)} {e : Int × Int} : ((todo.filter fun z => decide (z ≠ e)).filter fun z => decide (z ≠ e)) = todo.filter fun z => decide (z ≠ e) := by
  rw [List.filter_filter]; congr 1; funext z; simp
set_option maxRecDepth 100000 in
set_option maxHeartbeats 2000000 in
theorem goneI (w : World) (g b : Nat) (ks : List (Int × Int)) (x : Int) (h : GrI w g b ks) (hl : ks.length ≤ 1000) : Calls Try.prog 19 #[.pointer (some ⟨g, 0, none⟩), .int .i64 x] w fun e w' =>
    e = .returned (.int .i64 ((ks.length : Int) - ((goneK ks x).length : Int))) ∧ GrI w' g b (goneK ks x) ∧ w.grownBy w' (some b) := by
  have hc := blk_cell h.box 0
  have hln := h.map.len (P := Try.prog) Try.underlying61
  obtain ⟨wn, hrg, hra, hbn, hsn⟩ := h.map.range (P := Try.prog) Try.underlying61
  have H := Aside0.mk h
  have hg0 : w.grownBy wn (some b) := ⟨hbn.os, hbn.tape, hbn.output, by omega, fun k hk _ => hbn.block k hk⟩
  have HG0 := Aside0.mk hg0
  have HR0 := Aside0.mk hra
  clear h hra hbn hsn hg0
  go_enter Try.func19, Try.ntmps19
  go_wp2_with fail
  clear hrg hc hln
  obtain ⟨r, hr⟩ : ∃ r, r = w.heap.size := ⟨_, rfl⟩
  rw [← hr] at HR0 ⊢
  have HR := Aside0.mk hr
  clear hr
  go_loopg [6] ks.length (fun gk v6 wr => ∃ todo : List (Int × Int), Aside0 (todo.length ≤ gk) ∧ Aside0 (RangeAt edgeI wr b r (leftK ks todo x) todo) ∧ Aside0 (w.grownBy wr (some b)))
  case atStart => exact ⟨ks, ⟨Nat.le_refl _⟩, ⟨by rw [leftK_all]; exact HR0.out⟩, HG0⟩
  case round =>
    obtain ⟨todo, HT, HRr, HG⟩ := hrel
    clear HR0 HG0
    rcases HRr.out.next (P := Try.prog) keyEI 0 with ⟨ht, hrun⟩ | ⟨⟨x0, y0⟩, he, wa, hrun, hra1, hg1, hs1, hen⟩
    · have hrun' : ∀ ty, (Instr.next (.pointer (some ⟨r, 0, none⟩)) false ty).run Try.prog wr = .ok (.tuple #[.bool false]) wr := fun _ => hrun
      subst ht
      rw [leftK_end] at HRr
      have hbx := blk_grown H.out.box HG.out (fun e => H.out.ne (Option.some.inj e))
      have hc1 := blk_cell hbx 0
      have HX := Aside0.mk hbx
      have hl1 := HRr.out.map.len (P := Try.prog) Try.underlying61
      have hgl : (goneK ks x).length ≤ 1000 := Nat.le_trans (List.length_filter_le _ _) hl
      clear hrun hbx
      go_wp2_with fail
      go_ret
      exact ⟨rfl, ⟨HX.out, HRr.out.map⟩, HG.out⟩
    · have hrun' : ∀ ty, (Instr.next (.pointer (some ⟨r, 0, none⟩)) false ty).run Try.prog wr = .ok (.tuple #[.bool true, .agg #[.int .i64 x0, .int .i64 y0], .bool true]) wa := fun _ => hrun
      have hen' : (Instr.entry (.pointer (some ⟨r, 0, none⟩))).run Try.prog wa = .ok (.tuple #[.agg #[.int .i64 x0, .int .i64 y0], .bool true]) wa := hen
      have HRa := Aside0.mk (hra1.alloc (.cells #[.int .i64 x0, .int .i64 y0] 65))
      have HGa := Aside0.mk (World.grownBy.trans (World.grownBy.andThen HG.out hg1 (fun j hj => by injection hj with hj; exact .inl (by rw [← hj, HR.out]; exact Nat.le_refl _))) (World.grownBy_alloc wa (.cells #[.int .i64 x0, .int .i64 y0] 65) (some b)))
      have HTT := Aside0.mk (show (todo.filter fun z => decide (z ≠ (x0, y0))).length ≤ gk - 1 ∧ gk - 1 < gk from by have h1 := MapL.filter_lt he; have h2 := HT.out; omega)
      have HSZ := Aside0.mk (show w.heap.size ≤ wa.heap.size from by have h2 := HG.out.size; omega)
      clear hrun hen he hra1 hg1 hs1
      cases hk : keepK x (x0, y0) with
      | true =>
        have hk2 : x0 ≠ x ∧ y0 ≠ x := by simpa [keepK] using hk
        have e1 : (x0 == x) = false := by simpa using hk2.1
        have e2 : (y0 == x) = false := by simpa using hk2.2
        have HK := Aside0.mk hk
        clear hk hk2
        go_wp2_with fail
        go_roundg (gk - 1)
        case measure => exact HTT.out.2
        case rel => exact ⟨_, ⟨HTT.out.1⟩, ⟨by rw [leftK_keep ks HK.out] at *; exact (leftK_keep ks HK.out (todo := todo)) ▸ HRa.out⟩, HGa⟩
      | false =>
        have hk2 : x0 = x ∨ y0 = x := by
          by_cases h1 : x0 = x
          · exact .inl h1
          · by_cases h2 : y0 = x
            · exact .inr h2
            · exact absurd hk (by simp [keepK, h1, h2])
        have HK := Aside0.mk hk
        have hbx := blk_grown H.out.box HGa.out (fun e => H.out.ne (Option.some.inj e))
        have hc1 : (wa.alloc (.cells #[.int .i64 x0, .int .i64 y0] 65)).cell? ⟨g, 0, none⟩ = some (.map (some b)) := blk_cell hbx 0
        have hy0 := blk_cell (heap_alloc_new wa (.cells #[.int .i64 x0, .int .i64 y0] 65)) 0
        have hy1 := blk_cell (heap_alloc_new wa (.cells #[.int .i64 x0, .int .i64 y0] 65)) 1
        clear hk hbx
        by_cases hx : x0 = x
        · have e1 : (x0 == x) = true := by simpa using hx
          clear hk2 hx
          go_wp2_with fail
          -- [M
          obtain ⟨wd, hd, hrd, hgd, hsd⟩ := (show RangeAt edgeI (wa.alloc (.cells #[.int .i64 x0, .int .i64 y0] 65)).drew b r (leftK ks todo x) (todo.filter fun z => decide (z ≠ (x0, y0))) from HRa.out).del keyEI Try.underlying61 (x0, y0) 0
          have hd' : ∀ ty, (Builtin.delete_ #[61, 65] ty #[.map (some b), .agg #[.int .i64 x0, .int .i64 y0]]).run Try.prog (wa.alloc (.cells #[.int .i64 x0, .int .i64 y0] 65)).drew = .ok (.tuple #[]) wd := fun _ => hd
          have HRd := Aside0.mk hrd
          have HGd := Aside0.mk (World.grownBy.trans (World.grownBy.trans HGa.out (show World.grownBy _ (wa.alloc (.cells #[.int .i64 x0, .int .i64 y0] 65)).drew (some b) from ⟨rfl, rfl, rfl, Nat.le_refl _, fun _ _ _ => rfl⟩)) hgd)
          have hbd := blk_grown H.out.box HGd.out (fun e => H.out.ne (Option.some.inj e))
          have z0 := blk_cell hbd 0
          have hbo : wa.heap.size ≠ b := by have h2 := HGa.out.size; have h3 := H.out.map.lt; have h4 := HSZ.out; omega
          have hbw := blk_grown (blk_drew (heap_alloc_new wa (.cells #[.int .i64 x0, .int .i64 y0] 65))) hgd (fun e => hbo (Option.some.inj e))
          have z1 := blk_cell hbw 0
          have z2 := blk_cell hbw 1
          clear hd hrd hgd hsd hbd hbo hbw
          refine start_ (n := 6) (S := fun wx => wx.cell? ⟨g, 0, none⟩ = some (.map (some b)) ∧ wx.cell? ⟨wa.heap.size, 0, none⟩ = some (.int .i64 x0) ∧ wx.cell? ⟨wa.heap.size, 1, none⟩ = some (.int .i64 y0)) (ds := []) #[false, false, false, false, false, false] (by kernel_rfl) rfl rfl (⟨hc1, hy0, hy1⟩) (fun hHeld => ?_)
          refine pure_ (i := 0) (N := some 33) (v := ?_) (a' := ?_) #[true, false, false, false, false, false] rfl rfl (by kernel_rfl) (fun _ _ _ h => h) (Or.inl ⟨by rfl, ?_⟩) ?_ ?_
          rotate_left
          · intro w'
            go_simp
            all_goals (with_reducible rfl)
          rotate_left
          · simp only [Act.put, List.setIfInBounds_toArray, List.set_cons_zero, List.set_cons_succ, i64_w, i32_w]
            rfl
          refine pure_ (i := 1) (N := some 34) (v := ?_) (a' := ?_) #[true, true, false, false, false, false] rfl rfl (by kernel_rfl) (fun _ _ _ h => h) (Or.inl ⟨by rfl, ?_⟩) ?_ ?_
          rotate_left
          · intro w'
            go_simp
            all_goals (with_reducible rfl)
          rotate_left
          · simp only [Act.put, List.setIfInBounds_toArray, List.set_cons_zero, List.set_cons_succ, i64_w, i32_w]
            rfl
          refine pure_ (i := 2) (N := some 35) (v := ?_) (a' := ?_) #[true, true, true, false, false, false] rfl rfl (by kernel_rfl) (fun _ _ _ h => h) (Or.inl ⟨by rfl, ?_⟩) ?_ ?_
          rotate_left
          · intro w'
            go_simp
            all_goals (with_reducible rfl)
          rotate_left
          · simp only [Act.put, List.setIfInBounds_toArray, List.set_cons_zero, List.set_cons_succ, i64_w, i32_w]
            rfl
          refine take_ (i := 3) (N := some 36) (v := ?_) (a' := ?_) #[true, true, true, true, false, false] rfl rfl (by kernel_rfl) (fun _ _ _ h => h) (Or.inl ⟨by rfl, ?_⟩) hHeld ?_ ?_
          rotate_left
          · intro w' hSw
            (try dsimp only at hSw)
            go_simp
            all_goals (with_reducible rfl)
          rotate_left
          · simp only [Act.put, List.setIfInBounds_toArray, List.set_cons_zero, List.set_cons_succ, i64_w, i32_w]
            rfl
          refine take_ (i := 4) (N := some 37) (v := ?_) (a' := ?_) #[true, true, true, true, true, false] rfl rfl (by kernel_rfl) (fun _ _ _ h => h) (Or.inl ⟨by rfl, ?_⟩) hHeld ?_ ?_
          rotate_left
          · intro w' hSw
            (try dsimp only at hSw)
            go_simp
            all_goals (with_reducible rfl)
          rotate_left
          · simp only [Act.put, List.setIfInBounds_toArray, List.set_cons_zero, List.set_cons_succ, i64_w, i32_w]
            rfl
          refine one_ (i := 5) (N := none) #[true, true, true, true, true, true] rfl rfl (by kernel_rfl) (by decide) (fun K hK => ?_)
          go_simp
          skip
          (try go_wp2_with fail)
          refine hK.out _ _ (⟨z0, z1, z2⟩) (fun hHeld => ?_)
          clear hK K
          (try simp only [Act.put, List.setIfInBounds_toArray, List.set_cons_zero, List.set_cons_succ])
          refine done_ (by kernel_rfl) ?_
          clear z0 z1 z2 hd'
          go_wp2_with fail
          go_roundg (gk - 1)
          case measure => exact HTT.out.2
          case rel => exact ⟨_, ⟨HTT.out.1⟩, ⟨by have h := HRd.out; rw [leftK_del ks HK.out, filter_twice] at h; exact h⟩, HGd⟩
          -- M]
        · have e1 : (x0 == x) = false := by simpa using hx
          have e2 : (y0 == x) = true := by simpa using hk2.resolve_left hx
          clear hk2 hx
          go_wp2_with fail
          -- [N
          obtain ⟨wd, hd, hrd, hgd, hsd⟩ := (show RangeAt edgeI (wa.alloc (.cells #[.int .i64 x0, .int .i64 y0] 65)).drew b r (leftK ks todo x) (todo.filter fun z => decide (z ≠ (x0, y0))) from HRa.out).del keyEI Try.underlying61 (x0, y0) 0
          have hd' : ∀ ty, (Builtin.delete_ #[61, 65] ty #[.map (some b), .agg #[.int .i64 x0, .int .i64 y0]]).run Try.prog (wa.alloc (.cells #[.int .i64 x0, .int .i64 y0] 65)).drew = .ok (.tuple #[]) wd := fun _ => hd
          have HRd := Aside0.mk hrd
          have HGd := Aside0.mk (World.grownBy.trans (World.grownBy.trans HGa.out (show World.grownBy _ (wa.alloc (.cells #[.int .i64 x0, .int .i64 y0] 65)).drew (some b) from ⟨rfl, rfl, rfl, Nat.le_refl _, fun _ _ _ => rfl⟩)) hgd)
          have hbd := blk_grown H.out.box HGd.out (fun e => H.out.ne (Option.some.inj e))
          have z0 := blk_cell hbd 0
          have hbo : wa.heap.size ≠ b := by have h2 := HGa.out.size; have h3 := H.out.map.lt; have h4 := HSZ.out; omega
          have hbw := blk_grown (blk_drew (heap_alloc_new wa (.cells #[.int .i64 x0, .int .i64 y0] 65))) hgd (fun e => hbo (Option.some.inj e))
          have z1 := blk_cell hbw 0
          have z2 := blk_cell hbw 1
          clear hd hrd hgd hsd hbd hbo hbw
          refine start_ (n := 6) (S := fun wx => wx.cell? ⟨g, 0, none⟩ = some (.map (some b)) ∧ wx.cell? ⟨wa.heap.size, 0, none⟩ = some (.int .i64 x0) ∧ wx.cell? ⟨wa.heap.size, 1, none⟩ = some (.int .i64 y0)) (ds := []) #[false, false, false, false, false, false] (by kernel_rfl) rfl rfl (⟨hc1, hy0, hy1⟩) (fun hHeld => ?_)
          refine pure_ (i := 0) (N := some 33) (v := ?_) (a' := ?_) #[true, false, false, false, false, false] rfl rfl (by kernel_rfl) (fun _ _ _ h => h) (Or.inl ⟨by rfl, ?_⟩) ?_ ?_
          rotate_left
          · intro w'
            go_simp
            all_goals (with_reducible rfl)
          rotate_left
          · simp only [Act.put, List.setIfInBounds_toArray, List.set_cons_zero, List.set_cons_succ, i64_w, i32_w]
            rfl
          refine pure_ (i := 1) (N := some 34) (v := ?_) (a' := ?_) #[true, true, false, false, false, false] rfl rfl (by kernel_rfl) (fun _ _ _ h => h) (Or.inl ⟨by rfl, ?_⟩) ?_ ?_
          rotate_left
          · intro w'
            go_simp
            all_goals (with_reducible rfl)
          rotate_left
          · simp only [Act.put, List.setIfInBounds_toArray, List.set_cons_zero, List.set_cons_succ, i64_w, i32_w]
            rfl
          refine pure_ (i := 2) (N := some 35) (v := ?_) (a' := ?_) #[true, true, true, false, false, false] rfl rfl (by kernel_rfl) (fun _ _ _ h => h) (Or.inl ⟨by rfl, ?_⟩) ?_ ?_
          rotate_left
          · intro w'
            go_simp
            all_goals (with_reducible rfl)
          rotate_left
          · simp only [Act.put, List.setIfInBounds_toArray, List.set_cons_zero, List.set_cons_succ, i64_w, i32_w]
            rfl
          refine take_ (i := 3) (N := some 36) (v := ?_) (a' := ?_) #[true, true, true, true, false, false] rfl rfl (by kernel_rfl) (fun _ _ _ h => h) (Or.inl ⟨by rfl, ?_⟩) hHeld ?_ ?_
          rotate_left
          · intro w' hSw
            (try dsimp only at hSw)
            go_simp
            all_goals (with_reducible rfl)
          rotate_left
          · simp only [Act.put, List.setIfInBounds_toArray, List.set_cons_zero, List.set_cons_succ, i64_w, i32_w]
            rfl
          refine take_ (i := 4) (N := some 37) (v := ?_) (a' := ?_) #[true, true, true, true, true, false] rfl rfl (by kernel_rfl) (fun _ _ _ h => h) (Or.inl ⟨by rfl, ?_⟩) hHeld ?_ ?_
          rotate_left
          · intro w' hSw
            (try dsimp only at hSw)
            go_simp
            all_goals (with_reducible rfl)
          rotate_left
          · simp only [Act.put, List.setIfInBounds_toArray, List.set_cons_zero, List.set_cons_succ, i64_w, i32_w]
            rfl
          refine one_ (i := 5) (N := none) #[true, true, true, true, true, true] rfl rfl (by kernel_rfl) (by decide) (fun K hK => ?_)
          go_simp
          skip
          (try go_wp2_with fail)
          refine hK.out _ _ (⟨z0, z1, z2⟩) (fun hHeld => ?_)
          clear hK K
          (try simp only [Act.put, List.setIfInBounds_toArray, List.set_cons_zero, List.set_cons_succ])
          refine done_ (by kernel_rfl) ?_
          clear z0 z1 z2 hd'
          go_wp2_with fail
          go_roundg (gk - 1)
          case measure => exact HTT.out.2
          case rel => exact ⟨_, ⟨HTT.out.1⟩, ⟨by have h := HRd.out; rw [leftK_del ks HK.out, filter_twice] at h; exact h⟩, HGd⟩
          -- N]
end Go.Proofs.Ytgjjfldfdkoedaa
