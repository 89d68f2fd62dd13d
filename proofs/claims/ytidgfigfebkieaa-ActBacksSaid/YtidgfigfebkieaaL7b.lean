/- Layer 7: ActBacks' walk. -/
import Derived.Test.YtidgfigfebkieaaL7t
import Derived.Test.YtidgfigfebkieaaAk
import Derived.Test.YtidgfigfebkieaaRf7
import Derived.Test.YtidgfigfebkieaaRf8
namespace Go.Proofs.Ytidgfigfebkieaa
open Go.RowKit Go.Proofs.YtidgfigfebkieaaW.PrintWords Go.Proofs.YtidgfigfebkieaaW.PrintLast Go.Proofs.YtidgfigfebkieaaW.PrintMore
open Rf Go.ChangeMaps
set_option linter.unusedVariables false
set_option linter.unusedSimpArgs false
/-- What the document's Back answers, by its parts. -/
def refB (k tx pg ak : Int) (a b c : ByteArray) (n0 n1 n2 : Int) : Int × Int × Int × Int × Int × Int × Int × ByteArray × ByteArray × ByteArray × (List (SGTxn)) × (List (SGDirty)) × Int :=
  if k = 1 ∧ actMay ak a b c = true then (2, n0, tx, n1, n2, pg, turnK ak, a, c, b, [], [], 0) else (0, 0, 0, 0, 0, 0, 0, ⟨#[]⟩, ⟨#[]⟩, ⟨#[]⟩, [], [], 1)
theorem refBack (k ls tx pv un pg ak : Int) (a b c : ByteArray) (l : List SGTxn) (m : List SGDirty) (n0 n1 n2 : Int) :
    flotillaref07_Back.f k ls tx pv un pg ak a b c l m n0 n1 n2 = some (refB k tx pg ak a b c n0 n1 n2) := by
  unfold flotillaref07_Back.f refB
  by_cases k1 : k = 1
  · rw [if_pos k1, refMay, Option.bind_some]
    cases hm : actMay ak a b c with
    | false => rw [if_neg (by decide), if_neg (by simp)]
    | true =>
      rw [if_pos rfl, refTurn, Option.bind_some, if_pos ⟨k1, rfl⟩]
      unfold actTurn
      rw [hm]
      rfl
  · rw [if_neg k1, if_neg (fun h => k1 h.1)]
theorem same_refl (k ls tx pv un pg ak : Int) (a b c : ByteArray) : flotillaref05_Same.f 4 k ls tx pv un pg ak a b c [] [] k ls tx pv un pg ak a b c [] [] = some true := by
  unfold flotillaref05_Same.f
  simp [flotillaref05_Same.j0, flotillaref05_Same.j1, flotillaref05_Same.l0, flotillaref05_Same.l1]
theorem kC_nil {w : World} : Kd.C kGTxn w none 0 [] := ⟨rfl, by simp, fun h => by simp at h⟩
theorem kC_nilD {w : World} : Kd.C kGDirty w none 0 [] := ⟨rfl, by simp, fun h => by simp at h⟩
theorem backs_parts (k tx pg ak : Int) (a b c : ByteArray) (n0 n1 n2 : Int) : ∃ (r1 r2 r3 r4 r5 r6 r7 : Int) (r8 r9 r10 : ByteArray) (r13 : Int), refB k tx pg ak a b c n0 n1 n2 = (r1, r2, r3, r4, r5, r6, r7, r8, r9, r10, [], [], r13) ∧
    backV k tx pg ak a b c n0 n1 n2 = .tuple #[.agg #[.int .i64 r1, .int .u64 r2, .int .i64 r3, .int .u64 r4, .int .u64 r5, .int .i64 r6, .int .i64 r7, .string r8, .string r9, .string r10, .slice none 0 0, .slice none 0 0], .int .i64 r13] := by
  unfold refB backV
  by_cases h : k = 1 ∧ actMay ak a b c = true
  · rw [if_pos h, if_pos h]
    exact ⟨_, _, _, _, _, _, _, _, _, _, _, rfl, rfl⟩
  · rw [if_neg h, if_neg h]
    exact ⟨_, _, _, _, _, _, _, _, _, _, _, rfl, rfl⟩
set_option maxRecDepth 100000 in
set_option maxHeartbeats 4000000 in
theorem backs_walk (w : World) (k ls tx pv un pg ak : Int) (a b c : ByteArray) (At Ad : Option Addr) (l : List SGTxn) (m : List SGDirty) (ct cd : Nat) (n0 n1 n2 : Int) (ha : a.size ≤ 140737488351232) (hb : b.size ≤ 140737488351232) (hc : c.size ≤ 140737488351232)
    (h1 : Kd.C kGTxn w At l.length l) (h2 : l.length ≤ ct) (h3 : Kd.C kGDirty w Ad m.length m) (h4 : m.length ≤ cd) :
    Calls Try.prog 4 #[.agg #[.int .i64 k, .int .u64 ls, .int .i64 tx, .int .u64 pv, .int .u64 un, .int .i64 pg, .int .i64 ak, .string a, .string b, .string c, .slice At l.length ct, .slice Ad m.length cd], .agg #[.int .u64 n0, .int .u64 n1, .int .u64 n2]] w fun e w' => e = .returned (.bool true) ∧ Below w.heap.size w w' := by
  have H1 := Aside0.mk h1
  have H2 := Aside0.mk h2
  have H3 := Aside0.mk h3
  have H4 := Aside0.mk h4
  clear h1 h2 h3 h4
  go_enter Try.func4, Try.ntmps4
  go_wp2_with fail
  have hb0 : Below w.heap.size w ((w.alloc (.cells #[.int .i64 k, .int .u64 ls, .int .i64 tx, .int .u64 pv, .int .u64 un, .int .i64 pg, .int .i64 ak, .string a, .string b, .string c, .slice At l.length ct, .slice Ad m.length cd] 34)).alloc (.cells #[.int .u64 n0, .int .u64 n1, .int .u64 n2] 35)) := below_alloc (below_alloc (Below.refl _ _) _) _
  have hbx := blk_alloc (heap_alloc_new w (.cells #[.int .i64 k, .int .u64 ls, .int .i64 tx, .int .u64 pv, .int .u64 un, .int .i64 pg, .int .i64 ak, .string a, .string b, .string c, .slice At l.length ct, .slice Ad m.length cd] 34)) (.cells #[.int .u64 n0, .int .u64 n1, .int .u64 n2] 35)
  have hbn : ((w.alloc (.cells #[.int .i64 k, .int .u64 ls, .int .i64 tx, .int .u64 pv, .int .u64 un, .int .i64 pg, .int .i64 ak, .string a, .string b, .string c, .slice At l.length ct, .slice Ad m.length cd] 34)).alloc (.cells #[.int .u64 n0, .int .u64 n1, .int .u64 n2] 35)).heap[w.heap.size + 1]? = some (.cells #[.int .u64 n0, .int .u64 n1, .int .u64 n2] 35) := by
    have := heap_alloc_new (w.alloc (.cells #[.int .i64 k, .int .u64 ls, .int .i64 tx, .int .u64 pv, .int .u64 un, .int .i64 pg, .int .i64 ak, .string a, .string b, .string c, .slice At l.length ct, .slice Ad m.length cd] 34)) (.cells #[.int .u64 n0, .int .u64 n1, .int .u64 n2] 35)
    simpa using this
  generalize (w.alloc (.cells #[.int .i64 k, .int .u64 ls, .int .i64 tx, .int .u64 pv, .int .u64 un, .int .i64 pg, .int .i64 ak, .string a, .string b, .string c, .slice At l.length ct, .slice Ad m.length cd] 34)).alloc (.cells #[.int .u64 n0, .int .u64 n1, .int .u64 n2] 35) = w1 at hb0 hbx hbn ⊢
  refine (short_calls ak a b c w1 ha hb hc).mono ?_
  rintro e w2 ⟨rfl, hb2⟩
  have HB := Aside0.mk (below_then hb0 hb0.size hb2)
  have HX := Aside0.mk (blk_below hbx hb2)
  have HN := Aside0.mk (blk_below hbn hb2)
  clear hb0 hbx hbn hb2
  have x0 := blk_cell HX.out 0
  have x1 := blk_cell HX.out 1
  have x2 := blk_cell HX.out 2
  have x3 := blk_cell HX.out 3
  have x4 := blk_cell HX.out 4
  have x5 := blk_cell HX.out 5
  have x6 := blk_cell HX.out 6
  have x7 := blk_cell HX.out 7
  have x8 := blk_cell HX.out 8
  have x9 := blk_cell HX.out 9
  have x10 := blk_cell HX.out 10
  have x11 := blk_cell HX.out 11
  have y0 := blk_cell HN.out 0
  have y1 := blk_cell HN.out 1
  have y2 := blk_cell HN.out 2
  cases decide (a.size + b.size + c.size ≤ 1000) with
  | false =>
    go_wp2_with (go_at_call 10; refine (lives_calls _).mono ?_; rintro e w8 ⟨rfl, hb⟩; have HB8 := Aside0.mk (below_then HB.out HB.out.size hb); clear hb)
    go_ret
    exact ⟨rfl, HB8.out⟩
  | true =>
    by_cases hl : 100 < l.length
    · go_wp2_with (go_at_call 10; refine (lives_calls _).mono ?_; rintro e w8 ⟨rfl, hb⟩; have HB8 := Aside0.mk (below_then HB.out HB.out.size hb); clear hb)
      go_ret
      exact ⟨rfl, HB8.out⟩
    by_cases hm : 100 < m.length
    · go_wp2_with (go_at_call 10; refine (lives_calls _).mono ?_; rintro e w8 ⟨rfl, hb⟩; have HB8 := Aside0.mk (below_then HB.out HB.out.size hb); clear hb)
      go_ret
      exact ⟨rfl, HB8.out⟩
    go_wp2_with fail
    obtain ⟨r1, r2, r3, r4, r5, r6, r7, r8, r9, r10, r13, hq, hv⟩ := backs_parts k tx pg ak a b c n0 n1 n2
    refine (back_calls w2 k ls tx pv un pg ak a b c At Ad l.length ct m.length cd n0 n1 n2 ha hb hc).mono ?_
    rintro e w3 ⟨rfl, hb3⟩
    rw [hv]
    have HQ := Aside0.mk hq
    have HB3 := Aside0.mk (below_then HB.out HB.out.size hb3)
    have HX3 := Aside0.mk (blk_below HX.out hb3)
    have HN3 := Aside0.mk (blk_below HN.out hb3)
    clear hb3 hv hq x0 x1 x2 x3 x4 x5 x6 x7 x8 x9 x10 x11 y0 y1 y2
    simp only [show decide (100 < (l.length : Int)) = false from by simp; omega, show decide (100 < (m.length : Int)) = false from by simp; omega]
    have x0 := blk_cell HX3.out 0
    have x1 := blk_cell HX3.out 1
    have x2 := blk_cell HX3.out 2
    have x3 := blk_cell HX3.out 3
    have x4 := blk_cell HX3.out 4
    have x5 := blk_cell HX3.out 5
    have x6 := blk_cell HX3.out 6
    have x7 := blk_cell HX3.out 7
    have x8 := blk_cell HX3.out 8
    have x9 := blk_cell HX3.out 9
    have x10 := blk_cell HX3.out 10
    have x11 := blk_cell HX3.out 11
    have y0 := blk_cell HN3.out 0
    have y1 := blk_cell HN3.out 1
    have y2 := blk_cell HN3.out 2
    have xa0 : ∀ o, (w3.alloc o).cell? ⟨w.heap.size, 0, none⟩ = some (.int .i64 k) := fun o => blk_cell (blk_alloc HX3.out o) 0
    have xa1 : ∀ o, (w3.alloc o).cell? ⟨w.heap.size, 1, none⟩ = some (.int .u64 ls) := fun o => blk_cell (blk_alloc HX3.out o) 1
    have xa2 : ∀ o, (w3.alloc o).cell? ⟨w.heap.size, 2, none⟩ = some (.int .i64 tx) := fun o => blk_cell (blk_alloc HX3.out o) 2
    have xa3 : ∀ o, (w3.alloc o).cell? ⟨w.heap.size, 3, none⟩ = some (.int .u64 pv) := fun o => blk_cell (blk_alloc HX3.out o) 3
    have xa4 : ∀ o, (w3.alloc o).cell? ⟨w.heap.size, 4, none⟩ = some (.int .u64 un) := fun o => blk_cell (blk_alloc HX3.out o) 4
    have xa5 : ∀ o, (w3.alloc o).cell? ⟨w.heap.size, 5, none⟩ = some (.int .i64 pg) := fun o => blk_cell (blk_alloc HX3.out o) 5
    have xa6 : ∀ o, (w3.alloc o).cell? ⟨w.heap.size, 6, none⟩ = some (.int .i64 ak) := fun o => blk_cell (blk_alloc HX3.out o) 6
    have xa7 : ∀ o, (w3.alloc o).cell? ⟨w.heap.size, 7, none⟩ = some (.string a) := fun o => blk_cell (blk_alloc HX3.out o) 7
    have xa8 : ∀ o, (w3.alloc o).cell? ⟨w.heap.size, 8, none⟩ = some (.string b) := fun o => blk_cell (blk_alloc HX3.out o) 8
    have xa9 : ∀ o, (w3.alloc o).cell? ⟨w.heap.size, 9, none⟩ = some (.string c) := fun o => blk_cell (blk_alloc HX3.out o) 9
    have xa10 : ∀ o, (w3.alloc o).cell? ⟨w.heap.size, 10, none⟩ = some (.slice At l.length ct) := fun o => blk_cell (blk_alloc HX3.out o) 10
    have xa11 : ∀ o, (w3.alloc o).cell? ⟨w.heap.size, 11, none⟩ = some (.slice Ad m.length cd) := fun o => blk_cell (blk_alloc HX3.out o) 11
    have ya0 : ∀ o, (w3.alloc o).cell? ⟨w.heap.size + 1, 0, none⟩ = some (.int .u64 n0) := fun o => blk_cell (blk_alloc HN3.out o) 0
    have ya1 : ∀ o, (w3.alloc o).cell? ⟨w.heap.size + 1, 1, none⟩ = some (.int .u64 n1) := fun o => blk_cell (blk_alloc HN3.out o) 1
    have ya2 : ∀ o, (w3.alloc o).cell? ⟨w.heap.size + 1, 2, none⟩ = some (.int .u64 n2) := fun o => blk_cell (blk_alloc HN3.out o) 2
    go_wp2_with fail
    have hb4 : Below w3.heap.size w3 (w3.alloc (.cells #[.int .i64 r1, .int .u64 r2, .int .i64 r3, .int .u64 r4, .int .u64 r5, .int .i64 r6, .int .i64 r7, .string r8, .string r9, .string r10, .slice none 0 0, .slice none 0 0] 34)) := below_alloc (Below.refl _ _) _
    have hx4 := heap_alloc_new w3 (.cells #[.int .i64 r1, .int .u64 r2, .int .i64 r3, .int .u64 r4, .int .u64 r5, .int .i64 r6, .int .i64 r7, .string r8, .string r9, .string r10, .slice none 0 0, .slice none 0 0] 34)
    clear xa0 x0 xa1 x1 xa2 x2 xa3 x3 xa4 x4 xa5 x5 xa6 x6 xa7 x7 xa8 x8 xa9 x9 xa10 x10 xa11 x11 ya0 y0 ya1 y1 ya2 y2
    generalize w3.alloc (.cells #[.int .i64 r1, .int .u64 r2, .int .i64 r3, .int .u64 r4, .int .u64 r5, .int .i64 r6, .int .i64 r7, .string r8, .string r9, .string r10, .slice none 0 0, .slice none 0 0] 34) = w4 at hb4 hx4 ⊢
    have HB4 := Aside0.mk (below_then HB3.out HB3.out.size hb4)
    have HX4 := Aside0.mk hx4
    clear hb4 hx4
    refine (flotillaref07_Back.calls k ls tx pv un pg ak a b c At ct l Ad cd m n0 n1 n2 r1 r2 r3 r4 r5 r6 r7 r8 r9 r10 [] [] r13 w4 (Kd.C_below H1.out HB4.out) H2.out (Kd.C_below H3.out HB4.out) H4.out (by rw [refBack, HQ.out])).mono ?_
    rintro e w5 ⟨v10, v11, rfl, hR10, hR11, hb5⟩
    obtain ⟨A10, c10, rfl⟩ := Kd.R_slice hR10
    obtain ⟨A11, c11, rfl⟩ := Kd.R_slice hR11
    have HB5 := Aside0.mk (below_then HB4.out HB4.out.size hb5)
    have HX5 := Aside0.mk (blk_below HX4.out hb5)
    have HR10 := Aside0.mk hR10
    have HR11 := Aside0.mk hR11
    clear hb5 hR10 hR11
    have xa0 : ∀ o, (w5.alloc o).cell? ⟨w3.heap.size, 0, none⟩ = some (.int .i64 r1) := fun o => blk_cell (blk_alloc HX5.out o) 0
    have xa1 : ∀ o, (w5.alloc o).cell? ⟨w3.heap.size, 1, none⟩ = some (.int .u64 r2) := fun o => blk_cell (blk_alloc HX5.out o) 1
    have xa2 : ∀ o, (w5.alloc o).cell? ⟨w3.heap.size, 2, none⟩ = some (.int .i64 r3) := fun o => blk_cell (blk_alloc HX5.out o) 2
    have xa3 : ∀ o, (w5.alloc o).cell? ⟨w3.heap.size, 3, none⟩ = some (.int .u64 r4) := fun o => blk_cell (blk_alloc HX5.out o) 3
    have xa4 : ∀ o, (w5.alloc o).cell? ⟨w3.heap.size, 4, none⟩ = some (.int .u64 r5) := fun o => blk_cell (blk_alloc HX5.out o) 4
    have xa5 : ∀ o, (w5.alloc o).cell? ⟨w3.heap.size, 5, none⟩ = some (.int .i64 r6) := fun o => blk_cell (blk_alloc HX5.out o) 5
    have xa6 : ∀ o, (w5.alloc o).cell? ⟨w3.heap.size, 6, none⟩ = some (.int .i64 r7) := fun o => blk_cell (blk_alloc HX5.out o) 6
    have xa7 : ∀ o, (w5.alloc o).cell? ⟨w3.heap.size, 7, none⟩ = some (.string r8) := fun o => blk_cell (blk_alloc HX5.out o) 7
    have xa8 : ∀ o, (w5.alloc o).cell? ⟨w3.heap.size, 8, none⟩ = some (.string r9) := fun o => blk_cell (blk_alloc HX5.out o) 8
    have xa9 : ∀ o, (w5.alloc o).cell? ⟨w3.heap.size, 9, none⟩ = some (.string r10) := fun o => blk_cell (blk_alloc HX5.out o) 9
    have xa10 : ∀ o, (w5.alloc o).cell? ⟨w3.heap.size, 10, none⟩ = some (.slice none 0 0) := fun o => blk_cell (blk_alloc HX5.out o) 10
    have xa11 : ∀ o, (w5.alloc o).cell? ⟨w3.heap.size, 11, none⟩ = some (.slice none 0 0) := fun o => blk_cell (blk_alloc HX5.out o) 11
    go_wp2_with (first | (go_at_call 16; refine (flotillaref05_Same.calls 4 r1 r2 r3 r4 r5 r6 r7 r8 r9 r10 none 0 [] none 0 [] r1 r2 r3 r4 r5 r6 r7 r8 r9 r10 A10 c10 [] A11 c11 [] true _ kC_nil (Nat.le_refl _) kC_nilD (Nat.le_refl _) (Kd.C_below (Kd.R_reads' HR10.out).2.2 (below_alloc (Below.refl _ _) _)) (Nat.zero_le _) (Kd.C_below (Kd.R_reads' HR11.out).2.2 (below_alloc (Below.refl _ _) _)) (Nat.zero_le _) (same_refl _ _ _ _ _ _ _ _ _ _)).mono ?_; rintro e w6 ⟨rfl, hb6⟩; have HB := Aside0.mk (below_then (below_alloc HB5.out _) (below_alloc HB5.out _).size hb6); clear hb6) | (go_at_call 10; refine (lives_calls _).mono ?_; rintro e w8 ⟨rfl, hb⟩; have HB8 := Aside0.mk (below_then HB.out HB.out.size hb); clear hb))
    go_ret
    exact ⟨rfl, HB8.out⟩
end Go.Proofs.Ytidgfigfebkieaa
