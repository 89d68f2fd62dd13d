/- Layer 12: lives. -/
import Derived.Test.YtgjjfldfdkoedaaGe
namespace Go.Proofs.Ytgjjfldfdkoedaa
open Go.RowKit Go.Proofs.YtgjjfldfdkoedaaW.PrintWords Go.Proofs.YtgjjfldfdkoedaaW.PrintLast Go.Proofs.YtgjjfldfdkoedaaW.PrintMore
open Rf MapL Graph
set_option linter.unusedVariables false
set_option linter.unusedSimpArgs false
def lE : List (Int × Int) := [(1, 2), (2, 3), (3, 1), (3, 4)]
theorem lE_to {a x : Int} (h : Graph.Reach lE a x) : x = 1 ∨ x = 2 ∨ x = 3 ∨ x = 4 := by
  obtain ⟨c, hc⟩ := h.last
  simp [lE] at hc
  omega
theorem lE_from {a x : Int} (h : Graph.Reach lE a x) : a = 1 ∨ a = 2 ∨ a = 3 := by
  obtain ⟨c, hc⟩ := h.first
  simp [lE] at hc
  omega
theorem lE12 : Graph.Reach lE 1 2 := .edge (by simp [lE])
theorem lE23 : Graph.Reach lE 2 3 := .edge (by simp [lE])
theorem lE31 : Graph.Reach lE 3 1 := .edge (by simp [lE])
theorem lE_ring (a : Int) (ha : a = 1 ∨ a = 2 ∨ a = 3) : RingL (· < ·) lE a [1, 2, 3] := by
  have h11 := (lE12.trans lE23).trans lE31
  have h13 := lE12.trans lE23
  have h21 := lE23.trans lE31
  have h22 := h21.trans lE12
  have h32 := lE31.trans lE12
  have h33 := lE31.trans h13
  refine ⟨by simp, fun x => ⟨fun hx => ?_, fun hx => ?_⟩⟩
  · simp at hx
    rcases ha with rfl | rfl | rfl <;> rcases hx with rfl | rfl | rfl <;> constructor <;> first | assumption | exact lE12 | exact lE23 | exact lE31
  · rcases lE_from hx.2 with rfl | rfl | rfl <;> simp
theorem lE_ring4 : RingL (· < ·) lE 4 [] := by
  refine ⟨by simp, fun x => ⟨fun hx => by simp at hx, fun hx => ?_⟩⟩
  rcases lE_from hx.1 with h | h | h <;> omega
def lS : List SGEdge := [⟨1, 2⟩, ⟨2, 3⟩, ⟨3, 1⟩, ⟨3, 4⟩]
theorem lS_edges : edgesOf (lS.take 60) = lE := by decide +kernel
def lV : Array Value := #[.int .i64 1, .int .i64 2, .int .i64 2, .int .i64 3, .int .i64 3, .int .i64 1, .int .i64 3, .int .i64 4]
theorem lS_row (w : World) : Kd.C kGEdge (w.alloc (.cells lV 28)) (some ⟨w.heap.size, 0, none⟩) 4 lS := by
  have h : Kd.R kGEdge 28 (w.alloc (.cells lV 28)) w.heap.size (fun _ => True) (.slice (some ⟨w.heap.size, 0, none⟩) 4 4) lS := by
    refine ⟨fun _ _ => trivial, lV.toList, World.ownsRow_lit (base := w.heap.size) (e := 28) (size := 2) w lV 4 (Nat.le_refl _) (by simp [maxLen]) rfl, ⟨rfl, fun j p hj => ?_⟩⟩
    match j, hj with
    | 0, hj => rw [← Option.some.inj hj]; exact kGEdge_mkM _ _ _ _
    | 1, hj => rw [← Option.some.inj hj]; exact kGEdge_mkM _ _ _ _
    | 2, hj => rw [← Option.some.inj hj]; exact kGEdge_mkM _ _ _ _
    | 3, hj => rw [← Option.some.inj hj]; exact kGEdge_mkM _ _ _ _
  exact (Kd.R_reads' h).2.2
theorem r123 (w : World) : Kd.C (Kd.int .i64) (w.alloc (.cells #[.int .i64 1, .int .i64 2, .int .i64 3] 3)) (some ⟨w.heap.size, 0, none⟩) 3 [1, 2, 3] := by
  have h : Kd.R (Kd.int .i64) 3 (w.alloc (.cells #[.int .i64 1, .int .i64 2, .int .i64 3] 3)) w.heap.size (fun _ => True) (.slice (some ⟨w.heap.size, 0, none⟩) 3 3) [1, 2, 3] :=
    Kd.R_of_own (enc := Value.int .i64) (World.ownsRow_lit (base := w.heap.size) (e := 3) (size := 1) w #[.int .i64 1, .int .i64 2, .int .i64 3] 3 (Nat.le_refl _) (by simp [maxLen]) rfl) (fun _ _ => trivial)
  exact (Kd.R_reads' h).2.2
set_option maxRecDepth 100000 in
set_option maxHeartbeats 2000000 in
theorem lives_calls (w : World) : Calls Try.prog 11 #[] w fun e w' => e = .returned (.bool true) ∧ Below w.heap.size w w' := by
  go_enter Try.func11, Try.ntmps11
  go_wp2_with fail
  have hb0 : Below w.heap.size w (w.alloc (.cells lV 28)) := below_alloc (Below.refl _ _) _
  have hr0 := lS_row w
  have hlv : (Obj.cells #[.int .i64 1, .int .i64 2, .int .i64 2, .int .i64 3, .int .i64 3, .int .i64 1, .int .i64 3, .int .i64 4] 28 (0, 0)) = Obj.cells lV 28 (0, 0) := rfl
  rw [hlv]
  generalize w.alloc (.cells lV 28) = w0 at hb0 hr0 ⊢
  have HB0 := Aside0.mk hb0
  clear hb0 hlv
  refine (made_calls w0 (some ⟨w.heap.size, 0, none⟩) 4 lS hr0 (by decide)).mono ?_
  rintro e w1 ⟨g, b, rfl, hg, hb, hG, hB⟩
  rw [lS_edges] at hG
  have HG1 := Aside0.mk hG
  have HB1 := Aside0.mk (below_then HB0.out HB0.out.size hB)
  clear hr0 hg hb hG hB
  go_wp2_with fail
  refine (victimI w1 g b lE 2 HG1.out (by decide)).mono ?_
  rintro e w2 ⟨L, rfl, hL, hB⟩
  obtain rfl := hL.unique ordI (lE_ring 2 (by omega))
  have HG2 := Aside0.mk (HG1.out.below hB)
  have HB2 := Aside0.mk (below_then HB1.out HB1.out.size hB)
  clear hL hB
  have e1 : (([1, 2, 3] : List Int).getLastD 0) = 3 := rfl
  have e2 : (!([1, 2, 3] : List Int).isEmpty) = true := rfl
  rw [e1, e2]
  clear e1 e2
  go_wp2_with fail
  refine (ringI w2 g b lE 1 HG2.out (by decide)).mono ?_
  rintro e w3 ⟨v, L, rfl, hR, hL, hB⟩
  obtain rfl := hL.unique ordI (lE_ring 1 (by omega))
  obtain ⟨A, c, rfl⟩ := Kd.R_slice hR
  have HG3 := Aside0.mk (HG2.out.below hB)
  have HB3 := Aside0.mk (below_then HB2.out HB2.out.size hB)
  have HR3 := Aside0.mk (Kd.R_reads' hR)
  clear hL hB hR
  go_wp2_with fail
  have hb4 := below_alloc (Below.refl w3.heap.size w3) (.cells #[.int .i64 1, .int .i64 2, .int .i64 3] 3)
  have hs4 := r123 w3
  generalize w3.alloc (.cells #[.int .i64 1, .int .i64 2, .int .i64 3] 3) = w4 at hb4 hs4 ⊢
  have HG4 := Aside0.mk (HG3.out.below hb4)
  have HB4 := Aside0.mk (below_then HB3.out HB3.out.size hb4)
  have hsm := same_calls w4 A (some ⟨w3.heap.size, 0, none⟩) c 3 [1, 2, 3] [1, 2, 3] (Kd.C_below HR3.out.2.2 hb4) HR3.out.2.1 hs4 (by decide) (by decide)
  clear hb4 hs4
  rw [show decide (([1, 2, 3] : List Int) = [1, 2, 3]) = true by decide] at hsm
  refine hsm.mono ?_
  rintro e w5 ⟨rfl, hB⟩
  have HG5 := Aside0.mk (HG4.out.below hB)
  have HB5 := Aside0.mk (below_then HB4.out HB4.out.size hB)
  clear hB hsm
  go_wp2_with fail
  refine (ringI w5 g b lE 4 HG5.out (by decide)).mono ?_
  rintro e w6 ⟨v, L, rfl, hR, hL, hB⟩
  obtain rfl := hL.unique ordI lE_ring4
  obtain ⟨A6, c6, rfl⟩ := Kd.R_slice hR
  have HG6 := Aside0.mk (HG5.out.below hB)
  have HB6 := Aside0.mk (below_then HB5.out HB5.out.size hB)
  clear hL hB hR
  go_wp2_with fail
  refine (lenI w6 g b lE HG6.out).mono ?_
  rintro e w7 ⟨rfl, rfl⟩
  rw [show ((lE.length : Nat) : Int) = 4 from rfl]
  go_wp2_with fail
  go_ret
  exact ⟨rfl, HB6.out⟩
end Go.Proofs.Ytgjjfldfdkoedaa
