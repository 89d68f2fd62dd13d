/- find's begun. -/
import Derived.Test.YtaahfokdgfopcaaZFm
import Derived.Test.YtaahfokdgfopcaaZBx
namespace Go.Proofs.Ytaahfokdgfopcaa
open Go.RowKit Go.Proofs.YtaahfokdgfopcaaW.PrintWords Go.Proofs.YtaahfokdgfopcaaW.PrintLast Go.Proofs.YtaahfokdgfopcaaW.PrintMore
open Rf MapL MapV
set_option linter.unusedVariables false
set_option linter.unusedSimpArgs false
set_option maxRecDepth 100000 in
set_option maxHeartbeats 4000000 in
theorem begun_calls (w : World) (A : Option Addr) (n c : Nat) : Calls Try.prog 39 #[.slice A n c] w fun e w' => ∃ m1 m2, e = .returned (.agg #[.map (some m1), .map (some m2), .slice A n c]) ∧ Walks ⟨w, fun _ => False⟩ w' m1 m2 wst0 := by
  have hmk1 : ∀ W : World, (Instr.makeMap 76 none).run Try.prog W = .ok (.map (some W.heap.size)) (W.alloc (.map #[] 0)) := fun W => rfl
  have hmk2 : ∀ W : World, (Instr.makeMap 77 none).run Try.prog W = .ok (.map (some W.heap.size)) (W.alloc (.map #[] 0)) := fun W => rfl
  have hg0 := heap_alloc_new w (.cells #[.map none, .map none, .slice none 0 0] 81)
  have hg1 := blk_alloc (blk_alloc hg0 (.map #[] 0)) (.map #[] 0)
  have HG := Aside0.mk hg1
  have H1 := Aside0.mk (MapV.mapAt_made (tk := Value.int .i64) (f := gV wst0.F) (w.alloc (.cells #[.map none, .map none, .slice none 0 0] 81)))
  have H2 := Aside0.mk (MapV.mapAt_made (tk := Value.int .i64) (f := dV wst0.D) ((w.alloc (.cells #[.map none, .map none, .slice none 0 0] 81)).alloc (.map #[] 0)))
  have HB := Aside0.mk ((Bel.refl ⟨w, fun _ => False⟩).then (below_alloc (below_alloc (below_alloc (Below.refl w.heap.size w) (.cells #[.map none, .map none, .slice none 0 0] 81)) (.map #[] 0)) (.map #[] 0)))
  have H1' := Aside0.mk (H1.out.alloc (.map #[] 0))
  clear hg0 hg1 H1
  go_enter Try.func39, Try.ntmps39
  go_wp2_with (first | ((with_reducible refine gate_ (.store 81 (.tmp 2) (.tmp 7)) rfl ?_); refine store_box_l (t := 81) (new := #[.map (some (w.heap.size + 1)), .map (some (w.heap.size + 2)), .slice A n c]) rfl rfl rfl (by rfl) (by rfl) HG.out (Nat.le_refl _) (Nat.le_refl _) rfl (by kernel_rfl) (by intro q hq; simp only [List.mem_cons, List.not_mem_nil, or_false] at hq; rcases hq with rfl | rfl | rfl <;> rfl) ?_; intro w9 h9 g9; have H9 := Aside0.mk h9; have G9 := Aside0.mk g9; clear h9 g9))
  refine bodyPost_ret (results_c1 rfl _ _ w.heap.size 81 #[.map (some (w.heap.size + 1)), .map (some (w.heap.size + 2)), .slice A n c] (0, 0) _ rfl H9.out Try.underlying81 rfl (by kernel_rfl)) rfl ?_
  have e1 : (w.alloc (.cells #[.map none, .map none, .slice none 0 0] 81)).heap.size = w.heap.size + 1 := World.size_alloc _ _
  have e2 : ((w.alloc (.cells #[.map none, .map none, .slice none 0 0] 81)).alloc (.map #[] 0)).heap.size = w.heap.size + 2 := by rw [World.size_alloc, e1]
  have h1 := H1'.out
  have h2 := H2.out
  rw [e1] at h1
  rw [e2] at h2
  refine ⟨w.heap.size + 1, w.heap.size + 2, rfl, h1.grown G9.out (fun e => by have := Option.some.inj e; omega), h2.grown G9.out (fun e => by have := Option.some.inj e; omega), by omega, HB.out.grown G9.out (.inl (Nat.le_refl _)), .inl (Nat.le_succ _), .inl (by show w.heap.size ≤ w.heap.size + 2; omega)⟩
end Go.Proofs.Ytaahfokdgfopcaa
