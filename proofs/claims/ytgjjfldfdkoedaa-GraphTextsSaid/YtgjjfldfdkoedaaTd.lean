/- Layer 12: a nil graph's answers. -/
import Derived.Test.YtgjjfldfdkoedaaGc
import Derived.Test.YtgjjfldfdkoedaaGg
namespace Go.Proofs.Ytgjjfldfdkoedaa
open Go.RowKit Go.Proofs.YtgjjfldfdkoedaaW.PrintWords Go.Proofs.YtgjjfldfdkoedaaW.PrintLast Go.Proofs.YtgjjfldfdkoedaaW.PrintMore
open Rf MapL Graph
set_option linter.unusedVariables false
set_option linter.unusedSimpArgs false
theorem addI_nil (w : World) (x y : Int) : Calls Try.prog 17 #[.pointer none, .int .i64 x, .int .i64 y] w fun e w' => e = .returned (.bool false) ∧ w = w' := by
  go_enter Try.func17, Try.ntmps17
  go_wp2_with fail
  go_ret
  exact ⟨rfl, rfl⟩
theorem dropI_nil (w : World) (x y : Int) : Calls Try.prog 18 #[.pointer none, .int .i64 x, .int .i64 y] w fun e w' => e = .returned (.bool false) ∧ w = w' := by
  go_enter Try.func18, Try.ntmps18
  go_wp2_with fail
  go_ret
  exact ⟨rfl, rfl⟩
theorem goneI_nil (w : World) (x : Int) : Calls Try.prog 19 #[.pointer none, .int .i64 x] w fun e w' => e = .returned (.int .i64 0) ∧ w = w' := by
  go_enter Try.func19, Try.ntmps19
  go_wp2_with fail
  go_ret
  exact ⟨rfl, rfl⟩
set_option maxRecDepth 100000 in
theorem ringI_nil (w : World) (a : Int) : Calls Try.prog 12 #[.pointer none, .int .i64 a] w fun e w' => ∃ A c, e = .returned (.slice A 0 c) ∧ Below w.heap.size w w' := by
  go_enter Try.func12, Try.ntmps12
  go_wp2_with fail
  refine (reachedI_nil w a).mono ?_
  rintro e w1 ⟨mb, S, rfl, hmb, hm, hS, hb⟩
  obtain rfl : S = [] := by
    cases S with
    | nil => rfl
    | cons x t => exact (reach_nil ((hS x).1 (by simp))).elim
  obtain ⟨wn, hrg, hra, hbn, hsn⟩ := hm.range (P := Try.prog) Try.underlying58
  have HMB := Aside0.mk hmb
  have HB1 := Aside0.mk (below_then hb hb.size hbn)
  have HRA := Aside0.mk hra
  clear hm hS hb hra hbn hmb hsn
  go_wp2_with fail
  clear hrg
  obtain ⟨r, hr⟩ : ∃ r, r = w1.heap.size := ⟨_, rfl⟩
  rw [← hr] at HRA ⊢
  clear hr
  go_loopg [5] 1 (fun gk v5 wr => v5 = .slice none 0 0 ∧ Aside0 (Below w.heap.size w wr) ∧ Aside0 (RangeAt (Value.int .i64) wr mb r [] []))
  case atStart => exact ⟨rfl, HB1, HRA⟩
  case round =>
    obtain ⟨rfl, HB, HR⟩ := hrel
    clear HB1 HRA
    rcases HR.out.next (P := Try.prog) keyI 0 with ⟨ht, hrun⟩ | ⟨x, hx, wa, hrun, hra1, hg1, hs1, hen⟩
    · have hrun' : ∀ ty, (Instr.next (.pointer (some ⟨r, 0, none⟩)) false ty).run Try.prog wr = .ok (.tuple #[.bool false]) wr := fun _ => hrun
      clear hrun
      go_wp2_with fail
      refine (Any.slices_Sort_int_none Try.sl189 none 0 wr).mono ?_
      rintro e w' ⟨rfl, rfl⟩
      go_wp2_with fail
      go_ret
      exact ⟨_, _, rfl, HB.out⟩
    · cases hx
set_option maxRecDepth 100000 in
theorem victimI_nil (w : World) (a : Int) : Calls Try.prog 14 #[.pointer none, .int .i64 a] w fun e w' => e = .returned (.tuple #[.int .i64 0, .bool false]) ∧ Below w.heap.size w w' := by
  go_enter Try.func14, Try.ntmps14
  go_wp2_with fail
  refine (ringI_nil w a).mono ?_
  rintro e w1 ⟨A, c, rfl, hb⟩
  have HB := Aside0.mk hb
  clear hb
  go_wp2_with fail
  go_ret2
  exact ⟨rfl, HB.out⟩
end Go.Proofs.Ytgjjfldfdkoedaa
