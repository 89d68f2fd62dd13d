/- Layer 6: PageNews' walk. -/
import Derived.Test.YtidkdbohkbfhbaaL6c
namespace Go.Proofs.Ytidkdbohkbfhbaa
open Go.RowKit Go.Proofs.YtidkdbohkbfhbaaW.PrintWords Go.Proofs.YtidkdbohkbfhbaaW.PrintLast Go.Proofs.YtidkdbohkbfhbaaW.PrintMore
open Rf
set_option linter.unusedVariables false
set_option linter.unusedSimpArgs false

theorem nil_C (w : World) : Kd.C kGCell w none ([] : List SGCell).length [] := ⟨rfl, by simp, fun h => by simp at h⟩
theorem new_here (id : Nat) (w : World) (h : id < 16) :
    Calls Try.prog 10 #[.int .i64 id] w fun e w' => e = .returned (.tuple #[.pointer (some ⟨w.heap.size, 0, none⟩), .int .i64 0]) ∧ Here w w' (fun k => w.heap.size ≤ k) w.heap.size id 0 [] := by
  refine (new_ok id w (by omega) (by omega)).mono ?_
  rintro e w' ⟨rfl, hp, hb⟩
  exact ⟨rfl, ⟨hp _ (Nat.le_refl _), hb, Valid.nil, h, by decide⟩⟩

set_option maxRecDepth 100000 in
set_option maxHeartbeats 4000000 in
theorem news_row (w : World) (id : Int) (hw : (Lit.int .i64 id).wf = true) :
    Calls Try.prog 3 #[.int .i64 id] w fun e w' => e = .returned (.bool true) ∧ Below w.heap.size w w' := by
  by_cases hid : 0 ≤ id ∧ id < 16
  · obtain ⟨i, rfl⟩ := Int.eq_ofNat_of_zero_le hid.1
    have hi : i < 16 := by omega
    clear hid hw
    go_enter Try.func3, Try.ntmps3
    go_wp2_with fail
    refine (new_here i w hi).mono ?_
    rintro e w1 ⟨rfl, hh⟩
    have HH := Aside0.mk hh
    clear hh
    go_wp2_with fail
    refine (flotillaref06_Id.calls (i : Int) true w1 (by unfold flotillaref06_Id.f; rw [if_pos (by omega)]; simp; omega)).mono ?_
    rintro e w2 ⟨rfl, hd⟩
    have HH2 := Aside0.mk (HH.out.next hd.below)
    clear hd
    go_wp2_with (first | (go_at_call 13; refine (alike_calls w _ _ w.heap.size i 0 [] none 0 HH2.out (nil_C _) (Nat.le_refl _)).mono ?_; rintro e w3 ⟨rfl, hh, hb⟩; have HH3 := Aside0.mk hh; clear hh hb) | (go_at_call 12; refine (lives_calls _).mono ?_; rintro e w4 ⟨rfl, hb⟩; have HH4 := Aside0.mk (HH3.out.next hb); clear hb))
    go_ret
    exact ⟨rfl, HH4.out.bel⟩
  · go_enter Try.func3, Try.ntmps3
    go_wp2_with fail
    refine (new_bad id w (by omega)).mono ?_
    rintro e w1 ⟨rfl, rfl⟩
    go_wp2_with fail
    refine (flotillaref06_Id.calls id false w (by unfold flotillaref06_Id.f; split <;> simp; omega)).mono ?_
    rintro e w2 ⟨rfl, hd⟩
    have HB2 := Aside0.mk hd.below
    clear hd
    go_wp2_with (go_at_call 12; refine (lives_calls _).mono ?_; rintro e w4 ⟨rfl, hb⟩; have HB4 := Aside0.mk (below_then HB2.out HB2.out.size hb); clear hb)
    go_ret
    exact ⟨rfl, HB4.out⟩
end Go.Proofs.Ytidkdbohkbfhbaa
