/- Layer 17: lives. -/
import Derived.Test.YteaklmafjmnmiaaYMgBk11
section
namespace Go.Proofs.Yteaklmafjmnmiaa
open Go.RowKit Go.Proofs.YteaklmafjmnmiaaW.PrintWords Go.Proofs.YteaklmafjmnmiaaW.PrintLast Go.Proofs.YteaklmafjmnmiaaW.PrintMore
open Rf MapL MapV
set_option linter.unusedVariables false
set_option linter.unusedSimpArgs false
def lX : Int → TX := fun y => if y = 7 then tx0 else tx0
theorem lok3 : recOk 3 16 7 0 0 0 0 ⟨#[]⟩ ⟨#[]⟩ ⟨#[]⟩ [] [] = true := by
  unfold recOk; rw [if_neg (by omega), if_neg (by omega)]; unfold nilB; rw [ByteArray.toList_eq]; rfl
theorem lok5 : recOk 5 32 7 16 0 0 0 ⟨#[]⟩ ⟨#[]⟩ ⟨#[]⟩ [] [] = true := by
  unfold recOk; rw [if_neg (by omega), if_neg (by omega)]; unfold nilB; rw [ByteArray.toList_eq]; rfl
set_option maxRecDepth 100000 in
set_option maxHeartbeats 4000000 in
theorem lives17 (w : World) : Calls Try.prog 10 #[] w fun e w' => e = .returned (.bool true) ∧ Below w.heap.size w w' := by
  go_enter Try.func10, Try.ntmps10
  go_wp2_with fail
  refine (tabnew w (fun _ => tx0) (fun _ => 0)).mono ?_
  rintro e w1 ⟨t, mb, rfl, h1⟩
  have H1 := Aside0.mk h1
  clear h1
  go_wp2_with fail
  refine (tabopen _ w1 t mb _ [] _ 7 H1.out).mono ?_
  rintro e w2 ho
  rcases ho with (⟨hq, _⟩ | ⟨_, hq, _⟩) | ⟨_, _, rfl, bx, h2⟩
  · omega
  · exact absurd hq (by simp)
  have H2 := Aside0.mk (show Tab ⟨w, fun _ => False⟩ w2 t mb bx [7] lX from h2)
  clear h2
  go_wp2_with fail
  refine (note3_calls _ w2 t mb bx [7] lX 16 7 0 0 0 0 ⟨#[]⟩ ⟨#[]⟩ ⟨#[]⟩ none none 0 0 H2.out (by simp) lok3 rfl rfl 0 (by unfold needOf; rw [if_pos ⟨by simp, lok3⟩, if_neg (by omega), if_neg (by omega)]; rfl) ⟨by decide, by decide, by decide, by decide⟩).mono ?_
  rintro e w3 ⟨rfl, h3⟩
  have H3 := Aside0.mk h3
  clear h3
  go_wp2_with fail
  have hk := tabkept _ w3 t mb bx [7] _ 7 H3.out
  rw [if_pos (by simp), updX_at] at hk
  refine hk.mono ?_
  rintro e w4 ⟨rfl, rfl⟩
  clear hk
  go_wp2_with fail
  refine (note5_calls _ w3 t mb bx [7] _ 32 7 16 0 0 0 ⟨#[]⟩ ⟨#[]⟩ ⟨#[]⟩ none none 0 0 H3.out (by simp) lok5 (by rw [updX_at]) (by rw [updX_at]; rfl) 0 (by unfold needOf; rw [if_pos ⟨by simp, lok5⟩, if_neg (by omega), if_neg (by omega)]; rfl) (by rw [updX_at]; exact ⟨by decide, by decide, by decide, by decide⟩)).mono ?_
  rintro e w5 ⟨rfl, h5⟩
  have H5 := Aside0.mk h5
  clear h5
  go_wp2_with fail
  have hg := tabgone _ w5 t mb bx _ _ 7 H5.out
  have hd : decide ((7 : Int) ∈ ([7] : List Int).filter fun y => decide (y ≠ 7)) = false := by simp
  rw [hd] at hg
  refine hg.mono ?_
  rintro e w6 ⟨rfl, h6⟩
  have H6 := Aside0.mk h6
  clear h6 hg hd
  go_wp2_with fail
  go_ret
  exact ⟨rfl, H6.out.bel.below (fun _ h => h)⟩
end Go.Proofs.Yteaklmafjmnmiaa
end
