/- Layer 7: lives; ActTurns' walk. -/
import Derived.Test.YtidgfigfebkieaaAd
namespace Go.Proofs.Ytidgfigfebkieaa
open Go.RowKit Go.Proofs.YtidgfigfebkieaaW.PrintWords Go.Proofs.YtidgfigfebkieaaW.PrintLast Go.Proofs.YtidgfigfebkieaaW.PrintMore
open Rf Go.ChangeMaps
set_option linter.unusedVariables false
set_option linter.unusedSimpArgs false
def sA : ByteArray := ⟨#[97]⟩
def sX : ByteArray := ⟨#[120]⟩
def sY : ByteArray := ⟨#[121]⟩
theorem lv1 : actDo [] 1 sA ⟨#[]⟩ sX = ([cel sA sX], 0) := by kernel_rfl
theorem lv2 : actDo [cel sA sX] 3 sA sY ⟨#[]⟩ = ([cel sA sX], 10) := by kernel_rfl
theorem lv3 : actTurn 2 sA sX sY = (2, sA, sY, sX) := by kernel_rfl
set_option maxHeartbeats 1000000 in
theorem lives_calls (w : World) : Calls Try.prog 10 #[] w fun e w' => e = .returned (.bool true) ∧ Below w.heap.size w w' := by
  go_enter Try.func10, Try.ntmps10
  go_wp2_with fail
  refine (new_ok 0 w (by decide) (by decide)).mono ?_
  rintro e w1 ⟨rfl, hp, hb⟩
  have H1 := Aside0.mk (show Here w w1 _ w.heap.size 0 0 [] from ⟨hp _ (Nat.le_refl _), hb, Valid.nil, by decide, by decide⟩)
  clear hp hb
  go_wp2_with fail
  refine (do_calls H1.out 1 sA ⟨#[]⟩ sX (by decide) (by decide) (by decide)).mono ?_
  rintro e w2 ⟨rfl, hA⟩
  rw [lv1] at hA ⊢
  have H2 := Aside0.mk hA.here
  clear hA
  go_wp2_with fail
  refine (turn_calls w2 2 sA sX sY (by decide) (by decide) (by decide)).mono ?_
  rintro e w3 ⟨rfl, hb⟩
  rw [lv3]
  have H3 := Aside0.mk (H2.out.next hb)
  have HB3 := Aside0.mk hb
  clear hb
  go_wp2_with fail
  have hb0 : Below w3.heap.size w3 (w3.alloc (.cells #[.int .i64 2, .string sA, .string sY, .string sX] 24)) := below_alloc (Below.refl _ _) _
  have hbx := heap_alloc_new w3 (.cells #[.int .i64 2, .string sA, .string sY, .string sX] 24)
  generalize w3.alloc (.cells #[.int .i64 2, .string sA, .string sY, .string sX] 24) = w4 at hb0 hbx ⊢
  refine (do_calls (H3.out.bound.next hb0) 3 sA sY ⟨#[]⟩ (by decide) (by decide) (by decide)).mono ?_
  rintro e w5 ⟨rfl, hA⟩
  rw [lv2] at hA ⊢
  have hx := blk_kept hbx hA.kept (fun h => Nat.lt_irrefl _ h.2)
  have H5 := Aside0.mk hA.here
  have x0 := blk_cell hx 0
  have x2 := blk_cell hx 2
  have x3 := blk_cell hx 3
  have hX : sX.toList = [120] := by rw [ByteArray.toList_eq]; rfl
  have hY : sY.toList = [121] := by rw [ByteArray.toList_eq]; rfl
  clear hA hb0 hbx hx
  go_wp2
  go_ret
  exact ⟨rfl, H5.out.bel⟩
end Go.Proofs.Ytidgfigfebkieaa
