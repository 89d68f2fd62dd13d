/- THE ROW: ActBacks: for every input it returns true, and each argument reads as it read before. No condition. -/
import Derived.Test.YtidgfigfebkieaaRows
import Derived.Test.YtidgfigfebkieaaL7b
import Derived.Test.YtidgfigfebkieaaL7v
import Derived.WalkKit
import Derived.ProofKit
import Derived.OpenShut
import Derived.ShutString
import Derived.ChangeOld
import Derived.Below
import Derived.SizedLaws
namespace Go.Proofs.Ytidgfigfebkieaa.actBacks
open Go.ChangeShapes Go.WideShapes Go.ChangeAt Go.RowKit
open Go.ChangeMaps (open_string shut_string)
set_option linter.unusedVariables false
theorem own : ownKnob Try.prog.godebug = none := by kernel_rfl
theorem laidOut : laidOutB Try.prog = true := by kernel_rfl
open Rf Go.Proofs.YtidgfigfebkieaaW.PrintWords in
theorem backs_row (W : World) (k ls tx pv un pg ak : Int) (a b c : ByteArray) (At Ad : Option Addr) (l : List SGTxn) (m : List SGDirty) (ct cd : Nat) (x : a.size ≤ reachBytes) (y : b.size ≤ reachBytes) (z : c.size ≤ reachBytes)
    (h1 : Kd.C kGTxn W At l.length l) (h2 : l.length ≤ ct) (h3 : Kd.C kGDirty W Ad m.length m) (h4 : m.length ≤ cd) (n0 n1 n2 : Int) :
    Calls Try.prog 4 #[.agg #[.int .i64 k, .int .u64 ls, .int .i64 tx, .int .u64 pv, .int .u64 un, .int .i64 pg, .int .i64 ak, .string a, .string b, .string c, .slice At l.length ct, .slice Ad m.length cd], .agg #[.int .u64 n0, .int .u64 n1, .int .u64 n2]] W fun e w' => e = .returned (.bool true) ∧ Below W.heap.size W w' := by
  have hr : reachBytes = 140737488351232 := by kernel_rfl
  exact backs_walk W k ls tx pv un pg ak a b c At Ad l m ct cd n0 n1 n2 (by omega) (by omega) (by omega) h1 h2 h3 h4
set_option maxRecDepth 100000 in
theorem lifted (os : Os) (started : os.Started) (H : Type) (enc : TypeId × Value → H) :
    ReturnsInHanded {} Try.checked os 4 .any (Rows.actBacksSpec.pre6 enc Try.prog Try.f4 Rows.actBacksRow.domain false) (Rows.actBacksSpec.post enc Try.prog Try.f4 false true false false) := by
  refine returnsInHanded_of_change_sized (C := Try.checked) own started (by kernel_rfl) Try.func4
    (ChangeSpec.witness6 (enc := enc) (C := Try.checked) false ⟨#[], #[.agg #[.int .i64 0, .int .u64 0, .int .i64 0, .int .u64 0, .int .u64 0, .int .i64 0, .int .i64 0, .string ByteArray.empty, .string ByteArray.empty, .string ByteArray.empty, .slice none 0 0, .slice none 0 0], .agg #[.int .u64 0, .int .u64 0, .int .u64 0]], []⟩ 8 (by kernel_rfl) (by kernel_rfl) (by kernel_rfl) (by kernel_rfl)) ?_
  intro W base args ds gs before hval0 hW hcnd hsz0 _
  have hsz : (DataW.weightsEach Try.prog (Try.f4.params.toList ++ Rows.actBacksSpec.plain.varTypes Try.prog) (ds ++ gs)).all (· ≤ reachBytes) = true := hsz0
  have hval : ∀ (j : Nat) t v, Try.f4.params[j]? = some t → args[j]? = some v → Value.okWide Try.prog W .any base t v := hval0
  have hW' := hW
  obtain ⟨p, q, hA0, hV, rfl, hfz, hnd⟩ := hW
  have hA : DataW.TrodAll enc Try.prog W 0 (fun _ => true) true Try.f4.params.toList args.toList ds p := hA0
  rw [Try.params4] at hA hval hsz
  obtain ⟨v0, vs0, d0, ds0, p0, q0, hargs, rfl, rfl, h0, r0⟩ := trodAll_cons hA
  obtain ⟨v1, vs1, d1, ds1, p1, q1, rfl, rfl, rfl, h1, r1⟩ := trodAll_cons r0
  obtain ⟨rfl, rfl, rfl⟩ := trodAll_nil r1
  obtain rfl : args = #[v0, v1] := by cases args; simp_all
  obtain ⟨rfl, rfl⟩ := trodVars_none hV
  have k0 := h0
  have lt0 : ∀ x ∈ p0, x.block < W.heap.size := by obtain ⟨m, hm⟩ := k0; exact DataW.trod_lt m _ _ _ hm
  obtain ⟨rk0, rl0, rt0, rp0, ru0, rg0, ra0, sa0, sb0, sc0, At0, Ad0, l0, m0, ct0, cd0, rfl, x0, y0, z0, hT0, hS0, hD0, hE0⟩ := open_rec (hval 0 34 v0 rfl rfl) h0 (fun x hx => by have := List.all_eq_true.1 hsz _ (DataW.weights_mem_each (j := 0) (t := 34) rfl rfl x hx); simpa using this)
  have k1 := h1
  have lt1 : ∀ x ∈ p1, x.block < W.heap.size := by obtain ⟨m, hm⟩ := k1; exact DataW.trod_lt m _ _ _ hm
  obtain ⟨na1, nb1, nc1, rfl⟩ := open_arr3 (hval 1 35 v1 rfl rfl) h1
  clear hA0 hval0 hsz0 hsz
  refine (backs_row W rk0 rl0 rt0 rp0 ru0 rg0 ra0 sa0 sb0 sc0 At0 Ad0 l0 m0 ct0 cd0 x0 y0 z0 hT0 hS0 hD0 hE0 na1 nb1 nc1).mono fun e W' ⟨he, bel⟩ => ?_
  subst he
  exact ⟨_, rfl, _, _, _, [], _, [], hW', trodAll_mk1 (shut_bool Try.underlying4 _), (trodAll_cons_mk (Below.trod laidOut (by kernel_rfl) (of_decide_eq_true (by kernel_rfl)) k0 bel lt0) (trodAll_cons_mk (Below.trod laidOut (by kernel_rfl) (of_decide_eq_true (by kernel_rfl)) k1 bel lt1) trodAll_mk0)), rfl, bel.frame _, fun h => by cases h⟩
theorem over : Rows.actBacksRow.holds Try.pinned (OpenSpec.ofChange Rows.actBacksSpec) :=
  OpenClaim.holds_of_wide 4 Try.f4 rfl rfl rfl rfl rfl rfl rfl ⟨rfl, rfl, rfl, rfl, rfl⟩ rfl rfl rfl rfl rfl (by kernel_rfl) Try.func4 (by kernel_rfl)
    (of_decide_eq_true (by kernel_rfl)) (by unfold Func.isWrapper; first | (rw [if_pos (by decide +kernel)]; kernel_rfl) | (rw [if_neg (by decide +kernel)]; exact ⟨rfl, rfl⟩))
    (fun os started H enc _ => lifted os started H enc)
theorem proved : Rows.ActBacksSaid := over
end Go.Proofs.Ytidgfigfebkieaa.actBacks
namespace Go.Proofs.Ytidgfigfebkieaa
/-- The row, under a short name, for the claim. -/
theorem actBacks_holds : Rows.ActBacksSaid := actBacks.proved
#print axioms actBacks_holds
end Go.Proofs.Ytidgfigfebkieaa

