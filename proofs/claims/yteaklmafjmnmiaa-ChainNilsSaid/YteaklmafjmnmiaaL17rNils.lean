/- THE ROW: ChainNils: for every input it returns true, and each argument reads as it read before. No condition. -/
import Derived.Test.YteaklmafjmnmiaaRows
import Derived.Test.YteaklmafjmnmiaaL17n
import Derived.Test.YteaklmafjmnmiaaL17w
import Derived.WalkKit
import Derived.ProofKit
import Derived.OpenShut
import Derived.ShutString
import Derived.ChangeOld
import Derived.Below
import Derived.SizedLaws
namespace Go.Proofs.Yteaklmafjmnmiaa.chainNils
open Go.ChangeShapes Go.WideShapes Go.ChangeAt Go.RowKit
open Go.ChangeMaps (open_string shut_string)
set_option linter.unusedVariables false
theorem own : ownKnob Try.prog.godebug = none := by kernel_rfl
theorem laidOut : laidOutB Try.prog = true := by kernel_rfl
open Go.Proofs.YteaklmafjmnmiaaW.PrintWords Rf in
theorem nils_walk (W : World) (id : Int) (hid : (Lit.int .i64 id).wf = true) (k ls tx pv un pg ak : Int) (a b c : ByteArray) (At Ad : Option Addr) (l : List SGTxn) (m : List SGDirty) (ct cd : Nat) (x : a.size ≤ reachBytes) (y : b.size ≤ reachBytes) (z : c.size ≤ reachBytes)
    (h1 : Kd.C kGTxn W At l.length l) (h2 : l.length ≤ ct) (h3 : Kd.C kGDirty W Ad m.length m) (h4 : m.length ≤ cd) :
    Calls Try.prog 6 #[.int .i64 id, .agg #[.int .i64 k, .int .u64 ls, .int .i64 tx, .int .u64 pv, .int .u64 un, .int .i64 pg, .int .i64 ak, .string a, .string b, .string c, .slice At l.length ct, .slice Ad m.length cd]] W fun e w' => e = .returned (.bool true) ∧ Below W.heap.size W w' :=
  nils_row W id k ls tx pv un pg ak a b c At ct l Ad cd m h1 h2 h3 h4
set_option maxRecDepth 100000 in
theorem lifted (os : Os) (started : os.Started) (H : Type) (enc : TypeId × Value → H) :
    ReturnsInHanded {} Try.checked os 6 .any (Rows.chainNilsSpec.pre6 enc Try.prog Try.f6 Rows.chainNilsRow.domain false) (Rows.chainNilsSpec.post enc Try.prog Try.f6 false true false false) := by
  refine returnsInHanded_of_change_sized (C := Try.checked) own started (by kernel_rfl) Try.func6
    (ChangeSpec.witness6 (enc := enc) (C := Try.checked) false ⟨#[], #[.int .i64 0, .agg #[.int .i64 0, .int .u64 0, .int .i64 0, .int .u64 0, .int .u64 0, .int .i64 0, .int .i64 0, .string ByteArray.empty, .string ByteArray.empty, .string ByteArray.empty, .slice none 0 0, .slice none 0 0]], []⟩ 8 (by kernel_rfl) (by kernel_rfl) (by kernel_rfl) (by kernel_rfl)) ?_
  intro W base args ds gs before hval0 hW hcnd hsz0 _
  have hsz : (DataW.weightsEach Try.prog (Try.f6.params.toList ++ Rows.chainNilsSpec.plain.varTypes Try.prog) (ds ++ gs)).all (· ≤ reachBytes) = true := hsz0
  have hval : ∀ (j : Nat) t v, Try.f6.params[j]? = some t → args[j]? = some v → Value.okWide Try.prog W .any base t v := hval0
  have hW' := hW
  obtain ⟨p, q, hA0, hV, rfl, hfz, hnd⟩ := hW
  have hA : DataW.TrodAll enc Try.prog W 0 (fun _ => true) true Try.f6.params.toList args.toList ds p := hA0
  rw [Try.params6] at hA hval hsz
  obtain ⟨v0, vs0, d0, ds0, p0, q0, hargs, rfl, rfl, h0, r0⟩ := trodAll_cons hA
  obtain ⟨v1, vs1, d1, ds1, p1, q1, rfl, rfl, rfl, h1, r1⟩ := trodAll_cons r0
  obtain ⟨rfl, rfl, rfl⟩ := trodAll_nil r1
  obtain rfl : args = #[v0, v1] := by cases args; simp_all
  obtain ⟨rfl, rfl⟩ := trodVars_none hV
  obtain ⟨a0, rfl, rfl, rfl, w0⟩ := open_int Try.underlying3 (hval 0 3 v0 rfl rfl) h0
  have k1 := h1
  have lt1 : ∀ x ∈ p1, x.block < W.heap.size := by obtain ⟨m, hm⟩ := k1; exact DataW.trod_lt m _ _ _ hm
  obtain ⟨rk1, rl1, rt1, rp1, ru1, rg1, ra1, sa1, sb1, sc1, At1, Ad1, l1, m1, ct1, cd1, rfl, x1, y1, z1, hT1, hS1, hD1, hE1⟩ := open_rec (hval 1 39 v1 rfl rfl) h1 (fun x hx => by have := List.all_eq_true.1 hsz _ (DataW.weights_mem_each (j := 1) (t := 39) rfl rfl x hx); simpa using this)
  clear hA0 hval0 hsz0 hsz
  refine (nils_walk W a0 w0 rk1 rl1 rt1 rp1 ru1 rg1 ra1 sa1 sb1 sc1 At1 Ad1 l1 m1 ct1 cd1 x1 y1 z1 hT1 hS1 hD1 hE1).mono fun e W' ⟨he, bel⟩ => ?_
  subst he
  exact ⟨_, rfl, _, _, _, [], _, [], hW', trodAll_mk1 (shut_bool Try.underlying4 _), (trodAll_cons_mk (shut_int Try.underlying3 w0) (trodAll_cons_mk (Below.trod laidOut (by kernel_rfl) (of_decide_eq_true (by kernel_rfl)) k1 bel lt1) trodAll_mk0)), rfl, bel.frame _, fun h => by cases h⟩
theorem over : Rows.chainNilsRow.holds Try.pinned (OpenSpec.ofChange Rows.chainNilsSpec) :=
  OpenClaim.holds_of_wide 6 Try.f6 rfl rfl rfl rfl rfl rfl rfl ⟨rfl, rfl, rfl, rfl, rfl⟩ rfl rfl rfl rfl rfl (by kernel_rfl) Try.func6 (by kernel_rfl)
    (of_decide_eq_true (by kernel_rfl)) (by unfold Func.isWrapper; first | (rw [if_pos (by decide +kernel)]; kernel_rfl) | (rw [if_neg (by decide +kernel)]; exact ⟨rfl, rfl⟩))
    (fun os started H enc _ => lifted os started H enc)
theorem proved : Rows.ChainNilsSaid := over
end Go.Proofs.Yteaklmafjmnmiaa.chainNils
namespace Go.Proofs.Yteaklmafjmnmiaa
/-- The row, under a short name, for the claim. -/
theorem chainNils_holds : Rows.ChainNilsSaid := chainNils.proved
#print axioms chainNils_holds
end Go.Proofs.Yteaklmafjmnmiaa

