/- Layer 17: the record of a step. -/
import Derived.Test.YteaklmafjmnmiaaZMgAp17
section
namespace Go.Proofs.Yteaklmafjmnmiaa
open Go.RowKit Go.Proofs.YteaklmafjmnmiaaW.PrintWords Go.Proofs.YteaklmafjmnmiaaW.PrintLast Go.Proofs.YteaklmafjmnmiaaW.PrintMore
open Rf MapL MapV
set_option linter.unusedVariables false
set_option linter.unusedSimpArgs false
theorem blk_alloc1 (w : World) (o o' : Obj) : ((w.alloc o).alloc o').heap[w.heap.size + 1]? = some o' := by
  have := heap_alloc_new (w.alloc o) o'
  simpa using this
set_option maxRecDepth 100000 in
set_option maxHeartbeats 8000000 in
/-- As it stands. -/
theorem record_as (w : World) (kd tn nn k ls tx pv un pg ak : Int) (a b c : ByteArray) (At Ad : Option Addr) (lt ct ld cd : Nat) (lst at' : Int) (hkd : kd ≠ 2) :
    Calls Try.prog 19 #[.agg #[.int .i64 kd, .int .i64 tn, .int .i64 nn, .int .i64 k, .int .u64 ls, .int .i64 tx, .int .u64 pv, .int .u64 un, .int .i64 pg, .int .i64 ak, .string a, .string b, .string c, .slice At lt ct, .slice Ad ld cd], .int .u64 lst, .int .i64 at'] w fun e w' => e = .returned (.agg #[.int .i64 k, .int .u64 ls, .int .i64 tx, .int .u64 pv, .int .u64 un, .int .i64 pg, .int .i64 ak, .string a, .string b, .string c, .slice At lt ct, .slice Ad ld cd]) ∧ Below w.heap.size w w' := by
  have e2 : (kd == 2) = false := by simpa using hkd
  go_enter Try.func19, Try.ntmps19
  go_wp2_with fail
  refine bodyPost_ret (results_cell_row rfl _ _ (w.heap.size + 1) 39 #[.int .i64 k, .int .u64 ls, .int .i64 tx, .int .u64 pv, .int .u64 un, .int .i64 pg, .int .i64 ak, .string a, .string b, .string c, .slice At lt ct, .slice Ad ld cd] (0, 0) _ rfl (by (first | exact blk_alloc (blk_alloc1 _ _ _) _ | (simp [World.alloc]; done))) Try.underlying39 rfl (by kernel_rfl)) rfl ?_
  exact ⟨rfl, below_alloc (below_alloc (below_alloc (Below.refl _ _) _) _) _⟩
set_option maxRecDepth 100000 in
set_option maxHeartbeats 8000000 in
/-- As its transaction's next one, no undo beyond it. -/
theorem record_nx (w : World) (tn nn k ls tx pv un pg ak : Int) (a b c : ByteArray) (At Ad : Option Addr) (lt ct ld cd : Nat) (lst : Int) (at' : Nat) (hat : at' < 100) (hku : k ≠ 2 ∨ un < 16 * ((at' : Int) + 1)) :
    Calls Try.prog 19 #[.agg #[.int .i64 2, .int .i64 tn, .int .i64 nn, .int .i64 k, .int .u64 ls, .int .i64 tx, .int .u64 pv, .int .u64 un, .int .i64 pg, .int .i64 ak, .string a, .string b, .string c, .slice At lt ct, .slice Ad ld cd], .int .u64 lst, .int .i64 at'] w fun e w' => e = .returned (.agg #[.int .i64 k, .int .u64 (16 * ((at' : Int) + 1)), .int .i64 tn, .int .u64 lst, .int .u64 un, .int .i64 pg, .int .i64 ak, .string a, .string b, .string c, .slice At lt ct, .slice Ad ld cd]) ∧ Below w.heap.size w w' := by
  have hw : IntKind.u64.wrap (16 * ((at' : Int) + 1)) = 16 * ((at' : Int) + 1) := by simp [IntKind.wrap, IntKind.bits, IntKind.signed]; omega
  by_cases hk : k = 2
  · have e2 : (k == 2) = true := by simpa using hk
    have hun : un < 16 * ((at' : Int) + 1) := hku.elim (fun h => absurd hk h) id
    have hd : decide (16 * ((at' : Int) + 1) ≤ un) = false := by simp; omega
    clear hk
    go_enter Try.func19, Try.ntmps19
    go_wp2_with fail

    refine bodyPost_ret (results_cell_row rfl _ _ (w.heap.size + 1) 39 #[.int .i64 k, .int .u64 (16 * ((at' : Int) + 1)), .int .i64 tn, .int .u64 lst, .int .u64 un, .int .i64 pg, .int .i64 ak, .string a, .string b, .string c, .slice At lt ct, .slice Ad ld cd] (0, 0) _ rfl (by (first | exact blk_alloc (blk_alloc1 _ _ _) _ | (simp [World.alloc]; done))) Try.underlying39 rfl (by kernel_rfl)) rfl ?_
    exact ⟨rfl, below_alloc (below_alloc (below_alloc (Below.refl _ _) _) _) _⟩
  · have e2 : (k == 2) = false := by simpa using hk
    go_enter Try.func19, Try.ntmps19
    go_wp2_with fail
    refine bodyPost_ret (results_cell_row rfl _ _ (w.heap.size + 1) 39 #[.int .i64 k, .int .u64 (16 * ((at' : Int) + 1)), .int .i64 tn, .int .u64 lst, .int .u64 un, .int .i64 pg, .int .i64 ak, .string a, .string b, .string c, .slice At lt ct, .slice Ad ld cd] (0, 0) _ rfl (by (first | exact blk_alloc (blk_alloc1 _ _ _) _ | (simp [World.alloc]; done))) Try.underlying39 rfl (by kernel_rfl)) rfl ?_
    exact ⟨rfl, below_alloc (below_alloc (below_alloc (Below.refl _ _) _) _) _⟩
set_option maxRecDepth 100000 in
set_option maxHeartbeats 8000000 in
/-- As its transaction's next one, its undo laid to nothing. -/
theorem record_un (w : World) (tn nn ls tx pv un pg ak : Int) (a b c : ByteArray) (At Ad : Option Addr) (lt ct ld cd : Nat) (lst : Int) (at' : Nat) (hat : at' < 100) (hun : 16 * ((at' : Int) + 1) ≤ un) :
    Calls Try.prog 19 #[.agg #[.int .i64 2, .int .i64 tn, .int .i64 nn, .int .i64 2, .int .u64 ls, .int .i64 tx, .int .u64 pv, .int .u64 un, .int .i64 pg, .int .i64 ak, .string a, .string b, .string c, .slice At lt ct, .slice Ad ld cd], .int .u64 lst, .int .i64 at'] w fun e w' => e = .returned (.agg #[.int .i64 2, .int .u64 (16 * ((at' : Int) + 1)), .int .i64 tn, .int .u64 lst, .int .u64 0, .int .i64 pg, .int .i64 ak, .string a, .string b, .string c, .slice At lt ct, .slice Ad ld cd]) ∧ Below w.heap.size w w' := by
  have hw : IntKind.u64.wrap (16 * ((at' : Int) + 1)) = 16 * ((at' : Int) + 1) := by simp [IntKind.wrap, IntKind.bits, IntKind.signed]; omega
  have hd : decide (16 * ((at' : Int) + 1) ≤ un) = true := by simp; omega
  go_enter Try.func19, Try.ntmps19
  go_wp2_with fail

  refine bodyPost_ret (results_cell_row rfl _ _ (w.heap.size + 1) 39 #[.int .i64 2, .int .u64 (16 * ((at' : Int) + 1)), .int .i64 tn, .int .u64 lst, .int .u64 0, .int .i64 pg, .int .i64 ak, .string a, .string b, .string c, .slice At lt ct, .slice Ad ld cd] (0, 0) _ rfl (by (first | exact blk_alloc (blk_alloc1 _ _ _) _ | (simp [World.alloc]; done))) Try.underlying39 rfl (by kernel_rfl)) rfl ?_
  exact ⟨rfl, below_alloc (below_alloc (below_alloc (Below.refl _ _) _) _) _⟩
end Go.Proofs.Yteaklmafjmnmiaa
end
