/- The calls of act's ways, May. -/
import Derived.Test.YteaklmafjmnmiaaYRfT
import Derived.ProofKit
import Derived.MapKept
import Derived.Maps.Keyed
import Derived.ChangeMaps5
section
namespace Go.Proofs.Yteaklmafjmnmiaa
open Go.RowKit Go.Proofs.YteaklmafjmnmiaaW.PrintWords Go.Proofs.YteaklmafjmnmiaaW.PrintLast Go.Proofs.YteaklmafjmnmiaaW.PrintMore
open Rf Go.ChangeMaps
set_option linter.unusedVariables false
set_option linter.unusedSimpArgs false
section
variable {P : Program} {w : World} {b : Nat} {es : Array MapEntry} {clock : Nat} {t k e : TypeId}
theorem run_makeMap0 (P : Program) (w : World) (t : TypeId) : (Instr.makeMap t none).run P w = .ok (.map (some w.heap.size)) (w.alloc (.map #[] 0)) := rfl
theorem isKey_int (n : Int) : MapKept.IsKey (.int .i64) (.int .i64 n) := by simp [MapKept.IsKey]
theorem run_mapUpd (ht : P.underlying t = some (.map k e)) (hk : P.underlying k = some (.int .i64)) (hb : w.heap[b]? = some (.map es clock)) (n : Int) (v : Value) (hf : Instr.findNow (.int .i64) (.int .i64 n) es.toList 0 = some none) :
    (Instr.mapUpdate t (.map (some b)) (.int .i64 n) v).run P w = .ok () (setBlock w b (.map (es.push ⟨.int .i64 n, v, clock⟩) (clock + 1))) := by
  simp [setBlock, Instr.mapUpdate, run_underlying ht, MapKept.run_getObj_map hb, MapKept.run_checkKey hk (isKey_int n), MapKept.run_findKey hk hf, MapKept.run_setObj_map _ hb, Result.andThen]
theorem run_look (ht : P.underlying t = some (.map k e)) (hk : P.underlying k = some (.int .i64)) (hb : w.heap[b]? = some (.map es clock)) (n : Int) {i : Nat} {v : Value} (hf : Instr.findNow (.int .i64) (.int .i64 n) es.toList 0 = some (some (i, v))) :
    (Instr.lookup t (.map (some b)) (.int .i64 n) false).run P w = .ok v w := by
  simp [Instr.lookup, run_underlying ht, MapKept.run_getObj_map hb, MapKept.run_checkKey hk (isKey_int n), MapKept.run_findKey hk hf, Result.andThen]
theorem run_lookOk (ht : P.underlying t = some (.map k e)) (hk : P.underlying k = some (.int .i64)) (hb : w.heap[b]? = some (.map es clock)) (n : Int) {i : Nat} {v : Value} (hf : Instr.findNow (.int .i64) (.int .i64 n) es.toList 0 = some (some (i, v))) :
    (Instr.lookup t (.map (some b)) (.int .i64 n) true).run P w = .ok (.tuple #[v, .bool true]) w := by
  simp [Instr.lookup, run_underlying ht, MapKept.run_getObj_map hb, MapKept.run_checkKey hk (isKey_int n), MapKept.run_findKey hk hf, Result.andThen]
theorem run_lookNo (ht : P.underlying t = some (.map k e)) (hk : P.underlying k = some (.int .i64)) (hb : w.heap[b]? = some (.map es clock)) (n : Int) {z : Value} (hz : (zeroValue e).run P w = .ok z w) (hf : Instr.findNow (.int .i64) (.int .i64 n) es.toList 0 = some none) :
    (Instr.lookup t (.map (some b)) (.int .i64 n) true).run P w = .ok (.tuple #[z, .bool false]) w := by
  simp [Instr.lookup, run_underlying ht, MapKept.run_getObj_map hb, MapKept.run_checkKey hk (isKey_int n), MapKept.run_findKey hk hf, Result.andThen, hz]
end
theorem below_block {w0 w : World} {base b : Nat} {es : Array MapEntry} {clock : Nat} (h : Below base w0 w) (hb : w.heap[b]? = some (.map es clock)) (hl : base ≤ b) (o : Obj) : Below base w0 (setBlock w b o) :=
  h.grown (row := some b) ⟨rfl, rfl, rfl, by simp [setBlock], fun k _ hk => heap_setBlock_other hb o (fun e => hk (by rw [e]))⟩ (Nat.le_trans hl (Nat.le_of_lt (Array.getElem?_eq_some_iff.1 hb).1)) (fun g hg => by injection hg with hg; omega)
def fn0 (k : Nat) : Value := .func (.func k) #[] #[]
/-- What a way is, by its may, do, turn. -/
def wayV (may do_ : Nat) (turn : Int) : Value := .agg #[fn0 may, fn0 do_, .int .i64 turn]
def waysE : Array MapEntry := #[⟨.int .i64 1, wayV 61 62 3, 0⟩, ⟨.int .i64 2, wayV 64 65 2, 1⟩, ⟨.int .i64 3, wayV 68 69 1, 2⟩]
set_option maxRecDepth 100000 in
set_option maxHeartbeats 1000000 in
theorem ways_calls (w : World) : Calls Try.prog 52 #[] w fun e w' => e = .returned (.map (some w.heap.size)) ∧ w'.heap[w.heap.size]? = some (.map waysE 3) ∧ Below w.heap.size w w' := by
  go_enter Try.func52, Try.ntmps52
  go_wp2_with fail
  rw [run_makeMap0]
  have h0 : (w.alloc (.map #[] 0)).heap[w.heap.size]? = some (.map #[] 0) := heap_alloc_new w _
  have hB0 : Below w.heap.size w (w.alloc (.map #[] 0)) := below_alloc (Below.refl _ _) _
  generalize w.alloc (.map #[] 0) = w1 at h0 hB0 ⊢
  go_wp2_with fail
  rw [run_mapUpd Try.underlying97 Try.underlying33 h0 1 _ rfl]
  obtain ⟨w2, e0⟩ : ∃ x, setBlock w1 w.heap.size (.map (#[].push ⟨.int .i64 1, (.agg #[.func (.func 61) #[] #[], .func (.func 62) #[] #[], .int .i64 3]), 0⟩) (0 + 1)) = x := ⟨_, rfl⟩
  have h1 := heap_setBlock_same h0 (.map (#[].push ⟨.int .i64 1, (.agg #[.func (.func 61) #[] #[], .func (.func 62) #[] #[], .int .i64 3]), 0⟩) (0 + 1))
  have hB1 := below_block hB0 h0 (Nat.le_refl _) (.map (#[].push ⟨.int .i64 1, (.agg #[.func (.func 61) #[] #[], .func (.func 62) #[] #[], .int .i64 3]), 0⟩) (0 + 1))
  rw [e0] at h1 hB1 ⊢
  clear e0 h0 hB0
  go_wp2_with fail
  rw [run_mapUpd Try.underlying97 Try.underlying33 h1 2 _ rfl]
  obtain ⟨w3, e1⟩ : ∃ x, setBlock w2 w.heap.size (.map ((#[].push ⟨.int .i64 1, (.agg #[.func (.func 61) #[] #[], .func (.func 62) #[] #[], .int .i64 3]), 0⟩).push ⟨.int .i64 2, (.agg #[.func (.func 64) #[] #[], .func (.func 65) #[] #[], .int .i64 2]), 1⟩) (1 + 1)) = x := ⟨_, rfl⟩
  have h2 := heap_setBlock_same h1 (.map ((#[].push ⟨.int .i64 1, (.agg #[.func (.func 61) #[] #[], .func (.func 62) #[] #[], .int .i64 3]), 0⟩).push ⟨.int .i64 2, (.agg #[.func (.func 64) #[] #[], .func (.func 65) #[] #[], .int .i64 2]), 1⟩) (1 + 1))
  have hB2 := below_block hB1 h1 (Nat.le_refl _) (.map ((#[].push ⟨.int .i64 1, (.agg #[.func (.func 61) #[] #[], .func (.func 62) #[] #[], .int .i64 3]), 0⟩).push ⟨.int .i64 2, (.agg #[.func (.func 64) #[] #[], .func (.func 65) #[] #[], .int .i64 2]), 1⟩) (1 + 1))
  rw [e1] at h2 hB2 ⊢
  clear e1 h1 hB1
  go_wp2_with fail
  rw [run_mapUpd Try.underlying97 Try.underlying33 h2 3 _ rfl]
  obtain ⟨w4, e2⟩ : ∃ x, setBlock w3 w.heap.size (.map (((#[].push ⟨.int .i64 1, (.agg #[.func (.func 61) #[] #[], .func (.func 62) #[] #[], .int .i64 3]), 0⟩).push ⟨.int .i64 2, (.agg #[.func (.func 64) #[] #[], .func (.func 65) #[] #[], .int .i64 2]), 1⟩).push ⟨.int .i64 3, (.agg #[.func (.func 68) #[] #[], .func (.func 69) #[] #[], .int .i64 1]), 2⟩) (2 + 1)) = x := ⟨_, rfl⟩
  have h3 := heap_setBlock_same h2 (.map (((#[].push ⟨.int .i64 1, (.agg #[.func (.func 61) #[] #[], .func (.func 62) #[] #[], .int .i64 3]), 0⟩).push ⟨.int .i64 2, (.agg #[.func (.func 64) #[] #[], .func (.func 65) #[] #[], .int .i64 2]), 1⟩).push ⟨.int .i64 3, (.agg #[.func (.func 68) #[] #[], .func (.func 69) #[] #[], .int .i64 1]), 2⟩) (2 + 1))
  have hB3 := below_block hB2 h2 (Nat.le_refl _) (.map (((#[].push ⟨.int .i64 1, (.agg #[.func (.func 61) #[] #[], .func (.func 62) #[] #[], .int .i64 3]), 0⟩).push ⟨.int .i64 2, (.agg #[.func (.func 64) #[] #[], .func (.func 65) #[] #[], .int .i64 2]), 1⟩).push ⟨.int .i64 3, (.agg #[.func (.func 68) #[] #[], .func (.func 69) #[] #[], .int .i64 1]), 2⟩) (2 + 1))
  rw [e2] at h3 hB3 ⊢
  clear e2 h2 hB2
  go_wp2_with fail
  go_ret
  exact ⟨rfl, h3, hB3⟩
end Go.Proofs.Yteaklmafjmnmiaa
end
