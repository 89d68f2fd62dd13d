/- chain's ways; what each kind of record does to its transaction. -/
import Derived.Test.YteaklmafjmnmiaaYMgApb
import Derived.Laws.EntriesVeiled
import Derived.BigRegion
import Derived.BigQuiet
section
namespace Go.Proofs.Yteaklmafjmnmiaa
open Go.RowKit Go.Proofs.YteaklmafjmnmiaaW.PrintWords Go.Proofs.YteaklmafjmnmiaaW.PrintLast Go.Proofs.YteaklmafjmnmiaaW.PrintMore
open Rf MapL MapV
set_option linter.unusedVariables false
set_option linter.unusedSimpArgs false
/-- A table one of whose transactions has changed. -/
def updX (X : Int → TX) (id : Int) (x : TX) : Int → TX := fun y => if y = id then x else X y
theorem Tab.setTx {w0 : Wb} {w w' : World} {t mb : Nat} {bx : Int → Nat} {ks : List Int} {X : Int → TX} (h : Tab w0 w t mb bx ks X) (id : Int) (hi : id ∈ ks) (x : TX)
    (hx : w'.heap[bx id]? = some (.cells (txV id x) 74 (0, 0))) (ho : ∀ k, k < w.heap.size → k ≠ bx id → w'.heap[k]? = w.heap[k]?) (hb : Bel w0 w') : Tab w0 w' t mb bx ks (updX X id x) := by
  refine ⟨(ho t (blk_lt h.box) (fun e => (h.neb id hi).2 e.symm)).trans h.box, h.map.of_block (ho mb h.map.lt (fun e => (h.neb id hi).1 e.symm)), fun y hy => ?_, h.inj, hb, h.get, h.gem, h.geb⟩
  unfold updX
  by_cases e : y = id
  · subst e; rw [if_pos rfl]; exact hx
  · rw [if_neg e, ho _ (h.lt y hy) (fun q => e (h.inj y hy id hi q))]
    exact h.at_ y hy
set_option maxRecDepth 100000 in
set_option maxHeartbeats 4000000 in
theorem ways_tab (w : World) (k : Int) (f g : Nat) (h : (k = 1 ∧ f = 43 ∧ g = 44) ∨ (k = 2 ∧ f = 45 ∧ g = 46) ∨ (k = 3 ∧ f = 43 ∧ g = 47) ∨ (k = 4 ∧ f = 43 ∧ g = 48) ∨ (k = 5 ∧ f = 49 ∧ g = 50) ∨ (k = 6 ∧ f = 43 ∧ g = 51)) :
    Calls Try.prog 26 #[.int .i64 k] w fun e w' => e = .returned (.agg #[fn0 f, fn0 g]) ∧ Below w.heap.size w w' := by
  unfold fn0
  rcases h with ⟨rfl, rfl, rfl⟩ | ⟨rfl, rfl, rfl⟩ | ⟨rfl, rfl, rfl⟩ | ⟨rfl, rfl, rfl⟩ | ⟨rfl, rfl, rfl⟩ | ⟨rfl, rfl, rfl⟩
  all_goals
    go_enter Try.func26, Try.ntmps26
    go_wp2_with fail
    refine bodyPost_ret (results_cell_row rfl _ _ w.heap.size 78 #[_, _] (0, 0) _ rfl (blk_alloc (heap_alloc_new w _) _) Try.underlying78 rfl (by kernel_rfl)) rfl ?_
    exact ⟨rfl, below_alloc (below_alloc (Below.refl _ _) _) _⟩
set_option maxRecDepth 100000 in
theorem open_calls (w : World) (g : Nat) (id : Int) (x : TX) (k ls tx pv un pg ak : Int) (a b c : ByteArray) (At Ad : Option Addr) (lt ct ld cd : Nat) (hx : w.heap[g]? = some (.cells (txV id x) 74 (0, 0))) :
    Calls Try.prog 43 #[.pointer (some ⟨g, 0, none⟩), .agg #[.int .i64 k, .int .u64 ls, .int .i64 tx, .int .u64 pv, .int .u64 un, .int .i64 pg, .int .i64 ak, .string a, .string b, .string c, .slice At lt ct, .slice Ad ld cd]] w fun e w' => e = .returned (.bool (x.st == 0)) ∧ Below w.heap.size w w' := by
  have HX := Aside0.mk (show ∀ ob, (w.alloc ob).heap[g]? = some (.cells (txV id x) 74 (0, 0)) from fun ob => blk_alloc hx ob)
  have y1 : ∀ ob, (w.alloc ob).cell? ⟨g, 1, none⟩ = some (.int .i64 x.st) := fun ob => blk_cell (HX.out ob) 1
  clear hx
  go_enter Try.func43, Try.ntmps43
  go_wp2_with fail
  go_ret
  exact ⟨rfl, below_alloc (Below.refl _ _) _⟩
set_option maxRecDepth 100000 in
theorem shut_calls (w : World) (g : Nat) (id : Int) (x : TX) (k ls tx pv un pg ak : Int) (a b c : ByteArray) (At Ad : Option Addr) (lt ct ld cd : Nat) (hx : w.heap[g]? = some (.cells (txV id x) 74 (0, 0))) :
    Calls Try.prog 49 #[.pointer (some ⟨g, 0, none⟩), .agg #[.int .i64 k, .int .u64 ls, .int .i64 tx, .int .u64 pv, .int .u64 un, .int .i64 pg, .int .i64 ak, .string a, .string b, .string c, .slice At lt ct, .slice Ad ld cd]] w fun e w' => e = .returned (.bool (x.st != 0)) ∧ Below w.heap.size w w' := by
  have HX := Aside0.mk (show ∀ ob, (w.alloc ob).heap[g]? = some (.cells (txV id x) 74 (0, 0)) from fun ob => blk_alloc hx ob)
  have y1 : ∀ ob, (w.alloc ob).cell? ⟨g, 1, none⟩ = some (.int .i64 x.st) := fun ob => blk_cell (HX.out ob) 1
  clear hx
  go_enter Try.func49, Try.ntmps49
  go_wp2_with fail
  go_ret
  exact ⟨rfl, below_alloc (Below.refl _ _) _⟩
attribute [local go_sem] max2_int min2_int max_two min_two
set_option maxRecDepth 100000 in
set_option maxHeartbeats 4000000 in
theorem update_calls (w0 : Wb) (w : World) (t mb : Nat) (bx : Int → Nat) (ks : List Int) (X : Int → TX) (id : Int) (k ls tx pv un pg ak : Int) (a b c : ByteArray) (At Ad : Option Addr) (lt ct ld cd : Nat) (h : Tab w0 w t mb bx ks X) (hi : id ∈ ks) :
    Calls Try.prog 44 #[.pointer (some ⟨bx id, 0, none⟩), .pointer (some ⟨t, 0, none⟩), .agg #[.int .i64 k, .int .u64 ls, .int .i64 tx, .int .u64 pv, .int .u64 un, .int .i64 pg, .int .i64 ak, .string a, .string b, .string c, .slice At lt ct, .slice Ad ld cd]] w fun e w' => e = .returned (.tuple #[]) ∧ Tab w0 w' t mb bx ks (updX X id ⟨(X id).st, (X id).last, ls, (X id).need, (X id).sv⟩) := by
  have HH := Aside0.mk h
  have HI := Aside0.mk hi
  have y1 : ∀ ob, (w.alloc ob).cell? ⟨bx id, 1, none⟩ = some (.int .i64 (X id).st) := fun ob => blk_cell (blk_alloc (HH.out.at_ id HI.out) ob) 1
  have y2 : ∀ ob, (w.alloc ob).cell? ⟨bx id, 2, none⟩ = some (.int .u64 (X id).last) := fun ob => blk_cell (blk_alloc (HH.out.at_ id HI.out) ob) 2
  have y3 : ∀ ob, (w.alloc ob).cell? ⟨bx id, 3, none⟩ = some (.int .u64 (X id).next) := fun ob => blk_cell (blk_alloc (HH.out.at_ id HI.out) ob) 3
  have y4 : ∀ ob, (w.alloc ob).cell? ⟨bx id, 4, none⟩ = some (.int .i64 (X id).need) := fun ob => blk_cell (blk_alloc (HH.out.at_ id HI.out) ob) 4
  have z1 : ∀ ob, (w.alloc ob).frozen? ⟨bx id, 1, none⟩ = false := fun ob => blk_frozen (blk_alloc (HH.out.at_ id HI.out) ob) 1
  have z3 : ∀ ob, (w.alloc ob).frozen? ⟨bx id, 3, none⟩ = false := fun ob => blk_frozen (blk_alloc (HH.out.at_ id HI.out) ob) 3
  have z4 : ∀ ob, (w.alloc ob).frozen? ⟨bx id, 4, none⟩ = false := fun ob => blk_frozen (blk_alloc (HH.out.at_ id HI.out) ob) 4
  clear h hi
  go_enter Try.func44, Try.ntmps44
  go_wp2_with fail
  go_end0
  exact ⟨rfl, HH.out.setTx id HI.out ⟨(X id).st, (X id).last, ls, (X id).need, (X id).sv⟩ (blk_put (cs' := #[.int .i64 id, .int .i64 (X id).st, .int .u64 (X id).last, .int .u64 ls, .int .i64 (X id).need, (X id).sv]) (blk_alloc (HH.out.at_ id HI.out) (.cells #[.int .i64 k, .int .u64 ls, .int .i64 tx, .int .u64 pv, .int .u64 un, .int .i64 pg, .int .i64 ak, .string a, .string b, .string c, .slice At lt ct, .slice Ad ld cd] 39)) 3 (.int .u64 ls) rfl) (fun q hq hne => ((Below.heap_setCell _ ⟨bx id, 3, none⟩ _ q hne).trans ((below_alloc (Below.refl w.heap.size w) (.cells #[.int .i64 k, .int .u64 ls, .int .i64 tx, .int .u64 pv, .int .u64 un, .int .i64 pg, .int .i64 ak, .string a, .string b, .string c, .slice At lt ct, .slice Ad ld cd] 39)).block q hq))) (Bel.set (g := bx id) (j := 3) (v := (.int .u64 ls)) (HH.out.bel.then (below_alloc (Below.refl w.heap.size w) (.cells #[.int .i64 k, .int .u64 ls, .int .i64 tx, .int .u64 pv, .int .u64 un, .int .i64 pg, .int .i64 ak, .string a, .string b, .string c, .slice At lt ct, .slice Ad ld cd] 39))) (HH.out.geb id HI.out))⟩
set_option maxRecDepth 100000 in
set_option maxHeartbeats 4000000 in
theorem commit_calls (w0 : Wb) (w : World) (t mb : Nat) (bx : Int → Nat) (ks : List Int) (X : Int → TX) (id : Int) (k ls tx pv un pg ak : Int) (a b c : ByteArray) (At Ad : Option Addr) (lt ct ld cd : Nat) (h : Tab w0 w t mb bx ks X) (hi : id ∈ ks) :
    Calls Try.prog 47 #[.pointer (some ⟨bx id, 0, none⟩), .pointer (some ⟨t, 0, none⟩), .agg #[.int .i64 k, .int .u64 ls, .int .i64 tx, .int .u64 pv, .int .u64 un, .int .i64 pg, .int .i64 ak, .string a, .string b, .string c, .slice At lt ct, .slice Ad ld cd]] w fun e w' => e = .returned (.tuple #[]) ∧ Tab w0 w' t mb bx ks (updX X id ⟨1, (X id).last, 0, 27, (X id).sv⟩) := by
  have HH := Aside0.mk h
  have HI := Aside0.mk hi
  have y1 : ∀ ob, (w.alloc ob).cell? ⟨bx id, 1, none⟩ = some (.int .i64 (X id).st) := fun ob => blk_cell (blk_alloc (HH.out.at_ id HI.out) ob) 1
  have y2 : ∀ ob, (w.alloc ob).cell? ⟨bx id, 2, none⟩ = some (.int .u64 (X id).last) := fun ob => blk_cell (blk_alloc (HH.out.at_ id HI.out) ob) 2
  have y3 : ∀ ob, (w.alloc ob).cell? ⟨bx id, 3, none⟩ = some (.int .u64 (X id).next) := fun ob => blk_cell (blk_alloc (HH.out.at_ id HI.out) ob) 3
  have y4 : ∀ ob, (w.alloc ob).cell? ⟨bx id, 4, none⟩ = some (.int .i64 (X id).need) := fun ob => blk_cell (blk_alloc (HH.out.at_ id HI.out) ob) 4
  have z1 : ∀ ob, (w.alloc ob).frozen? ⟨bx id, 1, none⟩ = false := fun ob => blk_frozen (blk_alloc (HH.out.at_ id HI.out) ob) 1
  have z3 : ∀ ob, (w.alloc ob).frozen? ⟨bx id, 3, none⟩ = false := fun ob => blk_frozen (blk_alloc (HH.out.at_ id HI.out) ob) 3
  have z4 : ∀ ob, (w.alloc ob).frozen? ⟨bx id, 4, none⟩ = false := fun ob => blk_frozen (blk_alloc (HH.out.at_ id HI.out) ob) 4
  clear h hi
  go_enter Try.func47, Try.ntmps47
  go_wp2_with fail
  go_end0
  exact ⟨rfl, HH.out.setTx id HI.out ⟨1, (X id).last, 0, 27, (X id).sv⟩ (blk_put (cs' := #[.int .i64 id, .int .i64 1, .int .u64 (X id).last, .int .u64 0, .int .i64 27, (X id).sv]) (blk_put (cs' := #[.int .i64 id, .int .i64 1, .int .u64 (X id).last, .int .u64 0, .int .i64 (X id).need, (X id).sv]) (blk_put (cs' := #[.int .i64 id, .int .i64 1, .int .u64 (X id).last, .int .u64 (X id).next, .int .i64 (X id).need, (X id).sv]) (blk_alloc (HH.out.at_ id HI.out) (.cells #[.int .i64 k, .int .u64 ls, .int .i64 tx, .int .u64 pv, .int .u64 un, .int .i64 pg, .int .i64 ak, .string a, .string b, .string c, .slice At lt ct, .slice Ad ld cd] 39)) 1 (.int .i64 1) rfl) 3 (.int .u64 0) rfl) 4 (.int .i64 27) rfl) (fun q hq hne => ((Below.heap_setCell _ ⟨bx id, 4, none⟩ _ q hne).trans ((Below.heap_setCell _ ⟨bx id, 3, none⟩ _ q hne).trans ((Below.heap_setCell _ ⟨bx id, 1, none⟩ _ q hne).trans ((below_alloc (Below.refl w.heap.size w) (.cells #[.int .i64 k, .int .u64 ls, .int .i64 tx, .int .u64 pv, .int .u64 un, .int .i64 pg, .int .i64 ak, .string a, .string b, .string c, .slice At lt ct, .slice Ad ld cd] 39)).block q hq))))) (Bel.set (g := bx id) (j := 4) (v := (.int .i64 27)) (Bel.set (g := bx id) (j := 3) (v := (.int .u64 0)) (Bel.set (g := bx id) (j := 1) (v := (.int .i64 1)) (HH.out.bel.then (below_alloc (Below.refl w.heap.size w) (.cells #[.int .i64 k, .int .u64 ls, .int .i64 tx, .int .u64 pv, .int .u64 un, .int .i64 pg, .int .i64 ak, .string a, .string b, .string c, .slice At lt ct, .slice Ad ld cd] 39))) (HH.out.geb id HI.out)) (HH.out.geb id HI.out)) (HH.out.geb id HI.out))⟩
set_option maxRecDepth 100000 in
set_option maxHeartbeats 4000000 in
theorem save_calls (w0 : Wb) (w : World) (t mb : Nat) (bx : Int → Nat) (ks : List Int) (X : Int → TX) (id : Int) (k ls tx pv un pg ak : Int) (a b c : ByteArray) (At Ad : Option Addr) (lt ct ld cd : Nat) (h : Tab w0 w t mb bx ks X) (hi : id ∈ ks) :
    Calls Try.prog 51 #[.pointer (some ⟨bx id, 0, none⟩), .pointer (some ⟨t, 0, none⟩), .agg #[.int .i64 k, .int .u64 ls, .int .i64 tx, .int .u64 pv, .int .u64 un, .int .i64 pg, .int .i64 ak, .string a, .string b, .string c, .slice At lt ct, .slice Ad ld cd]] w fun e w' => e = .returned (.tuple #[]) ∧ Tab w0 w' t mb bx ks (updX X id ⟨(X id).st, (X id).last, (X id).next, (X id).need, (X id).sv⟩) := by
  have HH := Aside0.mk h
  have HI := Aside0.mk hi
  have y1 : ∀ ob, (w.alloc ob).cell? ⟨bx id, 1, none⟩ = some (.int .i64 (X id).st) := fun ob => blk_cell (blk_alloc (HH.out.at_ id HI.out) ob) 1
  have y2 : ∀ ob, (w.alloc ob).cell? ⟨bx id, 2, none⟩ = some (.int .u64 (X id).last) := fun ob => blk_cell (blk_alloc (HH.out.at_ id HI.out) ob) 2
  have y3 : ∀ ob, (w.alloc ob).cell? ⟨bx id, 3, none⟩ = some (.int .u64 (X id).next) := fun ob => blk_cell (blk_alloc (HH.out.at_ id HI.out) ob) 3
  have y4 : ∀ ob, (w.alloc ob).cell? ⟨bx id, 4, none⟩ = some (.int .i64 (X id).need) := fun ob => blk_cell (blk_alloc (HH.out.at_ id HI.out) ob) 4
  have z1 : ∀ ob, (w.alloc ob).frozen? ⟨bx id, 1, none⟩ = false := fun ob => blk_frozen (blk_alloc (HH.out.at_ id HI.out) ob) 1
  have z3 : ∀ ob, (w.alloc ob).frozen? ⟨bx id, 3, none⟩ = false := fun ob => blk_frozen (blk_alloc (HH.out.at_ id HI.out) ob) 3
  have z4 : ∀ ob, (w.alloc ob).frozen? ⟨bx id, 4, none⟩ = false := fun ob => blk_frozen (blk_alloc (HH.out.at_ id HI.out) ob) 4
  clear h hi
  go_enter Try.func51, Try.ntmps51
  go_wp2_with fail
  go_end0
  exact ⟨rfl, HH.out.setTx id HI.out ⟨(X id).st, (X id).last, (X id).next, (X id).need, (X id).sv⟩ (blk_alloc (HH.out.at_ id HI.out) (.cells #[.int .i64 k, .int .u64 ls, .int .i64 tx, .int .u64 pv, .int .u64 un, .int .i64 pg, .int .i64 ak, .string a, .string b, .string c, .slice At lt ct, .slice Ad ld cd] 39)) (fun q hq hne => ((below_alloc (Below.refl w.heap.size w) (.cells #[.int .i64 k, .int .u64 ls, .int .i64 tx, .int .u64 pv, .int .u64 un, .int .i64 pg, .int .i64 ak, .string a, .string b, .string c, .slice At lt ct, .slice Ad ld cd] 39)).block q hq)) (HH.out.bel.then (below_alloc (Below.refl w.heap.size w) (.cells #[.int .i64 k, .int .u64 ls, .int .i64 tx, .int .u64 pv, .int .u64 un, .int .i64 pg, .int .i64 ak, .string a, .string b, .string c, .slice At lt ct, .slice Ad ld cd] 39)))⟩
set_option maxRecDepth 100000 in
set_option maxHeartbeats 4000000 in
theorem abort0_calls (w0 : Wb) (w : World) (t mb : Nat) (bx : Int → Nat) (ks : List Int) (X : Int → TX) (id : Int) (k ls tx pv un pg ak : Int) (a b c : ByteArray) (At Ad : Option Addr) (lt ct ld cd : Nat) (h : Tab w0 w t mb bx ks X) (hi : id ∈ ks) (hn : 0 ≤ (X id).need ∧ (X id).need ≤ 27) :
    Calls Try.prog 48 #[.pointer (some ⟨bx id, 0, none⟩), .pointer (some ⟨t, 0, none⟩), .agg #[.int .i64 k, .int .u64 ls, .int .i64 tx, .int .u64 pv, .int .u64 un, .int .i64 pg, .int .i64 ak, .string a, .string b, .string c, .slice At lt ct, .slice Ad ld cd]] w fun e w' => e = .returned (.tuple #[]) ∧ Tab w0 w' t mb bx ks (updX X id ⟨2, (X id).last, (X id).next, 0, (X id).sv⟩) := by
  have HH := Aside0.mk h
  have HI := Aside0.mk hi
  have y1 : ∀ ob, (w.alloc ob).cell? ⟨bx id, 1, none⟩ = some (.int .i64 (X id).st) := fun ob => blk_cell (blk_alloc (HH.out.at_ id HI.out) ob) 1
  have y2 : ∀ ob, (w.alloc ob).cell? ⟨bx id, 2, none⟩ = some (.int .u64 (X id).last) := fun ob => blk_cell (blk_alloc (HH.out.at_ id HI.out) ob) 2
  have y3 : ∀ ob, (w.alloc ob).cell? ⟨bx id, 3, none⟩ = some (.int .u64 (X id).next) := fun ob => blk_cell (blk_alloc (HH.out.at_ id HI.out) ob) 3
  have y4 : ∀ ob, (w.alloc ob).cell? ⟨bx id, 4, none⟩ = some (.int .i64 (X id).need) := fun ob => blk_cell (blk_alloc (HH.out.at_ id HI.out) ob) 4
  have z1 : ∀ ob, (w.alloc ob).frozen? ⟨bx id, 1, none⟩ = false := fun ob => blk_frozen (blk_alloc (HH.out.at_ id HI.out) ob) 1
  have z3 : ∀ ob, (w.alloc ob).frozen? ⟨bx id, 3, none⟩ = false := fun ob => blk_frozen (blk_alloc (HH.out.at_ id HI.out) ob) 3
  have z4 : ∀ ob, (w.alloc ob).frozen? ⟨bx id, 4, none⟩ = false := fun ob => blk_frozen (blk_alloc (HH.out.at_ id HI.out) ob) 4
  have hn1 := hn.1
  have hn2 := hn.2
  have hn3 : max (0 : Int) ((X id).need - 27) = 0 := by omega
  clear h hi
  go_enter Try.func48, Try.ntmps48
  go_wp2_with fail
  go_end0
  exact ⟨rfl, HH.out.setTx id HI.out ⟨2, (X id).last, (X id).next, 0, (X id).sv⟩ (blk_put (cs' := #[.int .i64 id, .int .i64 2, .int .u64 (X id).last, .int .u64 (X id).next, .int .i64 0, (X id).sv]) (blk_put (cs' := #[.int .i64 id, .int .i64 2, .int .u64 (X id).last, .int .u64 (X id).next, .int .i64 (X id).need, (X id).sv]) (blk_alloc (HH.out.at_ id HI.out) (.cells #[.int .i64 k, .int .u64 ls, .int .i64 tx, .int .u64 pv, .int .u64 un, .int .i64 pg, .int .i64 ak, .string a, .string b, .string c, .slice At lt ct, .slice Ad ld cd] 39)) 1 (.int .i64 2) rfl) 4 (.int .i64 0) rfl) (fun q hq hne => ((Below.heap_setCell _ ⟨bx id, 4, none⟩ _ q hne).trans ((Below.heap_setCell _ ⟨bx id, 1, none⟩ _ q hne).trans ((below_alloc (Below.refl w.heap.size w) (.cells #[.int .i64 k, .int .u64 ls, .int .i64 tx, .int .u64 pv, .int .u64 un, .int .i64 pg, .int .i64 ak, .string a, .string b, .string c, .slice At lt ct, .slice Ad ld cd] 39)).block q hq)))) (Bel.set (g := bx id) (j := 4) (v := (.int .i64 0)) (Bel.set (g := bx id) (j := 1) (v := (.int .i64 2)) (HH.out.bel.then (below_alloc (Below.refl w.heap.size w) (.cells #[.int .i64 k, .int .u64 ls, .int .i64 tx, .int .u64 pv, .int .u64 un, .int .i64 pg, .int .i64 ak, .string a, .string b, .string c, .slice At lt ct, .slice Ad ld cd] 39))) (HH.out.geb id HI.out)) (HH.out.geb id HI.out))⟩
set_option maxRecDepth 100000 in
set_option maxHeartbeats 4000000 in
theorem abort1_calls (w0 : Wb) (w : World) (t mb : Nat) (bx : Int → Nat) (ks : List Int) (X : Int → TX) (id : Int) (k ls tx pv un pg ak : Int) (a b c : ByteArray) (At Ad : Option Addr) (lt ct ld cd : Nat) (h : Tab w0 w t mb bx ks X) (hi : id ∈ ks) (hn : 27 < (X id).need ∧ (X id).need ≤ 1125899906842624) :
    Calls Try.prog 48 #[.pointer (some ⟨bx id, 0, none⟩), .pointer (some ⟨t, 0, none⟩), .agg #[.int .i64 k, .int .u64 ls, .int .i64 tx, .int .u64 pv, .int .u64 un, .int .i64 pg, .int .i64 ak, .string a, .string b, .string c, .slice At lt ct, .slice Ad ld cd]] w fun e w' => e = .returned (.tuple #[]) ∧ Tab w0 w' t mb bx ks (updX X id ⟨2, (X id).last, (X id).next, (X id).need - 27, (X id).sv⟩) := by
  have HH := Aside0.mk h
  have HI := Aside0.mk hi
  have y1 : ∀ ob, (w.alloc ob).cell? ⟨bx id, 1, none⟩ = some (.int .i64 (X id).st) := fun ob => blk_cell (blk_alloc (HH.out.at_ id HI.out) ob) 1
  have y2 : ∀ ob, (w.alloc ob).cell? ⟨bx id, 2, none⟩ = some (.int .u64 (X id).last) := fun ob => blk_cell (blk_alloc (HH.out.at_ id HI.out) ob) 2
  have y3 : ∀ ob, (w.alloc ob).cell? ⟨bx id, 3, none⟩ = some (.int .u64 (X id).next) := fun ob => blk_cell (blk_alloc (HH.out.at_ id HI.out) ob) 3
  have y4 : ∀ ob, (w.alloc ob).cell? ⟨bx id, 4, none⟩ = some (.int .i64 (X id).need) := fun ob => blk_cell (blk_alloc (HH.out.at_ id HI.out) ob) 4
  have z1 : ∀ ob, (w.alloc ob).frozen? ⟨bx id, 1, none⟩ = false := fun ob => blk_frozen (blk_alloc (HH.out.at_ id HI.out) ob) 1
  have z3 : ∀ ob, (w.alloc ob).frozen? ⟨bx id, 3, none⟩ = false := fun ob => blk_frozen (blk_alloc (HH.out.at_ id HI.out) ob) 3
  have z4 : ∀ ob, (w.alloc ob).frozen? ⟨bx id, 4, none⟩ = false := fun ob => blk_frozen (blk_alloc (HH.out.at_ id HI.out) ob) 4
  have hn1 := hn.1
  have hn2 := hn.2
  have hn3 : max (0 : Int) ((X id).need - 27) = (X id).need - 27 := by omega
  clear h hi
  go_enter Try.func48, Try.ntmps48
  go_wp2_with fail
  go_end0
  exact ⟨rfl, HH.out.setTx id HI.out ⟨2, (X id).last, (X id).next, (X id).need - 27, (X id).sv⟩ (blk_put (cs' := #[.int .i64 id, .int .i64 2, .int .u64 (X id).last, .int .u64 (X id).next, .int .i64 ((X id).need - 27), (X id).sv]) (blk_put (cs' := #[.int .i64 id, .int .i64 2, .int .u64 (X id).last, .int .u64 (X id).next, .int .i64 (X id).need, (X id).sv]) (blk_alloc (HH.out.at_ id HI.out) (.cells #[.int .i64 k, .int .u64 ls, .int .i64 tx, .int .u64 pv, .int .u64 un, .int .i64 pg, .int .i64 ak, .string a, .string b, .string c, .slice At lt ct, .slice Ad ld cd] 39)) 1 (.int .i64 2) rfl) 4 (.int .i64 ((X id).need - 27)) rfl) (fun q hq hne => ((Below.heap_setCell _ ⟨bx id, 4, none⟩ _ q hne).trans ((Below.heap_setCell _ ⟨bx id, 1, none⟩ _ q hne).trans ((below_alloc (Below.refl w.heap.size w) (.cells #[.int .i64 k, .int .u64 ls, .int .i64 tx, .int .u64 pv, .int .u64 un, .int .i64 pg, .int .i64 ak, .string a, .string b, .string c, .slice At lt ct, .slice Ad ld cd] 39)).block q hq)))) (Bel.set (g := bx id) (j := 4) (v := (.int .i64 ((X id).need - 27))) (Bel.set (g := bx id) (j := 1) (v := (.int .i64 2)) (HH.out.bel.then (below_alloc (Below.refl w.heap.size w) (.cells #[.int .i64 k, .int .u64 ls, .int .i64 tx, .int .u64 pv, .int .u64 un, .int .i64 pg, .int .i64 ak, .string a, .string b, .string c, .slice At lt ct, .slice Ad ld cd] 39))) (HH.out.geb id HI.out)) (HH.out.geb id HI.out))⟩
set_option maxRecDepth 100000 in
set_option maxHeartbeats 4000000 in
theorem undone_calls (w : World) (g : Nat) (id : Int) (x : TX) (k ls tx pv un pg ak : Int) (a b c : ByteArray) (At Ad : Option Addr) (lt ct ld cd : Nat) (hx : w.heap[g]? = some (.cells (txV id x) 74 (0, 0))) :
    Calls Try.prog 45 #[.pointer (some ⟨g, 0, none⟩), .agg #[.int .i64 k, .int .u64 ls, .int .i64 tx, .int .u64 pv, .int .u64 un, .int .i64 pg, .int .i64 ak, .string a, .string b, .string c, .slice At lt ct, .slice Ad ld cd]] w fun e w' => e = .returned (.bool ((x.st != 1) && decide (un < x.next))) ∧ Below w.heap.size w w' := by
  have hba : Below w.heap.size w (w.alloc (.cells #[.int .i64 k, .int .u64 ls, .int .i64 tx, .int .u64 pv, .int .u64 un, .int .i64 pg, .int .i64 ak, .string a, .string b, .string c, .slice At lt ct, .slice Ad ld cd] 39)) := below_alloc (Below.refl _ _) _
  have hxa : (w.alloc (.cells #[.int .i64 k, .int .u64 ls, .int .i64 tx, .int .u64 pv, .int .u64 un, .int .i64 pg, .int .i64 ak, .string a, .string b, .string c, .slice At lt ct, .slice Ad ld cd] 39)).heap[w.heap.size]? = some (.cells #[.int .i64 k, .int .u64 ls, .int .i64 tx, .int .u64 pv, .int .u64 un, .int .i64 pg, .int .i64 ak, .string a, .string b, .string c, .slice At lt ct, .slice Ad ld cd] 39 (0, 0)) := heap_alloc_new w _
  have hta := blk_alloc hx (.cells #[.int .i64 k, .int .u64 ls, .int .i64 tx, .int .u64 pv, .int .u64 un, .int .i64 pg, .int .i64 ak, .string a, .string b, .string c, .slice At lt ct, .slice Ad ld cd] 39)
  clear hx
  go_enter Try.func45, Try.ntmps45
  go_wp2_with fail
  generalize w.alloc (.cells #[.int .i64 k, .int .u64 ls, .int .i64 tx, .int .u64 pv, .int .u64 un, .int .i64 pg, .int .i64 ak, .string a, .string b, .string c, .slice At lt ct, .slice Ad ld cd] 39) = wa at hba hxa hta ⊢
  have HBA := Aside0.mk hba
  have y1 : wa.cell? ⟨g, 1, none⟩ = some (.int .i64 x.st) := blk_cell hta 1
  have y3 : wa.cell? ⟨g, 3, none⟩ = some (.int .u64 x.next) := blk_cell hta 3
  have u4 : wa.cell? ⟨w.heap.size, 4, none⟩ = some (.int .u64 un) := blk_cell hxa 4
  clear hba hxa hta
  cases hs : (x.st != 1) with
  | false =>
    go_quiet (fail)
    go_wp2_with fail
    go_ret
    exact ⟨by rw [hs]; rfl, ⟨HBA.out.os, HBA.out.tape, HBA.out.output, HBA.out.size, HBA.out.block⟩⟩
  | true =>
    go_quiet (fail)
    go_wp2_with fail
    go_ret
    exact ⟨by rw [hs, Bool.true_and]; rfl, ⟨HBA.out.os, HBA.out.tape, HBA.out.output, HBA.out.size, HBA.out.block⟩⟩
set_option maxRecDepth 100000 in
set_option maxHeartbeats 4000000 in
theorem end_calls (w0 : Wb) (w : World) (t mb : Nat) (bx : Int → Nat) (ks : List Int) (X : Int → TX) (id : Int) (k ls tx pv un pg ak : Int) (a b c : ByteArray) (At Ad : Option Addr) (lt ct ld cd : Nat) (h : Tab w0 w t mb bx ks X) (hi : id ∈ ks) :
    Calls Try.prog 50 #[.pointer (some ⟨bx id, 0, none⟩), .pointer (some ⟨t, 0, none⟩), .agg #[.int .i64 k, .int .u64 ls, .int .i64 tx, .int .u64 pv, .int .u64 un, .int .i64 pg, .int .i64 ak, .string a, .string b, .string c, .slice At lt ct, .slice Ad ld cd]] w fun e w' => e = .returned (.tuple #[]) ∧ Tab w0 w' t mb bx (ks.filter fun y => decide (y ≠ id)) X := by
  have hta := (h.next (below_alloc (Below.refl w.heap.size w) (.cells #[.int .i64 k, .int .u64 ls, .int .i64 tx, .int .u64 pv, .int .u64 un, .int .i64 pg, .int .i64 ak, .string a, .string b, .string c, .slice At lt ct, .slice Ad ld cd] 39))).next (below_drew (Below.refl _ _))
  clear h
  go_enter Try.func50, Try.ntmps50
  go_wp2_with fail
  generalize w.alloc (.cells #[.int .i64 k, .int .u64 ls, .int .i64 tx, .int .u64 pv, .int .u64 un, .int .i64 pg, .int .i64 ak, .string a, .string b, .string c, .slice At lt ct, .slice Ad ld cd] 39) = wa at hta ⊢
  obtain ⟨w1, hp, ht, _⟩ := hta.del id
  have HT := Aside0.mk ht
  have y0 : wa.drew.cell? ⟨bx id, 0, none⟩ = some (.int .i64 id) := blk_cell (hta.at_ id hi) 0
  have y0' : wa.cell? ⟨bx id, 0, none⟩ = some (.int .i64 id) := y0
  have hc : wa.drew.cell? ⟨t, 0, none⟩ = some (.map (some mb)) := blk_cell hta.box 0
  have hc' : wa.cell? ⟨t, 0, none⟩ = some (.map (some mb)) := hc
  clear ht hta hi
  go_region
  all_goals
    go_wp2_with fail
    go_end0
    exact ⟨rfl, HT.out⟩
end Go.Proofs.Yteaklmafjmnmiaa
end
