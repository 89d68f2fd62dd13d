/- The call of rec's tables, by hand; in the printed Check's form. -/
import Derived.Test.YtaahfokdgfopcaaZRfT
import Derived.Test.YtaahfokdgfopcaaZRf0
import Derived.Deep.QuietTactic
import Derived.BigQuiet
namespace Go.Proofs.Ytaahfokdgfopcaa
open Go.RowKit Go.Proofs.YtaahfokdgfopcaaW.PrintWords Go.Proofs.YtaahfokdgfopcaaW.PrintLast Go.Proofs.YtaahfokdgfopcaaW.PrintMore
open Rf
set_option linter.unusedVariables false
set_option linter.unusedSimpArgs false
theorem w64 {x : Int} (h0 : -9223372036854775808 ≤ x) (h1 : x < 9223372036854775808) : wrap64 x = x := by unfold wrap64; omega
theorem i64w {x : Int} (h0 : -9223372036854775808 ≤ x) (h1 : x < 9223372036854775808) : IntKind.i64.wrap x = x := (i64_w x).trans (w64 h0 h1)
def txnB (x : Int) : Bool := decide (1 ≤ x ∧ x ≤ 1073741824)
def numB (x : Int) : Bool := decide (16 ≤ x ∧ x ≤ 1152921504606846991)
def pageB (x : Int) : Bool := decide (0 ≤ x ∧ x < 16)
theorem txn_f (x : Int) : rec_txn.f x = some (txnB x) := by
  unfold rec_txn.f txnB
  by_cases h : 1 ≤ x
  · rw [if_pos h]; simp [h]
  · rw [if_neg h]; simp [h]
theorem num_f (x : Int) : rec_numbered.f x = some (numB x) := by
  unfold rec_numbered.f numB
  by_cases h : 16 ≤ x
  · rw [if_pos h]; simp [h]
  · rw [if_neg h]; simp [h]
theorem page_f (x : Int) : rec_page.f x = some (pageB x) := by
  unfold rec_page.f pageB
  by_cases h : 0 ≤ x
  · rw [if_pos h]; simp [h]
  · rw [if_neg h]; simp [h]
theorem quiet_drawn {f : FuncId} {args : Array Value} {w : World} {n : Nat} {v : Value} (h : Calls Try.prog f args (w.drewN n) fun e w' => e = .returned v ∧ Drawn0 (w.drewN n) w') : Calls Try.prog f args (w.drewN n) fun e w' => e = .returned v ∧ ∃ m, w' = w.drewN m := by
  refine h.mono ?_
  rintro e w' ⟨rfl, ⟨k, rfl⟩⟩
  exact ⟨rfl, n + k, World.drewN_drewN ..⟩
theorem txn_q (w : World) (n : Nat) (x : Int) (b : Bool) (hb : txnB x = b) : Calls Try.prog 48 #[.int .i64 x] (w.drewN n) fun e w' => e = .returned (.bool b) ∧ ∃ m, w' = w.drewN m := by
  subst hb; exact quiet_drawn (rec_txn.calls x _ _ (txn_f x))
theorem num_q (w : World) (n : Nat) (x : Int) (b : Bool) (hb : numB x = b) : Calls Try.prog 43 #[.int .u64 x] (w.drewN n) fun e w' => e = .returned (.bool b) ∧ ∃ m, w' = w.drewN m := by
  subst hb; exact quiet_drawn (rec_numbered.calls x _ _ (num_f x))
theorem page_q (w : World) (n : Nat) (x : Int) (b : Bool) (hb : pageB x = b) : Calls Try.prog 45 #[.int .i64 x] (w.drewN n) fun e w' => e = .returned (.bool b) ∧ ∃ m, w' = w.drewN m := by
  subst hb; exact quiet_drawn (rec_page.calls x _ _ (page_f x))
/-- A row of a checkpoint's transactions, its pages. -/
def tOk (l : List SGTxn) (i : Nat) : Bool := txnB (rd_TGTxn l i).f0 && decide (0 ≤ (rd_TGTxn l i).f1) && decide ((rd_TGTxn l i).f1 < 3) && numB (rd_TGTxn l i).f2 && (decide (i = 0) || decide ((rd_TGTxn l (i - 1 : Nat)).f0 < (rd_TGTxn l i).f0))
def dOk (l : List SGDirty) (i : Nat) : Bool := pageB (rd_TGDirty l i).f0 && numB (rd_TGDirty l i).f1 && (decide (i = 0) || decide ((rd_TGDirty l (i - 1 : Nat)).f0 < (rd_TGDirty l i).f0))
def tabOk (l : List SGTxn) (m : List SGDirty) : Bool := decide (l.length ≤ 64) && decide (m.length ≤ 16) && (List.range l.length).all (tOk l) && (List.range m.length).all (dOk m)
theorem all_succ {p : Nat → Bool} {n k : Nat} (h : k < n) (hp : p k = false) : (List.range n).all p = false := by
  rw [List.all_eq_false]
  exact ⟨k, List.mem_range.2 h, by rw [hp]; decide⟩
theorem tab_t {l : List SGTxn} {m : List SGDirty} {k : Nat} (h : k < l.length) (hp : tOk l k = false) : tabOk l m = false := by
  unfold tabOk; rw [all_succ h hp]; simp
theorem tab_d {l : List SGTxn} {m : List SGDirty} {k : Nat} (h : k < m.length) (hp : dOk m k = false) : tabOk l m = false := by
  unfold tabOk; rw [all_succ h hp]; simp
theorem tab_ok {l : List SGTxn} {m : List SGDirty} (h1 : l.length ≤ 64) (h2 : m.length ≤ 16) (h3 : ∀ i, i < l.length → tOk l i = true) (h4 : ∀ i, i < m.length → dOk m i = true) : tabOk l m = true := by
  unfold tabOk
  rw [decide_eq_true h1, decide_eq_true h2, List.all_eq_true.2 (fun x hx => h3 x (List.mem_range.1 hx)), List.all_eq_true.2 (fun x hx => h4 x (List.mem_range.1 hx))]
  rfl
theorem txn_at {w : World} {A : Option Addr} {n : Nat} {xs : List SGTxn} (h : Kd.C kGTxn w A n xs) (k : Nat) (h1 : k < n) : ∃ ad, A = some ad ∧ w.cell? (ad.add (k * 3)) = some (.int .i64 (rd_TGTxn xs k).f0) ∧ w.cell? ⟨(ad.add (k * 3)).block, (ad.add (k * 3)).off + 1, none⟩ = some (.int .i64 (rd_TGTxn xs k).f1) ∧ w.cell? ⟨(ad.add (k * 3)).block, (ad.add (k * 3)).off + 2, none⟩ = some (.int .u64 (rd_TGTxn xs k).f2) := by
  have := at_TGTxn h (k : Int) (by omega) (by omega)
  rwa [Int.toNat_natCast] at this
theorem dirty_at {w : World} {A : Option Addr} {n : Nat} {xs : List SGDirty} (h : Kd.C kGDirty w A n xs) (k : Nat) (h1 : k < n) : ∃ ad, A = some ad ∧ w.cell? (ad.add (k * 2)) = some (.int .i64 (rd_TGDirty xs k).f0) ∧ w.cell? ⟨(ad.add (k * 2)).block, (ad.add (k * 2)).off + 1, none⟩ = some (.int .u64 (rd_TGDirty xs k).f1) := by
  have := at_TGDirty h (k : Int) (by omega) (by omega)
  rwa [Int.toNat_natCast] at this
theorem below_drewN' {B : Nat} {w w' : World} {g : Nat} {o : Obj} (h : Below B w w' ∧ w'.heap[g]? = some o) (n : Nat) : Below B w (w'.drewN n) ∧ (w'.drewN n).heap[g]? = some o := ⟨⟨h.1.os, h.1.tape, h.1.output, h.1.size, h.1.block⟩, h.2⟩
set_option maxRecDepth 100000 in
set_option maxHeartbeats 4000000 in
theorem tables_calls (w : World) (ki : Int) (ls : Int) (tx : Int) (pv un : Int) (pg ak : Int) (a b c : ByteArray) (At : Option Addr) (ct : Nat) (l : List SGTxn) (Ad : Option Addr) (cd : Nat) (m : List SGDirty) (hT : Kd.C kGTxn w At l.length l) (hTc : l.length ≤ ct) (hD : Kd.C kGDirty w Ad m.length m) (hDc : m.length ≤ cd) :
    Calls Try.prog 49 #[.agg #[.int .i64 ki, .int .u64 ls, .int .i64 tx, .int .u64 pv, .int .u64 un, .int .i64 pg, .int .i64 ak, .string a, .string b, .string c, .slice At l.length ct, .slice Ad m.length cd]] w fun e w' => e = .returned (.bool (tabOk l m)) ∧ Below w.heap.size w w' := by
  obtain ⟨nl, hnl⟩ : ∃ n, n = l.length := ⟨_, rfl⟩
  obtain ⟨nm, hnm⟩ : ∃ n, n = m.length := ⟨_, rfl⟩
  rw [← hnl] at hT hTc ⊢
  rw [← hnm] at hD hDc ⊢
  have HNL := Aside0.mk hnl
  have HNM := Aside0.mk hnm
  have HT := Aside0.mk hT
  have HD := Aside0.mk hD
  have hl9 : nl ≤ 9223372036854775807 := hT.2.1
  have hm9 : nm ≤ 9223372036854775807 := hD.2.1
  clear hT hD hnl hnm
  go_enter Try.func49, Try.ntmps49
  by_cases h64 : nl ≤ 64
  · by_cases h16 : nm ≤ 16
    · have e1 : decide ((64 : Int) < (nl : Int)) = false := by simp; omega
      have e2 : decide ((16 : Int) < (nm : Int)) = false := by simp; omega
      have HB0 := Aside0.mk (And.intro (below_alloc (Below.refl w.heap.size w) (.cells #[.int .i64 ki, .int .u64 ls, .int .i64 tx, .int .u64 pv, .int .u64 un, .int .i64 pg, .int .i64 ak, .string a, .string b, .string c, .slice At nl ct, .slice Ad nm cd] 43)) (heap_alloc_new w (.cells #[.int .i64 ki, .int .u64 ls, .int .i64 tx, .int .u64 pv, .int .u64 un, .int .i64 pg, .int .i64 ak, .string a, .string b, .string c, .slice At nl ct, .slice Ad nm cd] 43)))
      go_wp2_with fail
      clear e1 e2
      -- [A
      go_loopg [3, 4, 20] nl (fun gk v3 v4 v20 wr => ∃ k : Nat, Aside0 (k + gk = nl) ∧ v20 = .int .i64 k ∧ k ≤ nl ∧ Aside0 (Below w.heap.size w wr ∧ wr.heap[w.heap.size]? = some (.cells #[.int .i64 ki, .int .u64 ls, .int .i64 tx, .int .u64 pv, .int .u64 un, .int .i64 pg, .int .i64 ak, .string a, .string b, .string c, .slice At nl ct, .slice Ad nm cd] 43 (0, 0))) ∧ Aside0 (∀ i, i < k → tOk l i = true))
      case atStart => exact ⟨0, ⟨by omega⟩, rfl, by omega, HB0, ⟨fun i h => by omega⟩⟩
      case round =>
        obtain ⟨k, HK, rfl, hkl, HBr, HOK⟩ := hrel
        by_cases hlt : k < nl
        · obtain ⟨ad, rfl, z0, z1, z2⟩ := txn_at (Kd.C_below HT.out HBr.out.1) k hlt
          have hk64 : k < 64 := by omega
          go_wp2_with fail
          have hb : Below wr.heap.size wr (wr.alloc (.cells #[.int .i64 (rd_TGTxn l k).f0, .int .i64 (rd_TGTxn l k).f1, .int .u64 (rd_TGTxn l k).f2] 46)) := below_alloc (Below.refl _ _) _
          have ht : (wr.alloc (.cells #[.int .i64 (rd_TGTxn l k).f0, .int .i64 (rd_TGTxn l k).f1, .int .u64 (rd_TGTxn l k).f2] 46)).heap[wr.heap.size]? = some (.cells #[.int .i64 (rd_TGTxn l k).f0, .int .i64 (rd_TGTxn l k).f1, .int .u64 (rd_TGTxn l k).f2] 46 (0, 0)) := heap_alloc_new wr _
          generalize wr.alloc (.cells #[.int .i64 (rd_TGTxn l k).f0, .int .i64 (rd_TGTxn l k).f1, .int .u64 (rd_TGTxn l k).f2] 46) = wt at hb ht ⊢
          have HBt := Aside0.mk (And.intro (below_then HBr.out.1 HBr.out.1.size hb) (blk_below HBr.out.2 hb))
          have q0 := blk_cell ht 0
          have q1 := blk_cell ht 1
          have q2 := blk_cell ht 2
          have r10 := blk_cell HBt.out.2 10
          clear hb ht z0 z1 z2
          cases c1 : txnB (rd_TGTxn l k).f0 with
          | false =>
            go_quiet ((first | (go_at_call 48; exact txn_q _ _ _ _ c1) | (go_at_call 43; exact num_q _ _ _ _ c4)))
            go_wp2_with fail
            go_ret
            exact ⟨by rw [tab_t (k := k) (by have := HNL.out; omega) (by unfold tOk; rw [c1]; rfl)]; rfl, (below_drewN' HBt.out _).1⟩
          | true =>
            by_cases c2 : 0 ≤ (rd_TGTxn l k).f1
            · have d2 : decide ((rd_TGTxn l k).f1 < 0) = false := by simp; omega
              by_cases c3 : (rd_TGTxn l k).f1 < 3
              · have d3 : decide (3 ≤ (rd_TGTxn l k).f1) = false := by simp; omega
                cases c4 : numB (rd_TGTxn l k).f2 with
                | false =>
                  go_quiet ((first | (go_at_call 48; exact txn_q _ _ _ _ c1) | (go_at_call 43; exact num_q _ _ _ _ c4)))
                  go_wp2_with fail
                  go_ret
                  exact ⟨by rw [tab_t (k := k) (by have := HNL.out; omega) (by unfold tOk; rw [c1, c4, decide_eq_true c2, decide_eq_true c3]; rfl)]; rfl, (below_drewN' HBt.out _).1⟩
                | true =>
                  by_cases c5 : k = 0
                  · have d5 : decide ((0 : Int) < (k : Int)) = false := by simp; omega
                    have d5' : decide (0 < k) = false := by simp; omega
                    have HTK := Aside0.mk (show tOk l k = true by unfold tOk; rw [c1, c4, decide_eq_true c2, decide_eq_true c3, decide_eq_true c5]; rfl)
                    clear c5
                    go_quiet ((first | (go_at_call 48; exact txn_q _ _ _ _ c1) | (go_at_call 43; exact num_q _ _ _ _ c4)))
                    go_wp2_with fail
                    go_roundg (gk - 1)
                    case measure => have := HK.out; omega
                    case rel => exact ⟨k + 1, ⟨by have := HK.out; omega⟩, by go_num, by omega, ⟨below_drewN' HBt.out _⟩, ⟨fun i hi => (by
                        rcases Nat.lt_or_eq_of_le (Nat.le_of_lt_succ hi) with h | rfl
                        · exact HOK.out i h
                        · exact HTK.out)⟩⟩
                  · have d5 : decide ((0 : Int) < (k : Int)) = true := by simp; omega
                    have d5' : decide (0 < k) = true := by simp; omega
                    obtain ⟨ad', hae, y0, _, _⟩ := txn_at (Kd.C_below HT.out HBt.out.1) (k - 1) (by omega)
                    obtain rfl := Option.some.inj hae
                    have hk1 : ((k : Int) - 1).toNat = k - 1 := by omega
                    have hkp : (0 : Int) < (k : Int) := by omega
                    have hi1 : (0 : Int) ≤ (k : Int) - 1 ∧ (k : Int) - 1 < (nl : Int) := by omega
                    have hw1 : IntKind.i64.wrap ((k : Int) - 1) = (k : Int) - 1 := i64w (by omega) (by omega)
                    have hw2 : wrap64 ((k : Int) - 1) = (k : Int) - 1 := w64 (by omega) (by omega)
                    by_cases c6 : (rd_TGTxn l (k - 1 : Nat)).f0 < (rd_TGTxn l k).f0
                    · have d6 : decide ((rd_TGTxn l k).f0 ≤ (rd_TGTxn l (k - 1 : Nat)).f0) = false := by simp; omega
                      have HTK := Aside0.mk (show tOk l k = true by unfold tOk; rw [c1, c4, decide_eq_true c2, decide_eq_true c3, decide_eq_true c6]; simp)
                      go_quiet ((first | (go_at_call 48; exact txn_q _ _ _ _ c1) | (go_at_call 43; exact num_q _ _ _ _ c4)))
                      go_wp2_with fail
                      go_roundg (gk - 1)
                      case measure => have := HK.out; omega
                      case rel => exact ⟨k + 1, ⟨by have := HK.out; omega⟩, by go_num, by omega, ⟨below_drewN' HBt.out _⟩, ⟨fun i hi => (by
                          rcases Nat.lt_or_eq_of_le (Nat.le_of_lt_succ hi) with h | rfl
                          · exact HOK.out i h
                          · exact HTK.out)⟩⟩
                    · have d6 : decide ((rd_TGTxn l k).f0 ≤ (rd_TGTxn l (k - 1 : Nat)).f0) = true := by simp; omega
                      go_quiet ((first | (go_at_call 48; exact txn_q _ _ _ _ c1) | (go_at_call 43; exact num_q _ _ _ _ c4)))
                      go_wp2_with fail
                      go_ret
                      exact ⟨by rw [tab_t (k := k) (by have := HNL.out; omega) (by unfold tOk; rw [c1, c4, decide_eq_true c2, decide_eq_true c3, decide_eq_false (show ¬ (rd_TGTxn l (k - 1 : Nat)).f0 < (rd_TGTxn l k).f0 by omega), decide_eq_false c5]; rfl)]; rfl, (below_drewN' HBt.out _).1⟩
              · have d3 : decide (3 ≤ (rd_TGTxn l k).f1) = true := by simp; omega
                go_quiet ((first | (go_at_call 48; exact txn_q _ _ _ _ c1) | (go_at_call 43; exact num_q _ _ _ _ c4)))
                go_wp2_with fail
                go_ret
                exact ⟨by rw [tab_t (k := k) (by have := HNL.out; omega) (by unfold tOk; rw [c1, decide_eq_true c2, decide_eq_false (show ¬ (rd_TGTxn l k).f1 < 3 by omega)]; rfl)]; rfl, (below_drewN' HBt.out _).1⟩
            · have d2 : decide ((rd_TGTxn l k).f1 < 0) = true := by simp; omega
              go_quiet ((first | (go_at_call 48; exact txn_q _ _ _ _ c1) | (go_at_call 43; exact num_q _ _ _ _ c4)))
              go_wp2_with fail
              go_ret
              exact ⟨by rw [tab_t (k := k) (by have := HNL.out; omega) (by unfold tOk; rw [c1, decide_eq_false (show ¬ 0 ≤ (rd_TGTxn l k).f1 by omega)]; rfl)]; rfl, (below_drewN' HBt.out _).1⟩
        · have hkn : nl = k := by omega
          subst hkn
          have r11 := blk_cell HBr.out.2 11
          go_wp2_with fail
          have HOKT := HOK
          clear HOK HK
          have HBX := HBr
          clear r11
          go_loopg [5, 6, 65] nm (fun gk v5 v6 v65 wr => ∃ k : Nat, Aside0 (k + gk = nm) ∧ v65 = .int .i64 k ∧ k ≤ nm ∧ Aside0 (Below w.heap.size w wr ∧ wr.heap[w.heap.size]? = some (.cells #[.int .i64 ki, .int .u64 ls, .int .i64 tx, .int .u64 pv, .int .u64 un, .int .i64 pg, .int .i64 ak, .string a, .string b, .string c, .slice At nl ct, .slice Ad nm cd] 43 (0, 0))) ∧ Aside0 (∀ i, i < k → dOk m i = true))
          case atStart => exact ⟨0, ⟨by omega⟩, rfl, by omega, HBX, ⟨fun i h => by omega⟩⟩
          case round =>
            obtain ⟨k, HK, rfl, hkl2, HBr, HOK⟩ := hrel
            by_cases hlt2 : k < nm
            · obtain ⟨ad, rfl, z0, z1⟩ := dirty_at (Kd.C_below HD.out HBr.out.1) k hlt2
              have hk16 : k < 16 := by omega
              go_wp2_with fail
              have hb : Below wr.heap.size wr (wr.alloc (.cells #[.int .i64 (rd_TGDirty m k).f0, .int .u64 (rd_TGDirty m k).f1] 49)) := below_alloc (Below.refl _ _) _
              have ht : (wr.alloc (.cells #[.int .i64 (rd_TGDirty m k).f0, .int .u64 (rd_TGDirty m k).f1] 49)).heap[wr.heap.size]? = some (.cells #[.int .i64 (rd_TGDirty m k).f0, .int .u64 (rd_TGDirty m k).f1] 49 (0, 0)) := heap_alloc_new wr _
              generalize wr.alloc (.cells #[.int .i64 (rd_TGDirty m k).f0, .int .u64 (rd_TGDirty m k).f1] 49) = wt at hb ht ⊢
              have HBt := Aside0.mk (And.intro (below_then HBr.out.1 HBr.out.1.size hb) (blk_below HBr.out.2 hb))
              have q0 := blk_cell ht 0
              have q1 := blk_cell ht 1
              have r11 := blk_cell HBt.out.2 11
              clear hb ht z0 z1
              cases c1 : pageB (rd_TGDirty m k).f0 with
              | false =>
                go_quiet ((first | (go_at_call 45; exact page_q _ _ _ _ c1) | (go_at_call 43; exact num_q _ _ _ _ c4)))
                go_wp2_with fail
                go_ret
                exact ⟨by rw [tab_d (k := k) (by have := HNM.out; omega) (by unfold dOk; rw [c1]; rfl)]; rfl, (below_drewN' HBt.out _).1⟩
              | true =>
                cases c4 : numB (rd_TGDirty m k).f1 with
                | false =>
                  go_quiet ((first | (go_at_call 45; exact page_q _ _ _ _ c1) | (go_at_call 43; exact num_q _ _ _ _ c4)))
                  go_wp2_with fail
                  go_ret
                  exact ⟨by rw [tab_d (k := k) (by have := HNM.out; omega) (by unfold dOk; rw [c1, c4]; rfl)]; rfl, (below_drewN' HBt.out _).1⟩
                | true =>
                  by_cases c5 : k = 0
                  · have d5 : decide ((0 : Int) < (k : Int)) = false := by simp; omega
                    have d5' : decide (0 < k) = false := by simp; omega
                    have HTK := Aside0.mk (show dOk m k = true by unfold dOk; rw [c1, c4, decide_eq_true c5]; rfl)
                    clear c5
                    go_quiet ((first | (go_at_call 45; exact page_q _ _ _ _ c1) | (go_at_call 43; exact num_q _ _ _ _ c4)))
                    go_wp2_with fail
                    go_roundg (gk - 1)
                    case measure => have := HK.out; omega
                    case rel => exact ⟨k + 1, ⟨by have := HK.out; omega⟩, by go_num, by omega, ⟨below_drewN' HBt.out _⟩, ⟨fun i hi => (by
                        rcases Nat.lt_or_eq_of_le (Nat.le_of_lt_succ hi) with h | rfl
                        · exact HOK.out i h
                        · exact HTK.out)⟩⟩
                  · have d5 : decide ((0 : Int) < (k : Int)) = true := by simp; omega
                    have d5' : decide (0 < k) = true := by simp; omega
                    obtain ⟨ad', hae, y0, _⟩ := dirty_at (Kd.C_below HD.out HBt.out.1) (k - 1) (by omega)
                    obtain rfl := Option.some.inj hae
                    have hk1 : ((k : Int) - 1).toNat = k - 1 := by omega
                    have hkp : (0 : Int) < (k : Int) := by omega
                    have hi1 : (0 : Int) ≤ (k : Int) - 1 ∧ (k : Int) - 1 < (nm : Int) := by omega
                    have hw1 : IntKind.i64.wrap ((k : Int) - 1) = (k : Int) - 1 := i64w (by omega) (by omega)
                    have hw2 : wrap64 ((k : Int) - 1) = (k : Int) - 1 := w64 (by omega) (by omega)
                    by_cases c6 : (rd_TGDirty m (k - 1 : Nat)).f0 < (rd_TGDirty m k).f0
                    · have d6 : decide ((rd_TGDirty m k).f0 ≤ (rd_TGDirty m (k - 1 : Nat)).f0) = false := by simp; omega
                      have HTK := Aside0.mk (show dOk m k = true by unfold dOk; rw [c1, c4, decide_eq_true c6]; simp)
                      go_quiet ((first | (go_at_call 45; exact page_q _ _ _ _ c1) | (go_at_call 43; exact num_q _ _ _ _ c4)))
                      go_wp2_with fail
                      go_roundg (gk - 1)
                      case measure => have := HK.out; omega
                      case rel => exact ⟨k + 1, ⟨by have := HK.out; omega⟩, by go_num, by omega, ⟨below_drewN' HBt.out _⟩, ⟨fun i hi => (by
                          rcases Nat.lt_or_eq_of_le (Nat.le_of_lt_succ hi) with h | rfl
                          · exact HOK.out i h
                          · exact HTK.out)⟩⟩
                    · have d6 : decide ((rd_TGDirty m k).f0 ≤ (rd_TGDirty m (k - 1 : Nat)).f0) = true := by simp; omega
                      go_quiet ((first | (go_at_call 45; exact page_q _ _ _ _ c1) | (go_at_call 43; exact num_q _ _ _ _ c4)))
                      go_wp2_with fail
                      go_ret
                      exact ⟨by rw [tab_d (k := k) (by have := HNM.out; omega) (by unfold dOk; rw [c1, c4, decide_eq_false (show ¬ (rd_TGDirty m (k - 1 : Nat)).f0 < (rd_TGDirty m k).f0 by omega), decide_eq_false c5]; rfl)]; rfl, (below_drewN' HBt.out _).1⟩
            · obtain rfl : k = nm := by omega
              have HALL := Aside0.mk (show tabOk l m = true from tab_ok (by have := HNL.out; omega) (by have := HNM.out; omega) (fun i hi => HOKT.out i (by have := HNL.out; omega)) (fun i hi => HOK.out i (by have := HNM.out; omega)))
              go_wp2_with fail
              go_ret
              exact ⟨by rw [HALL.out]; rfl, HBr.out.1⟩
      -- A]
    · have e1 : decide ((64 : Int) < (nl : Int)) = false := by simp; omega
      have e2 : decide ((16 : Int) < (nm : Int)) = true := by simp; omega
      go_wp2_with fail
      go_ret
      exact ⟨by unfold tabOk; rw [← HNM.out, decide_eq_false h16]; simp, below_alloc (Below.refl _ _) _⟩
  · have e1 : decide ((64 : Int) < (nl : Int)) = true := by simp; omega
    go_wp2_with fail
    go_ret
    exact ⟨by unfold tabOk; rw [← HNL.out, decide_eq_false h64]; simp, below_alloc (Below.refl _ _) _⟩
end Go.Proofs.Ytaahfokdgfopcaa
