/- The calls of graph's Leads, Ring, Victim. -/
import Derived.Test.YtgjjfldfdkoedaaGb
import Derived.Test.YtgjjfldfdkoedaaSi
import Derived.Shelf.Sort.Plain
import Derived.Shelf.Slices.In.SortNone
import Derived.Sort.OwnSortedInts
namespace Go.Proofs.Ytgjjfldfdkoedaa
open Go.RowKit Go.Proofs.YtgjjfldfdkoedaaW.PrintWords Go.Proofs.YtgjjfldfdkoedaaW.PrintLast Go.Proofs.YtgjjfldfdkoedaaW.PrintMore
open Rf MapL Graph
open Go.Sort (putRow grow Holds ahead)
set_option linter.unusedVariables false
set_option linter.unusedSimpArgs false
-- [GEN
/-- What Leads answers. -/
def LeadI (w w' : World) (ks : List (Int × Int)) (a y : Int) (e : Ending) : Prop := ∃ r : Bool, e = .returned (.bool r) ∧ (r = true ↔ Graph.Reach ks a y) ∧ Below w.heap.size w w'
theorem leads_ofI {w w1 : World} {ks : List (Int × Int)} {a : Int} {mb : Nat} {S : List Int} (y : Int) (hS : ∀ x, x ∈ S ↔ Graph.Reach ks a x) (hb : Below w.heap.size w w1) : LeadI w w1 ks a y (.returned (.bool (decide (y ∈ S)))) :=
  ⟨_, rfl, by rw [decide_eq_true_eq]; exact hS y, hb⟩
set_option maxRecDepth 100000 in
theorem leadsI (w : World) (g b : Nat) (ks : List (Int × Int)) (a y : Int) (h : GrI w g b ks) (hl : ks.length ≤ 1000) : Calls Try.prog 10 #[.pointer (some ⟨g, 0, none⟩), .int .i64 a, .int .i64 y] w fun e w' => LeadI w w' ks a y e := by
  have H := Aside0.mk h
  clear h
  go_enter Try.func10, Try.ntmps10
  go_wp2_with fail
  refine (reachedI w g b ks a H.out hl).mono ?_
  rintro e w1 ⟨mb, S, rfl, hmb, hm, hS, hb⟩
  have hlk := hm.look keyI Try.underlying58 (zeroB _) y
  have HS := Aside0.mk hS
  have HB := Aside0.mk hb
  obtain ⟨r, hr⟩ : ∃ r, r = decide (y ∈ S) := ⟨_, rfl⟩
  rw [← hr] at hlk
  have HR := Aside0.mk hr
  clear hm hS hb hr
  go_wp2_with fail
  go_ret
  exact ⟨r, rfl, by rw [HR.out, decide_eq_true_eq]; exact HS.out y, HB.out⟩
set_option maxRecDepth 100000 in
theorem leadsI_nil (w : World) (a y : Int) : Calls Try.prog 10 #[.pointer none, .int .i64 a, .int .i64 y] w fun e w' => LeadI w w' [] a y e := by
  go_enter Try.func10, Try.ntmps10
  go_wp2_with fail
  refine (reachedI_nil w a).mono ?_
  rintro e w1 ⟨mb, S, rfl, hmb, hm, hS, hb⟩
  have hlk := hm.look keyI Try.underlying58 (zeroB _) y
  have HS := Aside0.mk hS
  have HB := Aside0.mk hb
  obtain ⟨r, hr⟩ : ∃ r, r = decide (y ∈ S) := ⟨_, rfl⟩
  rw [← hr] at hlk
  have HR := Aside0.mk hr
  clear hm hS hb hr
  go_wp2_with fail
  go_ret
  exact ⟨r, rfl, by rw [HR.out, decide_eq_true_eq]; exact HS.out y, HB.out⟩
theorem R_of_ownI {e : Nat} {w : World} {base : Nat} {ok : Nat → Prop} {v : Value} {xs : List Int} (h0 : ∀ k, v.ownBlock = some k → ok k) (h : w.ownsRow base e 1 v xs.length (xs.map (Value.int .i64))) : Kd.R (Kd.int .i64) e w base ok v xs :=
  Kd.R_of_own (enc := Value.int .i64) (by simpa [encs] using h) h0
/-- slices.Sort at a row of the call's own. -/
theorem sortI {w : World} {base : Nat} {ok : Nat → Prop} {v : Value} {L : List Int} (h : Kd.R (Kd.int .i64) 3 w base ok v L) (hl : L.length ≤ 1000) : Calls Try.prog 32 #[v] w fun e w' =>
    e = .returned (.tuple #[]) ∧ Kd.R (Kd.int .i64) 3 w' base ok v (L.mergeSort fun x y => decide (x ≤ y)) ∧ w.grownBy w' v.ownBlock := by
  have ho := Kd.own_of_R h
  by_cases h0 : L = []
  · subst h0
    obtain ⟨A, c, rfl⟩ := Kd.R_slice h
    refine (Any.slices_Sort_int_none Try.sl189 A c w).mono ?_
    rintro e w' ⟨rfl, rfl⟩
    exact ⟨rfl, by rw [List.mergeSort_nil]; exact h, World.grownBy.refl _ _⟩
  · obtain ⟨g, cap, rfl, hbg, hlt, cells, hgc⟩ := Kd.R_form h (List.length_pos_iff.2 h0)
    rcases ho.2 with ⟨hn, _⟩ | ⟨g', cap', cur, hv, hb, hg, h1, h2, h3, h4⟩
    · cases hn
    · obtain ⟨rfl, rfl⟩ : g = g' ∧ cap = cap' := by injection hv with e1 e2 e3; injection e1 with e1; injection e1 with e1; exact ⟨e1, e3⟩
      have hH := holds_of_blockI (ss := L) hg (by simpa [encs] using h4)
      refine (Any.slices_Sort_int Try.sl189 g 0 cap L w hH hlt (by omega)).mono ?_
      rintro e w' ⟨rfl, n, os, rfl⟩
      refine ⟨rfl, R_of_ownI h.1 ?_, grownBy_sortedI _⟩
      have := ownsRow_sortedI (n := n) (os := os) (ss := L) (ts := L.mergeSort fun x y => decide (x ≤ y)) (by simp) hb hg h1 h2 h3
      simpa using this
theorem sort_riseI {L : List Int} (hn : L.Nodup) : (L.mergeSort fun x y => decide (x ≤ y)).Pairwise (· < ·) := by
  have h1 : (L.mergeSort fun x y => decide (x ≤ y)).Pairwise fun a b => decide (a ≤ b) = true :=
    List.pairwise_mergeSort (fun a b c h1 h2 => by simp only [decide_eq_true_eq] at *; omega) (fun a b => by simp only [Bool.or_eq_true, decide_eq_true_eq]; omega) L
  have h2 : (L.mergeSort fun x y => decide (x ≤ y)).Nodup := (List.mergeSort_perm L _).nodup_iff.2 hn
  exact List.Pairwise.imp₂ (fun a b h1 h2 => by simp only [decide_eq_true_eq] at h1; omega) h1 h2
/-- What Ring answers. -/
def RingPostI (w w' : World) (ks : List (Int × Int)) (a : Int) (e : Ending) : Prop :=
  ∃ (v : Value) (L : List Int), e = .returned v ∧ Kd.R (Kd.int .i64) 3 w' w.heap.size (fun k => w.heap.size ≤ k) v L ∧ RingL (· < ·) ks a L ∧ Below w.heap.size w w'
/-- What the loop has found. -/
structure FoundL (ks : List (Int × Int)) (a : Int) (S todo L : List Int) : Prop where
  nodup : L.Nodup
  mem : ∀ x, x ∈ L ↔ x ∈ S ∧ x ∉ todo ∧ Graph.Reach ks x a
theorem FoundL.take {ks : List (Int × Int)} {a : Int} {S todo L : List Int} (h : FoundL ks a S todo L) {x : Int} (hx : x ∈ todo) (hS : x ∈ S) (hr : Graph.Reach ks x a) : FoundL ks a S (todo.filter fun y => decide (y ≠ x)) (L ++ [x]) := by
  have hxl : x ∉ L := fun h2 => ((h.mem x).1 h2).2.1 hx
  refine ⟨nodup_snoc h.nodup hxl, fun y => ?_⟩
  rw [List.mem_append, List.mem_singleton, h.mem y, List.mem_filter]
  by_cases hy : y = x
  · subst hy; simp [hS, hr]
  · simp [hy]
theorem FoundL.skip {ks : List (Int × Int)} {a : Int} {S todo L : List Int} (h : FoundL ks a S todo L) {x : Int} (hr : ¬ Graph.Reach ks x a) : FoundL ks a S (todo.filter fun y => decide (y ≠ x)) L := by
  refine ⟨h.nodup, fun y => ?_⟩
  rw [h.mem y, List.mem_filter]
  by_cases hy : y = x
  · subst hy; simp [hr]
  · simp [hy]
theorem FoundL.le {ks : List (Int × Int)} {a : Int} {S todo L : List Int} (h : FoundL ks a S todo L) (hS : ∀ x, x ∈ S ↔ Graph.Reach ks a x) : L.length ≤ ks.length := by
  have := nodup_le (M := ks.map (·.2)) h.nodup (fun x hx => by
    obtain ⟨c, hc⟩ := ((hS x).1 ((h.mem x).1 hx).1).last
    exact List.mem_map.2 ⟨_, hc, rfl⟩)
  simpa using this
theorem FoundL.ring {ks : List (Int × Int)} {a : Int} {S L : List Int} (h : FoundL ks a S [] L) (hS : ∀ x, x ∈ S ↔ Graph.Reach ks a x) : RingL (· < ·) ks a (L.mergeSort fun x y => decide (x ≤ y)) :=
  ⟨sort_riseI h.nodup, fun x => by rw [List.mem_mergeSort, h.mem x, hS x]; simp⟩
set_option maxRecDepth 100000 in
set_option maxHeartbeats 2000000 in
theorem ringI (w : World) (g b : Nat) (ks : List (Int × Int)) (a : Int) (h : GrI w g b ks) (hl : ks.length ≤ 1000) : Calls Try.prog 12 #[.pointer (some ⟨g, 0, none⟩), .int .i64 a] w fun e w' => RingPostI w w' ks a e := by
  have H := Aside0.mk h
  clear h
  go_enter Try.func12, Try.ntmps12
  go_wp2_with fail
  refine (reachedI w g b ks a H.out hl).mono ?_
  rintro e w1 ⟨mb, S, rfl, hmb, hm, hS, hb⟩
  obtain ⟨wn, hrg, hra, hbn, hsn⟩ := hm.range (P := Try.prog) Try.underlying58
  have HS := Aside0.mk hS
  have HMB := Aside0.mk hmb
  have HB1 := Aside0.mk (below_then hb hb.size hbn)
  have HRA := Aside0.mk hra
  have HR1 := Aside0.mk hb.size
  have HMR := Aside0.mk (ne_iter (hm.below hbn hm.lt) hra)
  clear hm hS hb hra hbn hmb hsn
  go_wp2_with fail
  clear hrg
  obtain ⟨r, hr⟩ : ∃ r, r = w1.heap.size := ⟨_, rfl⟩
  rw [← hr] at HRA HR1 HMR ⊢
  clear hr
  go_loopg [5] S.length (fun gk v5 wr => ∃ (L todo : List Int), Aside0 (todo.length ≤ gk) ∧ Aside0 (FoundL ks a S todo L) ∧ Aside0 (Below w.heap.size w wr) ∧ Aside0 (RangeAt (Value.int .i64) wr mb r S todo) ∧ Aside0 (Kd.R (Kd.int .i64) 3 wr w.heap.size (fun k => w.heap.size ≤ k) v5 L))
  case atStart => exact ⟨[], S, ⟨Nat.le_refl _⟩, ⟨⟨List.nodup_nil, fun x => by simp; exact fun h1 h2 => absurd h1 h2⟩⟩, HB1, HRA, ⟨Kd.R_nil _ _ _ _ _⟩⟩
  case round =>
    obtain ⟨L, todo, HT, HF, HB, HR, HL⟩ := hrel
    clear HB1 HRA
    obtain ⟨A, c, rfl⟩ := Kd.R_slice HL.out
    have hll : L.length ≤ 1000 := by have := HF.out.le HS.out; omega
    rcases HR.out.next (P := Try.prog) keyI 0 with ⟨ht, hrun⟩ | ⟨x, hx, wa, hrun, hra1, hg1, hs1, hen⟩
    · have hrun' : ∀ ty, (Instr.next (.pointer (some ⟨r, 0, none⟩)) false ty).run Try.prog wr = .ok (.tuple #[.bool false]) wr := fun _ => hrun
      subst ht
      clear hrun
      go_wp2_with fail
      refine (sortI HL.out hll).mono ?_
      rintro e ws ⟨rfl, hs, hg⟩
      have HSS := Aside0.mk hs
      have HG := Aside0.mk hg
      clear hs hg
      go_wp2_with fail
      go_ret
      exact ⟨_, _, rfl, HSS.out, HF.out.ring HS.out, HB.out.grown HG.out HB.out.size (fun k hk => HL.out.1 k hk)⟩
    · have hrun' : ∀ ty, (Instr.next (.pointer (some ⟨r, 0, none⟩)) false ty).run Try.prog wr = .ok (.tuple #[.bool true, .int .i64 x, .bool true]) wa := fun _ => hrun
      have HX := Aside0.mk hx
      have HXS := Aside0.mk (HR.out.sub _ hx)
      have HBa := Aside0.mk (HB.out.grown hg1 HB.out.size (fun k hk => by injection hk with hk; rw [← hk]; exact HR1.out))
      have HLa := Aside0.mk (Kd.R_grown1 HL.out rfl hg1 (Q_notR (Kd.Q_of_R HL.out) HR.out))
      have HRa := Aside0.mk hra1
      have HTT := Aside0.mk (show (todo.filter fun z => decide (z ≠ x)).length ≤ gk - 1 ∧ gk - 1 < gk from by have h1 := MapL.filter_lt hx; have h2 := HT.out; omega)
      clear hrun hx hra1 hg1 hs1 HL HB HR
      have HGa := Aside0.mk (H.out.below HBa.out)
      go_wp2_with fail
      refine (leadsI wa g b ks x a HGa.out hl).mono ?_
      rintro e wl ⟨q, rfl, hq, hb⟩
      have HBl := Aside0.mk (below_then HBa.out HBa.out.size hb)
      have HLl := Aside0.mk (Kd.R_below HLa.out hb)
      have HRl := Aside0.mk (HRa.out.below hb HRa.out.map.lt HRa.out.lt)
      have HQ := Aside0.mk hq
      clear hq hb hrun' hen HBa HLa HRa HGa
      have hszl := HBl.out.size
      cases q with
      | false =>
        go_wp2_with fail
        go_roundg (gk - 1)
        case measure => exact HTT.out.2
        case rel => exact ⟨L, _, ⟨HTT.out.1⟩, ⟨HF.out.skip (fun h => absurd (HQ.out.2 h) (by decide))⟩, HBl, HRl, HLl⟩
      | true =>
        have HQT := Aside0.mk (HQ.out.1 rfl)
        clear HQ
        go_wp2_with (at_builtin; refine Kd.R_append (Kd.int .i64) (w0 := w) (W := wl) w.heap.size (by rfl) (.tmp 19) (.tmp 21) 31 3 (.int .i64 0) 8 (by rfl) Try.underlying31 Rf.info3 rfl (by decide) (by omega) (.slice A L.length c) L x [.int .i64 x] (fun k => w.heap.size ≤ k) (fun _ => False) (by rfl) (by rfl) rfl (fun _ hk => hk.elim) (fun k hk => Nat.le_trans hszl hk) HLl.out HBl.out hszl (by omega) ?_; intro v1 w3 hq3 hb3 hg3 hat3; have HL3 := Aside0.mk hq3; have HB3 := Aside0.mk hb3; have HR3 := Aside0.mk (HRl.out.grown hg3 (Q_notM (Kd.Q_of_R HLl.out) HRl.out.map) (Q_notR (Kd.Q_of_R HLl.out) HRl.out)); clear hq3 hb3 hg3 hat3)
        go_roundg (gk - 1)
        case measure => exact HTT.out.2
        case rel => exact ⟨L ++ [x], _, ⟨HTT.out.1⟩, ⟨HF.out.take HX.out HXS.out HQT.out⟩, HB3, HR3, HL3⟩
/-- What Victim answers. -/
def VictimPostI (w w' : World) (ks : List (Int × Int)) (a : Int) (e : Ending) : Prop :=
  ∃ L : List Int, e = .returned (.tuple #[.int .i64 (L.getLastD 0), .bool (!L.isEmpty)]) ∧ RingL (· < ·) ks a L ∧ Below w.heap.size w w'
theorem ordI : Ord (fun a b : Int => a < b) := ⟨fun a h => by omega, fun a b c h1 h2 => by omega⟩
set_option maxRecDepth 100000 in
theorem victimI (w : World) (g b : Nat) (ks : List (Int × Int)) (a : Int) (h : GrI w g b ks) (hl : ks.length ≤ 1000) : Calls Try.prog 14 #[.pointer (some ⟨g, 0, none⟩), .int .i64 a] w fun e w' => VictimPostI w w' ks a e := by
  have H := Aside0.mk h
  clear h
  go_enter Try.func14, Try.ntmps14
  go_wp2_with fail
  refine (ringI w g b ks a H.out hl).mono ?_
  rintro e w1 ⟨v, L, rfl, hR, hL, hb⟩
  have HL := Aside0.mk hL
  have HB := Aside0.mk hb
  have hle := hL.le ordI
  by_cases h0 : L = []
  · subst h0
    obtain ⟨A, c, rfl⟩ := Kd.R_slice hR
    clear hL hb hle hR
    go_wp2_with fail
    go_ret2
    exact ⟨[], rfl, HL.out, HB.out⟩
  · have hpos := List.length_pos_iff.2 h0
    obtain ⟨A, c, rfl⟩ := Kd.R_slice hR
    obtain ⟨ad, rfl, hc⟩ := Kd.at_int (Kd.R_reads' hR).2.2 ((L.length : Int) - 1) (by omega) (by omega)
    have e1 : ((L.length : Int) == 0) = false := by simp; omega
    have e2 : (L.length == 0) = false := by simp; omega
    have hx : rd L ((L.length : Int) - 1) = L.getLastD 0 := by
      have e3 : ((L.length : Int) - 1).toNat = L.length - 1 := by omega
      simp [rd, e3, List.getLastD_eq_getLast?, List.getLast?_eq_getElem?, List.getD_eq_getElem?_getD]
    rw [hx, show ((L.length : Int) - 1).toNat = L.length - 1 by omega] at hc
    have HN := Aside0.mk h0
    have hb1 : (0 : Int) ≤ (L.length : Int) - 1 := by omega
    have hb2 : (L.length : Int) - 1 < (L.length : Int) := by omega
    have hb3 : (1 : Int) ≤ (L.length : Int) := by omega
    clear hL hb hR hx h0
    go_wp2_with fail
    go_ret2
    refine ⟨L, ?_, HL.out, HB.out⟩
    rw [show L.isEmpty = false by simpa using HN.out, List.getLastD_eq_getLast?]
    rfl
-- GEN]
end Go.Proofs.Ytgjjfldfdkoedaa
