/- XTc for a graph of texts (printed by genS.py from XGc). -/
import Derived.Test.YtgjjfldfdkoedaaTb
import Derived.Test.YtgjjfldfdkoedaaGc
import Derived.Sort.OwnSorted
namespace Go.Proofs.Ytgjjfldfdkoedaa
open Go.RowKit Go.Proofs.YtgjjfldfdkoedaaW.PrintWords Go.Proofs.YtgjjfldfdkoedaaW.PrintLast Go.Proofs.YtgjjfldfdkoedaaW.PrintMore
open Rf MapL Graph
open Go.Sort (putRow grow Holds ahead)
set_option linter.unusedVariables false
set_option linter.unusedSimpArgs false
theorem isK_dec {S : List ByteArray} {y : ByteArray} (i : Decidable (y ∈ S)) : @decide _ i = isK S y := by
  by_cases h : y ∈ S
  · rw [isK_in h]; exact dec_t _ h
  · rw [isK_no h]; exact dec_f _ h
theorem isK_iff {S : List ByteArray} {y : ByteArray} : isK S y = true ↔ y ∈ S := by
  by_cases h : y ∈ S
  · rw [isK_in h]; simp [h]
  · rw [isK_no h]; simp [h]
/-- What Leads answers. -/
def LeadS (w w' : World) (ks : List (ByteArray × ByteArray)) (a y : ByteArray) (e : Ending) : Prop := ∃ r : Bool, e = .returned (.bool r) ∧ (r = true ↔ Graph.Reach ks a y) ∧ Below w.heap.size w w'
set_option maxRecDepth 100000 in
theorem leadsS (w : World) (g b : Nat) (ks : List (ByteArray × ByteArray)) (a y : ByteArray) (h : GrS w g b ks) (hl : ks.length ≤ 1000) : Calls Try.prog 36 #[.pointer (some ⟨g, 0, none⟩), .string a, .string y] w fun e w' => LeadS w w' ks a y e := by
  have H := Aside0.mk h
  clear h
  go_enter Try.func36, Try.ntmps36
  go_wp2_with fail
  refine (reachedS w g b ks a H.out hl).mono ?_
  rintro e w1 ⟨mb, S, rfl, hmb, hm, hS, hb⟩
  have hlk := hm.look keyS Try.underlying73 (zeroB _) y
  rw [isK_dec] at hlk
  have HS := Aside0.mk hS
  have HB := Aside0.mk hb
  obtain ⟨r, hr⟩ : ∃ r, r = isK S y := ⟨_, rfl⟩
  rw [← hr] at hlk
  have HR := Aside0.mk hr
  clear hm hS hb hr
  go_wp2_with fail
  go_ret
  exact ⟨r, rfl, by rw [HR.out, isK_iff]; exact HS.out y, HB.out⟩
set_option maxRecDepth 100000 in
theorem leadsS_nil (w : World) (a y : ByteArray) : Calls Try.prog 36 #[.pointer none, .string a, .string y] w fun e w' => LeadS w w' [] a y e := by
  go_enter Try.func36, Try.ntmps36
  go_wp2_with fail
  refine (reachedS_nil w a).mono ?_
  rintro e w1 ⟨mb, S, rfl, hmb, hm, hS, hb⟩
  have hlk := hm.look keyS Try.underlying73 (zeroB _) y
  rw [isK_dec] at hlk
  have HS := Aside0.mk hS
  have HB := Aside0.mk hb
  obtain ⟨r, hr⟩ : ∃ r, r = isK S y := ⟨_, rfl⟩
  rw [← hr] at hlk
  have HR := Aside0.mk hr
  clear hm hS hb hr
  go_wp2_with fail
  go_ret
  exact ⟨r, rfl, by rw [HR.out, isK_iff]; exact HS.out y, HB.out⟩
def bl (b : ByteArray) : List UInt8 := b.data.toList
def lb (l : List UInt8) : ByteArray := ⟨l.toArray⟩
theorem lb_bl (b : ByteArray) : lb (bl b) = b := by unfold lb bl; simp
theorem bl_lb (l : List UInt8) : bl (lb l) = l := by unfold lb bl; simp
theorem bl_inj {a b : ByteArray} (h : bl a = bl b) : a = b := by rw [← lb_bl a, h, lb_bl]
/-- The order of texts. -/
def ltB (a b : ByteArray) : Prop := bl a < bl b
theorem ordS : Ord ltB := ⟨fun a h => List.lt_irrefl _ h, fun a b c h1 h2 => List.lt_trans h1 h2⟩
/-- A list of texts, sorted. -/
def sortB (L : List ByteArray) : List ByteArray := ((L.map bl).mergeSort fun x y => decide (x ≤ y)).map lb
theorem enc_bl (L : List ByteArray) : (L.map bl).map encStr = L.map Value.string := by
  rw [List.map_map]; exact List.map_congr_left (fun b _ => by show Value.string (lb (bl b)) = _; rw [lb_bl])
theorem enc_lb (l : List (List UInt8)) : l.map encStr = (l.map lb).map Value.string := by
  rw [List.map_map]; rfl
theorem mem_sortB {L : List ByteArray} {x : ByteArray} : x ∈ sortB L ↔ x ∈ L := by
  unfold sortB
  rw [List.mem_map]
  constructor
  · rintro ⟨l, hl, rfl⟩
    rw [List.mem_mergeSort, List.mem_map] at hl
    obtain ⟨b, hb, rfl⟩ := hl
    rw [lb_bl]; exact hb
  · intro h
    exact ⟨bl x, by rw [List.mem_mergeSort]; exact List.mem_map.2 ⟨x, h, rfl⟩, lb_bl x⟩
theorem R_of_ownS {e : Nat} {w : World} {base : Nat} {ok : Nat → Prop} {v : Value} {xs : List ByteArray} (h0 : ∀ k, v.ownBlock = some k → ok k) (h : w.ownsRow base e 1 v xs.length (xs.map Value.string)) : Kd.R Kd.string e w base ok v xs :=
  Kd.R_of_own (enc := Value.string) (by simpa [encs] using h) h0
/-- slices.Sort at a row of the call's own. -/
theorem sortS {w : World} {base : Nat} {ok : Nat → Prop} {v : Value} {L : List ByteArray} (h : Kd.R Kd.string 9 w base ok v L) (hl : L.length ≤ 1000) : Calls Try.prog 37 #[v] w fun e w' =>
    e = .returned (.tuple #[]) ∧ Kd.R Kd.string 9 w' base ok v (sortB L) ∧ w.grownBy w' v.ownBlock := by
  have ho := Kd.own_of_R h
  by_cases h0 : L = []
  · subst h0
    obtain ⟨A, c, rfl⟩ := Kd.R_slice h
    refine (Any.slices_Sort_string_none Try.sl190 A c w).mono ?_
    rintro e w' ⟨rfl, rfl⟩
    exact ⟨rfl, by rw [show sortB [] = [] from by unfold sortB; rw [List.map_nil, List.mergeSort_nil]; rfl]; exact h, World.grownBy.refl _ _⟩
  · obtain ⟨g, cap, rfl, hbg, hlt, cells, hgc⟩ := Kd.R_form h (List.length_pos_iff.2 h0)
    rcases ho.2 with ⟨hn, _⟩ | ⟨g', cap', cur, hv, hb, hg, h1, h2, h3, h4⟩
    · cases hn
    · obtain ⟨rfl, rfl⟩ : g = g' ∧ cap = cap' := by injection hv with e1 e2 e3; injection e1 with e1; injection e1 with e1; exact ⟨e1, e3⟩
      have hlm : (L.map bl).length = L.length := List.length_map ..
      have h4' : cur.toList.take (L.map bl).length = (L.map bl).map encStr := by rw [enc_bl, hlm]; simpa [encs] using h4
      have hH := holds_of_block (ss := L.map bl) hg h4'
      have hcl := Any.slices_Sort_string Try.sl190 g 0 cap (L.map bl) w hH hlt (by omega)
      rw [hlm] at hcl
      refine hcl.mono ?_
      rintro e w' ⟨rfl, n, os, rfl⟩
      refine ⟨rfl, R_of_ownS h.1 ?_, grownBy_sorted _⟩
      have := ownsRow_sorted (n := n) (os := os) (ss := L.map bl) (ts := (L.map bl).mergeSort fun x y => decide (x ≤ y)) (by simp) hb hg (by rw [hlm]; exact h1) h2 h3
      rw [enc_lb, hlm] at this
      rw [show (sortB L).length = L.length from by unfold sortB; simp]
      exact this
theorem sort_riseS {L : List ByteArray} (hn : L.Nodup) : (sortB L).Pairwise ltB := by
  have h0 : (L.map bl).Nodup := by
    rw [List.Nodup, List.pairwise_map]
    exact List.Pairwise.imp (fun hab e => hab (bl_inj e)) hn
  have h1 : ((L.map bl).mergeSort fun x y => decide (x ≤ y)).Pairwise fun a b => decide (a ≤ b) = true :=
    List.pairwise_mergeSort (fun a b c h1 h2 => by simp only [decide_eq_true_eq] at *; exact List.le_trans h1 h2) (fun a b => by simp only [Bool.or_eq_true, decide_eq_true_eq]; exact List.le_total a b) _
  have h2 : ((L.map bl).mergeSort fun x y => decide (x ≤ y)).Nodup := (List.mergeSort_perm _ _).nodup_iff.2 h0
  unfold sortB
  rw [List.pairwise_map]
  refine List.Pairwise.imp₂ (fun a b h1 h2 => ?_) h1 h2
  unfold ltB
  rw [bl_lb, bl_lb]
  simp only [decide_eq_true_eq] at h1
  exact Classical.byContradiction fun q => h2 (List.le_antisymm h1 (List.not_lt.1 q))
/-- What Ring answers. -/
def RingPostS (w w' : World) (ks : List (ByteArray × ByteArray)) (a : ByteArray) (e : Ending) : Prop :=
  ∃ (v : Value) (L : List ByteArray), e = .returned v ∧ Kd.R (Kd.string) 9 w' w.heap.size (fun k => w.heap.size ≤ k) v L ∧ RingL ltB ks a L ∧ Below w.heap.size w w'
/-- What the loop has found. -/
structure FoundT (ks : List (ByteArray × ByteArray)) (a : ByteArray) (S todo L : List ByteArray) : Prop where
  nodup : L.Nodup
  mem : ∀ x, x ∈ L ↔ x ∈ S ∧ x ∉ todo ∧ Graph.Reach ks x a
theorem FoundT.take {ks : List (ByteArray × ByteArray)} {a : ByteArray} {S todo L : List ByteArray} (h : FoundT ks a S todo L) {x : ByteArray} (hx : x ∈ todo) (hS : x ∈ S) (hr : Graph.Reach ks x a) : FoundT ks a S (todo.filter fun y => decide (y ≠ x)) (L ++ [x]) := by
  have hxl : x ∉ L := fun h2 => ((h.mem x).1 h2).2.1 hx
  refine ⟨nodup_snoc h.nodup hxl, fun y => ?_⟩
  rw [List.mem_append, List.mem_singleton, h.mem y, List.mem_filter]
  by_cases hy : y = x
  · subst hy; simp [hS, hr]
  · simp [hy]
theorem FoundT.skip {ks : List (ByteArray × ByteArray)} {a : ByteArray} {S todo L : List ByteArray} (h : FoundT ks a S todo L) {x : ByteArray} (hr : ¬ Graph.Reach ks x a) : FoundT ks a S (todo.filter fun y => decide (y ≠ x)) L := by
  refine ⟨h.nodup, fun y => ?_⟩
  rw [h.mem y, List.mem_filter]
  by_cases hy : y = x
  · subst hy; simp [hr]
  · simp [hy]
theorem FoundT.le {ks : List (ByteArray × ByteArray)} {a : ByteArray} {S todo L : List ByteArray} (h : FoundT ks a S todo L) (hS : ∀ x, x ∈ S ↔ Graph.Reach ks a x) : L.length ≤ ks.length := by
  have := nodup_le (M := ks.map (·.2)) h.nodup (fun x hx => by
    obtain ⟨c, hc⟩ := ((hS x).1 ((h.mem x).1 hx).1).last
    exact List.mem_map.2 ⟨_, hc, rfl⟩)
  simpa using this
theorem FoundT.ring {ks : List (ByteArray × ByteArray)} {a : ByteArray} {S L : List ByteArray} (h : FoundT ks a S [] L) (hS : ∀ x, x ∈ S ↔ Graph.Reach ks a x) : RingL ltB ks a (sortB L) :=
  ⟨sort_riseS h.nodup, fun x => by rw [mem_sortB, h.mem x, hS x]; simp⟩
set_option maxRecDepth 100000 in
set_option maxHeartbeats 2000000 in
theorem ringS (w : World) (g b : Nat) (ks : List (ByteArray × ByteArray)) (a : ByteArray) (h : GrS w g b ks) (hl : ks.length ≤ 1000) : Calls Try.prog 30 #[.pointer (some ⟨g, 0, none⟩), .string a] w fun e w' => RingPostS w w' ks a e := by
  have H := Aside0.mk h
  clear h
  go_enter Try.func30, Try.ntmps30
  go_wp2_with fail
  refine (reachedS w g b ks a H.out hl).mono ?_
  rintro e w1 ⟨mb, S, rfl, hmb, hm, hS, hb⟩
  obtain ⟨wn, hrg, hra, hbn, hsn⟩ := hm.range (P := Try.prog) Try.underlying73
  have HS := Aside0.mk hS
  have HMB := Aside0.mk hmb
  have HB1 := Aside0.mk (below_then hb hb.size hbn)
  have HRA := Aside0.mk hra
  have HR1 := Aside0.mk hb.size
  have HMR := Aside0.mk (ne_iter (hm.below hbn hm.lt) hra)
  clear hm hS hb hra hbn hmb hsn
  go_wp2_with fail
  clear hrg
  obtain ⟨r, hr⟩ : ∃ r, r = w1.heap.size := ⟨_, rfl⟩
  rw [← hr] at HRA HR1 HMR ⊢
  clear hr
  go_loopg [5] S.length (fun gk v5 wr => ∃ (L todo : List ByteArray), Aside0 (todo.length ≤ gk) ∧ Aside0 (FoundT ks a S todo L) ∧ Aside0 (Below w.heap.size w wr) ∧ Aside0 (RangeAt (Value.string) wr mb r S todo) ∧ Aside0 (Kd.R (Kd.string) 9 wr w.heap.size (fun k => w.heap.size ≤ k) v5 L))
  case atStart => exact ⟨[], S, ⟨Nat.le_refl _⟩, ⟨⟨List.nodup_nil, fun x => by simp; exact fun h1 h2 => absurd h1 h2⟩⟩, HB1, HRA, ⟨Kd.R_nil _ _ _ _ _⟩⟩
  case round =>
    obtain ⟨L, todo, HT, HF, HB, HR, HL⟩ := hrel
    clear HB1 HRA
    obtain ⟨A, c, rfl⟩ := Kd.R_slice HL.out
    have hll : L.length ≤ 1000 := by have := HF.out.le HS.out; omega
    rcases HR.out.next (P := Try.prog) keyS 0 with ⟨ht, hrun⟩ | ⟨x, hx, wa, hrun, hra1, hg1, hs1, hen⟩
    · have hrun' : ∀ ty, (Instr.next (.pointer (some ⟨r, 0, none⟩)) false ty).run Try.prog wr = .ok (.tuple #[.bool false]) wr := fun _ => hrun
      subst ht
      clear hrun
      go_wp2_with fail
      refine (sortS HL.out hll).mono ?_
      rintro e ws ⟨rfl, hs, hg⟩
      have HSS := Aside0.mk hs
      have HG := Aside0.mk hg
      clear hs hg
      go_wp2_with fail
      go_ret
      exact ⟨_, _, rfl, HSS.out, HF.out.ring HS.out, HB.out.grown HG.out HB.out.size (fun k hk => HL.out.1 k hk)⟩
    · have hrun' : ∀ ty, (Instr.next (.pointer (some ⟨r, 0, none⟩)) false ty).run Try.prog wr = .ok (.tuple #[.bool true, .string x, .bool true]) wa := fun _ => hrun
      have HX := Aside0.mk hx
      have HXS := Aside0.mk (HR.out.sub _ hx)
      have HBa := Aside0.mk (HB.out.grown hg1 HB.out.size (fun k hk => by injection hk with hk; rw [← hk]; exact HR1.out))
      have HLa := Aside0.mk (Kd.R_grown1 HL.out rfl hg1 (Q_notR (Kd.Q_of_R HL.out) HR.out))
      have HRa := Aside0.mk hra1
      have HTT := Aside0.mk (show (todo.filter fun z => decide (z ≠ x)).length ≤ gk - 1 ∧ gk - 1 < gk from by have h1 := MapL.filter_lt hx; have h2 := HT.out; omega)
      clear hrun hx hra1 hg1 hs1 HL HB HR
      have HGa := Aside0.mk (H.out.below HBa.out)
      go_wp2_with fail
      refine (leadsS wa g b ks x a HGa.out hl).mono ?_
      rintro e wl ⟨q, rfl, hq, hb⟩
      have HBl := Aside0.mk (below_then HBa.out HBa.out.size hb)
      have HLl := Aside0.mk (Kd.R_below HLa.out hb)
      have HRl := Aside0.mk (HRa.out.below hb HRa.out.map.lt HRa.out.lt)
      have HQ := Aside0.mk hq
      clear hq hb hrun' hen HBa HLa HRa HGa
      have hszl := HBl.out.size
      cases q with
      | false =>
        go_wp2_with fail
        go_roundg (gk - 1)
        case measure => exact HTT.out.2
        case rel => exact ⟨L, _, ⟨HTT.out.1⟩, ⟨HF.out.skip (fun h => absurd (HQ.out.2 h) (by decide))⟩, HBl, HRl, HLl⟩
      | true =>
        have HQT := Aside0.mk (HQ.out.1 rfl)
        clear HQ
        go_wp2_with (at_builtin; refine Kd.R_append (Kd.string) (w0 := w) (W := wl) w.heap.size (by rfl) (.tmp 19) (.tmp 21) 56 9 (.string ByteArray.empty) 16 (by rfl) Try.underlying56 infoS rfl (by decide) (by omega) (.slice A L.length c) L x [.string x] (fun k => w.heap.size ≤ k) (fun _ => False) (by rfl) (by rfl) rfl (fun _ hk => hk.elim) (fun k hk => Nat.le_trans hszl hk) HLl.out HBl.out hszl (by omega) ?_; intro v1 w3 hq3 hb3 hg3 hat3; have HL3 := Aside0.mk hq3; have HB3 := Aside0.mk hb3; have HR3 := Aside0.mk (HRl.out.grown hg3 (Q_notM (Kd.Q_of_R HLl.out) HRl.out.map) (Q_notR (Kd.Q_of_R HLl.out) HRl.out)); clear hq3 hb3 hg3 hat3)
        go_roundg (gk - 1)
        case measure => exact HTT.out.2
        case rel => exact ⟨L ++ [x], _, ⟨HTT.out.1⟩, ⟨HF.out.take HX.out HXS.out HQT.out⟩, HB3, HR3, HL3⟩
end Go.Proofs.Ytgjjfldfdkoedaa
