/- find's left: what there is behind all, in order. -/
import Derived.Test.YtaahfokdgfopcaaZFz
import Derived.Test.YtaahfokdgfopcaaZBx
import Derived.Deep.DeepCutAuto
import Derived.Deep.CutBlock
namespace Go.Proofs.Ytaahfokdgfopcaa
open Go.RowKit Go.Proofs.YtaahfokdgfopcaaW.PrintWords Go.Proofs.YtaahfokdgfopcaaW.PrintLast Go.Proofs.YtaahfokdgfopcaaW.PrintMore
open Rf MapL MapV
set_option linter.unusedVariables false
set_option linter.unusedSimpArgs false
abbrev kU : Kd Int := Kd.int .u64
theorem infoTxn : (Try.prog.info? 46).map (fun i => (i.zero, i.size, i.bytes)) = some (some (.agg #[.int .i64 0, .int .i64 0, .int .u64 0]), 3, 24) := by kernel_rfl
theorem infoLsn : (Try.prog.info? 26).map (fun i => (i.zero, i.size, i.bytes)) = some (some (.int .u64 0), 1, 8) := by kernel_rfl
theorem infoDir : (Try.prog.info? 49).map (fun i => (i.zero, i.size, i.bytes)) = some (some (.agg #[.int .i64 0, .int .u64 0]), 2, 16) := by kernel_rfl
theorem cell_lt {w : World} {a : Addr} {u : Value} (h : w.cell? a = some u) : a.block < w.heap.size := by
  apply Decidable.byContradiction
  intro hn
  have hnone : w.heap[a.block]? = none := Array.getElem?_eq_none (by omega)
  simp [World.cell?, hnone] at h
section
variable {b : Wb} {w w' : World}
theorem Bel.cell (h : Bel b w) {p : Addr} (hp : p.block < b.w.heap.size) (hn : ¬ b.B p.block) : w.cell? p = b.w.cell? p := by
  unfold World.cell?
  rw [h.block _ hp hn]
theorem Bel.blk (h : Bel b w) {q : Nat} {o : Obj} (hq : b.w.heap[q]? = some o) (hn : ¬ b.B q) : w.heap[q]? = some o := (h.block q (blk_lt hq) hn).trans hq
theorem Bel.map {tk f : Int → Value} {m : Nat} {ks : List Int} (h : Bel b w) (hm : MapV.MapAt tk f b.w m ks) (hn : ¬ b.B m) : MapV.MapAt tk f w m ks := hm.of_block (h.block m hm.lt hn)
theorem Bel.row {α : Type} {K : Kd α} {e : TypeId} {base : Nat} {v : Value} {xs : List α} (h : Bel b w) (hE : K.E = []) (hr : Kd.R K e b.w base (fun _ => True) v xs) (hn : ∀ q, v.ownBlock = some q → ¬ b.B q) : Kd.R K e w base (fun _ => True) v xs := by
  obtain ⟨inner, ho⟩ := Kd.R_own hr
  refine Kd.R_mono (Kd.R_move (w1 := w) (Kd.R_tight2 hE hr) (fun k hk => ?_)) (fun _ _ => trivial)
  exact h.block k (own_lt ho k hk.1.symm) (hn k hk.1.symm)
theorem Bel.set {g j : Nat} {v : Value} (h : Bel b w) (hg : b.T g) : Bel b (w.setCell ⟨g, j, none⟩ v) :=
  h.grown (g := g) ⟨rfl, rfl, rfl, by simp [World.setCell], fun k hk hne => Below.heap_setCell _ ⟨g, j, none⟩ _ k (fun e => hne (by rw [e]))⟩ hg
theorem Bel.grownO {row : Option Nat} (h : Bel b w) (hg : w.grownBy w' row) (ht : ∀ g, row = some g → b.T g) : Bel b w' := by
  cases row with
  | some g => exact h.grown hg (ht g rfl)
  | none => exact h.then ⟨hg.os, hg.tape, hg.output, hg.size, fun k hk => hg.block k hk (by simp)⟩
theorem Bel.under {w0 : World} (h : Bel b w) (hb : Below w0.heap.size w0 b.w) (hB : ∀ q, b.B q → w0.heap.size ≤ q) : Below w0.heap.size w0 w := by
  have hl := h.low
  refine ⟨hl.os.trans hb.os, hl.tape.trans hb.tape, hl.output.trans hb.output, Nat.le_trans hb.size hl.size, fun k hk => ?_⟩
  exact (h.block k (Nat.lt_of_lt_of_le hk hb.size) (fun q => by have := hB k q; omega)).trans (hb.block k hk)
end
/-- Rows of elements of different types lie apart. -/
theorem R_apart {α β : Type} {K1 : Kd α} {K2 : Kd β} {e1 e2 : TypeId} {w : World} {b1 b2 : Nat} {ok1 ok2 : Nat → Prop} {v1 v2 : Value} {xs : List α} {ys : List β} (h1 : Kd.R K1 e1 w b1 ok1 v1 xs) (h2 : Kd.R K2 e2 w b2 ok2 v2 ys) (hne : e1 ≠ e2) (q : Nat) (hq : v1.ownBlock = some q) : v2.ownBlock ≠ some q := by
  intro hq2
  obtain ⟨i1, o1⟩ := Kd.R_own h1
  obtain ⟨i2, o2⟩ := Kd.R_own h2
  obtain ⟨c1, hc1⟩ := own_typed o1 q hq
  obtain ⟨c2, hc2⟩ := own_typed o2 q hq2
  rw [hc1] at hc2
  injection hc2 with hc2
  injection hc2 with _ h3
  exact hne h3
theorem grown_set3 (w : World) (q j : Nat) (v : Value) : w.grownBy (w.setCell ⟨q, j, none⟩ v) (some q) := ⟨rfl, rfl, rfl, by simp [World.setCell], fun k hk hne => Below.heap_setCell _ ⟨q, j, none⟩ _ k (fun e => hne (by rw [e]))⟩
/-- A row stays where a box is written. -/
theorem R_box {α : Type} {K : Kd α} {e t : TypeId} {w : World} {base g j : Nat} {v u : Value} {xs : List α} {cs : Array Value} (h : Kd.R K e w base (fun _ => True) v xs) (hE : K.E = []) (hg : w.heap[g]? = some (.cells cs t (0, 0))) (hne : some g ≠ v.ownBlock) : Kd.R K e (w.setCell ⟨g, j, none⟩ u) base (fun _ => True) v xs :=
  Kd.R_grown2 h hE (grown_set3 w g j u) (fun q hq e => by injection hq with hq; subst hq; exact hne e)
theorem field0 (a b c d : Value) (w : World) : (Instr.field 91 (.agg #[a, b, c, d]) 0).run Try.prog w = .ok (.agg #[a, b, c]) w := by kernel_rfl
theorem field1 (a b c d : Value) (w : World) : (Instr.field 91 (.agg #[a, b, c, d]) 1).run Try.prog w = .ok d w := by kernel_rfl
def txnOf (F : Int → Goi) (id : Int) : SGTxn := ⟨id, (F id).st, (F id).last⟩
def dirOf (D : Int → Int) (p : Int) : SGDirty := ⟨p, D p⟩
/-- The least of some pages' first records. -/
def redoF (D : Int → Int) (a p : Int) : Int := if a = 0 ∨ D p < a then D p else a
def redoOf (D : Int → Int) (M : List Int) : Int := M.foldl (redoF D) 0
theorem sort_rise (ss ks : List Int) (h : ss.Perm ks) (hn : ks.Nodup) : (ss.mergeSort (fun x y => decide (x ≤ y))).Pairwise (· < ·) := by
  have h1 := List.pairwise_mergeSort (le := fun x y : Int => decide (x ≤ y)) (fun a b c h1 h2 => by simp at h1 h2 ⊢; omega) (fun a b => by simp; omega) ss
  have h2 : (ss.mergeSort (fun x y => decide (x ≤ y))).Nodup := ((List.mergeSort_perm ss _).trans h).nodup_iff.2 hn
  have h3 := List.pairwise_and_iff.2 ⟨h1, h2⟩
  exact h3.imp (fun {a b} q => by have q1 := q.1; have q2 := q.2; simp at q1; omega)
/-- The sorted keys, as a walk reads them. -/
theorem ids_read {w2 : World} {base : Nat} {v : Value} {ss : List Int} {q0 : Nat} {cs : Array Value} (hrow : w2.ownsRow base 3 1 v ss.length ((ss.mergeSort (fun x y => decide (x ≤ y))).map (Value.int .i64))) (hq : w2.heap[q0]? = some (.cells cs 34 (0, 0))) :
    ∃ (A : Option Addr) (c : Nat), v = .slice A (ss.mergeSort (fun x y => decide (x ≤ y))).length c ∧ ∀ wr, Bel ⟨w2, fun q => q = q0⟩ wr → ∀ j (hj : j < (ss.mergeSort (fun x y => decide (x ≤ y))).length), ∃ ad : Addr, A = some ad ∧ wr.cell? (ad.add j) = some (.int .i64 (ss.mergeSort (fun x y => decide (x ≤ y)))[j]) := by
  obtain ⟨A, c, hv, hr⟩ := own_reads (k := .i64) (xs := ss.mergeSort (fun x y => decide (x ≤ y))) hrow
  have hLn : (ss.mergeSort (fun x y => decide (x ≤ y))).length = ss.length := List.length_mergeSort ss
  subst hv
  refine ⟨A, c, by rw [hLn], fun wr hwr j hj => ?_⟩
  obtain ⟨ad, e, hcl⟩ := hr.2.2 (by omega)
  have h0 := hcl j (by omega)
  rw [List.getD_eq_getElem?_getD, List.getElem?_eq_getElem hj] at h0
  refine ⟨ad, e, ?_⟩
  subst e
  have hne : (ad.add j).block ≠ q0 := by
    intro he
    obtain ⟨c1, hc1⟩ := own_typed hrow ad.block (by
      rcases hrow.2 with ⟨hv, h00⟩ | ⟨g', cap', cur, hv, _⟩
      · cases hv
      · injection hv with ha _ _
        injection ha with ha
        subst ha
        rfl)
    have he : ad.block = q0 := by
      unfold Addr.add at he
      split at he <;> exact he
    rw [he, hq] at hc1
    injection hc1 with hc1
    injection hc1 with _ h3
    exact absurd h3 (by decide)
  rw [hwr.cell (cell_lt h0) hne]
  exact h0
set_option maxRecDepth 100000 in
set_option maxHeartbeats 8000000 in
theorem left_calls (b : Wb) (w : World) (m1 m2 : Nat) (s : Wst) (A0 : Option Addr) (n0 c0 : Nat) (h : Walks b w m1 m2 s) (hk1 : ∀ x ∈ s.ks, 0 ≤ x ∧ x ≤ 1073741824) (hk2 : ∀ x ∈ s.ds, 0 ≤ x ∧ x ≤ 1073741824) (hl1 : s.ks.length ≤ 1000) (hl2 : s.ds.length ≤ 1000) :
    Calls Try.prog 42 #[.agg #[.map (some m1), .map (some m2), .slice A0 n0 c0]] w fun e w' => ∃ (v1 v2 v3 : Value) (L M : List Int), e = .returned (.agg #[v1, v2, v3, .int .u64 (redoOf s.D M)]) ∧ L.Perm s.ks ∧ L.Pairwise (· < ·) ∧ M.Perm s.ds ∧ M.Pairwise (· < ·) ∧
      Kd.R kGTxn 46 w' w.heap.size (fun _ => True) v1 (L.map (txnOf s.F)) ∧ Kd.R kU 26 w' w.heap.size (fun _ => True) v2 (L.map fun id => (s.F id).next) ∧ Kd.R kGDirty 49 w' w.heap.size (fun _ => True) v3 (M.map (dirOf s.D)) ∧ Below w.heap.size w w' := by
  have HW := Aside0.mk h
  have HK1 := Aside0.mk hk1
  have HK2 := Aside0.mk hk2
  clear h hk1 hk2
  go_enter Try.func42, Try.ntmps42
  have hba := below_alloc (below_alloc (below_alloc (Below.refl w.heap.size w) (.cells #[.map (some m1), .map (some m2), .slice A0 n0 c0] 81)) (.cells #[.slice none 0 0, .slice none 0 0, .slice none 0 0, .int .u64 0] 34)) (.cells #[.slice none 0 0, .slice none 0 0, .slice none 0 0, .int .u64 0] 34)
  have hb1 := blk_alloc (blk_alloc (heap_alloc_new w (.cells #[.map (some m1), .map (some m2), .slice A0 n0 c0] 81)) (.cells #[.slice none 0 0, .slice none 0 0, .slice none 0 0, .int .u64 0] 34)) (.cells #[.slice none 0 0, .slice none 0 0, .slice none 0 0, .int .u64 0] 34)
  have hb2 := blk_alloc (heap_alloc_new (w.alloc (.cells #[.map (some m1), .map (some m2), .slice A0 n0 c0] 81)) (.cells #[.slice none 0 0, .slice none 0 0, .slice none 0 0, .int .u64 0] 34)) (.cells #[.slice none 0 0, .slice none 0 0, .slice none 0 0, .int .u64 0] 34)
  have hb3 := heap_alloc_new ((w.alloc (.cells #[.map (some m1), .map (some m2), .slice A0 n0 c0] 81)).alloc (.cells #[.slice none 0 0, .slice none 0 0, .slice none 0 0, .int .u64 0] 34)) (.cells #[.slice none 0 0, .slice none 0 0, .slice none 0 0, .int .u64 0] 34)
  have e1 : (w.alloc (.cells #[.map (some m1), .map (some m2), .slice A0 n0 c0] 81)).heap.size = w.heap.size + 1 := World.size_alloc _ _
  have e2 : ((w.alloc (.cells #[.map (some m1), .map (some m2), .slice A0 n0 c0] 81)).alloc (.cells #[.slice none 0 0, .slice none 0 0, .slice none 0 0, .int .u64 0] 34)).heap.size = w.heap.size + 1 + 1 := by rw [World.size_alloc, e1]
  rw [e1] at hb2
  rw [e2] at hb3
  clear e1 e2
  go_upto_region 2 with fail
  have HBa := Aside0.mk hba
  have HWa := Aside0.mk (HW.out.next hba)
  have H1a := Aside0.mk hb1
  have H2a := Aside0.mk hb2
  have H3a := Aside0.mk hb3
  obtain ⟨Z, hZ⟩ : ∃ x, x = w.heap.size := ⟨_, rfl⟩
  generalize ((w.alloc (.cells #[.map (some m1), .map (some m2), .slice A0 n0 c0] 81)).alloc (.cells #[.slice none 0 0, .slice none 0 0, .slice none 0 0, .int .u64 0] 34)).alloc (.cells #[.slice none 0 0, .slice none 0 0, .slice none 0 0, .int .u64 0] 34) = wa at HBa HWa H1a H2a H3a ⊢
  rw [← hZ] at H1a H2a H3a ⊢
  have HZ := Aside0.mk hZ
  have HM := Aside0.mk (show m1 < Z ∧ m2 < Z from ⟨by rw [hZ]; exact HW.out.tx.lt, by rw [hZ]; exact HW.out.di.lt⟩)
  clear hba hb1 hb2 hb3 hZ
  have z0 := blk_cell H1a.out 0
  go_wp2_with fail
  refine (keysG_calls (some m1) wa).mono ?_
  rintro e w1 ⟨rfl, rfl⟩
  go_wp2_with fail
  refine (sortedG_calls wa m1 s.ks HWa.out.tx HK1.out hl1).mono ?_
  rintro e w2 ⟨v, ss, rfl, hp, hrow, hb⟩
  clear z0
  have hb' : Below wa.heap.size wa w2 := (below_alloc (Below.refl wa.heap.size wa) (.cells #[.map (some m1)] 76)).trans ⟨hb.os, hb.tape, hb.output, hb.size, fun k hk => hb.block k (by omega)⟩
  have HB2 := Aside0.mk (below_then HBa.out HBa.out.size hb')
  have H12 := Aside0.mk (blk_below H1a.out hb')
  have H22 := Aside0.mk (blk_below H2a.out hb')
  have H32 := Aside0.mk (blk_below H3a.out hb')
  have HT2 := Aside0.mk (HWa.out.tx.below hb' HWa.out.tx.lt)
  have HD2 := Aside0.mk (HWa.out.di.below hb' HWa.out.di.lt)
  obtain ⟨A, c, rfl, hrd⟩ := ids_read hrow H32.out
  have hLp := (List.mergeSort_perm ss (fun x y => decide (x ≤ y))).trans hp
  have hLr := sort_rise ss s.ks hp HWa.out.tx.nodup
  generalize ss.mergeSort (fun x y => decide (x ≤ y)) = L at hrd hLp hLr ⊢
  have HLP := Aside0.mk hLp
  have HLR := Aside0.mk hLr
  have HRD := Aside0.mk hrd
  have hlen : L.length ≤ 1000 := by rw [hLp.length_eq]; exact hl1
  clear hrow hrd hLp hLr hb hb' hp HWa H1a H2a H3a HBa
  go_wp2_with fail
  go_loopg [15] L.length (fun gk v15 wr => ∃ (k : Nat) (v1 v2 : Value), Aside0 (k + gk = L.length) ∧ v15 = .int .i64 k ∧ k ≤ L.length ∧ Aside0 (Bel ⟨w2, fun q => q = Z + 1 + 1⟩ wr) ∧ Aside0 (wr.heap[Z + 1 + 1]? = some (.cells #[v1, v2, .slice none 0 0, .int .u64 0] 34 (0, 0))) ∧ Aside0 (Kd.R kGTxn 46 wr w2.heap.size (fun _ => True) v1 ((L.take k).map (txnOf s.F))) ∧ Aside0 (Kd.R kU 26 wr w2.heap.size (fun _ => True) v2 ((L.take k).map fun id => (s.F id).next)))
  case atStart => exact ⟨0, _, _, ⟨by omega⟩, rfl, Nat.zero_le _, ⟨Bel.refl ⟨w2, fun q => q = Z + 1 + 1⟩⟩, H32, ⟨Kd.R_nil _ _ _ _ _⟩, ⟨Kd.R_nil _ _ _ _ _⟩⟩
  case round =>
    obtain ⟨k, v1, v2, HK, rfl, hk, HBr, HXr, HR1, HR2⟩ := hrel
    obtain ⟨A1, C1, hv1⟩ := Kd.R_slice HR1.out
    obtain ⟨A2, C2, hv2⟩ := Kd.R_slice HR2.out
    rw [show ((L.take k).map (txnOf s.F)).length = k from by rw [List.length_map, List.length_take]; omega] at hv1
    rw [show ((L.take k).map fun id => (s.F id).next).length = k from by rw [List.length_map, List.length_take]; omega] at hv2
    subst hv1
    subst hv2
    by_cases hlt : k < L.length
    ·
      obtain ⟨ad, rfl, hcell⟩ := HRD.out wr HBr.out k hlt
      have hmem : L[k] ∈ s.ks := HLP.out.mem_iff.1 (List.getElem_mem hlt)
      have HTK := Aside0.mk (show L.take (k + 1) = L.take k ++ [L[k]] from List.take_succ_eq_append_getElem hlt)
      have HTr := Aside0.mk (HBr.out.map HT2.out (fun e => by have := HM.out; have e : m1 = Z + 1 + 1 := e; omega))
      have hlk : ∀ W, MapV.MapAt (Value.int .i64) (gV s.F) W m1 s.ks → (Instr.lookup 76 (.map (some m1)) (.int .i64 L[k]) false).run Try.prog W = .ok (goiV L[k] (s.F L[k])) W := fun W hW => by
        have := hW.look keyI Try.underlying76 (zeroG _) L[k]
        rwa [if_pos hmem] at this
      have HLK := Aside0.mk hlk
      have hl0 := hlk wr HTr.out
      unfold goiV at hl0
      have y0 : wr.cell? ⟨Z, 0, none⟩ = some (.map (some m1)) := blk_cell (HBr.out.blk H12.out (fun e => by have e : Z = Z + 1 + 1 := e; omega)) 0
      have x0 := blk_cell HXr.out 0
      have x1 := blk_cell HXr.out 1
      obtain ⟨x, hx⟩ : ∃ x, x = L[k] := ⟨_, rfl⟩
      rw [← hx] at hcell hl0
      have HX := Aside0.mk hx
      have hrl : (L.take k).length = k := by rw [List.length_take]; omega
      have HRL := Aside0.mk hrl
      clear hlk hmem hx hrl
      have hf0 := fun W => field0 (.int .i64 x) (.int .i64 (s.F x).st) (.int .u64 (s.F x).last) (.int .u64 (s.F x).next) W
      have hf1 := fun W => field1 (.int .i64 x) (.int .i64 (s.F x).st) (.int .u64 (s.F x).last) (.int .u64 (s.F x).next) W
      have hu := Try.underlying30
      have hwz := HBr.out.size
      have hl24 : ((L.take k).map (txnOf s.F)).length = k := by rw [List.length_map, HRL.out]
      have hl8 : ((L.take k).map fun id => (s.F id).next).length = k := by rw [List.length_map, HRL.out]
      have HL24 := Aside0.mk hl24
      have HL8 := Aside0.mk hl8
      clear hl24 hl8
      go_upto_region 6 with (at_builtin; refine Kd.R_append kGTxn (w0 := wr) (W := wr) w2.heap.size (by rfl) (.tmp 20) (.tmp 27) 30 46 (.agg #[.int .i64 0, .int .i64 0, .int .u64 0]) 24 (by rfl) Try.underlying30 infoTxn rfl (by decide) (by omega) _ ((L.take k).map (txnOf s.F)) (txnOf s.F x) [.int .i64 x, .int .i64 (s.F x).st, .int .u64 (s.F x).last] (fun _ => True) (fun _ => False) (by rfl) (by rfl) (kGTxn_mkM _ _ _ _) (fun _ hk => hk.elim) (fun _ _ => trivial) HR1.out (Below.refl _ _) hwz (by rw [HL24.out]; omega) ?_; intro v1n w7 ho hb hg hat; obtain ⟨A7, C7, hv7⟩ := Kd.R_slice ho; rw [List.length_append, HL24.out, List.length_singleton] at hv7; subst hv7; have HR7 := Aside0.mk ho; have HX7 := Aside0.mk (blk_grown HXr.out hg (Kd.R_ne HR1.out HXr.out (by decide))); have HB7 := Aside0.mk (HBr.out.grownO hg (fun q hq => .inl (by obtain ⟨inner, hown⟩ := Kd.R_own HR1.out; exact own_base hown q hq))); have HQ7 := Aside0.mk (Kd.R_grown2 HR2.out rfl hg (fun q hq e => R_apart HR1.out HR2.out (by decide) q hq e.symm)); have f0 := blk_frozen HX7.out 0; have c0_ := blk_cell HX7.out 0; clear ho hb hg hat)
      have HX8 := Aside0.mk (show (w7.setCell ⟨Z + 1 + 1, 0, none⟩ (.slice A7 (k + 1) C7)).heap[Z + 1 + 1]? = some (.cells #[.slice A7 (k + 1) C7, .slice A2 k C2, .slice none 0 0, .int .u64 0] 34 (0, 0)) from blk_put HX7.out 0 _ rfl)
      have HB8 := Aside0.mk (HB7.out.set (g := Z + 1 + 1) (j := 0) (v := .slice A7 (k + 1) C7) (.inr rfl))
      have HP8 := Aside0.mk (R_box (j := 0) (u := .slice A7 (k + 1) C7) HR7.out rfl HX7.out (Kd.R_ne HR7.out HX7.out (by decide)))
      have HQ8 := Aside0.mk (R_box (j := 0) (u := .slice A7 (k + 1) C7) HQ7.out rfl HX7.out (Kd.R_ne HQ7.out HX7.out (by decide)))
      generalize w7.setCell ⟨Z + 1 + 1, 0, none⟩ (.slice A7 (k + 1) C7) = w8 at HX8 HB8 HP8 HQ8 ⊢
      clear HR7 HX7 HB7 HQ7 f0 c0_ y0 x0 x1 hl0 hcell hwz
      have HT8 := Aside0.mk (HB8.out.map HT2.out (fun e => by have := HM.out; have e : m1 = Z + 1 + 1 := e; omega))
      have hl0 := HLK.out w8 HT8.out
      unfold goiV at hl0
      rw [← HX.out] at hl0
      have y0 : w8.cell? ⟨Z, 0, none⟩ = some (.map (some m1)) := blk_cell (HB8.out.blk H12.out (fun e => by have e : Z = Z + 1 + 1 := e; omega)) 0
      have x1 := blk_cell HX8.out 1
      have hwz := HB8.out.size
      go_upto_region 7 with (at_builtin; refine Kd.R_append kU (w0 := w8) (W := w8) w2.heap.size (by rfl) (.tmp 31) (.tmp 38) 31 26 (.int .u64 0) 8 (by rfl) Try.underlying31 infoLsn rfl (by decide) (by omega) _ ((L.take k).map fun id => (s.F id).next) ((s.F x).next) [.int .u64 (s.F x).next] (fun _ => True) (fun _ => False) (by rfl) (by rfl) rfl (fun _ hk => hk.elim) (fun _ _ => trivial) HQ8.out (Below.refl _ _) hwz (by rw [HL8.out]; omega) ?_; intro v1n w9 ho hb hg hat; obtain ⟨A7_1, C7_1, hv7⟩ := Kd.R_slice ho; rw [List.length_append, HL8.out, List.length_singleton] at hv7; subst hv7; have HR7 := Aside0.mk ho; have HX7 := Aside0.mk (blk_grown HX8.out hg (Kd.R_ne HQ8.out HX8.out (by decide))); have HB7 := Aside0.mk (HB8.out.grownO hg (fun q hq => .inl (by obtain ⟨inner, hown⟩ := Kd.R_own HQ8.out; exact own_base hown q hq))); have HP7 := Aside0.mk (Kd.R_grown2 HP8.out rfl hg (fun q hq e => R_apart HQ8.out HP8.out (by decide) q hq e.symm)); have f0 := blk_frozen HX7.out 1; have c0_ := blk_cell HX7.out 1; clear ho hb hg hat)
      have HX9 := Aside0.mk (show (w9.setCell ⟨Z + 1 + 1, 1, none⟩ (.slice A7_1 (k + 1) C7_1)).heap[Z + 1 + 1]? = some (.cells #[.slice A7 (k + 1) C7, .slice A7_1 (k + 1) C7_1, .slice none 0 0, .int .u64 0] 34 (0, 0)) from blk_put HX7.out 1 _ rfl)
      have HB9 := Aside0.mk (HB7.out.set (g := Z + 1 + 1) (j := 1) (v := .slice A7_1 (k + 1) C7_1) (.inr rfl))
      have HP9 := Aside0.mk (R_box (j := 1) (u := .slice A7_1 (k + 1) C7_1) HP7.out rfl HX7.out (Kd.R_ne HP7.out HX7.out (by decide)))
      have HQ9 := Aside0.mk (R_box (j := 1) (u := .slice A7_1 (k + 1) C7_1) HR7.out rfl HX7.out (Kd.R_ne HR7.out HX7.out (by decide)))
      generalize w9.setCell ⟨Z + 1 + 1, 1, none⟩ (.slice A7_1 (k + 1) C7_1) = w10 at HX9 HB9 HP9 HQ9 ⊢
      clear HR7 HX7 HB7 HP7 f0 c0_ y0 x1 hl0 hwz
      go_wp2_with fail
      go_roundg (gk - 1)
      case measure => have := HK.out; omega
      case rel => exact ⟨k + 1, _, _, ⟨by have := HK.out; omega⟩, (by go_num), by omega, HB9, HX9, ⟨by rw [HTK.out, List.map_append, ← HX.out]; exact HP9.out⟩, ⟨by rw [HTK.out, List.map_append, ← HX.out]; exact HQ9.out⟩⟩
    · obtain rfl : k = L.length := by omega
      have hR1 := HR1.out
      have hR2 := HR2.out
      rw [List.take_length] at hR1 hR2
      obtain ⟨n1, hn1⟩ : ∃ n, n = L.length := ⟨_, rfl⟩
      rw [← hn1] at HXr ⊢
      have HR1e := Aside0.mk (show Kd.R kGTxn 46 wr w2.heap.size (fun _ => True) (.slice A1 n1 C1) (L.map (txnOf s.F)) from by rw [hn1]; exact hR1)
      have HR2e := Aside0.mk (show Kd.R kU 26 wr w2.heap.size (fun _ => True) (.slice A2 n1 C2) (L.map fun id => (s.F id).next) from by rw [hn1]; exact hR2)
      clear hR1 hR2 HR1 HR2 hn1 HRD hlt
      have y1 : wr.cell? ⟨Z, 1, none⟩ = some (.map (some m2)) := blk_cell (HBr.out.blk H12.out (fun e => by have e : Z = Z + 1 + 1 := e; omega)) 1
      have HDr := Aside0.mk (HBr.out.map HD2.out (fun e => by have := HM.out; have e : m2 = Z + 1 + 1 := e; omega))
      go_wp2_with fail
      refine (keysD_calls (some m2) wr).mono ?_
      rintro e w4 ⟨rfl, rfl⟩
      go_wp2_with fail
      refine (sortedD_calls wr m2 s.ds HDr.out HK2.out hl2).mono ?_
      rintro e w5 ⟨v, ss, rfl, hp, hrow, hb⟩
      clear y1
      have hb' : Below wr.heap.size wr w5 := (below_alloc (Below.refl wr.heap.size wr) (.cells #[.map (some m2)] 77)).trans ⟨hb.os, hb.tape, hb.output, hb.size, fun k hk => hb.block k (by omega)⟩
      have HB5 := Aside0.mk (HBr.out.then hb')
      have HX5 := Aside0.mk (blk_below HXr.out hb')
      have HR5 := Aside0.mk (Kd.R_below HR1e.out hb')
      have HQ5 := Aside0.mk (Kd.R_below HR2e.out hb')
      have H15 := Aside0.mk (HB5.out.blk H12.out (fun e => by have e : Z = Z + 1 + 1 := e; omega))
      have H25 := Aside0.mk (HB5.out.blk H22.out (fun e => by have e : Z + 1 = Z + 1 + 1 := e; omega))
      have HD5 := Aside0.mk (HB5.out.map HD2.out (fun e => by have := HM.out; have e : m2 = Z + 1 + 1 := e; omega))
      have HS5 := Aside0.mk HB5.out.size
      have HU5 := Aside0.mk (HB5.out.under HB2.out (fun q hq => by have hq : q = Z + 1 + 1 := hq; have := HZ.out; omega))
      obtain ⟨Am, cm, rfl, hrd⟩ := ids_read hrow HX5.out
      have hMp := (List.mergeSort_perm ss (fun x y => decide (x ≤ y))).trans hp
      have hMr := sort_rise ss s.ds hp HDr.out.nodup
      generalize ss.mergeSort (fun x y => decide (x ≤ y)) = M at hrd hMp hMr ⊢
      have HMP := Aside0.mk hMp
      have HMR := Aside0.mk hMr
      have HMD := Aside0.mk hrd
      have hmlen : M.length ≤ 1000 := by rw [hMp.length_eq]; exact hl2
      clear hrow hrd hMp hMr hb hb' hp HBr HXr HR1e HR2e HDr HB5
      go_wp2_with fail
      go_loopg [48] M.length (fun gj v48 wr => ∃ (k : Nat) (v3 : Value) (rd : Int), Aside0 (k + gj = M.length) ∧ v48 = .int .i64 k ∧ k ≤ M.length ∧ Aside0 (rd = redoOf s.D (M.take k)) ∧ Aside0 (Bel ⟨w5, fun q => q = Z + 1 + 1⟩ wr) ∧ Aside0 (wr.heap[Z + 1 + 1]? = some (.cells #[.slice A1 n1 C1, .slice A2 n1 C2, v3, .int .u64 rd] 34 (0, 0))) ∧ Aside0 (Kd.R kGDirty 49 wr w5.heap.size (fun _ => True) v3 ((M.take k).map (dirOf s.D))))
      case atStart => exact ⟨0, _, 0, ⟨by omega⟩, rfl, Nat.zero_le _, ⟨rfl⟩, ⟨Bel.refl ⟨w5, fun q => q = Z + 1 + 1⟩⟩, HX5, ⟨Kd.R_nil _ _ _ _ _⟩⟩
      case round =>
        obtain ⟨k, v3, rd, HK, rfl, hk, HRDO, HBr, HXr, HR3⟩ := hrel
        obtain ⟨A3, C3, hv3⟩ := Kd.R_slice HR3.out
        rw [show ((M.take k).map (dirOf s.D)).length = k from by rw [List.length_map, List.length_take]; omega] at hv3
        subst hv3
        by_cases hlt : k < M.length
        ·
          obtain ⟨ad, rfl, hcell⟩ := HMD.out wr HBr.out k hlt
          have hmem : M[k] ∈ s.ds := HMP.out.mem_iff.1 (List.getElem_mem hlt)
          have HTK := Aside0.mk (show M.take (k + 1) = M.take k ++ [M[k]] from List.take_succ_eq_append_getElem hlt)
          have HTr := Aside0.mk (HBr.out.map HD5.out (fun e => by have := HM.out; have e : m2 = Z + 1 + 1 := e; omega))
          have hlk : ∀ W, MapV.MapAt (Value.int .i64) (dV s.D) W m2 s.ds → (Instr.lookup 77 (.map (some m2)) (.int .i64 M[k]) false).run Try.prog W = .ok (.int .u64 (s.D M[k])) W := fun W hW => by
            have := hW.look keyI Try.underlying77 (zeroL _) M[k]
            rwa [if_pos hmem] at this
          obtain ⟨x, hx⟩ : ∃ x, x = M[k] := ⟨_, rfl⟩
          rw [← hx] at hcell hlk
          have HX := Aside0.mk hx
          have HLK := Aside0.mk hlk
          have hl0 := hlk wr HTr.out
          have y1 : wr.cell? ⟨Z, 1, none⟩ = some (.map (some m2)) := blk_cell (HBr.out.blk H15.out (fun e => by have e : Z = Z + 1 + 1 := e; omega)) 1
          have x2 := blk_cell HXr.out 2
          have HL16 := Aside0.mk (show ((M.take k).map (dirOf s.D)).length = k from by rw [List.length_map, List.length_take]; omega)
          have hwz := HBr.out.size
          clear hlk hmem hx
          go_upto_region 12 with (at_builtin; refine Kd.R_append kGDirty (w0 := wr) (W := wr) w5.heap.size (by rfl) (.tmp 53) (.tmp 61) 32 49 (.agg #[.int .i64 0, .int .u64 0]) 16 (by rfl) Try.underlying32 infoDir rfl (by decide) (by omega) _ ((M.take k).map (dirOf s.D)) (dirOf s.D x) [.int .i64 x, .int .u64 (s.D x)] (fun _ => True) (fun _ => False) (by rfl) (by rfl) (kGDirty_mkM _ _ _ _) (fun _ hk => hk.elim) (fun _ _ => trivial) HR3.out (Below.refl _ _) hwz (by rw [HL16.out]; omega) ?_; intro v1n w7 ho hb hg hat; obtain ⟨A7, C7, hv7⟩ := Kd.R_slice ho; rw [List.length_append, HL16.out, List.length_singleton] at hv7; subst hv7; have HR7 := Aside0.mk ho; have HX7 := Aside0.mk (blk_grown HXr.out hg (Kd.R_ne HR3.out HXr.out (by decide))); have HB7 := Aside0.mk (HBr.out.grownO hg (fun q hq => .inl (by obtain ⟨inner, hown⟩ := Kd.R_own HR3.out; exact own_base hown q hq))); have f0 := blk_frozen HX7.out 2; have c0_ := blk_cell HX7.out 2; clear ho hb hg hat)
          have HX8 := Aside0.mk (show (w7.setCell ⟨Z + 1 + 1, 2, none⟩ (.slice A7 (k + 1) C7)).heap[Z + 1 + 1]? = some (.cells #[.slice A1 n1 C1, .slice A2 n1 C2, .slice A7 (k + 1) C7, .int .u64 rd] 34 (0, 0)) from blk_put HX7.out 2 _ rfl)
          have HB8 := Aside0.mk (HB7.out.set (g := Z + 1 + 1) (j := 2) (v := .slice A7 (k + 1) C7) (.inr rfl))
          have HP8 := Aside0.mk (R_box (j := 2) (u := .slice A7 (k + 1) C7) HR7.out rfl HX7.out (Kd.R_ne HR7.out HX7.out (by decide)))
          generalize w7.setCell ⟨Z + 1 + 1, 2, none⟩ (.slice A7 (k + 1) C7) = w8 at HX8 HB8 HP8 ⊢
          clear HR7 HX7 HB7 f0 c0_ y1 x2 hl0 hcell hwz
          have HROW := Aside0.mk (show Kd.R kGDirty 49 w8 w5.heap.size (fun _ => True) (.slice A7 (k + 1) C7) ((M.take (k + 1)).map (dirOf s.D)) from by rw [HTK.out, List.map_append, ← HX.out]; exact HP8.out)
          have HRDN := Aside0.mk (show redoF s.D rd x = redoOf s.D (M.take (k + 1)) from by rw [HTK.out, HRDO.out, HX.out]; unfold redoOf; rw [List.foldl_append]; rfl)
          have HT8 := Aside0.mk (HB8.out.map HD5.out (fun e => by have := HM.out; have e : m2 = Z + 1 + 1 := e; omega))
          have hl0 := HLK.out w8 HT8.out
          have y1 : w8.cell? ⟨Z, 1, none⟩ = some (.map (some m2)) := blk_cell (HB8.out.blk H15.out (fun e => by have e : Z = Z + 1 + 1 := e; omega)) 1
          have x3 := blk_cell HX8.out 3
          by_cases hz : rd = 0 ∨ s.D x < rd
          · have HRN := Aside0.mk (show s.D x = redoOf s.D (M.take (k + 1)) from by rw [← HRDN.out]; unfold redoF; rw [if_pos hz])
            have f3 := blk_frozen HX8.out 3
            have HXn := Aside0.mk (show (w8.setCell ⟨Z + 1 + 1, 3, none⟩ (.int .u64 (s.D x))).heap[Z + 1 + 1]? = some (.cells #[.slice A1 n1 C1, .slice A2 n1 C2, .slice A7 (k + 1) C7, .int .u64 (s.D x)] 34 (0, 0)) from blk_put HX8.out 3 _ rfl)
            have HBn := Aside0.mk (HB8.out.set (g := Z + 1 + 1) (j := 3) (v := .int .u64 (s.D x)) (.inr rfl))
            have HPn := Aside0.mk (R_box (j := 3) (u := .int .u64 (s.D x)) HROW.out rfl HX8.out (Kd.R_ne HROW.out HX8.out (by decide)))
            by_cases h0 : rd = 0
            · have e0 : (rd == 0) = true := by simpa using h0
              clear hz h0
              go_wp2_with fail
              go_roundg (gk - 1)
              case measure => have := HK.out; omega
              case rel => exact ⟨k + 1, _, _, ⟨by have := HK.out; omega⟩, (by go_num), by omega, HRN, HBn, HXn, HPn⟩
            · have e0 : (rd == 0) = false := by simpa using h0
              have e1 : decide (s.D x < rd) = true := by simp; omega
              clear hz h0
              go_wp2_with fail
              go_roundg (gk - 1)
              case measure => have := HK.out; omega
              case rel => exact ⟨k + 1, _, _, ⟨by have := HK.out; omega⟩, (by go_num), by omega, HRN, HBn, HXn, HPn⟩
          · have HRN := Aside0.mk (show rd = redoOf s.D (M.take (k + 1)) from by rw [← HRDN.out]; unfold redoF; rw [if_neg hz])
            have e0 : (rd == 0) = false := by simp; omega
            have e1 : decide (s.D x < rd) = false := by simp; omega
            clear hz
            go_wp2_with fail
            go_roundg (gk - 1)
            case measure => have := HK.out; omega
            case rel => exact ⟨k + 1, _, _, ⟨by have := HK.out; omega⟩, (by go_num), by omega, HRN, HB8, HX8, HROW⟩
        · obtain rfl : k = M.length := by omega
          have hR3 := HR3.out
          have hrd := HRDO.out
          rw [List.take_length] at hR3 hrd
          obtain ⟨n2, hn2⟩ : ∃ n, n = M.length := ⟨_, rfl⟩
          rw [← hn2] at HXr ⊢
          have HR3e := Aside0.mk (show Kd.R kGDirty 49 wr w5.heap.size (fun _ => True) (.slice A3 n2 C3) (M.map (dirOf s.D)) from by rw [hn2]; exact hR3)
          have HRDF := Aside0.mk hrd
          clear hR3 HR3 hn2 hrd
          have HR1f := Aside0.mk (HBr.out.row rfl HR5.out (fun q hq e => Kd.R_ne HR5.out HX5.out (by decide) (by rw [hq, e])))
          have HR2f := Aside0.mk (HBr.out.row rfl HQ5.out (fun q hq e => Kd.R_ne HQ5.out HX5.out (by decide) (by rw [hq, e])))
          have H2f := Aside0.mk (HBr.out.blk H25.out (fun e => by have e : Z + 1 = Z + 1 + 1 := e; omega))
          have x0 := blk_cell HXr.out 0
          have x1 := blk_cell HXr.out 1
          have x2 := blk_cell HXr.out 2
          have x3 := blk_cell HXr.out 3
          go_wp2_with (first | ((with_reducible refine gate_ (.store 34 (.tmp 2) (.tmp 84)) rfl ?_); refine store_box_l (t := 34) (new := #[.slice A1 n1 C1, .slice A2 n1 C2, .slice A3 n2 C3, .int .u64 rd]) rfl rfl rfl (by rfl) (by rfl) H2f.out (Nat.le_refl _) (Nat.le_refl _) rfl (by kernel_rfl) (by intro q hq; simp only [List.mem_cons, List.not_mem_nil, or_false] at hq; rcases hq with rfl | rfl | rfl | rfl <;> rfl) ?_; intro w9 h9 g9; have H9 := Aside0.mk h9; have G9 := Aside0.mk g9; clear h9 g9))
          refine bodyPost_ret (results_c1 rfl _ _ (Z + 1) 34 #[.slice A1 n1 C1, .slice A2 n1 C2, .slice A3 n2 C3, .int .u64 rd] (0, 0) _ rfl H9.out Try.underlying34 rfl (by kernel_rfl)) rfl ?_
          have hsz : w.heap.size ≤ w2.heap.size := HB2.out.size
          have hsz5 : w.heap.size ≤ w5.heap.size := HU5.out.size
          have hb9 : Below w.heap.size w w9 := (HBr.out.under HU5.out (fun q hq => by have hq : q = Z + 1 + 1 := hq; have := HZ.out; omega)).grown G9.out (Nat.le_trans hsz5 HBr.out.size) (fun q hq => by injection hq with hq; have := HZ.out; omega)
          have far : ∀ {α : Type} {K : Kd α} {e : TypeId} {base : Nat} {v : Value} {xs : List α}, K.E = [] → e ≠ 34 → Kd.R K e wr base (fun _ => True) v xs → Kd.R K e w9 base (fun _ => True) v xs := fun hE hne hr => Kd.R_grown2 hr hE G9.out (fun q hq e => by
            injection hq with hq
            subst hq
            exact Kd.R_ne hr H2f.out hne e)
          refine ⟨_, _, _, L, M, by rw [HRDF.out], HLP.out, HLR.out, HMP.out, HMR.out, Kd.R_lower (far rfl (by decide) HR1f.out) hsz, Kd.R_lower (far rfl (by decide) HR2f.out) hsz, Kd.R_lower (far rfl (by decide) HR3e.out) hsz5, hb9⟩
end Go.Proofs.Ytaahfokdgfopcaa
