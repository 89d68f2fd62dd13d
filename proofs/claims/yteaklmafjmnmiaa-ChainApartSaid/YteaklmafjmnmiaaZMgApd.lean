/- A map's keys as the library's iterator sees them. 
slices.Sorted(maps.Keys(m)) at this dump. 
chain's Rows. -/
import Derived.Shelf.SlIterI.Nil
import Derived.Test.YteaklmafjmnmiaaZMgApb
import Derived.Test.YteaklmafjmnmiaaZMgAp9
section
namespace Go.Proofs.Yteaklmafjmnmiaa
open Go.RowKit Go.Proofs.YteaklmafjmnmiaaW.PrintWords Go.Proofs.YteaklmafjmnmiaaW.PrintLast Go.Proofs.YteaklmafjmnmiaaW.PrintMore
open Rf MapL MapV
set_option linter.unusedVariables false
set_option linter.unusedSimpArgs false
open Go.WideElems Go.WideMaps Go.WideShapes in
set_option maxRecDepth 10000 in
theorem own_keys {H : Type} {f : Int → Value} {w : World} {b : Nat} {ks : List Int} (h : MapV.MapAt (Value.int .i64) f w b ks) (hw : ∀ x ∈ ks, 1 ≤ x ∧ x ≤ 1073741824) (hl : ks.length ≤ 1000) :
    ∃ D0 : DataW H, w.ownsMap Try.prog 3 (fun _ => some (.nil, [])) b ks.length D0 ∧ (intKeys D0).Perm ks ∧ Maps.size D0 = ks.length := by
  obtain ⟨es, clock, hb, he⟩ := h
  have hsz : es.size = ks.length := by
    have := congrArg List.length he.keys
    simpa using this
  have hml : (1000 : Nat) ≤ maxLen := by decide
  have hrd : ∀ x ∈ es.toList, ∃ y ∈ ks, x.key = Value.int .i64 y ∧ Go.WideElems.rd Try.prog 3 (fun _ => some ((.nil : DataW H), ([] : List MemPlace))) x = some (.int .i64 y, .nil) := by
    intro x hx
    obtain ⟨y, hy, hk⟩ := he.isKey x hx
    refine ⟨y, hy, hk, ?_⟩
    have hwf : (Lit.int .i64 y).wf = true := by
      have := hw y hy
      have e0 : IntKind.i64.min = -9223372036854775808 := rfl
      have e1 : IntKind.i64.max = 9223372036854775807 := rfl
      simp only [Lit.wf, Bool.and_eq_true, decide_eq_true_eq, e0, e1]
      omega
    unfold Go.WideElems.rd
    rw [hk, Go.Maps.keyOf_int_mk Try.underlying3 hwf]
    rfl
  have hF : Fit Try.prog 3 (fun _ => some ((.nil : DataW H), ([] : List MemPlace))) es clock := by
    refine ⟨by omega, ⟨he.born, he.bnd, ?_⟩, fun x hx => ?_⟩
    · rw [he.keys]
      exact List.Pairwise.map (Value.int .i64) (fun a b hab e => hab (by injection e)) he.nodup
    · obtain ⟨y, _, _, hr⟩ := hrd x hx; exact ⟨_, hr⟩
  refine ⟨_, ⟨es, clock, hb, hF, by omega, rfl⟩, ?_, ?_⟩
  · show (List.map (fun p : Lit × DataW H => Go.intOf p.1) _).Perm ks
    refine ((sorted_perm _).map _).trans ?_
    rw [List.map_map]
    have hm : ∀ x ∈ es.toList, (Value.int .i64 (((fun p : Lit × DataW H => Go.intOf p.1) ∘ Go.WideElems.rg Try.prog 3 (fun _ => some ((.nil : DataW H), ([] : List MemPlace)))) x)) = x.key := fun x hx => by
      obtain ⟨y, _, hk, hr⟩ := hrd x hx
      show Value.int .i64 (Go.intOf (Go.WideElems.rg _ _ _ x).1) = x.key
      rw [Go.WideElems.rg_of hr]
      exact hk.symm
    have hk2 : (es.toList.map ((fun p : Lit × DataW H => Go.intOf p.1) ∘ Go.WideElems.rg Try.prog 3 (fun _ => some ((.nil : DataW H), ([] : List MemPlace))))).map (Value.int .i64) = ks.map (Value.int .i64) := by
      rw [List.map_map, ← he.keys]
      exact List.map_congr_left hm
    have hinj : ∀ a b : List Int, a.map (Value.int .i64) = b.map (Value.int .i64) → a = b := by
      intro a
      induction a with
      | nil => intro b hb; cases b with
        | nil => rfl
        | cons => cases hb
      | cons x t ih => intro b hb; cases b with
        | nil => cases hb
        | cons y u =>
          simp only [List.map_cons, List.cons.injEq, Value.int.injEq, true_and] at hb
          rw [hb.1, ih u hb.2]
    rw [hinj _ _ hk2]
  · show List.length _ = _
    rw [DataW.length_sorted]
    simp [hsz]
end Go.Proofs.Yteaklmafjmnmiaa
end
section
namespace Go.Proofs.Yteaklmafjmnmiaa
open Go.RowKit Go.Proofs.YteaklmafjmnmiaaW.PrintWords Go.Proofs.YteaklmafjmnmiaaW.PrintLast Go.Proofs.YteaklmafjmnmiaaW.PrintMore
open Rf MapL MapV Go.Maps Go.Sort Go.Shelf
set_option linter.unusedVariables false
set_option linter.unusedSimpArgs false
theorem sortsA (m : Nat) : AnyZI.SortsIn Try.prog Try.sortedA_ren Fence.wide m :=
  ⟨fun blk off cap ss W hH hblk hsz => callsIn_wide.2 (AnyM.slices_Sort_int Try.sortA blk off cap ss W hH hblk hsz),
   fun p cap W => callsIn_wide.2 (AnyM.slices_Sort_int_none Try.sortA p cap W)⟩
/-- maps.Keys hands back a function over a box of the map. -/
theorem keysA_calls (mb : Option Nat) (W : World) : Calls Try.prog 35 #[.map mb] W fun e w' => e = .returned (.func (.func 60) #[] #[.pointer (some ⟨W.heap.size, 0, none⟩)]) ∧ w' = W.alloc (.cells #[.map mb] 69) :=
  (callsIn_wide (n := 6)).1 (AnyZI.keys_in Try.keysA Fence.wide 6 trivial rfl mb W)
set_option maxHeartbeats 1000000 in
/-- slices.Sorted over that function: the keys, sorted. -/
theorem sortedA_calls {f : Int → Value} (w : World) (b : Nat) (ks : List Int) (h : MapV.MapAt (Value.int .i64) f w b ks) (hw : ∀ x ∈ ks, 1 ≤ x ∧ x ≤ 1073741824) (hl : ks.length ≤ 1000) :
    Calls Try.prog 34 #[.func (.func 60) #[] #[.pointer (some ⟨w.heap.size, 0, none⟩)]] (w.alloc (.cells #[.map (some b)] 69)) fun e w' => ∃ (v : Value) (ss : List Int), e = .returned v ∧ ss.Perm ks ∧
      w'.ownsRow (w.heap.size + 1) 3 1 v ss.length ((ss.mergeSort (fun x y => decide (x ≤ y))).map encZ) ∧ Below (w.heap.size + 1) (w.alloc (.cells #[.map (some b)] 69)) w' := by
  obtain ⟨D0, hown, hperm, hsize⟩ := own_keys (H := Nat) h hw hl
  have hbl := hown.lt
  have hml : (1000 : Nat) ≤ maxLen := by decide
  have hseq : SeqGives Fence.wide 2 Try.prog 60 #[.pointer (some ⟨w.heap.size, 0, none⟩)] encZ (fun ss => ss.Perm (intKeys D0)) (Maps.size D0) (w.alloc (.cells #[.map (some b)] 69)) :=
    AnyZI.keys_gives (ρ := Try.keysA_ren) { Try.keysA with } Fence.wide _ trivial rfl (by omega) w.heap.size b ks.length D0 _ (by simp) (by simp) (by
      obtain ⟨es, clock, hb, Ft, hs, hD⟩ := hown
      exact ⟨es, clock, (Below.heap_alloc _ _ b hbl).trans hb, Ft, hs, hD⟩)
  have cS := AnyZI.sorted_in Try.sortedA Fence.wide 5 trivial trivial trivial trivial rfl (by omega) (sortsA _) (enters_of Try.func59 (by kernel_rfl) rfl) 60 #[.pointer (some ⟨w.heap.size, 0, none⟩)] trivial (enters_of Try.func60 (by kernel_rfl) rfl) _ _ (by omega) (by omega) _ hseq
  refine ((callsIn_wide (n := 5)).1 cS).mono ?_
  rintro e w' ⟨v, ss, he, hS, hrow, _, hb⟩
  rw [World.size_alloc] at hrow hb
  exact ⟨v, ss, he, hS.trans hperm, hrow, hb⟩
end Go.Proofs.Yteaklmafjmnmiaa
end
section
namespace Go.Proofs.Yteaklmafjmnmiaa
open Go.RowKit Go.Proofs.YteaklmafjmnmiaaW.PrintWords Go.Proofs.YteaklmafjmnmiaaW.PrintLast Go.Proofs.YteaklmafjmnmiaaW.PrintMore
open Rf MapL MapV
set_option linter.unusedVariables false
set_option linter.unusedSimpArgs false
theorem infoTxn : (Try.prog.info? 54).map (fun i => (i.zero, i.size, i.bytes)) = some (some (.agg #[.int .i64 0, .int .i64 0, .int .u64 0]), 3, 24) := by kernel_rfl
theorem cell_lt {w : World} {a : Addr} {u : Value} (h : w.cell? a = some u) : a.block < w.heap.size := by
  apply Decidable.byContradiction
  intro hn
  have hnone : w.heap[a.block]? = none := Array.getElem?_eq_none (by omega)
  simp [World.cell?, hnone] at h
/-- The rows of some transactions. -/
def rowsOf (X : Int → TX) : List Int → List SGTxn
  | [] => []
  | id :: r => if (X id).last = 0 then rowsOf X r else ⟨id, (X id).st, (X id).last⟩ :: rowsOf X r
theorem rowsOf_app (X : Int → TX) (a b : List Int) : rowsOf X (a ++ b) = rowsOf X a ++ rowsOf X b := by
  induction a with
  | nil => rfl
  | cons x r ih =>
    show (if (X x).last = 0 then rowsOf X (r ++ b) else _ :: rowsOf X (r ++ b)) = (if (X x).last = 0 then rowsOf X r else _ :: rowsOf X r) ++ rowsOf X b
    by_cases h : (X x).last = 0
    · rw [if_pos h, if_pos h, ih]
    · rw [if_neg h, if_neg h, ih]; rfl
theorem rowsOf_len (X : Int → TX) (a : List Int) : (rowsOf X a).length ≤ a.length := by
  induction a with
  | nil => exact Nat.le_refl _
  | cons x r ih =>
    show (if (X x).last = 0 then rowsOf X r else _ :: rowsOf X r).length ≤ r.length + 1
    split
    · omega
    · simp only [List.length_cons]; omega
theorem rowsOf_mem (X : Int → TX) (a : List Int) : ∀ r ∈ rowsOf X a, r.f2 ≠ 0 ∧ r.f0 ∈ a := by
  induction a with
  | nil => intro r h; cases h
  | cons x t ih =>
    intro r h
    have h : r ∈ (if (X x).last = 0 then rowsOf X t else _ :: rowsOf X t) := h
    split at h
    · have := ih r h; exact ⟨this.1, List.mem_cons_of_mem _ this.2⟩
    · rename_i h0
      rcases List.mem_cons.1 h with rfl | h
      · exact ⟨h0, List.mem_cons_self⟩
      · have := ih r h; exact ⟨this.1, List.mem_cons_of_mem _ this.2⟩
theorem rowsOf_rise (X : Int → TX) (a : List Int) (h : a.Pairwise (· < ·)) : (rowsOf X a).Pairwise (fun p q => p.f0 < q.f0) := by
  induction a with
  | nil => exact .nil
  | cons x t ih =>
    rw [List.pairwise_cons] at h
    show List.Pairwise _ (if (X x).last = 0 then rowsOf X t else _ :: rowsOf X t)
    split
    · exact ih h.2
    · rw [List.pairwise_cons]
      exact ⟨fun r hr => h.1 _ (rowsOf_mem X t r hr).2, ih h.2⟩
theorem sort_rise (ss ks : List Int) (h : ss.Perm ks) (hn : ks.Nodup) : (ss.mergeSort (fun x y => decide (x ≤ y))).Pairwise (· < ·) := by
  have h1 := List.pairwise_mergeSort (le := fun x y : Int => decide (x ≤ y)) (fun a b c h1 h2 => by simp at h1 h2 ⊢; omega) (fun a b => by simp; omega) ss
  have h2 : (ss.mergeSort (fun x y => decide (x ≤ y))).Nodup := ((List.mergeSort_perm ss _).trans h).nodup_iff.2 hn
  have h3 := List.pairwise_and_iff.2 ⟨h1, h2⟩
  exact h3.imp (fun {a b} q => by have q1 := q.1; have q2 := q.2; simp at q1; omega)
set_option maxRecDepth 100000 in
set_option maxHeartbeats 4000000 in
theorem tabrows (w0 : Wb) (w : World) (t mb : Nat) (bx : Int → Nat) (ks : List Int) (X : Int → TX) (h : Tab w0 w t mb bx ks X) (hw : ∀ x ∈ ks, 1 ≤ x ∧ x ≤ 1073741824) (hl : ks.length ≤ 1000) :
    Calls Try.prog 24 #[.pointer (some ⟨t, 0, none⟩)] w fun e w' => ∃ v L, e = .returned v ∧ L.Perm ks ∧ L.Pairwise (· < ·) ∧ Kd.R kGTxn 54 w' w.heap.size (fun _ => True) v (rowsOf X L) ∧ Below w.heap.size w w' := by
  have HT := Aside0.mk h
  have HW := Aside0.mk hw
  have hc := blk_cell h.box 0
  have hnd : ks.Nodup := by
    obtain ⟨es, clock, hb, he⟩ := h.map
    exact he.nodup
  have HND := Aside0.mk hnd
  clear h hnd hw
  go_enter Try.func24, Try.ntmps24
  go_wp2_with fail
  refine (keysA_calls (some mb) w).mono ?_
  rintro e w1 ⟨rfl, rfl⟩
  go_wp2_with fail
  refine (sortedA_calls w mb ks HT.out.map HW.out hl).mono ?_
  rintro e w2 ⟨v, ss, rfl, hp, hrow, hb⟩
  obtain ⟨A, c, hv, hr⟩ := own_reads (k := .i64) (xs := ss.mergeSort (fun x y => decide (x ≤ y))) hrow
  subst hv
  have hLp := (List.mergeSort_perm ss (fun x y => decide (x ≤ y))).trans hp
  have hLr := sort_rise ss ks hp HND.out
  have hLn : (ss.mergeSort (fun x y => decide (x ≤ y))).length = ss.length := List.length_mergeSort ss
  generalize ss.mergeSort (fun x y => decide (x ≤ y)) = L at hr hLp hLr hLn
  rw [← hLn] at hr ⊢
  have HLP := Aside0.mk hLp
  have HLR := Aside0.mk hLr
  have hlen : L.length ≤ 1000 := by rw [hLp.length_eq]; exact hl
  have HB2 := Aside0.mk (show Below w.heap.size w w2 from (below_alloc (Below.refl w.heap.size w) (.cells #[.map (some mb)] 69)).trans ⟨hb.os, hb.tape, hb.output, hb.size, fun k hk => hb.block k (by omega)⟩)
  have HR := Aside0.mk (show ∀ wr, Below w2.heap.size w2 wr → ∀ j (hj : j < L.length), ∃ ad : Addr, A = some ad ∧ wr.cell? (ad.add j) = some (.int .i64 L[j]) from fun wr hwr j hj => by
    obtain ⟨ad, e, hcl⟩ := hr.2.2 (by omega)
    have h0 := hcl j hj
    rw [List.getD_eq_getElem?_getD, List.getElem?_eq_getElem hj] at h0
    exact ⟨ad, e, (hwr.cell (p := ad.add j) (cell_lt h0)).trans h0⟩)
  clear hc hp hrow hb hr hLp hLr hLn hl
  go_wp2_with fail
  go_loopg [3, 17] L.length (fun gk v3 v17 wr => ∃ k : Nat, Aside0 (k + gk = L.length) ∧ v17 = .int .i64 k ∧ k ≤ L.length ∧ Aside0 (Below w.heap.size w wr) ∧ Aside0 (Below w2.heap.size w2 wr) ∧ Aside0 (Kd.R kGTxn 54 wr w2.heap.size (fun _ => True) v3 (rowsOf X (L.take k))))
  case atStart => exact ⟨0, ⟨by omega⟩, rfl, Nat.zero_le _, HB2, ⟨Below.refl _ _⟩, ⟨Kd.R_nil _ _ _ _ _⟩⟩
  case round =>
    obtain ⟨k, HK, rfl, hk, HBr, HBs, HRr⟩ := hrel
    by_cases hlt : k < L.length
    · obtain ⟨ad, rfl, hcell⟩ := HR.out wr HBs.out k hlt
      have hmem : L[k] ∈ ks := HLP.out.mem_iff.1 (List.getElem_mem hlt)
      have htk : L.take (k + 1) = L.take k ++ [L[k]] := List.take_succ_eq_append_getElem hlt
      have HTK := Aside0.mk htk
      have HTr := Aside0.mk (HT.out.next HBr.out)
      have hlk := HTr.out.look L[k]
      rw [if_pos hmem] at hlk
      unfold ptrs at hlk
      have hc := blk_cell HTr.out.box 0
      have y0 : wr.cell? ⟨bx L[k], 0, none⟩ = some (.int .i64 L[k]) := blk_cell (HTr.out.at_ _ hmem) 0
      have y1 : wr.cell? ⟨bx L[k], 1, none⟩ = some (.int .i64 (X L[k]).st) := blk_cell (HTr.out.at_ _ hmem) 1
      have y2 : wr.cell? ⟨bx L[k], 2, none⟩ = some (.int .u64 (X L[k]).last) := blk_cell (HTr.out.at_ _ hmem) 2
      obtain ⟨x, hx⟩ : ∃ x, x = L[k] := ⟨_, rfl⟩
      rw [← hx] at hcell hlk y0 y1 y2
      have HX := Aside0.mk hx
      clear htk hmem hx
      by_cases hz : (X x).last = 0
      · have ez : ((X x).last != 0) = false := by simp [hz]
        have HZ := Aside0.mk hz
        clear hz
        go_wp2_with fail
        go_roundg (gk - 1)
        case measure => have := HK.out; omega
        case rel => exact ⟨k + 1, ⟨by have := HK.out; omega⟩, (by go_num), by omega, HBr, HBs, ⟨by
          rw [HTK.out, rowsOf_app, ← HX.out]
          show Kd.R _ _ _ _ _ _ (_ ++ (if (X x).last = 0 then [] else _))
          rw [if_pos HZ.out, List.append_nil]; exact HRr.out⟩⟩
      · have ez : ((X x).last != 0) = true := by simp [hz]
        have HZ := Aside0.mk hz
        have hrl : (rowsOf X (L.take k)).length ≤ 1000 := by
          have h1 := rowsOf_len X (L.take k)
          rw [List.length_take] at h1
          omega
        clear hz
        have hu := Try.underlying36
        have hwz := HBs.out.size
        go_wp2_with (at_builtin; refine Kd.R_append kGTxn (w0 := w2) (W := wr) w2.heap.size (by rfl) (.tmp 33) (.tmp 38) 36 54 (.agg #[.int .i64 0, .int .i64 0, .int .u64 0]) 24 (by rfl) Try.underlying36 infoTxn rfl (by decide) (by omega) _ (rowsOf X (L.take k)) ⟨x, (X x).st, (X x).last⟩ [.int .i64 x, .int .i64 (X x).st, .int .u64 (X x).last] (fun _ => True) (fun _ => False) (by rfl) (by rfl) (kGTxn_mkM _ _ _ _) (fun _ hk => hk.elim) (fun _ _ => trivial) HRr.out HBs.out hwz (by omega) ?_; intro v1 w7 ho hb hg hat; have HR7 := Aside0.mk ho; have HB7 := Aside0.mk hb; have HB7' := Aside0.mk (show Below w.heap.size w w7 from HB2.out.trans ⟨hb.os, hb.tape, hb.output, hb.size, fun q hq => hb.block q (Nat.lt_of_lt_of_le hq HB2.out.size)⟩); clear ho hb hg hat)
        go_roundg (gk - 1)
        case measure => have := HK.out; omega
        case rel => exact ⟨k + 1, ⟨by have := HK.out; omega⟩, (by go_num), by omega, HB7', HB7, ⟨by
          rw [HTK.out, rowsOf_app, ← HX.out]
          show Kd.R _ _ _ _ _ _ (_ ++ (if (X x).last = 0 then [] else _))
          rw [if_neg HZ.out]; exact HR7.out⟩⟩
    · obtain rfl : k = L.length := by omega
      go_wp2_with fail
      go_ret
      exact ⟨_, L, rfl, HLP.out, HLR.out, Kd.R_lower (by have := HRr.out; rwa [List.take_length] at this) HB2.out.size, HBr.out⟩
end Go.Proofs.Yteaklmafjmnmiaa
end
