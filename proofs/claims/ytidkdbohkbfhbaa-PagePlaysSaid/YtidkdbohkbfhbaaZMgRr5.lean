/- The document's num and slot as calls. 
PLAIN: the reference's Delete: what it comes to. 
The document's Find, Insert, Update, Delete, as calls, by the plain laws. 
The call of the document's Parse. 
Layer 6: a law's arguments, laid open: slices of Op, a Pair, an Op. -/
import Derived.Test.YtidkdbohkbfhbaaZMgRr2
import Derived.Test.YtidkdbohkbfhbaaZMgRr4
import Derived.Test.YtidkdbohkbfhbaaZRf7
import Derived.Test.YtidkdbohkbfhbaaZRf5
import Derived.Deep.Slices
import Derived.Deep.Fields
import Derived.ChangeSame
import Derived.SizedLaws
import Derived.Lib.SmallJoins
import Derived.ProofKit
import Derived.OpenShut
section
namespace Go.Proofs.Ytidkdbohkbfhbaa
open Go.RowKit Go.Proofs.YtidkdbohkbfhbaaW.PrintWords Go.Proofs.YtidkdbohkbfhbaaW.PrintLast Go.Proofs.YtidkdbohkbfhbaaW.PrintMore
open Rf
set_option linter.unusedVariables false
set_option linter.unusedSimpArgs false
theorem skip_ {b : Bool} {A B : Prop} (h : b = false) (hB : B) : if b = true then A else B := by subst h; exact hB
attribute [local go_sem high] yundz
theorem put3 {w : World} {g : Nat} {t : TypeId} {a b c x y z : Value} (h : w.heap[g]? = some (.cells #[a, b, c] t (0, 0))) :
    (((w.setCell ⟨g, 0, none⟩ x).setCell ⟨g, 1, none⟩ y).setCell ⟨g, 2, none⟩ z).heap[g]? = some (.cells #[x, y, z] t (0, 0)) :=
  blk_put (cs' := #[x, y, z]) (blk_put (cs' := #[x, y, c]) (blk_put (cs' := #[x, b, c]) h 0 x rfl) 1 y rfl) 2 z rfl
/-- A slot that the document takes. -/
def SlotOk (L : List UInt8) (k : Nat) : Prop := cellOk L (rdN L (16 + 4 * k) 2) (rdN L (16 + 4 * k + 2) 2) ∧ (rdN L (16 + 4 * k + 2) 2 = 0 → rdN L (16 + 4 * k) 2 = 0) ∧ ((slotAt L k).f0 = true → mayB (slotAt L k).f1 (slotAt L k).f2 = true)
end Go.Proofs.Ytidkdbohkbfhbaa
end
section
namespace Go.Proofs.Ytidkdbohkbfhbaa
open Go.RowKit Go.Proofs.YtidkdbohkbfhbaaW.PrintWords Go.Proofs.YtidkdbohkbfhbaaW.PrintLast Go.Proofs.YtidkdbohkbfhbaaW.PrintMore
open Rf
set_option linter.unusedVariables false
set_option linter.unusedSimpArgs false

theorem dtrim_ev (id lsn : Int) (cs0 : List SGCell) (d : Nat) : ∀ l : List SGCell, l.length = d → l.length ≤ 1000 → Ev (fun k => flotillaref06_Delete.l0 k l id lsn cs0) (id, lsn, trimN d l, 0) := by
  induction d with
  | zero =>
    intro l hl _
    refine Ev.step (f := fun _ => some (id, lsn, l, 0)) (fun k => ?_) (Ev.now _)
    simp only [flotillaref06_Delete.l0]; rw [if_neg (by omega)]
  | succ d ih =>
    intro l hl hm
    have e1 : wrap64 ((l.length : Int) - 1) = (d : Int) := by rw [w64 (by omega) (by omega)]; omega
    by_cases hu : (rd_TGCell l d).f0 = true
    · rw [trimN_used _ l d hl hu]
      refine Ev.step (f := fun _ => some (id, lsn, l, 0)) (fun k => ?_) (Ev.now _)
      simp only [flotillaref06_Delete.l0]; rw [if_pos (by omega), e1, if_pos (by omega), if_pos (by omega), if_pos hu]
    · rw [trimN_free d l d hl (by simpa using hu)]
      refine Ev.step (fun k => ?_) (ih (l.take d) (by rw [List.length_take]; omega) (by rw [List.length_take]; omega))
      simp only [flotillaref06_Delete.l0]; rw [if_pos (by omega), e1, if_pos (by omega), if_pos (by omega), if_neg hu, if_pos (by omega)]; rfl
theorem delete_ev (cs : List SGCell) (hl : cs.length ≤ 100) (id lsn : Int) (key : ByteArray) : Ev (fun k => flotillaref06_Delete.f k id lsn cs key) (id, lsn, (del cs key).1, (del cs key).2) := by
  unfold flotillaref06_Delete.f
  refine Ev.bind (find_ev cs (by omega) id lsn key) ?_
  unfold del
  by_cases hf : fnd cs key < 0
  · simp only [if_pos hf]
    exact Ev.now _
  · simp only [if_neg hf]
    obtain ⟨j, hj, e, _, _⟩ := fnd_hit cs key (by omega)
    have e1 : wrap64 ((j : Int) + 1) = ((j + 1 : Nat) : Int) := by rw [w64 (by omega) (by omega)]; omega
    have h1 : (cs.take j).length ≤ 100 := by rw [List.length_take]; omega
    have h2 : (cs.drop (j + 1)).length ≤ 100 := by rw [List.length_drop]; omega
    rw [e]
    simp only [if_pos (show (0 : Int) ≤ j by omega), if_pos (show (j : Int) ≤ cs.length by omega), Int.toNat_natCast, Option.bind_some, List.nil_append, List.length_nil, e1, if_pos (show 0 + (cs.take j).length < 3518437208883 by omega), if_pos (show (0 : Int) ≤ ((j + 1 : Nat) : Int) by omega), if_pos (show ((j + 1 : Nat) : Int) ≤ cs.length by omega), if_pos (show (cs.take j).length + (cs.drop (j + 1)).length < 3518437208883 by omega)]
    exact dtrim_ev id lsn cs _ (cs.take j ++ cs.drop (j + 1)) rfl (by rw [List.length_append]; omega)
end Go.Proofs.Ytidkdbohkbfhbaa
end
section
namespace Go.Proofs.Ytidkdbohkbfhbaa
open Go.RowKit Go.Proofs.YtidkdbohkbfhbaaW.PrintWords Go.Proofs.YtidkdbohkbfhbaaW.PrintLast Go.Proofs.YtidkdbohkbfhbaaW.PrintMore
open Rf
set_option linter.unusedVariables false
set_option linter.unusedSimpArgs false
section
variable {w0 w : World} {P : Nat → Prop} {v : Value} {cs : List SGCell}
theorem rfind_calls (A : Option Addr) (c : Nat) (hC : Kd.C kGCell w A cs.length cs) (hc : cs.length ≤ c) (hl : cs.length ≤ 1000) (id lsn : Int) (key : ByteArray) :
    Calls Try.prog 48 #[.agg #[.int .i64 id, .int .u64 lsn, .slice A cs.length c], .string key] w fun e w' => e = .returned (.int .i64 (fnd cs key)) ∧ Below w.heap.size w w' := by
  obtain ⟨k, hk⟩ := find_ev cs hl id lsn key
  exact flotillaref06_Find.calls k id lsn A c cs key _ w hC hc (hk k (Nat.le_refl _))
theorem rins2_calls (hB : Below w0.heap.size w0 w) (hR : Kd.R kGCell 46 w w0.heap.size P v cs) (hv : Valid cs) (id lsn : Int) (key value : ByteArray) :
    Calls Try.prog 51 #[.agg #[.int .i64 id, .int .u64 lsn, v], .string key, .string value] w fun e w' => ∃ v', e = .returned (.tuple #[.agg #[.int .i64 id, .int .u64 lsn, v'], .int .i64 (ins cs key value).2]) ∧
      Kd.R kGCell 46 w' w0.heap.size (fun k => P k ∨ w.heap.size ≤ k) v' (ins cs key value).1 ∧ Below w0.heap.size w0 w' ∧ Kept w w' P ∧ ((ins cs key value).2 ≠ 0 → v' = v) := by
  obtain ⟨k, hk⟩ := insert_ev cs hv id lsn key value
  exact flotillaref06_Insert.calls k id lsn P v cs key value _ _ _ _ w0 w hB hR (hk k (Nat.le_refl _))
theorem rins_calls (hB : Below w0.heap.size w0 w) (hR : Kd.R kGCell 46 w w0.heap.size P v cs) (hv : Valid cs) (id lsn : Int) (key value : ByteArray) :
    Calls Try.prog 51 #[.agg #[.int .i64 id, .int .u64 lsn, v], .string key, .string value] w fun e w' => ∃ v', e = .returned (.tuple #[.agg #[.int .i64 id, .int .u64 lsn, v'], .int .i64 (ins cs key value).2]) ∧
      Kd.R kGCell 46 w' w0.heap.size (fun k => P k ∨ w.heap.size ≤ k) v' (ins cs key value).1 ∧ Below w0.heap.size w0 w' ∧ Kept w w' P := by
  refine (rins2_calls hB hR hv id lsn key value).mono ?_
  rintro e w' ⟨v', rfl, r1, r2, r3, _⟩
  exact ⟨v', rfl, r1, r2, r3⟩
theorem rupd2_calls (hB : Below w0.heap.size w0 w) (hR : Kd.R kGCell 46 w w0.heap.size P v cs) (hv : Valid cs) (id lsn : Int) (key value : ByteArray) :
    Calls Try.prog 52 #[.agg #[.int .i64 id, .int .u64 lsn, v], .string key, .string value] w fun e w' => ∃ v', e = .returned (.tuple #[.agg #[.int .i64 id, .int .u64 lsn, v'], .int .i64 (upd cs key value).2]) ∧
      Kd.R kGCell 46 w' w0.heap.size (fun k => P k ∨ w.heap.size ≤ k) v' (upd cs key value).1 ∧ Below w0.heap.size w0 w' ∧ Kept w w' P ∧ ((upd cs key value).2 ≠ 0 → v' = v) := by
  obtain ⟨k, hk⟩ := update_ev cs hv id lsn key value
  exact flotillaref06_Update.calls k id lsn P v cs key value _ _ _ _ w0 w hB hR (hk k (Nat.le_refl _))
theorem rupd_calls (hB : Below w0.heap.size w0 w) (hR : Kd.R kGCell 46 w w0.heap.size P v cs) (hv : Valid cs) (id lsn : Int) (key value : ByteArray) :
    Calls Try.prog 52 #[.agg #[.int .i64 id, .int .u64 lsn, v], .string key, .string value] w fun e w' => ∃ v', e = .returned (.tuple #[.agg #[.int .i64 id, .int .u64 lsn, v'], .int .i64 (upd cs key value).2]) ∧
      Kd.R kGCell 46 w' w0.heap.size (fun k => P k ∨ w.heap.size ≤ k) v' (upd cs key value).1 ∧ Below w0.heap.size w0 w' ∧ Kept w w' P := by
  refine (rupd2_calls hB hR hv id lsn key value).mono ?_
  rintro e w' ⟨v', rfl, r1, r2, r3, _⟩
  exact ⟨v', rfl, r1, r2, r3⟩
theorem rdel_calls (hB : Below w0.heap.size w0 w) (hR : Kd.R kGCell 46 w w0.heap.size P v cs) (hl : cs.length ≤ 100) (id lsn : Int) (key : ByteArray) :
    Calls Try.prog 53 #[.agg #[.int .i64 id, .int .u64 lsn, v], .string key] w fun e w' => ∃ v', e = .returned (.tuple #[.agg #[.int .i64 id, .int .u64 lsn, v'], .int .i64 (del cs key).2]) ∧
      Kd.R kGCell 46 w' w0.heap.size (fun k => P k ∨ w.heap.size ≤ k) v' (del cs key).1 ∧ Below w0.heap.size w0 w' ∧ Kept w w' P := by
  obtain ⟨k, hk⟩ := delete_ev cs hl id lsn key
  exact flotillaref06_Delete.calls k id lsn P v cs key _ _ _ _ w0 w hB hR (hk k (Nat.le_refl _))
end
end Go.Proofs.Ytidkdbohkbfhbaa
end
section
namespace Go.Proofs.Ytidkdbohkbfhbaa
open Go.RowKit Go.Proofs.YtidkdbohkbfhbaaW.PrintWords Go.Proofs.YtidkdbohkbfhbaaW.PrintLast Go.Proofs.YtidkdbohkbfhbaaW.PrintMore
open Rf
set_option linter.unusedVariables false
set_option linter.unusedSimpArgs false
attribute [local go_sem high] yundz
/-- The bytes are some page's. -/
def IsPage (id : Int) (L : List UInt8) : Prop := ∃ lsn cs, lsn < 18446744073709551616 ∧ Valid cs ∧ pgB id.toNat lsn cs = L
def RMade (w' : World) (id : Int) (lsn : Nat) (cs : List SGCell) (v : Value) : Prop :=
  ∃ A c, v = .agg #[.int .i64 id, .int .u64 lsn, .slice A cs.length c] ∧ cs.length ≤ c ∧ Kd.C kGCell w' A cs.length cs
theorem take_zero (L : List UInt8) (k : Nat) (h : k < L.length) (x : Nat) (hx : x = L[k].toNat) : (L.take (k + 1)).all (· == 0) = ((L.take k).all (· == 0) && decide (x = 0)) := by
  rw [List.take_succ_eq_append_getElem h, List.all_append, hx]
  congr 1
  simp only [List.all_cons, List.all_nil, Bool.and_true]
  by_cases h0 : L[k] = 0
  · rw [h0]; rfl
  · have h1 : ¬ L[k].toNat = 0 := fun h1 => h0 (UInt8.toNat_inj.1 h1)
    rw [decide_eq_false h1]
    simpa using h0
/-- What the document's Parse answers. -/
structure RParsed (w w' : World) (id : Int) (L : List UInt8) (v : Value) (er : Int) : Prop where
  bel : Below w.heap.size w w'
  shape : ∃ a b A n c, v = .agg #[.int .i64 a, .int .u64 b, .slice A n c]
  arg : ¬ (0 ≤ id ∧ id < 16 ∧ L.length = 512) → er = 1
  nought : 0 ≤ id ∧ id < 16 → L.length = 512 → L.all (· == 0) = true → er = 0 ∧ RMade w' id 0 [] v
  sum : 0 ≤ id ∧ id < 16 → L.length = 512 → L.all (· == 0) = false → L.take 4 ≠ le (Crc.sum (L.drop 4)) 4 → er = 6
  page : 0 ≤ id ∧ id < 16 → L.length = 512 → L.all (· == 0) = false → L.take 4 = le (Crc.sum (L.drop 4)) 4 →
    (∃ lsn cs, lsn < 18446744073709551616 ∧ Valid cs ∧ pgB id.toNat lsn cs = L ∧ er = 0 ∧ RMade w' id lsn cs v) ∨ (¬ IsPage id L ∧ er = 5)
theorem rid_calls (w : World) (id : Int) : Calls Try.prog 11 #[.int .i64 id] w fun e w' => e = .returned (.bool (decide (0 ≤ id ∧ id < 16))) ∧ Below w.heap.size w w' := by
  refine (flotillaref06_Id.calls id (decide (0 ≤ id ∧ id < 16)) w ?_).mono (by rintro e w' ⟨rfl, hd⟩; exact ⟨rfl, hd.below⟩)
  unfold flotillaref06_Id.f
  by_cases h : 0 ≤ id
  · rw [if_pos h]
    by_cases h1 : id < 16
    · rw [decide_eq_true (show id ≤ 15 by omega), decide_eq_true ⟨h, h1⟩]
    · rw [decide_eq_false (show ¬ id ≤ 15 by omega), decide_eq_false (fun h2 => h1 h2.2)]
  · rw [if_neg h, decide_eq_false (fun h2 => h h2.1)]
end Go.Proofs.Ytidkdbohkbfhbaa
end
section
namespace Go.Proofs.Ytidkdbohkbfhbaa
open Go.RowKit Go.Proofs.YtidkdbohkbfhbaaW.PrintWords Go.Proofs.YtidkdbohkbfhbaaW.PrintLast Go.Proofs.YtidkdbohkbfhbaaW.PrintMore
open Go.ChangeShapes Go.WideShapes Go.ChangeAt Go.Deep Go.Joins
open Rf
set_option linter.unusedVariables false
set_option linter.unusedSimpArgs false

abbrev RowsOf (w : World) (A : Option Addr) (l : List SGOp) : Prop := Kd.C kGOp w A l.length l
theorem list_of {α : Type} (P : Nat → α → Prop) (n : Nat) (h : ∀ i, i < n → ∃ o, P i o) : ∃ l : List α, l.length = n ∧ ∀ i o, l[i]? = some o → P i o := by
  induction n with
  | zero => exact ⟨[], rfl, by simp⟩
  | succ n ih =>
    obtain ⟨l, hl, hp⟩ := ih (fun i hi => h i (by omega))
    obtain ⟨o, ho⟩ := h n (by omega)
    refine ⟨l ++ [o], by simp [hl], fun i x hx => ?_⟩
    rcases Nat.lt_or_ge i l.length with hi | hi
    · rw [List.getElem?_append_left hi] at hx; exact hp i x hx
    · have : i = n := by
        have := (List.getElem?_eq_some_iff.1 hx).1
        simp at this; omega
      subst this
      rw [List.getElem?_append_right (by omega)] at hx
      simp [hl] at hx
      rw [← hx]; exact ho
theorem mem_weightsAll {H : Type} {P : Program} {e : TypeId} : ∀ {ds : List (DataW H)} {d : DataW H}, d ∈ ds → ∀ n ∈ d.weights P e, n ∈ DataW.weightsAll P e ds
  | [], _, h, _, _ => by simp at h
  | a :: r, d, h, n, hn => by
    simp only [DataW.weightsAll, List.mem_append]
    rcases List.mem_cons.1 h with rfl | h
    · exact .inl hn
    · exact .inr (mem_weightsAll h n hn)

/-- What an argument's Op is like. -/
structure OkOp (o : SGOp) : Prop where
  kind : (Lit.int .i64 o.f0).wf = true
  atw : (Lit.int .u64 o.f3).wf = true
  key : o.f1.size ≤ reachBytes
  val : o.f2.size ≤ reachBytes
theorem OkOp.u64 {o : SGOp} (h : OkOp o) : 0 ≤ o.f3 ∧ o.f3 < 18446744073709551616 := by
  have := h.atw
  have e0 : IntKind.u64.min = 0 := rfl
  have e1 : IntKind.u64.max = 18446744073709551615 := rfl
  simp only [Lit.wf, Bool.and_eq_true, decide_eq_true_eq, e0, e1] at this
  omega
section
variable {H : Type} {enc : TypeId × Value → H} {W : World}
/-- One Op out of its cells. -/
theorem op_cells {held : Bool} {n : Nat} {cs : List Value} {d : DataW H} {p : List MemPlace} (hl : cs.length = 4) (h : DataW.trod enc Try.prog W 0 (fun _ => true) held n 59 cs = some (d, p)) (hw : ∀ x ∈ d.weights Try.prog 59, x ≤ reachBytes) :
    ∃ o : SGOp, cs = [.int .i64 o.f0, .string o.f1, .string o.f2, .int .u64 o.f3] ∧ OkOp o := by
  obtain ⟨c0, c1, c2, c3, rfl⟩ : ∃ c0 c1 c2 c3, cs = [c0, c1, c2, c3] := by
    match cs, hl with
    | [c0, c1, c2, c3], _ => exact ⟨c0, c1, c2, c3, rfl⟩
  obtain ⟨ys, n', hn', hy, hlen, hyl, hf⟩ := DataW.trod_struct Try.underlying59 h
  have k3 : Try.prog.cellsOf 3 = 1 := by kernel_rfl
  have k9 : Try.prog.cellsOf 9 = 1 := by kernel_rfl
  have k29 : Try.prog.cellsOf 29 = 1 := by kernel_rfl
  have h0 := hf 0 ⟨"Kind", 3, 0, false, "", "", 0⟩ rfl
  have h1 := hf 1 ⟨"Key", 9, 1, false, "", "", 8⟩ rfl
  have h2 := hf 2 ⟨"Value", 9, 2, false, "", "", 24⟩ rfl
  have h3 := hf 3 ⟨"At", 29, 3, false, "", "", 40⟩ rfl
  simp only [k3, k9, k29, List.drop_zero, List.drop_succ_cons, List.take_succ_cons, List.take_zero] at h0 h1 h2 h3
  obtain ⟨y0, y1, y2, y3, rfl⟩ : ∃ a b c d, ys = [a, b, c, d] := by
    match ys, hyl with
    | [a, b, c, d], _ => exact ⟨a, b, c, d, rfl⟩
  obtain ⟨n0, e0, x0, w0⟩ := DataW.trod_int Try.underlying3 h0
  obtain ⟨s1, e1, x1, w1⟩ := DataW.trod_string Try.underlying9 h1
  obtain ⟨s2, e2, x2, w2⟩ := DataW.trod_string Try.underlying9 h2
  obtain ⟨n3, e3, x3, w3⟩ := DataW.trod_int Try.underlying29 h3
  cases e0; cases e1; cases e2; cases e3
  cases x0; cases x1; cases x2; cases x3
  obtain ⟨hd, _⟩ := Prod.mk.inj hy
  subst hd
  refine ⟨⟨n0, s1, s2, n3⟩, rfl, w0, w3, hw _ ?_, hw _ ?_⟩
  · rw [DataW.weights, Try.underlying59]
    simp [DataW.weightsEach, DataW.weights]
  · rw [DataW.weights, Try.underlying59]
    simp [DataW.weightsEach, DataW.weights]
set_option maxRecDepth 100000 in
/-- A slice of Op. -/
theorem open_ops {r : Reach} {b0 : Nat} {v : Value} {d : DataW H} {p : List MemPlace} (hv : Value.okWide Try.prog W r b0 34 v) (h : DataW.Trod enc Try.prog W 0 (fun _ => true) true 34 v d p)
    (hw : ∀ x ∈ d.weights Try.prog 34, x ≤ reachBytes) :
    ∃ A c, ∃ l : List SGOp, v = .slice A l.length c ∧ Kd.C kGOp W A l.length l ∧ l.length ≤ 140737488351232 ∧ ∀ o ∈ l, OkOp o := by
  obtain ⟨A, len, cap, rfl⟩ := okWide_slice Try.underlying34 hv
  obtain ⟨fuel, hf⟩ := h
  have hC : Try.prog.cellsOf 59 = 4 := by kernel_rfl
  rcases open_slice Try.underlying34 hf with ⟨hcs, _⟩ | ⟨a, len', cap', m, n, D, Pl, hcs, hb, hl, hm, hmm, hx, hi⟩
  · simp [Value.cells] at hcs
    obtain ⟨rfl, rfl, rfl⟩ := hcs
    exact ⟨none, 0, [], rfl, ⟨rfl, by simp, fun h => by simp at h⟩, by simp, by simp⟩
  · simp [Value.cells] at hcs
    obtain ⟨rfl, rfl, rfl⟩ := hcs
    obtain ⟨hd, _⟩ := Prod.mk.inj hx
    subst hd
    have hB : 1 ≤ Try.prog.bytesOf 59 := of_decide_eq_true (by kernel_rfl)
    have hlen : len ≤ reachBytes := by
      have := hw ((((List.range len).map D).length + ((List.range (m - len)).map fun j => D (len + j)).length) * Try.prog.bytesOf 59) (by rw [DataW.weights, Try.underlying34]; simp)
      rw [List.length_map, List.length_range] at this
      have h2 : (len + ((List.range (m - len)).map fun j => D (len + j)).length) * 1 ≤ (len + ((List.range (m - len)).map fun j => D (len + j)).length) * Try.prog.bytesOf 59 := Nat.mul_le_mul_left _ hB
      omega
    have hr : reachBytes = 140737488351232 := by kernel_rfl
    obtain ⟨l, hll, hp⟩ := list_of (fun i (o : SGOp) => OkOp o ∧ ∀ j u, ([.int .i64 o.f0, .string o.f1, .string o.f2, .int .u64 o.f3] : List Value)[j]? = some u → W.cell? (a.add (i * 4 + j)) = some u) len (fun i hil => by
      obtain ⟨cs', hc, ht'⟩ := hi i (by rw [hmm]; split <;> omega)
      rw [hC] at hc
      obtain ⟨_, hcl, hat⟩ := World.cells?_some hc
      obtain ⟨o, rfl, ho⟩ := op_cells hcl ht' (fun x hx => hw x (by
        rw [DataW.weights, Try.underlying34]
        simp only [List.mem_cons, List.mem_append]
        exact .inr (.inl (mem_weightsAll (List.mem_map.2 ⟨i, List.mem_range.2 hil, rfl⟩) x hx))))
      refine ⟨o, ho, fun j u hj => ?_⟩
      have hjl : j < 4 := by have := (List.getElem?_eq_some_iff.1 hj).1; simpa using this
      rw [← Go.Deep.add_add, hat j hjl, hj])
    refine ⟨some a, cap, l, by rw [hll], ⟨rfl, by omega, fun _ => ⟨a, rfl, fun j o hj => ⟨_, ?_, kGOp_mk W o, (hp j o hj).2⟩⟩⟩, by rw [hll]; omega, fun o ho => ?_⟩
    · rfl
    · obtain ⟨i, hi2⟩ := List.mem_iff_getElem?.1 ho
      exact (hp i o hi2).1
end
end Go.Proofs.Ytidkdbohkbfhbaa
end
