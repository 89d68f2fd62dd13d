/- Layer 7: pair. 
Layer 7: ActTurns' walk. 
Layer 7: Plan, alike, pair. 
Layer 7: ActDoes' walk. 
Layer 7: ActAgain's walk. 
A slice of elements of one shape that came in, laid open as a list. 
Layer 7: a law's arguments, laid open: slices of Pair, of Act. 
THE ROW: ActAgain: for every input it returns true, and each argument reads as it read before. No condition. -/
import Derived.Test.YtidgfigfebkieaaMgAg1
import Derived.Test.YtidgfigfebkieaaMgDo2
import Derived.Test.YtidgfigfebkieaaRfT
import Derived.Deep.Slices
import Derived.Deep.Fields
import Derived.ChangeSame
import Derived.SizedLaws
import Derived.Lib.SmallJoins
import Derived.ProofKit
import Derived.OpenShut
import Derived.Test.YtidgfigfebkieaaRows
import Derived.WalkKit
import Derived.ShutString
import Derived.ChangeOld
import Derived.Below
section
namespace Go.Proofs.Ytidgfigfebkieaa
open Go.RowKit Go.Proofs.YtidgfigfebkieaaW.PrintWords Go.Proofs.YtidgfigfebkieaaW.PrintLast Go.Proofs.YtidgfigfebkieaaW.PrintMore
open Rf
set_option linter.unusedVariables false
set_option linter.unusedSimpArgs false
theorem Twin.set {w0 w : World} {B : Nat → Prop} {g id lsn : Nat} {cs cs' : List SGCell} {v : Value} (h : Twin w0 w B g id lsn cs cs' v) {q : Addr} (hq : B q.block) (hl : w0.heap.size ≤ q.block) (u : Value) : Twin w0 (w.setCell q u) B g id lsn cs cs' v := by
  obtain ⟨⟨ok, h1, h2, h3⟩, h4⟩ := h
  have hs : (w.setCell q u).heap.size = w.heap.size := by simp [World.setCell]
  refine ⟨⟨ok, h1.kept (Kept.setCell (Kept.refl w (fun k => k = q.block)) (.inl rfl) u) (fun k hk e => (h2 k hk).2 (by rw [e]; exact hq)) (h1.bel.setCell hl u), fun k hk => by rw [hs]; exact h2 k hk, ?_⟩, fun k hk => by rw [hs]; exact h4 k hk⟩
  rw [hs]
  exact Kd.R_far h3 (fun k hk e => hk.2.2 (by rw [e]; exact hq)) u
theorem pair_mem (xs : List SGPair) (k : Nat) (h : k < xs.length) : rd_TGPair xs k ∈ xs := by
  simp [rd_TGPair, List.getD_eq_getElem?_getD, List.getElem?_eq_getElem h]
set_option maxRecDepth 100000 in
set_option maxHeartbeats 4000000 in
theorem pair_calls (w : World) (id : Nat) (hid : id < 16) (l : List SGPair) (A : Option Addr) (c : Nat) (hC : Kd.C kGPair w A l.length l) (hl : l.length ≤ 9223372036854775807) (hsz : ∀ x ∈ l, x.f0.size ≤ 140737488351232 ∧ x.f1.size ≤ 140737488351232) :
    Calls Try.prog 17 #[.int .i64 id, .slice A l.length c] w fun e w' => ∃ g cs v, e = .returned (.tuple #[.pointer (some ⟨g, 0, none⟩), .agg #[.int .i64 id, .int .u64 0, v]]) ∧ Twin w w' (fun _ => False) g id 0 cs cs v := by
  have HC := Aside0.mk hC
  have HZ := Aside0.mk hsz
  clear hC hsz
  go_enter Try.func17, Try.ntmps17
  go_wp2_with fail
  have hb0 : Below w.heap.size w (w.alloc (.cells #[.int .i64 0, .int .u64 0, .slice none 0 0] 46)) := below_alloc (Below.refl _ _) _
  have hrx := heap_alloc_new w (.cells #[.int .i64 0, .int .u64 0, .slice none 0 0] 46)
  generalize w.alloc (.cells #[.int .i64 0, .int .u64 0, .slice none 0 0] 46) = wb at hb0 hrx ⊢
  refine (new_ok id wb (by omega) (by omega)).mono ?_
  rintro e w1 ⟨rfl, hp, hb⟩
  have hh1 : Here w w1 _ wb.heap.size id 0 [] := ⟨hp _ hb0.size, below_then hb0 hb0.size hb, Valid.nil, hid, by decide⟩
  have hrx1 := blk_below hrx hb
  have hsz1 := hb.size
  have hlt0 := blk_lt hrx
  clear hp hb hb0 hrx
  go_wp2_with fail
  have hb2 : Below w1.heap.size w1 (w1.alloc (.cells #[.int .i64 id, .int .u64 0, .slice none 0 0] 46)) := below_alloc (Below.refl _ _) _
  have hdx := heap_alloc_new w1 (.cells #[.int .i64 id, .int .u64 0, .slice none 0 0] 46)
  have hrx2 := blk_below hrx1 hb2
  generalize w1.alloc (.cells #[.int .i64 id, .int .u64 0, .slice none 0 0] 46) = w2 at hb2 hdx hrx2 ⊢
  obtain ⟨RB, hRB⟩ : ∃ x, x = w.heap.size := ⟨_, rfl⟩
  obtain ⟨DB, hDB⟩ : ∃ x, x = w1.heap.size := ⟨_, rfl⟩
  have HT := Aside0.mk (show Twin w w2 (fun k => k = RB ∨ k = DB) wb.heap.size id 0 [] [] (.slice none 0 0) from by
    have hbd := (hh1.mono (ok' := fun k => wb.heap.size ≤ k) (fun k hk => hk)).bound
    refine Twin.apart (B := fun k => k = RB) (w := w1) ⟨⟨_, hbd, fun k hk => ⟨hk.2, fun e => by have := hk.1; omega⟩, Kd.R_nil _ _ _ _ _⟩, fun k hk => by omega⟩ hb2 (fun k hk => ?_)
    rcases hk with hk | hk
    · exact .inl hk
    · exact .inr ⟨by omega, by have := blk_lt hdx; omega⟩)
  rw [← hRB] at hrx2 ⊢
  rw [← hDB] at hdx ⊢
  have HRX := Aside0.mk hrx2
  have HDX := Aside0.mk hdx
  have HL := Aside0.mk (show w.heap.size ≤ RB ∧ w.heap.size ≤ DB ∧ RB ≠ DB from by omega)
  clear hh1 hrx1 hsz1 hlt0 hb2 hdx hrx2 hRB hDB
  go_wp2_with fail
  go_loopg [9] l.length (fun gk v9 wr => ∃ (k : Nat) (cs : List SGCell) (v : Value), Aside0 (k + gk = l.length) ∧ v9 = .int .i64 k ∧ k ≤ l.length ∧ Aside0 (Twin w wr (fun k => k = RB ∨ k = DB) wb.heap.size id 0 cs cs v) ∧ Aside0 (wr.heap[RB]? = some (.cells #[.int .i64 0, .int .u64 0, .slice none 0 0] 46)) ∧ Aside0 (wr.heap[DB]? = some (.cells #[.int .i64 id, .int .u64 0, v] 46)))
  case atStart => exact ⟨0, [], _, ⟨by omega⟩, rfl, by omega, HT, HRX, HDX⟩
  case round =>
    obtain ⟨k, cs, v, Hk, rfl, hkl, HT, HRX, HDX⟩ := hrel
    obtain ⟨Av, cv, rfl, _, _⟩ := HT.out.row
    have d0 := blk_cell HDX.out 0
    have d1 := blk_cell HDX.out 1
    have d2 := blk_cell HDX.out 2
    by_cases hend : k < l.length ∧ k < 70
    · obtain ⟨hlt, h70⟩ := hend
      have hd70 : decide ((k : Int) < 70) = true := by simp; omega
      obtain ⟨ad, rfl, hx0, hx1⟩ := pair_at (Kd.C_below HC.out HT.out.bel) k hlt
      have hz := HZ.out _ (pair_mem l k hlt)
      have hw : IntKind.i64.wrap (((rd_TGPair l k).f0.size : Int) + ((rd_TGPair l k).f1.size : Int)) = ((rd_TGPair l k).f0.size : Int) + ((rd_TGPair l k).f1.size : Int) := i64w (by omega) (by omega)
      have HTd := Aside0.mk (HT.out.next (below_drew (Below.refl _ _)))
      have HRXd := Aside0.mk (blk_drew HRX.out)
      have HDXd := Aside0.mk (blk_drew HDX.out)
      by_cases hs : (rd_TGPair l k).f0.size + (rd_TGPair l k).f1.size ≤ 1000
      · go_wp2_with fail
        go_region_held3 (fun wx => wx.cell? (ad.add (k * 2)) = some (.string (rd_TGPair l k).f0) ∧ wx.cell? ⟨(ad.add (k * 2)).block, (ad.add (k * 2)).off + 1, none⟩ = some (.string (rd_TGPair l k).f1)) (go_keep) (fail)
        all_goals
          go_wp2_with fail
          go_region_held3 (fun wx => wx.cell? (ad.add (k * 2)) = some (.string (rd_TGPair l k).f0) ∧ wx.cell? ⟨(ad.add (k * 2)).block, (ad.add (k * 2)).off + 1, none⟩ = some (.string (rd_TGPair l k).f1)) (go_keep) ((go_at_call 30; refine ((HTd.out.next (below_drew (Below.refl _ _))).insert _ _).mono ?_; rintro e w3 ⟨rfl, hT, hB⟩; have HT2 := Aside0.mk hT; have HRX2 := Aside0.mk ((hB RB (.inl rfl)).trans (blk_drew HRXd.out)); have HDX2 := Aside0.mk ((hB DB (.inr rfl)).trans (blk_drew HDXd.out)); clear hT hB; have q := pair_at (Kd.C_below HC.out HT2.out.bel) k hlt; obtain ⟨ad2, ea2, y0, y1⟩ := q; cases ea2))
          all_goals
            have e0 := blk_cell HDX2.out 0
            have e1 := blk_cell HDX2.out 1
            have e2 := blk_cell HDX2.out 2
            go_wp2_with fail
            have HV := Aside0.mk HT.out.val
            clear e0 e1 e2 d0 d1 d2
            have e0 := blk_cell (blk_drew HDX2.out) 0
            have e1 := blk_cell (blk_drew HDX2.out) 1
            have e2 := blk_cell (blk_drew HDX2.out) 2
            have y0d : w3.drew.cell? (ad.add (k * 2)) = some (.string (rd_TGPair l k).f0) := y0
            have y1d : w3.drew.cell? ⟨(ad.add (k * 2)).block, (ad.add (k * 2)).off + 1, none⟩ = some (.string (rd_TGPair l k).f1) := y1
            go_region_with ((go_at_call 31; refine ((HT2.out.next (below_drew (Below.refl _ _))).rins HV.out _ _).mono ?_; rintro e w5 ⟨v5, rfl, hT, hB⟩; have q := hT.row; obtain ⟨A5, c5, rfl, _, _⟩ := q; have HT5 := Aside0.mk hT; have HRX5 := Aside0.mk ((hB RB (.inl rfl)).trans (blk_drew HRX2.out)); have HDX5 := Aside0.mk ((hB DB (.inr rfl)).trans (blk_drew HDX2.out)); have u0 := blk_cell HDX5.out 0; have u1 := blk_cell HDX5.out 1; have u2 := blk_cell HDX5.out 2; have s0 := blk_frozen HDX5.out 0; have s1 := blk_frozen HDX5.out 1; have s2 := blk_frozen HDX5.out 2; clear hT hB))
            all_goals
              go_wp2_with fail
              go_roundg (gk - 1)
              case measure => have := Hk.out; omega
              case rel => exact ⟨k + 1, _, _, ⟨by have := Hk.out; omega⟩, by simp, by omega, ⟨(Twin.set (Twin.set (Twin.set HT5.out (q := ⟨DB, 0, none⟩) (.inr rfl) HL.out.2.1 (.int .i64 id)) (q := ⟨DB, 1, none⟩) (.inr rfl) HL.out.2.1 (.int .u64 0)) (q := ⟨DB, 2, none⟩) (.inr rfl) HL.out.2.1 (.slice A5 (ins cs (rd_TGPair l k).f0 (rd_TGPair l k).f1).1.length c5))⟩, ⟨(blk_far (blk_far (blk_far HRX5.out (p := ⟨DB, 0, none⟩) HL.out.2.2 (.int .i64 id)) (p := ⟨DB, 1, none⟩) HL.out.2.2 (.int .u64 0)) (p := ⟨DB, 2, none⟩) HL.out.2.2 (.slice A5 (ins cs (rd_TGPair l k).f0 (rd_TGPair l k).f1).1.length c5))⟩, ⟨(blk_put (cs' := #[.int .i64 id, .int .u64 0, .slice A5 (ins cs (rd_TGPair l k).f0 (rd_TGPair l k).f1).1.length c5]) (blk_put (cs' := #[.int .i64 id, .int .u64 0, .slice Av cs.length cv]) (blk_put (cs' := #[.int .i64 id, .int .u64 0, .slice Av cs.length cv]) HDX5.out 0 (.int .i64 id) rfl) 1 (.int .u64 0) rfl) 2 (.slice A5 (ins cs (rd_TGPair l k).f0 (rd_TGPair l k).f1).1.length c5) rfl)⟩⟩
      · go_wp2_with fail
        go_region_held3 (fun wx => wx.cell? (ad.add (k * 2)) = some (.string (rd_TGPair l k).f0) ∧ wx.cell? ⟨(ad.add (k * 2)).block, (ad.add (k * 2)).off + 1, none⟩ = some (.string (rd_TGPair l k).f1)) (go_keep) (fail)
        all_goals
          go_wp2_with fail
          go_roundg (gk - 1)
          case measure => have := Hk.out; omega
          case rel => exact ⟨k + 1, cs, _, ⟨by have := Hk.out; omega⟩, by simp, by omega, HTd, HRXd, HDXd⟩
    · have hend2 : ¬ k < l.length ∨ ¬ k < 70 := by omega
      have r0 := blk_cell HRX.out 0
      have r1 := blk_cell HRX.out 1
      have r2 := blk_cell HRX.out 2
      have g0 := blk_frozen HRX.out 0
      have g1 := blk_frozen HRX.out 1
      have g2 := blk_frozen HRX.out 2
      go_wp2_with fail
      all_goals
        go_region_with (fail)
        all_goals
          go_wp2_with fail
          refine bodyPost_ret (results_tc rfl _ _ RB 46 #[.int .i64 id, .int .u64 0, .slice Av cs.length cv] (0, 0) _ rfl (by first | exact (blk_put (cs' := #[.int .i64 id, .int .u64 0, .slice Av cs.length cv]) (blk_put (cs' := #[.int .i64 id, .int .u64 0, .slice none 0 0]) (blk_put (cs' := #[.int .i64 id, .int .u64 0, .slice none 0 0]) (blk_drew HRX.out) 0 (.int .i64 id) rfl) 1 (.int .u64 0) rfl) 2 (.slice Av cs.length cv) rfl) | exact blk_drew (blk_put (cs' := #[.int .i64 id, .int .u64 0, .slice Av cs.length cv]) (blk_put (cs' := #[.int .i64 id, .int .u64 0, .slice none 0 0]) (blk_put (cs' := #[.int .i64 id, .int .u64 0, .slice none 0 0]) HRX.out 0 (.int .i64 id) rfl) 1 (.int .u64 0) rfl) 2 (.slice Av cs.length cv) rfl)) Try.underlying46 rfl (by kernel_rfl)) rfl ?_
          refine ⟨wb.heap.size, cs, .slice Av cs.length cv, rfl, ?_⟩
          have HTE := (Twin.set (Twin.set (Twin.set HT.out (q := ⟨RB, 0, none⟩) (.inl rfl) HL.out.1 (.int .i64 id)) (q := ⟨RB, 1, none⟩) (.inl rfl) HL.out.1 (.int .u64 0)) (q := ⟨RB, 2, none⟩) (.inl rfl) HL.out.1 (.slice Av cs.length cv))
          exact HTE.apart (below_drew (Below.refl _ _)) (fun k h => h.elim)
end Go.Proofs.Ytidgfigfebkieaa
end
section
namespace Go.Proofs.Ytidgfigfebkieaa
open Go.RowKit Go.Proofs.YtidgfigfebkieaaW.PrintWords Go.Proofs.YtidgfigfebkieaaW.PrintLast Go.Proofs.YtidgfigfebkieaaW.PrintMore
open Rf Go.ChangeMaps
set_option linter.unusedVariables false
set_option linter.unusedSimpArgs false
attribute [local go_sem high] yund
attribute [local go_sem high] eqA24
theorem short_calls (k : Int) (a b c : ByteArray) (w : World) (ha : a.size ≤ 140737488351232) (hb : b.size ≤ 140737488351232) (hc : c.size ≤ 140737488351232) :
    Calls Try.prog 9 #[.agg #[.int .i64 k, .string a, .string b, .string c]] w fun e w' => e = .returned (.bool (decide (a.size + b.size + c.size ≤ 1000))) ∧ Below w.heap.size w w' := by
  refine flotillalaw07_short.calls k a b c _ w ?_
  unfold flotillalaw07_short.f
  rw [w64 (x := (a.size : Int) + (b.size : Int)) (by omega) (by omega), w64 (by omega) (by omega)]
  congr 1
  rw [decide_eq_decide]
  omega
theorem refturn_calls (k : Int) (a b c : ByteArray) (w : World) : Calls Try.prog 12 #[.agg #[.int .i64 k, .string a, .string b, .string c]] w fun e w' => e = .returned (actV (actTurn k a b c)) ∧ Below w.heap.size w w' :=
  flotillaref07_Turn.calls k a b c _ _ _ _ w (refTurn k a b c)
theorem turn_may {k : Int} {a b c : ByteArray} (h : actMay k a b c = true) : actMay (turnK k) a c b = true := by
  have hf := may_fits h
  have h2 : fits a c b = true := (fits_iff a c b).2 ⟨hf.1, hf.2.1, hf.2.2.2, hf.2.2.1⟩
  rcases may_kind h with rfl | rfl | rfl
  · unfold actMay at h ⊢; rw [h2]; rw [Bool.and_eq_true] at h; exact h.2
  · unfold actMay; rw [h2]; rfl
  · unfold actMay at h ⊢; rw [h2]; rw [Bool.and_eq_true] at h; exact h.2
theorem turn_turn {k : Int} {a b c : ByteArray} (h : actMay k a b c = true) : actTurn (turnK k) a c b = (k, a, b, c) := by
  unfold actTurn
  rw [turn_may h, if_pos rfl]
  rcases may_kind h with rfl | rfl | rfl <;> rfl
end Go.Proofs.Ytidgfigfebkieaa
end
section
namespace Go.Proofs.Ytidgfigfebkieaa
open Go.RowKit Go.Proofs.YtidgfigfebkieaaW.PrintWords Go.Proofs.YtidgfigfebkieaaW.PrintLast Go.Proofs.YtidgfigfebkieaaW.PrintMore
open Rf Go.ChangeMaps
set_option linter.unusedVariables false
set_option linter.unusedSimpArgs false
section
variable {w0 w : World} {ok : Nat → Prop} {g id lsn : Nat} {cs : List SGCell}
end
end Go.Proofs.Ytidgfigfebkieaa
end
section
namespace Go.Proofs.Ytidgfigfebkieaa
open Go.RowKit Go.Proofs.YtidgfigfebkieaaW.PrintWords Go.Proofs.YtidgfigfebkieaaW.PrintLast Go.Proofs.YtidgfigfebkieaaW.PrintMore
open Rf
set_option linter.unusedVariables false
set_option linter.unusedSimpArgs false
theorem act_at {w : World} {A : Option Addr} {n : Nat} {xs : List SGAct} (h : Kd.C kGAct w A n xs) (k : Nat) (h1 : k < n) : ∃ ad, A = some ad ∧ w.cell? (ad.add (k * 4)) = some (.int .i64 (rd_TGAct xs k).f0) ∧ w.cell? ⟨(ad.add (k * 4)).block, (ad.add (k * 4)).off + 1, none⟩ = some (.string (rd_TGAct xs k).f1) ∧ w.cell? ⟨(ad.add (k * 4)).block, (ad.add (k * 4)).off + 2, none⟩ = some (.string (rd_TGAct xs k).f2) ∧ w.cell? ⟨(ad.add (k * 4)).block, (ad.add (k * 4)).off + 3, none⟩ = some (.string (rd_TGAct xs k).f3) := by
  have := at_TGAct h (k : Int) (by omega) (by omega)
  rwa [Int.toNat_natCast] at this
theorem act_mem (xs : List SGAct) (k : Nat) (h : k < xs.length) : rd_TGAct xs k ∈ xs := by
  simp [rd_TGAct, List.getD_eq_getElem?_getD, List.getElem?_eq_getElem h]
theorem Twin.here {w0 w : World} {B : Nat → Prop} {g id lsn : Nat} {cs cs' : List SGCell} {v : Value} (h : Twin w0 w B g id lsn cs cs' v) : ∃ ok, Here w0 w ok g id lsn cs := by
  obtain ⟨⟨ok, h1, _⟩, _⟩ := h
  exact ⟨ok, h1⟩
theorem cell_lt {w : World} {a : Addr} {u : Value} (h : w.cell? a = some u) : a.block < w.heap.size := by
  apply Decidable.byContradiction
  intro hn
  have hnone : w.heap[a.block]? = none := Array.getElem?_eq_none (by omega)
  simp [World.cell?, hnone] at h
theorem far3 {w : World} {q : Addr} {g : Nat} {x y z u : Value} (hne : q.block ≠ g) (h : w.cell? q = some u) : (((w.setCell ⟨g, 0, none⟩ x).setCell ⟨g, 1, none⟩ y).setCell ⟨g, 2, none⟩ z).cell? q = some u := by
  have ne : ∀ i, (⟨g, i, none⟩ : Addr) ≠ q := fun i e => hne (by rw [← e])
  rw [World.cell?_setCell_other (h := ne 2), World.cell?_setCell_other (h := ne 1), World.cell?_setCell_other (h := ne 0)]
  exact h
end Go.Proofs.Ytidgfigfebkieaa
end
section
namespace Go.Proofs.Ytidgfigfebkieaa
open Go.RowKit Go.Proofs.YtidgfigfebkieaaW.PrintWords Go.Proofs.YtidgfigfebkieaaW.PrintLast Go.Proofs.YtidgfigfebkieaaW.PrintMore
open Rf
set_option linter.unusedVariables false
set_option linter.unusedSimpArgs false
/-- A record that was redone on page 4, at an LSN of at most lsn. -/
structure Done4 (lsn : Nat) (r : SGRec) : Prop where
  kind : r.f0 = 1
  page : r.f5 = 4
  at_ : 0 ≤ r.f1 ∧ r.f1 ≤ lsn
  old : r.f1 < 18446744073709551616
  s7 : r.f7.size ≤ 140737488351232
  s8 : r.f8.size ≤ 140737488351232
  s9 : r.f9.size ≤ 140737488351232
/-- The record that ActAgain makes of an act. -/
def recOf (k : Nat) (a : SGAct) : SGRec := ⟨1, 16 * ((k : Int) + 1), 1, 0, 0, 4, a.f0, a.f1, a.f2, a.f3, (none, 0, 0), (none, 0, 0)⟩
theorem rec_at {w : World} {A : Option Addr} {n : Nat} {xs : List SGRec} (h : Kd.C kGRec w A n xs) (k : Nat) (h1 : k < n) : ∃ ad : Addr, A = some ad ∧ w.cell? (ad.add (k * 12)) = some (.int .i64 (rd_TGRec xs k).f0) ∧ w.cell? ⟨(ad.add (k * 12)).block, (ad.add (k * 12)).off + 1, none⟩ = some (.int .u64 (rd_TGRec xs k).f1) ∧ w.cell? ⟨(ad.add (k * 12)).block, (ad.add (k * 12)).off + 2, none⟩ = some (.int .i64 (rd_TGRec xs k).f2) ∧ w.cell? ⟨(ad.add (k * 12)).block, (ad.add (k * 12)).off + 3, none⟩ = some (.int .u64 (rd_TGRec xs k).f3) ∧ w.cell? ⟨(ad.add (k * 12)).block, (ad.add (k * 12)).off + 4, none⟩ = some (.int .u64 (rd_TGRec xs k).f4) ∧ w.cell? ⟨(ad.add (k * 12)).block, (ad.add (k * 12)).off + 5, none⟩ = some (.int .i64 (rd_TGRec xs k).f5) ∧ w.cell? ⟨(ad.add (k * 12)).block, (ad.add (k * 12)).off + 6, none⟩ = some (.int .i64 (rd_TGRec xs k).f6) ∧ w.cell? ⟨(ad.add (k * 12)).block, (ad.add (k * 12)).off + 7, none⟩ = some (.string (rd_TGRec xs k).f7) ∧ w.cell? ⟨(ad.add (k * 12)).block, (ad.add (k * 12)).off + 8, none⟩ = some (.string (rd_TGRec xs k).f8) ∧ w.cell? ⟨(ad.add (k * 12)).block, (ad.add (k * 12)).off + 9, none⟩ = some (.string (rd_TGRec xs k).f9) ∧ w.cell? ⟨(ad.add (k * 12)).block, (ad.add (k * 12)).off + 10, none⟩ = some (.slice (rd_TGRec xs k).f10.1 (rd_TGRec xs k).f10.2.1 (rd_TGRec xs k).f10.2.2) ∧ w.cell? ⟨(ad.add (k * 12)).block, (ad.add (k * 12)).off + 11, none⟩ = some (.slice (rd_TGRec xs k).f11.1 (rd_TGRec xs k).f11.2.1 (rd_TGRec xs k).f11.2.2) := by
  obtain ⟨ad, c, e, _, hK, hc0⟩ := Kd.C_get h zGRec k (by omega) (by omega)
  obtain rfl := kGRec_open hK
  rw [Int.toNat_natCast] at hc0
  have hc : ∀ j u, (rd_TGRec xs k).out[j]? = some u → w.cell? (ad.add (k * 12 + j)) = some u := hc0
  exact ⟨ad, e, hc 0 _ rfl, by rw [← add_field _ _ 1 (by omega)]; exact hc 1 _ rfl, by rw [← add_field _ _ 2 (by omega)]; exact hc 2 _ rfl, by rw [← add_field _ _ 3 (by omega)]; exact hc 3 _ rfl, by rw [← add_field _ _ 4 (by omega)]; exact hc 4 _ rfl, by rw [← add_field _ _ 5 (by omega)]; exact hc 5 _ rfl, by rw [← add_field _ _ 6 (by omega)]; exact hc 6 _ rfl, by rw [← add_field _ _ 7 (by omega)]; exact hc 7 _ rfl, by rw [← add_field _ _ 8 (by omega)]; exact hc 8 _ rfl, by rw [← add_field _ _ 9 (by omega)]; exact hc 9 _ rfl, by rw [← add_field _ _ 10 (by omega)]; exact hc 10 _ rfl, by rw [← add_field _ _ 11 (by omega)]; exact hc 11 _ rfl⟩
theorem rec_mem (xs : List SGRec) (k : Nat) (h : k < xs.length) : rd_TGRec xs k ∈ xs := by
  simp [rd_TGRec, List.getD_eq_getElem?_getD, List.getElem?_eq_getElem h]
theorem infoRec : (Try.prog.info? 34).map (fun i => (i.zero, i.size, i.bytes)) = some (some (.agg #[.int .i64 0, .int .u64 0, .int .i64 0, .int .u64 0, .int .u64 0, .int .i64 0, .int .i64 0, .string ⟨#[]⟩, .string ⟨#[]⟩, .string ⟨#[]⟩, .slice none 0 0, .slice none 0 0]), 12, 152) := by kernel_rfl
theorem redo_again {lsn : Nat} {cs : List SGCell} {r : SGRec} (h : Done4 lsn r) : redoP 4 lsn cs r = (cs, lsn, false, 0) := by
  unfold redoP
  rw [if_neg (by rw [h.kind, h.page]; simp), if_pos h.at_.2]
theorem redo_first {k lsn : Nat} {cs : List SGCell} {a : SGAct} (h : lsn ≤ 16 * k) : redoP 4 lsn cs (recOf k a) = if (actDo cs a.f0 a.f1 a.f2 a.f3).2 ≠ 0 then ((actDo cs a.f0 a.f1 a.f2 a.f3).1, lsn, false, (actDo cs a.f0 a.f1 a.f2 a.f3).2) else ((actDo cs a.f0 a.f1 a.f2 a.f3).1, 16 * (k + 1), true, 0) := by
  unfold redoP recOf
  dsimp only
  rw [if_neg (by simp), if_neg (by omega), show ((16 : Int) * ((k : Int) + 1)).toNat = 16 * (k + 1) from by omega]
set_option maxRecDepth 100000 in
set_option maxHeartbeats 4000000 in
theorem again_walk (w : World) (l : List SGPair) (A : Option Addr) (c : Nat) (hC : Kd.C kGPair w A l.length l) (hl : l.length ≤ 9223372036854775807) (hsz : ∀ x ∈ l, x.f0.size ≤ 140737488351232 ∧ x.f1.size ≤ 140737488351232)
    (m : List SGAct) (Am : Option Addr) (cm : Nat) (hM : Kd.C kGAct w Am m.length m) (hml : m.length ≤ 9223372036854775807) (hmz : ∀ x ∈ m, x.f1.size ≤ 140737488351232 ∧ x.f2.size ≤ 140737488351232 ∧ x.f3.size ≤ 140737488351232) (fr : Int) :
    Calls Try.prog 7 #[.slice A l.length c, .slice Am m.length cm, .int .i64 fr] w fun e w' => e = .returned (.bool true) ∧ Below w.heap.size w w' := by
  have HM := Aside0.mk hM
  have HMZ := Aside0.mk hmz
  go_enter Try.func7, Try.ntmps7
  go_wp2_with fail
  refine (pair_calls w 4 (by decide) l A c hC hl hsz).mono ?_
  rintro e w1 ⟨g, cs, v, rfl, hT⟩
  clear hC hM hsz hmz
  obtain ⟨ok1, hh1⟩ := hT.here
  obtain ⟨Av, cv, rfl, _, _⟩ := hT.row
  have HD := Aside0.mk (Duo.start (K := kGRec) (e := 34) hh1)
  clear hT hh1
  go_wp2_with fail
  have HD2 := Aside0.mk (fun o => HD.out.next (below_alloc (Below.refl _ _) o))
  go_loopg [9, 10] m.length (fun gk v9 v10 wr => ∃ (k lsn : Nat) (cs : List SGCell) (rs : List SGRec), Aside0 (k + gk = m.length ∧ k ≤ 40 ∧ lsn ≤ 16 * k ∧ rs.length ≤ k) ∧ v10 = .int .i64 k ∧ k ≤ m.length ∧ Aside0 (Duo kGRec 34 w wr (fun _ => False) g 4 lsn cs v9 rs) ∧ Aside0 (∀ r ∈ rs, Done4 lsn r))
  case atStart => exact ⟨0, 0, cs, [], ⟨by simp⟩, rfl, by omega, ⟨HD2.out _⟩, ⟨by simp⟩⟩
  case round =>
    obtain ⟨k, lsn, cs, rs, Hk, rfl, hkl, HT, HR⟩ := hrel
    obtain ⟨G, rfl⟩ : ∃ x, x = gk := ⟨_, rfl⟩
    clear HD HD2
    obtain ⟨Ar, cr, rfl, hrc, _⟩ := HT.out.row
    by_cases hend : k < m.length ∧ k < 40
    · obtain ⟨hlt, h40⟩ := hend
      have hd40 : decide ((k : Int) < 40) = true := by simp; omega
      obtain ⟨ad, rfl, hx0, hx1, hx2, hx3⟩ := act_at (Kd.C_below HM.out HT.out.bel) k hlt
      obtain ⟨hz1, hz2, hz3⟩ := HMZ.out _ (act_mem m k hlt)
      have hwa : IntKind.i64.wrap ((k : Int) + 1) = (k : Int) + 1 := i64w (by omega) (by omega)
      have hwm : IntKind.i64.wrap (16 * ((k : Int) + 1)) = 16 * ((k : Int) + 1) := i64w (by omega) (by omega)
      have hwu : IntKind.u64.wrap (16 * ((k : Int) + 1)) = 16 * ((k : Int) + 1) := u64w (by omega) (by omega)
      have ha0 : ∀ o, (wr.alloc o).cell? (ad.add (k * 4)) = some (.int .i64 (rd_TGAct m k).f0) := fun o => by
        obtain ⟨ad', ea', y0, y1, y2, y3⟩ := act_at (Kd.C_below HM.out (HT.out.next (below_alloc (Below.refl _ _) o)).bel) k hlt
        cases ea'; exact y0
      have ha1 : ∀ o, (wr.alloc o).cell? ⟨(ad.add (k * 4)).block, (ad.add (k * 4)).off + 1, none⟩ = some (.string (rd_TGAct m k).f1) := fun o => by
        obtain ⟨ad', ea', y0, y1, y2, y3⟩ := act_at (Kd.C_below HM.out (HT.out.next (below_alloc (Below.refl _ _) o)).bel) k hlt
        cases ea'; exact y1
      have ha2 : ∀ o, (wr.alloc o).cell? ⟨(ad.add (k * 4)).block, (ad.add (k * 4)).off + 2, none⟩ = some (.string (rd_TGAct m k).f2) := fun o => by
        obtain ⟨ad', ea', y0, y1, y2, y3⟩ := act_at (Kd.C_below HM.out (HT.out.next (below_alloc (Below.refl _ _) o)).bel) k hlt
        cases ea'; exact y2
      have ha3 : ∀ o, (wr.alloc o).cell? ⟨(ad.add (k * 4)).block, (ad.add (k * 4)).off + 3, none⟩ = some (.string (rd_TGAct m k).f3) := fun o => by
        obtain ⟨ad', ea', y0, y1, y2, y3⟩ := act_at (Kd.C_below HM.out (HT.out.next (below_alloc (Below.refl _ _) o)).bel) k hlt
        cases ea'; exact y3
      go_wp2_with fail
      clear ha0 ha1 ha2 ha3 hx0 hx1 hx2 hx3
      have hb2 : Below wr.heap.size wr (wr.alloc (.cells #[.int .i64 1, .int .u64 (16 * ((k : Int) + 1)), .int .i64 1, .int .u64 0, .int .u64 0, .int .i64 4, .int .i64 (rd_TGAct m k).f0, .string (rd_TGAct m k).f1, .string (rd_TGAct m k).f2, .string (rd_TGAct m k).f3, .slice none 0 0, .slice none 0 0] 34)) := below_alloc (Below.refl _ _) _
      have hrx := heap_alloc_new wr (.cells #[.int .i64 1, .int .u64 (16 * ((k : Int) + 1)), .int .i64 1, .int .u64 0, .int .u64 0, .int .i64 4, .int .i64 (rd_TGAct m k).f0, .string (rd_TGAct m k).f1, .string (rd_TGAct m k).f2, .string (rd_TGAct m k).f3, .slice none 0 0, .slice none 0 0] 34)
      generalize wr.alloc (.cells #[.int .i64 1, .int .u64 (16 * ((k : Int) + 1)), .int .i64 1, .int .u64 0, .int .u64 0, .int .i64 4, .int .i64 (rd_TGAct m k).f0, .string (rd_TGAct m k).f1, .string (rd_TGAct m k).f2, .string (rd_TGAct m k).f3, .slice none 0 0, .slice none 0 0] 34) = w2 at hb2 hrx ⊢
      refine (short_calls _ _ _ _ w2 hz1 hz2 hz3).mono ?_
      rintro e w3 ⟨rfl, hb3⟩
      obtain ⟨RB, hRB⟩ : ∃ x, x = wr.heap.size := ⟨_, rfl⟩
      rw [← hRB] at hrx ⊢
      have HT3 := Aside0.mk (Duo.next (Duo.apart (B' := fun q => q = RB) HT.out hb2 (fun q hq => .inr ⟨by omega, by have := blk_lt hrx; omega⟩)) hb3)
      have HX3 := Aside0.mk (blk_below hrx hb3)
      clear hb2 hb3 hrx hRB
      cases decide ((rd_TGAct m k).f1.size + (rd_TGAct m k).f2.size + (rd_TGAct m k).f3.size ≤ 1000) with
      | false =>
        have HBn := Aside0.mk HT3.out.bel
        go_wp2_with (go_at_call 10; refine (lives_calls _).mono ?_; rintro e wq ⟨rfl, hb⟩; have HBn := Aside0.mk (below_then HBn.out HBn.out.size hb); clear hb)
        go_ret
        exact ⟨rfl, HBn.out⟩
      | true =>
        have b0 := blk_cell HX3.out 0
        have b1 := blk_cell HX3.out 1
        have b2 := blk_cell HX3.out 2
        have b3 := blk_cell HX3.out 3
        have b4 := blk_cell HX3.out 4
        have b5 := blk_cell HX3.out 5
        have b6 := blk_cell HX3.out 6
        have b7 := blk_cell HX3.out 7
        have b8 := blk_cell HX3.out 8
        have b9 := blk_cell HX3.out 9
        have b10 := blk_cell HX3.out 10
        have b11 := blk_cell HX3.out 11
        go_wp2_with fail
        have hrd := redo_first (cs := cs) (a := rd_TGAct m k) Hk.out.2.2.1
        refine (HT3.out.redo (recOf k (rd_TGAct m k)) (by simp [recOf]; omega) (by simp [recOf]; omega) hz1 hz2 hz3).mono ?_
        rintro e w4 ⟨rfl, hD, hB⟩
        clear b0 b1 b2 b3 b4 b5 b6 b7 b8 b9 b10 b11
        have HX4 := Aside0.mk ((hB RB rfl).trans HX3.out)
        have b0 := blk_cell HX4.out 0
        have b1 := blk_cell HX4.out 1
        have b2 := blk_cell HX4.out 2
        have b3 := blk_cell HX4.out 3
        have b4 := blk_cell HX4.out 4
        have b5 := blk_cell HX4.out 5
        have b6 := blk_cell HX4.out 6
        have b7 := blk_cell HX4.out 7
        have b8 := blk_cell HX4.out 8
        have b9 := blk_cell HX4.out 9
        have b10 := blk_cell HX4.out 10
        have b11 := blk_cell HX4.out 11
        rw [hrd] at hD ⊢
        clear hrd hB
        by_cases hd : (actDo cs (rd_TGAct m k).f0 (rd_TGAct m k).f1 (rd_TGAct m k).f2 (rd_TGAct m k).f3).2 = 0
        · rw [if_neg (by simpa using hd)] at hD ⊢
          dsimp only at hD ⊢
          have HD4 := Aside0.mk (hD.fewer (B' := fun _ => False) (fun _ h => h.elim))
          clear hD
          generalize (actDo cs (rd_TGAct m k).f0 (rd_TGAct m k).f1 (rd_TGAct m k).f2 (rd_TGAct m k).f3).1 = cs2 at HD4 ⊢
          obtain ⟨okr, hfr, hRr, hnx⟩ := HD4.out.grow
          have HFR := Aside0.mk hfr
          have HRR := Aside0.mk hRr
          have HNX := Aside0.mk hnx
          have HBE := Aside0.mk HD4.out.bel
          clear hfr hRr hnx hd
          go_wp2_with (at_builtin; refine Kd.R_append kGRec (w0 := w) w.heap.size rfl (.tmp 58) (.tmp 60) 56 34 (.agg #[.int .i64 0, .int .u64 0, .int .i64 0, .int .u64 0, .int .u64 0, .int .i64 0, .int .i64 0, .string ⟨#[]⟩, .string ⟨#[]⟩, .string ⟨#[]⟩, .slice none 0 0, .slice none 0 0]) 152 rfl Try.underlying56 infoRec rfl (by decide) (by omega) (.slice Ar rs.length cr) rs (recOf k (rd_TGAct m k)) (recOf k (rd_TGAct m k)).out okr (fun _ => False) rfl (by first | rfl | (go_simp; done) | (simp [Act.eval, World.alloc]; done)) (kGRec_mkM _ _ _ _) (fun _ h => h.elim) HFR.out HRR.out HBE.out HBE.out.size (by have := Hk.out; omega) ?_; intro v1 w5 ho hb hg hat; have HKN := Aside0.mk (HNX.out w5 v1 _ hg ho); clear ho hb hg hat)
          go_roundg (G - 1)
          case measure => have := Hk.out; omega
          case rel =>
            refine ⟨k + 1, 16 * (k + 1), cs2, rs ++ [recOf k (rd_TGAct m k)], ⟨by have := Hk.out; simp; omega⟩, by simp, by omega, HKN, ⟨fun r hr => ?_⟩⟩
            rcases List.mem_append.1 hr with hr | hr
            · have h := HR.out r hr
              exact ⟨h.kind, h.page, by have := h.at_; have := Hk.out; omega, h.old, h.s7, h.s8, h.s9⟩
            · rcases List.mem_singleton.1 hr with rfl
              exact ⟨rfl, rfl, by simp [recOf]; omega, by simp [recOf]; omega, hz1, hz2, hz3⟩
        · rw [if_pos (by simpa using hd)] at hD ⊢
          dsimp only at hD ⊢
          have HD4 := Aside0.mk (hD.fewer (B' := fun _ => False) (fun _ h => h.elim))
          have HE := Aside0.mk hd
          have e7 : ((actDo cs (rd_TGAct m k).f0 (rd_TGAct m k).f1 (rd_TGAct m k).f2 (rd_TGAct m k).f3).2 == 0) = false := by simpa using hd
          clear hD hd
          generalize (actDo cs (rd_TGAct m k).f0 (rd_TGAct m k).f1 (rd_TGAct m k).f2 (rd_TGAct m k).f3).2 = er at e7 HE ⊢
          go_wp2_with fail
          go_roundg (G - 1)
          case measure => have := Hk.out; omega
          case rel => exact ⟨k + 1, lsn, _, rs, ⟨by have := Hk.out; omega⟩, by simp, by omega, HD4, HR⟩
    · have hend2 : ¬ k < m.length ∨ ¬ k < 40 := by omega
      have hrl : rs.length ≤ 40 := by have := Hk.out; omega
      obtain ⟨okh, hh⟩ := HT.out.here
      have HV := Aside0.mk HT.out.val
      rcases show (fr < 0) ∨ (¬ fr < 0 ∧ (rs.length : Int) < fr) ∨ (∃ f : Nat, fr = f ∧ f ≤ rs.length ∧ decide ((f : Int) < 0) = false ∧ decide ((rs.length : Int) < (f : Int)) = false ∧ decide (rs.length < f) = false) from by
        by_cases h1 : fr < 0
        · exact .inl h1
        · by_cases h2 : (rs.length : Int) < fr
          · exact .inr (.inl ⟨h1, h2⟩)
          · exact .inr (.inr ⟨fr.toNat, by omega, by omega, by simp; omega, by simp; omega, by simp; omega⟩) with hfr | ⟨hfr, hfr2⟩ | ⟨f, rfl, hf, e1, e2, e3⟩
      all_goals
        go_wp2_with fail
        all_goals
          refine hh.bytes.mono ?_
          rintro e w2 ⟨rfl, hbuf, _, hb2⟩
          have hcv := pg_string hbuf HV.out
          have HT2 := Aside0.mk (HT.out.next hb2)
          clear hb2 hbuf
          go_wp2_with fail
          clear hcv
          (try simp only [e3])
          go_loopg [15] rs.length (fun gk v15 wq => ∃ j : Nat, Aside0 (rs.length ≤ j + gk) ∧ v15 = .int .i64 j ∧ j ≤ rs.length ∧ Aside0 (Duo kGRec 34 w wq (fun _ => False) g 4 lsn cs (.slice Ar rs.length cr) rs))
          case atStart => first | exact ⟨0, ⟨by omega⟩, rfl, by omega, HT2⟩ | exact ⟨f, ⟨by omega⟩, rfl, hf, HT2⟩
          case round =>
            obtain ⟨j, Hj, rfl, hjl, HQ⟩ := hrel
            obtain ⟨G2, rfl⟩ : ∃ x, x = gk := ⟨_, rfl⟩
            by_cases hjlt : j < rs.length
            · have hrow := HQ.out.row
              obtain ⟨Ar', cr', he, _, hCr⟩ := hrow
              cases he
              obtain ⟨ar, rfl, z0, z1, z2, z3, z4, z5, z6, z7, z8, z9, z10, z11⟩ := rec_at hCr j hjlt
              have hok := HR.out _ (rec_mem rs j hjlt)
              have hra := redo_again (cs := cs) hok
              have ho4 := hok.old
              have ho3 := hok.at_.1
              have ho7 := hok.s7
              have ho8 := hok.s8
              have ho9 := hok.s9
              go_wp2_with fail
              refine (HQ.out.redo (rd_TGRec rs j) ho3 ho4 ho7 ho8 ho9).mono ?_
              rintro e w4 ⟨rfl, hD, hB⟩
              rw [hra] at hD ⊢
              have HQ4 := Aside0.mk hD
              clear hD hB hra hok
              go_wp2_with fail
              go_roundg (G2 - 1)
              case measure => have := Hj.out; omega
              case rel => exact ⟨j + 1, ⟨by have := Hj.out; omega⟩, by simp, by omega, HQ4⟩
            · have hje : j = rs.length := by omega
              subst hje
              obtain ⟨okq, hhq⟩ := HQ.out.here
              go_wp2_with fail
              refine hhq.bytes.mono ?_
              rintro e w4 ⟨rfl, hbuf, _, hb4⟩
              have hcv := pg_string hbuf HV.out
              have HB4 := Aside0.mk (HQ.out.next hb4).bel
              clear hb4 hbuf
              go_wp2_with (go_at_call 10; refine (lives_calls _).mono ?_; rintro e wq ⟨rfl, hb⟩; have HBn := Aside0.mk (below_then HB4.out HB4.out.size hb); clear hb)
              go_ret
              exact ⟨rfl, HBn.out⟩
end Go.Proofs.Ytidgfigfebkieaa
end
section
namespace Go.Proofs.Ytidgfigfebkieaa
open Go.RowKit Go.Proofs.YtidgfigfebkieaaW.PrintWords Go.Proofs.YtidgfigfebkieaaW.PrintLast Go.Proofs.YtidgfigfebkieaaW.PrintMore
open Go.ChangeShapes Go.WideShapes Go.ChangeAt Go.Deep Go.Joins
open Rf
set_option linter.unusedVariables false
set_option linter.unusedSimpArgs false
theorem list_of {α : Type} (P : Nat → α → Prop) (n : Nat) (h : ∀ i, i < n → ∃ o, P i o) : ∃ l : List α, l.length = n ∧ ∀ i o, l[i]? = some o → P i o := by
  induction n with
  | zero => exact ⟨[], rfl, by simp⟩
  | succ n ih =>
    obtain ⟨l, hl, hp⟩ := ih (fun i hi => h i (by omega))
    obtain ⟨o, ho⟩ := h n (by omega)
    refine ⟨l ++ [o], by simp [hl], fun i x hx => ?_⟩
    rcases Nat.lt_or_ge i l.length with hi | hi
    · rw [List.getElem?_append_left hi] at hx; exact hp i x hx
    · have : i = n := by
        have := (List.getElem?_eq_some_iff.1 hx).1
        simp at this; omega
      subst this
      rw [List.getElem?_append_right (by omega)] at hx
      simp [hl] at hx
      rw [← hx]; exact ho
section
variable {H : Type} {enc : TypeId × Value → H} {W : World} {P : Program}
/-- K: the elements' kind; out: an element's cells; one: an element's cells are some element's. Good: what is known of each. -/
theorem open_list {α : Type} (K : Kd α) (out : α → List Value) (Good : α → Prop) {t e : TypeId} (U : P.underlying t = some (.slice e)) (hC : P.cellsOf e = K.sz) (hK : ∀ x, K.K W x (out x)) (hout : ∀ x, (out x).length = K.sz)
    {fuel : Nat} {cs : List Value} {d : DataW H} {p : List MemPlace} (hf : DataW.trod enc P W 0 (fun _ => true) true fuel t cs = some (d, p))
    (one : ∀ n cs' d' p', cs'.length = K.sz → DataW.trod enc P W 0 (fun _ => true) true n e cs' = some (d', p') → ∃ x, cs' = out x ∧ Good x) :
    ∃ A c, ∃ l : List α, cs = [.slice A l.length c] ∧ Kd.C K W A l.length l ∧ l.length ≤ c ∧ ∀ x ∈ l, Good x := by
  rcases open_slice U hf with ⟨hcs, _⟩ | ⟨a, len, cap, m, n, D, Pl, hcs, hb, hl, hm, hmm, hx, hi⟩
  · exact ⟨none, 0, [], hcs, ⟨rfl, by simp, fun h => by simp at h⟩, by simp, by simp⟩
  · obtain ⟨l, hll, hp⟩ := list_of (fun i (o : α) => Good o ∧ ∀ j u, (out o)[j]? = some u → W.cell? (a.add (i * K.sz + j)) = some u) len (fun i hil => by
      obtain ⟨cs', hc, ht'⟩ := hi i (by rw [hmm]; split <;> omega)
      rw [hC] at hc
      obtain ⟨_, hcl, hat⟩ := World.cells?_some hc
      obtain ⟨o, rfl, hg⟩ := one n cs' _ _ hcl ht'
      refine ⟨o, hg, fun j u hj => ?_⟩
      have hjl : j < K.sz := by have := (List.getElem?_eq_some_iff.1 hj).1; rw [hout] at this; exact this
      rw [← Go.Deep.add_add, hat j hjl, hj])
    have hml : cap ≤ 9223372036854775807 := by have : maxLen ≤ 9223372036854775807 := by decide
                                               omega
    refine ⟨some a, cap, l, by rw [hll]; exact hcs, ⟨rfl, by omega, fun _ => ⟨a, rfl, fun j o hj => ⟨out o, hout o, hK o, (hp j o hj).2⟩⟩⟩, by omega, fun o ho => ?_⟩
    obtain ⟨i, hi2⟩ := List.mem_iff_getElem?.1 ho
    exact (hp i o hi2).1
end
end Go.Proofs.Ytidgfigfebkieaa
end
section
namespace Go.Proofs.Ytidgfigfebkieaa
open Go.RowKit Go.Proofs.YtidgfigfebkieaaW.PrintWords Go.Proofs.YtidgfigfebkieaaW.PrintLast Go.Proofs.YtidgfigfebkieaaW.PrintMore
open Go.ChangeShapes Go.WideShapes Go.ChangeAt Go.Deep Go.Joins
open Rf
set_option linter.unusedVariables false
set_option linter.unusedSimpArgs false
section
variable {H : Type} {enc : TypeId × Value → H} {W : World}
set_option maxRecDepth 100000 in
theorem pair_cells {held : Bool} {n : Nat} {cs : List Value} {d : DataW H} {p : List MemPlace} (hl : cs.length = 2) (h : DataW.trod enc Try.prog W 0 (fun _ => true) held n 79 cs = some (d, p)) :
    ∃ o : SGPair, cs = [.string o.f0, .string o.f1] ∧ d = .agg [.lit (.string o.f0.data.toList), .lit (.string o.f1.data.toList)] := by
  obtain ⟨c0, c1, rfl⟩ : ∃ c0 c1, cs = [c0, c1] := by
    match cs, hl with
    | [c0, c1], _ => exact ⟨c0, c1, rfl⟩
  obtain ⟨ys, n', hn', hy, hlen, hyl, hf⟩ := DataW.trod_struct Try.underlying79 h
  have k9 : Try.prog.cellsOf 9 = 1 := by kernel_rfl
  have h0 := hf 0 ⟨"Key", 9, 0, false, "", "", 0⟩ rfl
  have h1 := hf 1 ⟨"Value", 9, 1, false, "", "", 16⟩ rfl
  simp only [k9, List.drop_zero, List.drop_succ_cons, List.take_succ_cons, List.take_zero] at h0 h1
  obtain ⟨y0, y1, rfl⟩ : ∃ a b, ys = [a, b] := by
    match ys, hyl with
    | [a, b], _ => exact ⟨a, b, rfl⟩
  obtain ⟨s0, e0, x0, w0⟩ := DataW.trod_string Try.underlying9 h0
  obtain ⟨s1, e1, x1, w1⟩ := DataW.trod_string Try.underlying9 h1
  cases e0; cases e1; cases x0; cases x1
  obtain ⟨hd, _⟩ := Prod.mk.inj hy
  exact ⟨⟨s0, s1⟩, rfl, hd⟩
set_option maxRecDepth 100000 in
theorem act_cells {held : Bool} {n : Nat} {cs : List Value} {d : DataW H} {p : List MemPlace} (hl : cs.length = 4) (h : DataW.trod enc Try.prog W 0 (fun _ => true) held n 24 cs = some (d, p)) :
    ∃ o : SGAct, cs = [.int .i64 o.f0, .string o.f1, .string o.f2, .string o.f3] ∧ d = .agg [.lit (.int .i64 o.f0), .lit (.string o.f1.data.toList), .lit (.string o.f2.data.toList), .lit (.string o.f3.data.toList)] := by
  obtain ⟨c0, c1, c2, c3, rfl⟩ : ∃ c0 c1 c2 c3, cs = [c0, c1, c2, c3] := by
    match cs, hl with
    | [c0, c1, c2, c3], _ => exact ⟨c0, c1, c2, c3, rfl⟩
  obtain ⟨ys, n', hn', hy, hlen, hyl, hf⟩ := DataW.trod_struct Try.underlying24 h
  have k3 : Try.prog.cellsOf 22 = 1 := by kernel_rfl
  have k9 : Try.prog.cellsOf 9 = 1 := by kernel_rfl
  have h0 := hf 0 ⟨"Kind", 22, 0, false, "", "", 0⟩ rfl
  have h1 := hf 1 ⟨"Key", 9, 1, false, "", "", 8⟩ rfl
  have h2 := hf 2 ⟨"Old", 9, 2, false, "", "", 24⟩ rfl
  have h3 := hf 3 ⟨"New", 9, 3, false, "", "", 40⟩ rfl
  simp only [k3, k9, List.drop_zero, List.drop_succ_cons, List.take_succ_cons, List.take_zero] at h0 h1 h2 h3
  obtain ⟨y0, y1, y2, y3, rfl⟩ : ∃ a b c d, ys = [a, b, c, d] := by
    match ys, hyl with
    | [a, b, c, d], _ => exact ⟨a, b, c, d, rfl⟩
  obtain ⟨n0, e0, x0, w0⟩ := DataW.trod_int Try.underlying22 h0
  obtain ⟨s1, e1, x1, w1⟩ := DataW.trod_string Try.underlying9 h1
  obtain ⟨s2, e2, x2, w2⟩ := DataW.trod_string Try.underlying9 h2
  obtain ⟨s3, e3, x3, w3⟩ := DataW.trod_string Try.underlying9 h3
  cases e0; cases e1; cases e2; cases e3
  cases x0; cases x1; cases x2; cases x3
  obtain ⟨hd, _⟩ := Prod.mk.inj hy
  exact ⟨⟨n0, s1, s2, s3⟩, rfl, hd⟩
theorem mem_weightsAll {H : Type} {P : Program} {e : TypeId} : ∀ {ds : List (DataW H)} {d : DataW H}, d ∈ ds → ∀ n ∈ d.weights P e, n ∈ DataW.weightsAll P e ds
  | [], _, h, _, _ => by simp at h
  | a :: r, d, h, n, hn => by
    simp only [DataW.weightsAll, List.mem_append]
    rcases List.mem_cons.1 h with rfl | h
    · exact .inl hn
    · exact .inr (mem_weightsAll h n hn)
/-- As open_list, with each element's weights at hand. -/
theorem open_listw {α : Type} (K : Kd α) (out : α → List Value) (Good : α → Prop) {t e : TypeId} (U : Try.prog.underlying t = some (.slice e)) (hC : Try.prog.cellsOf e = K.sz) (hB : 1 ≤ Try.prog.bytesOf e) (hK : ∀ x, K.K W x (out x)) (hout : ∀ x, (out x).length = K.sz)
    {fuel : Nat} {cs : List Value} {d : DataW H} {p : List MemPlace} (hf : DataW.trod enc Try.prog W 0 (fun _ => true) true fuel t cs = some (d, p))
    (hw : ∀ x ∈ d.weights Try.prog t, x ≤ reachBytes)
    (one : ∀ n cs' d' p', cs'.length = K.sz → DataW.trod enc Try.prog W 0 (fun _ => true) true n e cs' = some (d', p') → (∀ x ∈ d'.weights Try.prog e, x ≤ reachBytes) → ∃ x, cs' = out x ∧ Good x) :
    ∃ A c, ∃ l : List α, cs = [.slice A l.length c] ∧ Kd.C K W A l.length l ∧ l.length ≤ c ∧ l.length ≤ 140737488351232 ∧ ∀ x ∈ l, Good x := by
  rcases open_slice U hf with ⟨hcs, _⟩ | ⟨a, len, cap, m, n, D, Pl, hcs, hb, hl, hm, hmm, hx, hi⟩
  · exact ⟨none, 0, [], hcs, ⟨rfl, by simp, fun h => by simp at h⟩, by simp, by simp, by simp⟩
  · obtain ⟨hd, _⟩ := Prod.mk.inj hx
    subst hd
    have hlen : len ≤ reachBytes := by
      have := hw ((((List.range len).map D).length + ((List.range (m - len)).map fun j => D (len + j)).length) * Try.prog.bytesOf e) (by rw [DataW.weights, U]; simp)
      rw [List.length_map, List.length_range] at this
      have h2 : (len + ((List.range (m - len)).map fun j => D (len + j)).length) * 1 ≤ (len + ((List.range (m - len)).map fun j => D (len + j)).length) * Try.prog.bytesOf e := Nat.mul_le_mul_left _ hB
      omega
    have hr : reachBytes = 140737488351232 := by kernel_rfl
    obtain ⟨l, hll, hp⟩ := list_of (fun i (o : α) => Good o ∧ ∀ j u, (out o)[j]? = some u → W.cell? (a.add (i * K.sz + j)) = some u) len (fun i hil => by
      obtain ⟨cs', hc, ht'⟩ := hi i (by rw [hmm]; split <;> omega)
      rw [hC] at hc
      obtain ⟨_, hcl, hat⟩ := World.cells?_some hc
      obtain ⟨o, rfl, hg⟩ := one n cs' _ _ hcl ht' (fun x hx => hw x (by
        rw [DataW.weights, U]
        simp only [List.mem_cons, List.mem_append]
        exact .inr (.inl (mem_weightsAll (List.mem_map.2 ⟨i, List.mem_range.2 hil, rfl⟩) x hx))))
      refine ⟨o, hg, fun j u hj => ?_⟩
      have hjl : j < K.sz := by have := (List.getElem?_eq_some_iff.1 hj).1; rw [hout] at this; exact this
      rw [← Go.Deep.add_add, hat j hjl, hj])
    have hml : cap ≤ 9223372036854775807 := by have : maxLen ≤ 9223372036854775807 := by decide
                                               omega
    refine ⟨some a, cap, l, by rw [hll]; exact hcs, ⟨rfl, by omega, fun _ => ⟨a, rfl, fun j o hj => ⟨out o, hout o, hK o, (hp j o hj).2⟩⟩⟩, by omega, by omega, fun o ho => ?_⟩
    obtain ⟨i, hi2⟩ := List.mem_iff_getElem?.1 ho
    exact (hp i o hi2).1
set_option maxRecDepth 100000 in
/-- A slice of Pair. -/
theorem open_pairs {r : Reach} {b0 : Nat} {v : Value} {d : DataW H} {p : List MemPlace} (hv : Value.okWide Try.prog W r b0 41 v) (h : DataW.Trod enc Try.prog W 0 (fun _ => true) true 41 v d p)
    (hw : ∀ x ∈ d.weights Try.prog 41, x ≤ reachBytes) :
    ∃ A c, ∃ l : List SGPair, v = .slice A l.length c ∧ Kd.C kGPair W A l.length l ∧ l.length ≤ 140737488351232 ∧ ∀ x ∈ l, x.f0.size ≤ 140737488351232 ∧ x.f1.size ≤ 140737488351232 := by
  obtain ⟨A, len, cap, rfl⟩ := okWide_slice Try.underlying41 hv
  obtain ⟨fuel, hf⟩ := h
  obtain ⟨A', c', l, hcs, hC, _, hl, hg⟩ := open_listw kGPair (fun o => [.string o.f0, .string o.f1]) (fun x => x.f0.size ≤ reachBytes ∧ x.f1.size ≤ reachBytes) Try.underlying41 (by kernel_rfl) (of_decide_eq_true (by kernel_rfl)) (fun x => kGPair_mk W x) (fun x => rfl) hf hw
    (fun n cs' d' p' hl ht hw' => by
      obtain ⟨o, rfl, rfl⟩ := pair_cells hl ht
      refine ⟨o, rfl, hw' _ ?_, hw' _ ?_⟩
      · rw [DataW.weights, Try.underlying79]
        simp [DataW.weightsEach, DataW.weights]
      · rw [DataW.weights, Try.underlying79]
        simp [DataW.weightsEach, DataW.weights])
  simp [Value.cells] at hcs
  obtain ⟨rfl, rfl, rfl⟩ := hcs
  exact ⟨_, _, l, rfl, hC, hl, hg⟩
set_option maxRecDepth 100000 in
/-- A slice of Act. -/
theorem open_acts {r : Reach} {b0 : Nat} {v : Value} {d : DataW H} {p : List MemPlace} (hv : Value.okWide Try.prog W r b0 42 v) (h : DataW.Trod enc Try.prog W 0 (fun _ => true) true 42 v d p)
    (hw : ∀ x ∈ d.weights Try.prog 42, x ≤ reachBytes) :
    ∃ A c, ∃ l : List SGAct, v = .slice A l.length c ∧ Kd.C kGAct W A l.length l ∧ l.length ≤ 140737488351232 ∧ ∀ x ∈ l, x.f1.size ≤ 140737488351232 ∧ x.f2.size ≤ 140737488351232 ∧ x.f3.size ≤ 140737488351232 := by
  obtain ⟨A, len, cap, rfl⟩ := okWide_slice Try.underlying42 hv
  obtain ⟨fuel, hf⟩ := h
  obtain ⟨A', c', l, hcs, hC, _, hl, hg⟩ := open_listw kGAct (fun o => [.int .i64 o.f0, .string o.f1, .string o.f2, .string o.f3]) (fun x => x.f1.size ≤ reachBytes ∧ x.f2.size ≤ reachBytes ∧ x.f3.size ≤ reachBytes) Try.underlying42 (by kernel_rfl) (of_decide_eq_true (by kernel_rfl)) (fun x => kGAct_mk W x) (fun x => rfl) hf hw
    (fun n cs' d' p' hl ht hw' => by
      obtain ⟨o, rfl, rfl⟩ := act_cells hl ht
      refine ⟨o, rfl, hw' _ ?_, hw' _ ?_, hw' _ ?_⟩
      · rw [DataW.weights, Try.underlying24]
        simp [DataW.weightsEach, DataW.weights]
      · rw [DataW.weights, Try.underlying24]
        simp [DataW.weightsEach, DataW.weights]
      · rw [DataW.weights, Try.underlying24]
        simp [DataW.weightsEach, DataW.weights])
  simp [Value.cells] at hcs
  obtain ⟨rfl, rfl, rfl⟩ := hcs
  exact ⟨_, _, l, rfl, hC, hl, hg⟩
end
end Go.Proofs.Ytidgfigfebkieaa
end
section
namespace Go.Proofs.Ytidgfigfebkieaa.actAgain
open Go.ChangeShapes Go.WideShapes Go.ChangeAt Go.RowKit
open Go.ChangeMaps (open_string shut_string)
set_option linter.unusedVariables false
theorem own : ownKnob Try.prog.godebug = none := by kernel_rfl
theorem laidOut : laidOutB Try.prog = true := by kernel_rfl
open Rf Go.Proofs.YtidgfigfebkieaaW.PrintWords in
theorem again_row (W : World) (l : List SGPair) (A : Option Addr) (c : Nat) (hC : Kd.C kGPair W A l.length l) (hl : l.length ≤ 140737488351232) (hsz : ∀ x ∈ l, x.f0.size ≤ 140737488351232 ∧ x.f1.size ≤ 140737488351232)
    (m : List SGAct) (Am : Option Addr) (cm : Nat) (hM : Kd.C kGAct W Am m.length m) (hml : m.length ≤ 140737488351232) (hmz : ∀ x ∈ m, x.f1.size ≤ 140737488351232 ∧ x.f2.size ≤ 140737488351232 ∧ x.f3.size ≤ 140737488351232) (fr : Int) (hfr : (Lit.int .i64 fr).wf = true) :
    Calls Try.prog 7 #[.slice A l.length c, .slice Am m.length cm, .int .i64 fr] W fun e w' => e = .returned (.bool true) ∧ Below W.heap.size W w' :=
  again_walk W l A c hC (by omega) hsz m Am cm hM (by omega) hmz fr
set_option maxRecDepth 100000 in
theorem lifted (os : Os) (started : os.Started) (H : Type) (enc : TypeId × Value → H) :
    ReturnsInHanded {} Try.checked os 7 .any (Rows.actAgainSpec.pre6 enc Try.prog Try.f7 Rows.actAgainRow.domain false) (Rows.actAgainSpec.post enc Try.prog Try.f7 false true false false) := by
  refine returnsInHanded_of_change_sized (C := Try.checked) own started (by kernel_rfl) Try.func7
    (ChangeSpec.witness6 (enc := enc) (C := Try.checked) false ⟨#[], #[.slice none 0 0, .slice none 0 0, .int .i64 0], []⟩ 8 (by kernel_rfl) (by kernel_rfl) (by kernel_rfl) (by kernel_rfl)) ?_
  intro W base args ds gs before hval0 hW hcnd hsz0 _
  have hsz : (DataW.weightsEach Try.prog (Try.f7.params.toList ++ Rows.actAgainSpec.plain.varTypes Try.prog) (ds ++ gs)).all (· ≤ reachBytes) = true := hsz0
  have hval : ∀ (j : Nat) t v, Try.f7.params[j]? = some t → args[j]? = some v → Value.okWide Try.prog W .any base t v := hval0
  have hW' := hW
  obtain ⟨p, q, hA0, hV, rfl, hfz, hnd⟩ := hW
  have hA : DataW.TrodAll enc Try.prog W 0 (fun _ => true) true Try.f7.params.toList args.toList ds p := hA0
  rw [Try.params7] at hA hval hsz
  obtain ⟨v0, vs0, d0, ds0, p0, q0, hargs, rfl, rfl, h0, r0⟩ := trodAll_cons hA
  obtain ⟨v1, vs1, d1, ds1, p1, q1, rfl, rfl, rfl, h1, r1⟩ := trodAll_cons r0
  obtain ⟨v2, vs2, d2, ds2, p2, q2, rfl, rfl, rfl, h2, r2⟩ := trodAll_cons r1
  obtain ⟨rfl, rfl, rfl⟩ := trodAll_nil r2
  obtain rfl : args = #[v0, v1, v2] := by cases args; simp_all
  obtain ⟨rfl, rfl⟩ := trodVars_none hV
  have k0 := h0
  have lt0 : ∀ x ∈ p0, x.block < W.heap.size := by obtain ⟨m, hm⟩ := k0; exact DataW.trod_lt m _ _ _ hm
  obtain ⟨A0, c0, l0, rfl, hC0, hl0, ho0⟩ := open_pairs (hval 0 41 v0 rfl rfl) h0 (fun x hx => by have := List.all_eq_true.1 hsz _ (DataW.weights_mem_each (j := 0) (t := 41) rfl rfl x hx); simpa using this)
  have k1 := h1
  have lt1 : ∀ x ∈ p1, x.block < W.heap.size := by obtain ⟨m, hm⟩ := k1; exact DataW.trod_lt m _ _ _ hm
  obtain ⟨A1, c1, l1, rfl, hC1, hl1, ho1⟩ := open_acts (hval 1 42 v1 rfl rfl) h1 (fun x hx => by have := List.all_eq_true.1 hsz _ (DataW.weights_mem_each (j := 1) (t := 42) rfl rfl x hx); simpa using this)
  obtain ⟨a2, rfl, rfl, rfl, w2⟩ := open_int Try.underlying3 (hval 2 3 v2 rfl rfl) h2
  clear hA0 hval0 hsz0 hsz
  refine (again_row W l0 A0 c0 hC0 hl0 ho0 l1 A1 c1 hC1 hl1 ho1 a2 w2).mono fun e W' ⟨he, bel⟩ => ?_
  subst he
  exact ⟨_, rfl, _, _, _, [], _, [], hW', trodAll_mk1 (shut_bool Try.underlying4 _), (trodAll_cons_mk (Below.trod laidOut (by kernel_rfl) (of_decide_eq_true (by kernel_rfl)) k0 bel lt0) (trodAll_cons_mk (Below.trod laidOut (by kernel_rfl) (of_decide_eq_true (by kernel_rfl)) k1 bel lt1) (trodAll_cons_mk (shut_int Try.underlying3 w2) trodAll_mk0))), rfl, bel.frame _, fun h => by cases h⟩
theorem over : Rows.actAgainRow.holds Try.pinned (OpenSpec.ofChange Rows.actAgainSpec) :=
  OpenClaim.holds_of_wide 7 Try.f7 rfl rfl rfl rfl rfl rfl rfl ⟨rfl, rfl, rfl, rfl, rfl⟩ rfl rfl rfl rfl rfl (by kernel_rfl) Try.func7 (by kernel_rfl)
    (of_decide_eq_true (by kernel_rfl)) (by unfold Func.isWrapper; first | (rw [if_pos (by decide +kernel)]; kernel_rfl) | (rw [if_neg (by decide +kernel)]; exact ⟨rfl, rfl⟩))
    (fun os started H enc _ => lifted os started H enc)
theorem proved : Rows.ActAgainSaid := over
end Go.Proofs.Ytidgfigfebkieaa.actAgain
namespace Go.Proofs.Ytidgfigfebkieaa
/-- The row, under a short name, for the claim. -/
theorem actAgain_holds : Rows.ActAgainSaid := actAgain.proved
#print axioms actAgain_holds
end Go.Proofs.Ytidgfigfebkieaa
end
