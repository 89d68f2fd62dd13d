/- Layer 7: pair. 
Layer 7: ActDoes' walk. 
A slice of elements of one shape that came in, laid open as a list. 
Layer 7: a law's arguments, laid open: slices of Pair, of Act. 
THE ROW: ActDoes: for every input it returns true, and each argument reads as it read before. No condition. -/
import Derived.Test.YtidgfigfebkieaaMgDo3
import Derived.Test.YtidgfigfebkieaaRfT
import Derived.Deep.Slices
import Derived.Deep.Fields
import Derived.ChangeSame
import Derived.SizedLaws
import Derived.Lib.SmallJoins
import Derived.ProofKit
import Derived.OpenShut
import Derived.Test.YtidgfigfebkieaaRows
import Derived.WalkKit
import Derived.ShutString
import Derived.ChangeOld
import Derived.Below
section
namespace Go.Proofs.Ytidgfigfebkieaa
open Go.RowKit Go.Proofs.YtidgfigfebkieaaW.PrintWords Go.Proofs.YtidgfigfebkieaaW.PrintLast Go.Proofs.YtidgfigfebkieaaW.PrintMore
open Rf
set_option linter.unusedVariables false
set_option linter.unusedSimpArgs false
theorem Twin.set {w0 w : World} {B : Nat → Prop} {g id lsn : Nat} {cs cs' : List SGCell} {v : Value} (h : Twin w0 w B g id lsn cs cs' v) {q : Addr} (hq : B q.block) (hl : w0.heap.size ≤ q.block) (u : Value) : Twin w0 (w.setCell q u) B g id lsn cs cs' v := by
  obtain ⟨⟨ok, h1, h2, h3⟩, h4⟩ := h
  have hs : (w.setCell q u).heap.size = w.heap.size := by simp [World.setCell]
  refine ⟨⟨ok, h1.kept (Kept.setCell (Kept.refl w (fun k => k = q.block)) (.inl rfl) u) (fun k hk e => (h2 k hk).2 (by rw [e]; exact hq)) (h1.bel.setCell hl u), fun k hk => by rw [hs]; exact h2 k hk, ?_⟩, fun k hk => by rw [hs]; exact h4 k hk⟩
  rw [hs]
  exact Kd.R_far h3 (fun k hk e => hk.2.2 (by rw [e]; exact hq)) u
theorem pair_mem (xs : List SGPair) (k : Nat) (h : k < xs.length) : rd_TGPair xs k ∈ xs := by
  simp [rd_TGPair, List.getD_eq_getElem?_getD, List.getElem?_eq_getElem h]
set_option maxRecDepth 100000 in
set_option maxHeartbeats 4000000 in
theorem pair_calls (w : World) (id : Nat) (hid : id < 16) (l : List SGPair) (A : Option Addr) (c : Nat) (hC : Kd.C kGPair w A l.length l) (hl : l.length ≤ 9223372036854775807) (hsz : ∀ x ∈ l, x.f0.size ≤ 140737488351232 ∧ x.f1.size ≤ 140737488351232) :
    Calls Try.prog 17 #[.int .i64 id, .slice A l.length c] w fun e w' => ∃ g cs v, e = .returned (.tuple #[.pointer (some ⟨g, 0, none⟩), .agg #[.int .i64 id, .int .u64 0, v]]) ∧ Twin w w' (fun _ => False) g id 0 cs cs v := by
  have HC := Aside0.mk hC
  have HZ := Aside0.mk hsz
  clear hC hsz
  go_enter Try.func17, Try.ntmps17
  go_wp2_with fail
  have hb0 : Below w.heap.size w (w.alloc (.cells #[.int .i64 0, .int .u64 0, .slice none 0 0] 46)) := below_alloc (Below.refl _ _) _
  have hrx := heap_alloc_new w (.cells #[.int .i64 0, .int .u64 0, .slice none 0 0] 46)
  generalize w.alloc (.cells #[.int .i64 0, .int .u64 0, .slice none 0 0] 46) = wb at hb0 hrx ⊢
  refine (new_ok id wb (by omega) (by omega)).mono ?_
  rintro e w1 ⟨rfl, hp, hb⟩
  have hh1 : Here w w1 _ wb.heap.size id 0 [] := ⟨hp _ hb0.size, below_then hb0 hb0.size hb, Valid.nil, hid, by decide⟩
  have hrx1 := blk_below hrx hb
  have hsz1 := hb.size
  have hlt0 := blk_lt hrx
  clear hp hb hb0 hrx
  go_wp2_with fail
  have hb2 : Below w1.heap.size w1 (w1.alloc (.cells #[.int .i64 id, .int .u64 0, .slice none 0 0] 46)) := below_alloc (Below.refl _ _) _
  have hdx := heap_alloc_new w1 (.cells #[.int .i64 id, .int .u64 0, .slice none 0 0] 46)
  have hrx2 := blk_below hrx1 hb2
  generalize w1.alloc (.cells #[.int .i64 id, .int .u64 0, .slice none 0 0] 46) = w2 at hb2 hdx hrx2 ⊢
  obtain ⟨RB, hRB⟩ : ∃ x, x = w.heap.size := ⟨_, rfl⟩
  obtain ⟨DB, hDB⟩ : ∃ x, x = w1.heap.size := ⟨_, rfl⟩
  have HT := Aside0.mk (show Twin w w2 (fun k => k = RB ∨ k = DB) wb.heap.size id 0 [] [] (.slice none 0 0) from by
    have hbd := (hh1.mono (ok' := fun k => wb.heap.size ≤ k) (fun k hk => hk)).bound
    refine Twin.apart (B := fun k => k = RB) (w := w1) ⟨⟨_, hbd, fun k hk => ⟨hk.2, fun e => by have := hk.1; omega⟩, Kd.R_nil _ _ _ _ _⟩, fun k hk => by omega⟩ hb2 (fun k hk => ?_)
    rcases hk with hk | hk
    · exact .inl hk
    · exact .inr ⟨by omega, by have := blk_lt hdx; omega⟩)
  rw [← hRB] at hrx2 ⊢
  rw [← hDB] at hdx ⊢
  have HRX := Aside0.mk hrx2
  have HDX := Aside0.mk hdx
  have HL := Aside0.mk (show w.heap.size ≤ RB ∧ w.heap.size ≤ DB ∧ RB ≠ DB from by omega)
  clear hh1 hrx1 hsz1 hlt0 hb2 hdx hrx2 hRB hDB
  go_wp2_with fail
  go_loopg [9] l.length (fun gk v9 wr => ∃ (k : Nat) (cs : List SGCell) (v : Value), Aside0 (k + gk = l.length) ∧ v9 = .int .i64 k ∧ k ≤ l.length ∧ Aside0 (Twin w wr (fun k => k = RB ∨ k = DB) wb.heap.size id 0 cs cs v) ∧ Aside0 (wr.heap[RB]? = some (.cells #[.int .i64 0, .int .u64 0, .slice none 0 0] 46)) ∧ Aside0 (wr.heap[DB]? = some (.cells #[.int .i64 id, .int .u64 0, v] 46)))
  case atStart => exact ⟨0, [], _, ⟨by omega⟩, rfl, by omega, HT, HRX, HDX⟩
  case round =>
    obtain ⟨k, cs, v, Hk, rfl, hkl, HT, HRX, HDX⟩ := hrel
    obtain ⟨Av, cv, rfl, _, _⟩ := HT.out.row
    have d0 := blk_cell HDX.out 0
    have d1 := blk_cell HDX.out 1
    have d2 := blk_cell HDX.out 2
    by_cases hend : k < l.length ∧ k < 70
    · obtain ⟨hlt, h70⟩ := hend
      have hd70 : decide ((k : Int) < 70) = true := by simp; omega
      obtain ⟨ad, rfl, hx0, hx1⟩ := pair_at (Kd.C_below HC.out HT.out.bel) k hlt
      have hz := HZ.out _ (pair_mem l k hlt)
      have hw : IntKind.i64.wrap (((rd_TGPair l k).f0.size : Int) + ((rd_TGPair l k).f1.size : Int)) = ((rd_TGPair l k).f0.size : Int) + ((rd_TGPair l k).f1.size : Int) := i64w (by omega) (by omega)
      have HTd := Aside0.mk (HT.out.next (below_drew (Below.refl _ _)))
      have HRXd := Aside0.mk (blk_drew HRX.out)
      have HDXd := Aside0.mk (blk_drew HDX.out)
      by_cases hs : (rd_TGPair l k).f0.size + (rd_TGPair l k).f1.size ≤ 1000
      · go_wp2_with fail
        go_region_held3 (fun wx => wx.cell? (ad.add (k * 2)) = some (.string (rd_TGPair l k).f0) ∧ wx.cell? ⟨(ad.add (k * 2)).block, (ad.add (k * 2)).off + 1, none⟩ = some (.string (rd_TGPair l k).f1)) (go_keep) (fail)
        all_goals
          go_wp2_with fail
          go_region_held3 (fun wx => wx.cell? (ad.add (k * 2)) = some (.string (rd_TGPair l k).f0) ∧ wx.cell? ⟨(ad.add (k * 2)).block, (ad.add (k * 2)).off + 1, none⟩ = some (.string (rd_TGPair l k).f1)) (go_keep) ((go_at_call 30; refine ((HTd.out.next (below_drew (Below.refl _ _))).insert _ _).mono ?_; rintro e w3 ⟨rfl, hT, hB⟩; have HT2 := Aside0.mk hT; have HRX2 := Aside0.mk ((hB RB (.inl rfl)).trans (blk_drew HRXd.out)); have HDX2 := Aside0.mk ((hB DB (.inr rfl)).trans (blk_drew HDXd.out)); clear hT hB; have q := pair_at (Kd.C_below HC.out HT2.out.bel) k hlt; obtain ⟨ad2, ea2, y0, y1⟩ := q; cases ea2))
          all_goals
            have e0 := blk_cell HDX2.out 0
            have e1 := blk_cell HDX2.out 1
            have e2 := blk_cell HDX2.out 2
            go_wp2_with fail
            have HV := Aside0.mk HT.out.val
            clear e0 e1 e2 d0 d1 d2
            have e0 := blk_cell (blk_drew HDX2.out) 0
            have e1 := blk_cell (blk_drew HDX2.out) 1
            have e2 := blk_cell (blk_drew HDX2.out) 2
            have y0d : w3.drew.cell? (ad.add (k * 2)) = some (.string (rd_TGPair l k).f0) := y0
            have y1d : w3.drew.cell? ⟨(ad.add (k * 2)).block, (ad.add (k * 2)).off + 1, none⟩ = some (.string (rd_TGPair l k).f1) := y1
            go_region_with ((go_at_call 31; refine ((HT2.out.next (below_drew (Below.refl _ _))).rins HV.out _ _).mono ?_; rintro e w5 ⟨v5, rfl, hT, hB⟩; have q := hT.row; obtain ⟨A5, c5, rfl, _, _⟩ := q; have HT5 := Aside0.mk hT; have HRX5 := Aside0.mk ((hB RB (.inl rfl)).trans (blk_drew HRX2.out)); have HDX5 := Aside0.mk ((hB DB (.inr rfl)).trans (blk_drew HDX2.out)); have u0 := blk_cell HDX5.out 0; have u1 := blk_cell HDX5.out 1; have u2 := blk_cell HDX5.out 2; have s0 := blk_frozen HDX5.out 0; have s1 := blk_frozen HDX5.out 1; have s2 := blk_frozen HDX5.out 2; clear hT hB))
            all_goals
              go_wp2_with fail
              go_roundg (gk - 1)
              case measure => have := Hk.out; omega
              case rel => exact ⟨k + 1, _, _, ⟨by have := Hk.out; omega⟩, by simp, by omega, ⟨(Twin.set (Twin.set (Twin.set HT5.out (q := ⟨DB, 0, none⟩) (.inr rfl) HL.out.2.1 (.int .i64 id)) (q := ⟨DB, 1, none⟩) (.inr rfl) HL.out.2.1 (.int .u64 0)) (q := ⟨DB, 2, none⟩) (.inr rfl) HL.out.2.1 (.slice A5 (ins cs (rd_TGPair l k).f0 (rd_TGPair l k).f1).1.length c5))⟩, ⟨(blk_far (blk_far (blk_far HRX5.out (p := ⟨DB, 0, none⟩) HL.out.2.2 (.int .i64 id)) (p := ⟨DB, 1, none⟩) HL.out.2.2 (.int .u64 0)) (p := ⟨DB, 2, none⟩) HL.out.2.2 (.slice A5 (ins cs (rd_TGPair l k).f0 (rd_TGPair l k).f1).1.length c5))⟩, ⟨(blk_put (cs' := #[.int .i64 id, .int .u64 0, .slice A5 (ins cs (rd_TGPair l k).f0 (rd_TGPair l k).f1).1.length c5]) (blk_put (cs' := #[.int .i64 id, .int .u64 0, .slice Av cs.length cv]) (blk_put (cs' := #[.int .i64 id, .int .u64 0, .slice Av cs.length cv]) HDX5.out 0 (.int .i64 id) rfl) 1 (.int .u64 0) rfl) 2 (.slice A5 (ins cs (rd_TGPair l k).f0 (rd_TGPair l k).f1).1.length c5) rfl)⟩⟩
      · go_wp2_with fail
        go_region_held3 (fun wx => wx.cell? (ad.add (k * 2)) = some (.string (rd_TGPair l k).f0) ∧ wx.cell? ⟨(ad.add (k * 2)).block, (ad.add (k * 2)).off + 1, none⟩ = some (.string (rd_TGPair l k).f1)) (go_keep) (fail)
        all_goals
          go_wp2_with fail
          go_roundg (gk - 1)
          case measure => have := Hk.out; omega
          case rel => exact ⟨k + 1, cs, _, ⟨by have := Hk.out; omega⟩, by simp, by omega, HTd, HRXd, HDXd⟩
    · have hend2 : ¬ k < l.length ∨ ¬ k < 70 := by omega
      have r0 := blk_cell HRX.out 0
      have r1 := blk_cell HRX.out 1
      have r2 := blk_cell HRX.out 2
      have g0 := blk_frozen HRX.out 0
      have g1 := blk_frozen HRX.out 1
      have g2 := blk_frozen HRX.out 2
      go_wp2_with fail
      all_goals
        go_region_with (fail)
        all_goals
          go_wp2_with fail
          refine bodyPost_ret (results_tc rfl _ _ RB 46 #[.int .i64 id, .int .u64 0, .slice Av cs.length cv] (0, 0) _ rfl (by first | exact (blk_put (cs' := #[.int .i64 id, .int .u64 0, .slice Av cs.length cv]) (blk_put (cs' := #[.int .i64 id, .int .u64 0, .slice none 0 0]) (blk_put (cs' := #[.int .i64 id, .int .u64 0, .slice none 0 0]) (blk_drew HRX.out) 0 (.int .i64 id) rfl) 1 (.int .u64 0) rfl) 2 (.slice Av cs.length cv) rfl) | exact blk_drew (blk_put (cs' := #[.int .i64 id, .int .u64 0, .slice Av cs.length cv]) (blk_put (cs' := #[.int .i64 id, .int .u64 0, .slice none 0 0]) (blk_put (cs' := #[.int .i64 id, .int .u64 0, .slice none 0 0]) HRX.out 0 (.int .i64 id) rfl) 1 (.int .u64 0) rfl) 2 (.slice Av cs.length cv) rfl)) Try.underlying46 rfl (by kernel_rfl)) rfl ?_
          refine ⟨wb.heap.size, cs, .slice Av cs.length cv, rfl, ?_⟩
          have HTE := (Twin.set (Twin.set (Twin.set HT.out (q := ⟨RB, 0, none⟩) (.inl rfl) HL.out.1 (.int .i64 id)) (q := ⟨RB, 1, none⟩) (.inl rfl) HL.out.1 (.int .u64 0)) (q := ⟨RB, 2, none⟩) (.inl rfl) HL.out.1 (.slice Av cs.length cv))
          exact HTE.apart (below_drew (Below.refl _ _)) (fun k h => h.elim)
end Go.Proofs.Ytidgfigfebkieaa
end
section
namespace Go.Proofs.Ytidgfigfebkieaa
open Go.RowKit Go.Proofs.YtidgfigfebkieaaW.PrintWords Go.Proofs.YtidgfigfebkieaaW.PrintLast Go.Proofs.YtidgfigfebkieaaW.PrintMore
open Rf
set_option linter.unusedVariables false
set_option linter.unusedSimpArgs false
theorem act_at {w : World} {A : Option Addr} {n : Nat} {xs : List SGAct} (h : Kd.C kGAct w A n xs) (k : Nat) (h1 : k < n) : ∃ ad, A = some ad ∧ w.cell? (ad.add (k * 4)) = some (.int .i64 (rd_TGAct xs k).f0) ∧ w.cell? ⟨(ad.add (k * 4)).block, (ad.add (k * 4)).off + 1, none⟩ = some (.string (rd_TGAct xs k).f1) ∧ w.cell? ⟨(ad.add (k * 4)).block, (ad.add (k * 4)).off + 2, none⟩ = some (.string (rd_TGAct xs k).f2) ∧ w.cell? ⟨(ad.add (k * 4)).block, (ad.add (k * 4)).off + 3, none⟩ = some (.string (rd_TGAct xs k).f3) := by
  have := at_TGAct h (k : Int) (by omega) (by omega)
  rwa [Int.toNat_natCast] at this
theorem act_mem (xs : List SGAct) (k : Nat) (h : k < xs.length) : rd_TGAct xs k ∈ xs := by
  simp [rd_TGAct, List.getD_eq_getElem?_getD, List.getElem?_eq_getElem h]
theorem Twin.here {w0 w : World} {B : Nat → Prop} {g id lsn : Nat} {cs cs' : List SGCell} {v : Value} (h : Twin w0 w B g id lsn cs cs' v) : ∃ ok, Here w0 w ok g id lsn cs := by
  obtain ⟨⟨ok, h1, _⟩, _⟩ := h
  exact ⟨ok, h1⟩
theorem cell_lt {w : World} {a : Addr} {u : Value} (h : w.cell? a = some u) : a.block < w.heap.size := by
  apply Decidable.byContradiction
  intro hn
  have hnone : w.heap[a.block]? = none := Array.getElem?_eq_none (by omega)
  simp [World.cell?, hnone] at h
theorem far3 {w : World} {q : Addr} {g : Nat} {x y z u : Value} (hne : q.block ≠ g) (h : w.cell? q = some u) : (((w.setCell ⟨g, 0, none⟩ x).setCell ⟨g, 1, none⟩ y).setCell ⟨g, 2, none⟩ z).cell? q = some u := by
  have ne : ∀ i, (⟨g, i, none⟩ : Addr) ≠ q := fun i e => hne (by rw [← e])
  rw [World.cell?_setCell_other (h := ne 2), World.cell?_setCell_other (h := ne 1), World.cell?_setCell_other (h := ne 0)]
  exact h
set_option maxHeartbeats 1000000 in
theorem plan_nil (w : World) (k : Int) (a b c : ByteArray) : Calls Try.prog 19 #[.pointer none, .agg #[.int .i64 k, .string a, .string b, .string c]] w fun e w' => e = .returned (.int .i64 1) ∧ Below w.heap.size w w' := by
  go_enter Try.func19, Try.ntmps19
  go_wp2_with fail
  have hb0 : Below w.heap.size w (w.alloc (.cells #[.int .i64 k, .string a, .string b, .string c] 24)) := below_alloc (Below.refl _ _) _
  have hbx := heap_alloc_new w (.cells #[.int .i64 k, .string a, .string b, .string c] 24)
  generalize w.alloc (.cells #[.int .i64 k, .string a, .string b, .string c] 24) = w1 at hb0 hbx ⊢
  have HB0 := Aside0.mk hb0
  have HX := Aside0.mk hbx
  have x0 := blk_cell hbx 0
  have x1 := blk_cell hbx 1
  have x2 := blk_cell hbx 2
  have x3 := blk_cell hbx 3
  clear hb0 hbx
  go_region_held3 (fun wx => wx.cell? ⟨w.heap.size, 0, none⟩ = some (.int .i64 k) ∧ wx.cell? ⟨w.heap.size, 1, none⟩ = some (.string a) ∧ wx.cell? ⟨w.heap.size, 2, none⟩ = some (.string b) ∧ wx.cell? ⟨w.heap.size, 3, none⟩ = some (.string c)) (go_keep) ((first | (go_at_call 35; refine (clone_nil _).mono ?_; rintro e w2 ⟨rfl, hb⟩; have hz := blk_below (blk_drew HX.out) hb; have y0 := blk_cell hz 0; have y1 := blk_cell hz 1; have y2 := blk_cell hz 2; have y3 := blk_cell hz 3; have HX2 := Aside0.mk hz; have HB2 := Aside0.mk (below_then (below_drew HB0.out) (below_drew HB0.out).size hb); clear hz hb) | (go_at_call 21; refine (do_nil _ k a b c).mono ?_; rintro e w3 ⟨rfl, hb⟩; have hz := blk_below HX2.out hb; have z0 := blk_cell hz 0; have z1 := blk_cell hz 1; have z2 := blk_cell hz 2; have z3 := blk_cell hz 3; have HB3 := Aside0.mk (below_then HB2.out HB2.out.size hb); clear hz hb)))
  all_goals
    go_wp2
    go_ret
    exact ⟨rfl, HB3.out⟩
set_option maxRecDepth 100000 in
set_option maxHeartbeats 4000000 in
theorem does_walk (w : World) (l : List SGPair) (A : Option Addr) (c : Nat) (hC : Kd.C kGPair w A l.length l) (hl : l.length ≤ 9223372036854775807) (hsz : ∀ x ∈ l, x.f0.size ≤ 140737488351232 ∧ x.f1.size ≤ 140737488351232)
    (m : List SGAct) (Am : Option Addr) (cm : Nat) (hM : Kd.C kGAct w Am m.length m) (hml : m.length ≤ 9223372036854775807) (hmz : ∀ x ∈ m, x.f1.size ≤ 140737488351232 ∧ x.f2.size ≤ 140737488351232 ∧ x.f3.size ≤ 140737488351232) :
    Calls Try.prog 5 #[.slice A l.length c, .slice Am m.length cm] w fun e w' => e = .returned (.bool true) ∧ Below w.heap.size w w' := by
  have HM := Aside0.mk hM
  have HMZ := Aside0.mk hmz
  go_enter Try.func5, Try.ntmps5
  go_wp2_with fail
  refine (pair_calls w 1 (by decide) l A c hC hl hsz).mono ?_
  rintro e w1 ⟨g, cs, v, rfl, hT⟩
  obtain ⟨Av, cv, rfl, _, _⟩ := hT.row
  have HT := Aside0.mk hT
  clear hC hM hsz hmz hT
  go_wp2_with fail
  have hb2 : Below w1.heap.size w1 (w1.alloc (.cells #[.int .i64 1, .int .u64 0, .slice Av cs.length cv] 46)) := below_alloc (Below.refl _ _) _
  have hdx := heap_alloc_new w1 (.cells #[.int .i64 1, .int .u64 0, .slice Av cs.length cv] 46)
  obtain ⟨DB, hDB⟩ : ∃ x, x = w1.heap.size := ⟨_, rfl⟩
  generalize w1.alloc (.cells #[.int .i64 1, .int .u64 0, .slice Av cs.length cv] 46) = w2 at hb2 hdx ⊢
  have HT2 := Aside0.mk (show Twin w w2 (fun k => k = DB) g 1 0 cs cs (.slice Av cs.length cv) from HT.out.apart hb2 (fun k hk => .inr ⟨by omega, by have := blk_lt hdx; omega⟩))
  have HL := Aside0.mk (show w.heap.size ≤ DB from by have := HT.out.bel.size; omega)
  rw [← hDB] at hdx ⊢
  have HDX := Aside0.mk hdx
  clear hb2 hdx hDB HT
  go_wp2_with fail
  go_loopg [7] m.length (fun gk v7 wr => ∃ (k : Nat) (cs : List SGCell) (v : Value), Aside0 (k + gk = m.length) ∧ v7 = .int .i64 k ∧ k ≤ m.length ∧ Aside0 (Twin w wr (fun k => k = DB) g 1 0 cs cs v) ∧ Aside0 (wr.heap[DB]? = some (.cells #[.int .i64 1, .int .u64 0, v] 46)))
  case atStart => exact ⟨0, cs, _, ⟨by omega⟩, rfl, by omega, HT2, HDX⟩
  case round =>
    obtain ⟨k, cs, v, Hk, rfl, hkl, HT, HDX⟩ := hrel
    obtain ⟨Av, cv, rfl, _, _⟩ := HT.out.row
    by_cases hend : k < m.length ∧ k < 60
    · obtain ⟨hlt, h60⟩ := hend
      have hd60 : decide ((k : Int) < 60) = true := by simp; omega
      obtain ⟨ad, rfl, hx0, hx1, hx2, hx3⟩ := act_at (Kd.C_below HM.out HT.out.bel) k hlt
      obtain ⟨hz1, hz2, hz3⟩ := HMZ.out _ (act_mem m k hlt)
      go_wp2_with fail
      refine (short_calls _ _ _ _ wr hz1 hz2 hz3).mono ?_
      rintro e w3 ⟨rfl, hb3⟩
      have HT3 := Aside0.mk (HT.out.next hb3)
      have HDX3 := Aside0.mk (blk_below HDX.out hb3)
      clear hb3 hx0 hx1 hx2 hx3
      cases decide ((rd_TGAct m k).f1.size + (rd_TGAct m k).f2.size + (rd_TGAct m k).f3.size ≤ 1000) with
      | false =>
        have HBn := Aside0.mk HT3.out.bel
        go_wp2_with (go_at_call 10; refine (lives_calls _).mono ?_; rintro e wq ⟨rfl, hb⟩; have HBn := Aside0.mk (below_then HBn.out HBn.out.size hb); clear hb)
        go_ret
        exact ⟨rfl, HBn.out⟩
      | true =>
        go_wp2_with fail
        obtain ⟨ok3, hh3⟩ := HT3.out.here
        have HV := Aside0.mk HT3.out.val
        refine hh3.bytes.mono ?_
        rintro e w4 ⟨rfl, hbuf, _, hb4⟩
        have hcv := pg_string hbuf HV.out
        have HT4 := Aside0.mk (HT3.out.next hb4)
        have HDX4 := Aside0.mk (blk_below HDX3.out hb4)
        clear hh3 hb4 hbuf
        obtain ⟨ad', ea', x0, x1, x2, x3⟩ := act_at (Kd.C_below HM.out HT4.out.bel) k hlt
        cases ea'
        go_wp2_with fail
        obtain ⟨ok4, hh4⟩ := HT4.out.here
        refine (plan_calls hh4 (rd_TGAct m k).f0 (rd_TGAct m k).f1 (rd_TGAct m k).f2 (rd_TGAct m k).f3 hz1 hz2 hz3).mono ?_
        rintro e w5 ⟨rfl, hb5⟩
        have HT5 := Aside0.mk (HT4.out.next hb5)
        have HDX5 := Aside0.mk (blk_below HDX4.out hb5)
        clear hh4 hb5 x0 x1 x2 x3
        go_wp2_with fail
        obtain ⟨ok5, hh5⟩ := HT5.out.here
        refine hh5.bytes.mono ?_
        rintro e w6 ⟨rfl, hbuf, _, hb6⟩
        have hcv := pg_string hbuf HV.out
        have HT6 := Aside0.mk (HT5.out.next hb6)
        have HDX6 := Aside0.mk (blk_below HDX5.out hb6)
        clear hh5 hb6 hbuf
        go_wp2_with fail
        have d0 := blk_cell HDX6.out 0
        have d1 := blk_cell HDX6.out 1
        have d2 := blk_cell HDX6.out 2
        obtain ⟨ad', ea', x0, x1, x2, x3⟩ := act_at (Kd.C_below HM.out HT6.out.bel) k hlt
        cases ea'
        have HNA := Aside0.mk (show (ad.add (k * 4)).block ≠ w6.heap.size from fun he => by
          have hlt : (ad.add (k * 4)).block < w6.heap.size := cell_lt x0
          omega)
        have HND := Aside0.mk (show DB ≠ w6.heap.size from by have := blk_lt HDX6.out; omega)
        have e0 : ∀ o, (w6.alloc o).cell? ⟨DB, 0, none⟩ = some (.int .i64 1) := fun o => blk_cell (blk_alloc HDX6.out o) 0
        have e1 : ∀ o, (w6.alloc o).cell? ⟨DB, 1, none⟩ = some (.int .u64 0) := fun o => blk_cell (blk_alloc HDX6.out o) 1
        have e2 : ∀ o, (w6.alloc o).cell? ⟨DB, 2, none⟩ = some (.slice Av cs.length cv) := fun o => blk_cell (blk_alloc HDX6.out o) 2
        go_region_held3 (fun wx => wx.cell? (ad.add (k * 4)) = some (.int .i64 (rd_TGAct m k).f0) ∧ wx.cell? ⟨(ad.add (k * 4)).block, (ad.add (k * 4)).off + 1, none⟩ = some (.string (rd_TGAct m k).f1) ∧ wx.cell? ⟨(ad.add (k * 4)).block, (ad.add (k * 4)).off + 2, none⟩ = some (.string (rd_TGAct m k).f2) ∧ wx.cell? ⟨(ad.add (k * 4)).block, (ad.add (k * 4)).off + 3, none⟩ = some (.string (rd_TGAct m k).f3) ∧ wx.cell? ⟨DB, 0, none⟩ = some (.int .i64 1) ∧ wx.cell? ⟨DB, 1, none⟩ = some (.int .u64 0) ∧ wx.cell? ⟨DB, 2, none⟩ = some (.slice Av cs.length cv)) ((first | go_keep | exact ⟨far3 HNA.out a0, far3 HNA.out a1, far3 HNA.out a2, far3 HNA.out a3, far3 HND.out b0, far3 HND.out b1, far3 HND.out b2⟩)) ((first | (go_at_call 20; refine ((HT6.out.next (below_drew (Below.refl _ _))).rdo HV.out (rd_TGAct m k).f0 (rd_TGAct m k).f1 (rd_TGAct m k).f2 (rd_TGAct m k).f3 hz1 hz2 hz3).mono ?_; rintro e w7 ⟨v7, rfl, hT, hB⟩; have q := hT.row; obtain ⟨A7, c7, rfl, _, _⟩ := q; have HT7 := Aside0.mk hT; have HDX7 := Aside0.mk ((hB DB rfl).trans (blk_drew HDX6.out)); have q2 := act_at (Kd.C_below HM.out HT7.out.bel) k hlt; obtain ⟨ad7, ea7, a0, a1, a2, a3⟩ := q2; cases ea7; have b0 := blk_cell HDX7.out 0; have b1 := blk_cell HDX7.out 1; have b2 := blk_cell HDX7.out 2; clear hT hB) | (go_at_call 20; refine ((HT6.out.apart (w' := (w6.alloc (.cells #[.int .i64 0, .int .u64 0, .slice none 0 0] 46)).drew) (B' := fun q => q = DB ∨ q = w6.heap.size) (below_drew (below_alloc (Below.refl _ _) _)) (fun q hq => hq.elim .inl (fun h => .inr ⟨by omega, by rw [h]; exact blk_lt (blk_drew (heap_alloc_new w6 (.cells #[.int .i64 0, .int .u64 0, .slice none 0 0] 46)))⟩))).rdo HV.out (rd_TGAct m k).f0 (rd_TGAct m k).f1 (rd_TGAct m k).f2 (rd_TGAct m k).f3 hz1 hz2 hz3).mono ?_; rintro e w7 ⟨v7, rfl, hT, hB⟩; have q := hT.row; obtain ⟨A7, c7, rfl, _, _⟩ := q; have HT7 := Aside0.mk hT; have HDX7 := Aside0.mk ((hB DB (.inl rfl)).trans (blk_drew (blk_alloc HDX6.out _))); have HNX7 := Aside0.mk ((hB w6.heap.size (.inr rfl)).trans (blk_drew (heap_alloc_new w6 (.cells #[.int .i64 0, .int .u64 0, .slice none 0 0] 46)))); have q2 := act_at (Kd.C_below HM.out HT7.out.bel) k hlt; obtain ⟨ad7, ea7, a0, a1, a2, a3⟩ := q2; cases ea7; have b0 := blk_cell HDX7.out 0; have b1 := blk_cell HDX7.out 1; have b2 := blk_cell HDX7.out 2; have n0 := blk_cell HNX7.out 0; have n1 := blk_cell HNX7.out 1; have n2 := blk_cell HNX7.out 2; have f0 := blk_frozen HNX7.out 0; have f1 := blk_frozen HNX7.out 1; have f2 := blk_frozen HNX7.out 2; clear hT hB)))
        all_goals
          have HW6 := Aside0.mk HT6.out.bel.size
          (first
            | (have hx8 := (blk_put (cs' := #[.int .i64 1, .int .u64 0, .slice A7 (actDo cs (rd_TGAct m k).f0 (rd_TGAct m k).f1 (rd_TGAct m k).f2 (rd_TGAct m k).f3).1.length c7]) (blk_put (cs' := #[.int .i64 1, .int .u64 0, .slice none 0 0]) (blk_put (cs' := #[.int .i64 1, .int .u64 0, .slice none 0 0]) HNX7.out 0 (.int .i64 1) rfl) 1 (.int .u64 0) rfl) 2 (.slice A7 (actDo cs (rd_TGAct m k).f0 (rd_TGAct m k).f1 (rd_TGAct m k).f2 (rd_TGAct m k).f3).1.length c7) rfl); have ht8 := (Twin.set (Twin.set (Twin.set HT7.out (q := ⟨w6.heap.size, 0, none⟩) (.inr rfl) HW6.out (.int .i64 1)) (q := ⟨w6.heap.size, 1, none⟩) (.inr rfl) HW6.out (.int .u64 0)) (q := ⟨w6.heap.size, 2, none⟩) (.inr rfl) HW6.out (.slice A7 (actDo cs (rd_TGAct m k).f0 (rd_TGAct m k).f1 (rd_TGAct m k).f2 (rd_TGAct m k).f3).1.length c7)); have hd8 := (blk_far (blk_far (blk_far HDX7.out (p := ⟨w6.heap.size, 0, none⟩) HND.out (.int .i64 1)) (p := ⟨w6.heap.size, 1, none⟩) HND.out (.int .u64 0)) (p := ⟨w6.heap.size, 2, none⟩) HND.out (.slice A7 (actDo cs (rd_TGAct m k).f0 (rd_TGAct m k).f1 (rd_TGAct m k).f2 (rd_TGAct m k).f3).1.length c7)); generalize (((w7.setCell ⟨w6.heap.size, 0, none⟩ (.int .i64 1)).setCell ⟨w6.heap.size, 1, none⟩ (.int .u64 0)).setCell ⟨w6.heap.size, 2, none⟩ (.slice A7 (actDo cs (rd_TGAct m k).f0 (rd_TGAct m k).f1 (rd_TGAct m k).f2 (rd_TGAct m k).f3).1.length c7)) = w8 at hx8 ht8 hd8 ⊢; obtain ⟨XB, hXB⟩ : ∃ x, x = w6.heap.size := ⟨_, rfl⟩; rw [← hXB] at hx8 ht8 ⊢; have HXB := Aside0.mk (show w.heap.size ≤ XB from by rw [hXB]; exact HW6.out); clear hXB)
            | (have hx8 := heap_alloc_new w7 (.cells #[.int .i64 1, .int .u64 0, .slice A7 (actDo cs (rd_TGAct m k).f0 (rd_TGAct m k).f1 (rd_TGAct m k).f2 (rd_TGAct m k).f3).1.length c7] 46); have ht8 : Twin w (w7.alloc (.cells #[.int .i64 1, .int .u64 0, .slice A7 (actDo cs (rd_TGAct m k).f0 (rd_TGAct m k).f1 (rd_TGAct m k).f2 (rd_TGAct m k).f3).1.length c7] 46)) (fun q => q = DB ∨ q = w7.heap.size) g 1 0 cs _ _ := HT7.out.apart (below_alloc (Below.refl _ _) _) (fun q hq => hq.elim .inl (fun h => .inr ⟨by omega, by rw [h]; exact blk_lt hx8⟩)); have hd8 := blk_alloc HDX7.out (.cells #[.int .i64 1, .int .u64 0, .slice A7 (actDo cs (rd_TGAct m k).f0 (rd_TGAct m k).f1 (rd_TGAct m k).f2 (rd_TGAct m k).f3).1.length c7] 46); have HXB0 := Aside0.mk HT7.out.bel.size; generalize w7.alloc (.cells #[.int .i64 1, .int .u64 0, .slice A7 (actDo cs (rd_TGAct m k).f0 (rd_TGAct m k).f1 (rd_TGAct m k).f2 (rd_TGAct m k).f3).1.length c7] 46) = w8 at hx8 ht8 hd8 ⊢; obtain ⟨XB, hXB⟩ : ∃ x, x = w7.heap.size := ⟨_, rfl⟩; rw [← hXB] at hx8 ht8 HXB0 ⊢; have HXB := HXB0; clear hXB))
          have HX8 := Aside0.mk hx8
          have HT8 := Aside0.mk ht8
          have HD8 := Aside0.mk hd8
          clear hx8 ht8 hd8 d0 d1 d2 x0 x1 x2 x3 e0 e1 e2
          have p0 := blk_cell HX8.out 0
          have p1 := blk_cell HX8.out 1
          have p2 := blk_cell HX8.out 2
          have q0 := blk_cell HD8.out 0
          have q1 := blk_cell HD8.out 1
          have q2 := blk_cell HD8.out 2
          have s0 := blk_frozen HD8.out 0
          have s1 := blk_frozen HD8.out 1
          have s2 := blk_frozen HD8.out 2
          have q8 := act_at (Kd.C_below HM.out HT8.out.bel) k hlt
          obtain ⟨ad8, ea8, h0, h1, h2, h3⟩ := q8
          cases ea8
          have HAD := Aside0.mk (show (ad.add (k * 4)).block ≠ DB from fun he => by
            have q9 := act_at HM.out k hlt
            obtain ⟨ad9, ea9, h9, _⟩ := q9
            cases ea9
            have := cell_lt h9
            have := HL.out
            omega)
          have z0 : (((w8.setCell ⟨DB, 0, none⟩ (.int .i64 1)).setCell ⟨DB, 1, none⟩ (.int .u64 0)).setCell ⟨DB, 2, none⟩ (.slice A7 (actDo cs (rd_TGAct m k).f0 (rd_TGAct m k).f1 (rd_TGAct m k).f2 (rd_TGAct m k).f3).1.length c7)).cell? (ad.add (k * 4)) = some (.int .i64 (rd_TGAct m k).f0) := far3 HAD.out h0
          have z1 : (((w8.setCell ⟨DB, 0, none⟩ (.int .i64 1)).setCell ⟨DB, 1, none⟩ (.int .u64 0)).setCell ⟨DB, 2, none⟩ (.slice A7 (actDo cs (rd_TGAct m k).f0 (rd_TGAct m k).f1 (rd_TGAct m k).f2 (rd_TGAct m k).f3).1.length c7)).cell? ⟨(ad.add (k * 4)).block, (ad.add (k * 4)).off + 1, none⟩ = some (.string (rd_TGAct m k).f1) := far3 HAD.out h1
          have z2 : (((w8.setCell ⟨DB, 0, none⟩ (.int .i64 1)).setCell ⟨DB, 1, none⟩ (.int .u64 0)).setCell ⟨DB, 2, none⟩ (.slice A7 (actDo cs (rd_TGAct m k).f0 (rd_TGAct m k).f1 (rd_TGAct m k).f2 (rd_TGAct m k).f3).1.length c7)).cell? ⟨(ad.add (k * 4)).block, (ad.add (k * 4)).off + 2, none⟩ = some (.string (rd_TGAct m k).f2) := far3 HAD.out h2
          have z3 : (((w8.setCell ⟨DB, 0, none⟩ (.int .i64 1)).setCell ⟨DB, 1, none⟩ (.int .u64 0)).setCell ⟨DB, 2, none⟩ (.slice A7 (actDo cs (rd_TGAct m k).f0 (rd_TGAct m k).f1 (rd_TGAct m k).f2 (rd_TGAct m k).f3).1.length c7)).cell? ⟨(ad.add (k * 4)).block, (ad.add (k * 4)).off + 3, none⟩ = some (.string (rd_TGAct m k).f3) := far3 HAD.out h3
          clear h0 h1 h2 h3
          go_wp2_with fail
          have ht9 := (Twin.set (Twin.set (Twin.set HT8.out (q := ⟨DB, 0, none⟩) (.inl rfl) HL.out (.int .i64 1)) (q := ⟨DB, 1, none⟩) (.inl rfl) HL.out (.int .u64 0)) (q := ⟨DB, 2, none⟩) (.inl rfl) HL.out (.slice A7 (actDo cs (rd_TGAct m k).f0 (rd_TGAct m k).f1 (rd_TGAct m k).f2 (rd_TGAct m k).f3).1.length c7))
          have hd9 := (blk_put (cs' := #[.int .i64 1, .int .u64 0, .slice A7 (actDo cs (rd_TGAct m k).f0 (rd_TGAct m k).f1 (rd_TGAct m k).f2 (rd_TGAct m k).f3).1.length c7]) (blk_put (cs' := #[.int .i64 1, .int .u64 0, .slice Av cs.length cv]) (blk_put (cs' := #[.int .i64 1, .int .u64 0, .slice Av cs.length cv]) HD8.out 0 (.int .i64 1) rfl) 1 (.int .u64 0) rfl) 2 (.slice A7 (actDo cs (rd_TGAct m k).f0 (rd_TGAct m k).f1 (rd_TGAct m k).f2 (rd_TGAct m k).f3).1.length c7) rfl)
          clear z0 z1 z2 z3 p0 p1 p2 q0 q1 q2 s0 s1 s2
          generalize (((w8.setCell ⟨DB, 0, none⟩ (.int .i64 1)).setCell ⟨DB, 1, none⟩ (.int .u64 0)).setCell ⟨DB, 2, none⟩ (.slice A7 (actDo cs (rd_TGAct m k).f0 (rd_TGAct m k).f1 (rd_TGAct m k).f2 (rd_TGAct m k).f3).1.length c7)) = w9 at ht9 hd9 ⊢
          refine (ht9.do_ (rd_TGAct m k).f0 (rd_TGAct m k).f1 (rd_TGAct m k).f2 (rd_TGAct m k).f3 hz1 hz2 hz3).mono ?_
          rintro e w10 ⟨rfl, hT, hB⟩
          have HTA := Aside0.mk hT
          have HDA := Aside0.mk ((hB DB (.inl rfl)).trans hd9)
          clear ht9 hd9 hT hB
          go_wp2_with fail
          have HTA := Aside0.mk (HTA.out.next (below_drew (Below.refl _ _)))
          have HDA := Aside0.mk (blk_drew HDA.out)
          have qq := act_at (Kd.C_below HM.out HTA.out.bel) k hlt
          obtain ⟨adq, eaq, a0, a1, a2, a3⟩ := qq
          cases eaq
          have b0 := blk_cell HDA.out 0
          have b1 := blk_cell HDA.out 1
          have b2 := blk_cell HDA.out 2
          refine start_ (n := 27) (S := fun wx => wx.cell? (ad.add (k * 4)) = some (.int .i64 (rd_TGAct m k).f0) ∧ wx.cell? ⟨(ad.add (k * 4)).block, (ad.add (k * 4)).off + 1, none⟩ = some (.string (rd_TGAct m k).f1) ∧ wx.cell? ⟨(ad.add (k * 4)).block, (ad.add (k * 4)).off + 2, none⟩ = some (.string (rd_TGAct m k).f2) ∧ wx.cell? ⟨(ad.add (k * 4)).block, (ad.add (k * 4)).off + 3, none⟩ = some (.string (rd_TGAct m k).f3) ∧ wx.cell? ⟨DB, 0, none⟩ = some (.int .i64 1) ∧ wx.cell? ⟨DB, 1, none⟩ = some (.int .u64 0) ∧ wx.cell? ⟨DB, 2, none⟩ = some (.slice A7 (actDo cs (rd_TGAct m k).f0 (rd_TGAct m k).f1 (rd_TGAct m k).f2 (rd_TGAct m k).f3).1.length c7)) (ds := []) #[false, false, false, false, false, false, false, false, false, false, false, false, false, false, false, false, false, false, false, false, false, false, false, false, false, false, false] (by kernel_rfl) rfl rfl (⟨a0, a1, a2, a3, b0, b1, b2⟩) (fun hHeld => ?_)
          refine pure_ (i := 0) (N := some 67) (v := ?_) (a' := ?_) #[true, false, false, false, false, false, false, false, false, false, false, false, false, false, false, false, false, false, false, false, false, false, false, false, false, false, false] rfl rfl (by kernel_rfl) (fun _ _ _ h => h) (Or.inl ⟨by rfl, ?_⟩) ?_ ?_
          rotate_left
          · intro w'
            go_simp
            all_goals (with_reducible rfl)
          rotate_left
          · simp only [Act.put, List.setIfInBounds_toArray, List.set_cons_zero, List.set_cons_succ, i64_w, i32_w]
            rfl
          refine pure_ (i := 1) (N := some 68) (v := ?_) (a' := ?_) #[true, true, false, false, false, false, false, false, false, false, false, false, false, false, false, false, false, false, false, false, false, false, false, false, false, false, false] rfl rfl (by kernel_rfl) (fun _ _ _ h => h) (Or.inl ⟨by rfl, ?_⟩) ?_ ?_
          rotate_left
          · intro w'
            go_simp
            all_goals (with_reducible rfl)
          rotate_left
          · simp only [Act.put, List.setIfInBounds_toArray, List.set_cons_zero, List.set_cons_succ, i64_w, i32_w]
            rfl
          refine pure_ (i := 2) (N := some 69) (v := ?_) (a' := ?_) #[true, true, true, false, false, false, false, false, false, false, false, false, false, false, false, false, false, false, false, false, false, false, false, false, false, false, false] rfl rfl (by kernel_rfl) (fun _ _ _ h => h) (Or.inl ⟨by rfl, ?_⟩) ?_ ?_
          rotate_left
          · intro w'
            go_simp
            all_goals (with_reducible rfl)
          rotate_left
          · simp only [Act.put, List.setIfInBounds_toArray, List.set_cons_zero, List.set_cons_succ, i64_w, i32_w]
            rfl
          refine pure_ (i := 3) (N := some 70) (v := ?_) (a' := ?_) #[true, true, true, true, false, false, false, false, false, false, false, false, false, false, false, false, false, false, false, false, false, false, false, false, false, false, false] rfl rfl (by kernel_rfl) (fun _ _ _ h => h) (Or.inl ⟨by rfl, ?_⟩) ?_ ?_
          rotate_left
          · intro w'
            go_simp
            all_goals (with_reducible rfl)
          rotate_left
          · simp only [Act.put, List.setIfInBounds_toArray, List.set_cons_zero, List.set_cons_succ, i64_w, i32_w]
            rfl
          refine pure_ (i := 4) (N := some 71) (v := ?_) (a' := ?_) #[true, true, true, true, true, false, false, false, false, false, false, false, false, false, false, false, false, false, false, false, false, false, false, false, false, false, false] rfl rfl (by kernel_rfl) (fun _ _ _ h => h) (Or.inl ⟨by rfl, ?_⟩) ?_ ?_
          rotate_left
          · intro w'
            go_simp
            all_goals (with_reducible rfl)
          rotate_left
          · simp only [Act.put, List.setIfInBounds_toArray, List.set_cons_zero, List.set_cons_succ, i64_w, i32_w]
            rfl
          refine pure_ (i := 5) (N := some 72) (v := ?_) (a' := ?_) #[true, true, true, true, true, true, false, false, false, false, false, false, false, false, false, false, false, false, false, false, false, false, false, false, false, false, false] rfl rfl (by kernel_rfl) (fun _ _ _ h => h) (Or.inl ⟨by rfl, ?_⟩) ?_ ?_
          rotate_left
          · intro w'
            go_simp
            all_goals (with_reducible rfl)
          rotate_left
          · simp only [Act.put, List.setIfInBounds_toArray, List.set_cons_zero, List.set_cons_succ, i64_w, i32_w]
            rfl
          refine pure_ (i := 6) (N := some 73) (v := ?_) (a' := ?_) #[true, true, true, true, true, true, true, false, false, false, false, false, false, false, false, false, false, false, false, false, false, false, false, false, false, false, false] rfl rfl (by kernel_rfl) (fun _ _ _ h => h) (Or.inl ⟨by rfl, ?_⟩) ?_ ?_
          rotate_left
          · intro w'
            go_simp
            all_goals (with_reducible rfl)
          rotate_left
          · simp only [Act.put, List.setIfInBounds_toArray, List.set_cons_zero, List.set_cons_succ, i64_w, i32_w]
            rfl
          refine pure_ (i := 7) (N := some 74) (v := ?_) (a' := ?_) #[true, true, true, true, true, true, true, true, false, false, false, false, false, false, false, false, false, false, false, false, false, false, false, false, false, false, false] rfl rfl (by kernel_rfl) (fun _ _ _ h => h) (Or.inl ⟨by rfl, ?_⟩) ?_ ?_
          rotate_left
          · intro w'
            go_simp
            all_goals (with_reducible rfl)
          rotate_left
          · simp only [Act.put, List.setIfInBounds_toArray, List.set_cons_zero, List.set_cons_succ, i64_w, i32_w]
            rfl
          refine pure_ (i := 8) (N := some 75) (v := ?_) (a' := ?_) #[true, true, true, true, true, true, true, true, true, false, false, false, false, false, false, false, false, false, false, false, false, false, false, false, false, false, false] rfl rfl (by kernel_rfl) (fun _ _ _ h => h) (Or.inl ⟨by rfl, ?_⟩) ?_ ?_
          rotate_left
          · intro w'
            go_simp
            all_goals (with_reducible rfl)
          rotate_left
          · simp only [Act.put, List.setIfInBounds_toArray, List.set_cons_zero, List.set_cons_succ, i64_w, i32_w]
            rfl
          refine pure_ (i := 9) (N := some 76) (v := ?_) (a' := ?_) #[true, true, true, true, true, true, true, true, true, true, false, false, false, false, false, false, false, false, false, false, false, false, false, false, false, false, false] rfl rfl (by kernel_rfl) (fun _ _ _ h => h) (Or.inl ⟨by rfl, ?_⟩) ?_ ?_
          rotate_left
          · intro w'
            go_simp
            all_goals (with_reducible rfl)
          rotate_left
          · simp only [Act.put, List.setIfInBounds_toArray, List.set_cons_zero, List.set_cons_succ, i64_w, i32_w]
            rfl
          refine pure_ (i := 10) (N := some 77) (v := ?_) (a' := ?_) #[true, true, true, true, true, true, true, true, true, true, true, false, false, false, false, false, false, false, false, false, false, false, false, false, false, false, false] rfl rfl (by kernel_rfl) (fun _ _ _ h => h) (Or.inl ⟨by rfl, ?_⟩) ?_ ?_
          rotate_left
          · intro w'
            go_simp
            all_goals (with_reducible rfl)
          rotate_left
          · simp only [Act.put, List.setIfInBounds_toArray, List.set_cons_zero, List.set_cons_succ, i64_w, i32_w]
            rfl
          refine pure_ (i := 11) (N := some 78) (v := ?_) (a' := ?_) #[true, true, true, true, true, true, true, true, true, true, true, true, false, false, false, false, false, false, false, false, false, false, false, false, false, false, false] rfl rfl (by kernel_rfl) (fun _ _ _ h => h) (Or.inl ⟨by rfl, ?_⟩) ?_ ?_
          rotate_left
          · intro w'
            go_simp
            all_goals (with_reducible rfl)
          rotate_left
          · simp only [Act.put, List.setIfInBounds_toArray, List.set_cons_zero, List.set_cons_succ, i64_w, i32_w]
            rfl
          refine pure_ (i := 14) (N := some 81) (v := ?_) (a' := ?_) #[true, true, true, true, true, true, true, true, true, true, true, true, false, false, true, false, false, false, false, false, false, false, false, false, false, false, false] rfl rfl (by kernel_rfl) (fun _ _ _ h => h) (Or.inl ⟨by rfl, ?_⟩) ?_ ?_
          rotate_left
          · intro w'
            go_simp
            all_goals (with_reducible rfl)
          rotate_left
          · simp only [Act.put, List.setIfInBounds_toArray, List.set_cons_zero, List.set_cons_succ, i64_w, i32_w]
            rfl
          refine pure_ (i := 15) (N := some 82) (v := ?_) (a' := ?_) #[true, true, true, true, true, true, true, true, true, true, true, true, false, false, true, true, false, false, false, false, false, false, false, false, false, false, false] rfl rfl (by kernel_rfl) (fun _ _ _ h => h) (Or.inl ⟨by rfl, ?_⟩) ?_ ?_
          rotate_left
          · intro w'
            go_simp
            all_goals (with_reducible rfl)
          rotate_left
          · simp only [Act.put, List.setIfInBounds_toArray, List.set_cons_zero, List.set_cons_succ, i64_w, i32_w]
            rfl
          refine pure_ (i := 16) (N := some 83) (v := ?_) (a' := ?_) #[true, true, true, true, true, true, true, true, true, true, true, true, false, false, true, true, true, false, false, false, false, false, false, false, false, false, false] rfl rfl (by kernel_rfl) (fun _ _ _ h => h) (Or.inl ⟨by rfl, ?_⟩) ?_ ?_
          rotate_left
          · intro w'
            go_simp
            all_goals (with_reducible rfl)
          rotate_left
          · simp only [Act.put, List.setIfInBounds_toArray, List.set_cons_zero, List.set_cons_succ, i64_w, i32_w]
            rfl
          refine take_ (i := 12) (N := some 79) (v := ?_) (a' := ?_) #[true, true, true, true, true, true, true, true, true, true, true, true, true, false, true, true, true, false, false, false, false, false, false, false, false, false, false] rfl rfl (by kernel_rfl) (fun _ _ _ h => h) (Or.inl ⟨by rfl, ?_⟩) hHeld ?_ ?_
          rotate_left
          · intro w' hSw
            (try dsimp only at hSw)
            go_simp
            all_goals (with_reducible rfl)
          rotate_left
          · simp only [Act.put, List.setIfInBounds_toArray, List.set_cons_zero, List.set_cons_succ, i64_w, i32_w]
            rfl
          refine take_ (i := 17) (N := some 84) (v := ?_) (a' := ?_) #[true, true, true, true, true, true, true, true, true, true, true, true, true, false, true, true, true, true, false, false, false, false, false, false, false, false, false] rfl rfl (by kernel_rfl) (fun _ _ _ h => h) (Or.inl ⟨by rfl, ?_⟩) hHeld ?_ ?_
          rotate_left
          · intro w' hSw
            (try dsimp only at hSw)
            go_simp
            all_goals (with_reducible rfl)
          rotate_left
          · simp only [Act.put, List.setIfInBounds_toArray, List.set_cons_zero, List.set_cons_succ, i64_w, i32_w]
            rfl
          refine one_ (i := 13) (N := some 80) #[true, true, true, true, true, true, true, true, true, true, true, true, true, true, true, true, true, true, false, false, false, false, false, false, false, false, false] rfl rfl (by kernel_rfl) (by decide) (fun K hK => ?_)
          go_simp
          go_at_call 13
          refine (actmay_calls _ (rd_TGAct m k).f0 (rd_TGAct m k).f1 (rd_TGAct m k).f2 (rd_TGAct m k).f3 hz1 hz2 hz3).mono ?_
          rintro e wq ⟨rfl, hb⟩
          have HTA := Aside0.mk (HTA.out.next hb)
          have HDA := Aside0.mk (blk_below HDA.out hb)
          clear hb
          have qq := act_at (Kd.C_below HM.out HTA.out.bel) k hlt
          obtain ⟨adq, eaq, a0, a1, a2, a3⟩ := qq
          cases eaq
          have b0 := blk_cell HDA.out 0
          have b1 := blk_cell HDA.out 1
          have b2 := blk_cell HDA.out 2
          (try go_wp2_with fail)
          refine hK.out _ _ (⟨a0, a1, a2, a3, b0, b1, b2⟩) (fun hHeld => ?_)
          clear hK K
          (try simp only [Act.put, List.setIfInBounds_toArray, List.set_cons_zero, List.set_cons_succ])
          refine one_ (i := 18) (N := some 85) #[true, true, true, true, true, true, true, true, true, true, true, true, true, true, true, true, true, true, true, false, false, false, false, false, false, false, false] rfl rfl (by kernel_rfl) (by decide) (fun K hK => ?_)
          go_simp
          go_at_call 22
          refine (flotillaref05_ActMay.calls (rd_TGAct m k).f0 (rd_TGAct m k).f1 (rd_TGAct m k).f2 (rd_TGAct m k).f3 _ _ (refMay (rd_TGAct m k).f0 (rd_TGAct m k).f1 (rd_TGAct m k).f2 (rd_TGAct m k).f3)).mono ?_
          rintro e wq ⟨rfl, hb⟩
          have HTA := Aside0.mk (HTA.out.next hb)
          have HDA := Aside0.mk (blk_below HDA.out hb)
          clear hb
          have qq := act_at (Kd.C_below HM.out HTA.out.bel) k hlt
          obtain ⟨adq, eaq, a0, a1, a2, a3⟩ := qq
          cases eaq
          have b0 := blk_cell HDA.out 0
          have b1 := blk_cell HDA.out 1
          have b2 := blk_cell HDA.out 2
          (try go_wp2_with fail)
          refine hK.out _ _ (⟨a0, a1, a2, a3, b0, b1, b2⟩) (fun hHeld => ?_)
          clear hK K
          (try simp only [Act.put, List.setIfInBounds_toArray, List.set_cons_zero, List.set_cons_succ])
          refine pure_ (i := 19) (N := some 86) (v := ?_) (a' := ?_) #[true, true, true, true, true, true, true, true, true, true, true, true, true, true, true, true, true, true, true, true, false, false, false, false, false, false, false] rfl rfl (by kernel_rfl) (fun _ _ _ h => h) (Or.inl ⟨by rfl, ?_⟩) ?_ ?_
          rotate_left
          · intro w'
            go_simp
            all_goals (with_reducible rfl)
          rotate_left
          · simp only [Act.put, List.setIfInBounds_toArray, List.set_cons_zero, List.set_cons_succ, i64_w, i32_w]
            rfl
          refine pure_ (i := 20) (N := some 87) (v := ?_) (a' := ?_) #[true, true, true, true, true, true, true, true, true, true, true, true, true, true, true, true, true, true, true, true, true, false, false, false, false, false, false] rfl rfl (by kernel_rfl) (fun _ _ _ h => h) (Or.inl ⟨by rfl, ?_⟩) ?_ ?_
          rotate_left
          · intro w'
            go_simp
            all_goals (with_reducible rfl)
          rotate_left
          · simp only [Act.put, List.setIfInBounds_toArray, List.set_cons_zero, List.set_cons_succ, i64_w, i32_w]
            rfl
          refine pure_ (i := 21) (N := some 88) (v := ?_) (a' := ?_) #[true, true, true, true, true, true, true, true, true, true, true, true, true, true, true, true, true, true, true, true, true, true, false, false, false, false, false] rfl rfl (by kernel_rfl) (fun _ _ _ h => h) (Or.inl ⟨by rfl, ?_⟩) ?_ ?_
          rotate_left
          · intro w'
            go_simp
            all_goals (with_reducible rfl)
          rotate_left
          · simp only [Act.put, List.setIfInBounds_toArray, List.set_cons_zero, List.set_cons_succ, i64_w, i32_w]
            rfl
          refine pure_ (i := 22) (N := some 89) (v := ?_) (a' := ?_) #[true, true, true, true, true, true, true, true, true, true, true, true, true, true, true, true, true, true, true, true, true, true, true, false, false, false, false] rfl rfl (by kernel_rfl) (fun _ _ _ h => h) (Or.inl ⟨by rfl, ?_⟩) ?_ ?_
          rotate_left
          · intro w'
            go_simp
            all_goals (with_reducible rfl)
          rotate_left
          · simp only [Act.put, List.setIfInBounds_toArray, List.set_cons_zero, List.set_cons_succ, i64_w, i32_w]
            rfl
          refine take_ (i := 23) (N := some 90) (v := ?_) (a' := ?_) #[true, true, true, true, true, true, true, true, true, true, true, true, true, true, true, true, true, true, true, true, true, true, true, true, false, false, false] rfl rfl (by kernel_rfl) (fun _ _ _ h => h) (Or.inl ⟨by rfl, ?_⟩) hHeld ?_ ?_
          rotate_left
          · intro w' hSw
            (try dsimp only at hSw)
            go_simp
            all_goals (with_reducible rfl)
          rotate_left
          · simp only [Act.put, List.setIfInBounds_toArray, List.set_cons_zero, List.set_cons_succ, i64_w, i32_w]
            rfl
          refine one_ (i := 24) (N := some 91) #[true, true, true, true, true, true, true, true, true, true, true, true, true, true, true, true, true, true, true, true, true, true, true, true, true, false, false] rfl rfl (by kernel_rfl) (by decide) (fun K hK => ?_)
          go_simp
          go_at_call 23
          have qh := HTA.out.here
          obtain ⟨okA, hhA⟩ := qh
          have qr := HTA.out.row
          obtain ⟨Ar, cr, er, _, hCr⟩ := qr
          injection er with er1 er2 er3
          subst er1
          refine (alike_calls hhA _ c7 hCr).mono ?_
          rintro e wq ⟨rfl, hb⟩
          clear hhA hCr er2 er3
          have HTA := Aside0.mk (HTA.out.next hb)
          have HDA := Aside0.mk (blk_below HDA.out hb)
          clear hb
          have qq := act_at (Kd.C_below HM.out HTA.out.bel) k hlt
          obtain ⟨adq, eaq, a0, a1, a2, a3⟩ := qq
          cases eaq
          have b0 := blk_cell HDA.out 0
          have b1 := blk_cell HDA.out 1
          have b2 := blk_cell HDA.out 2
          (try go_wp2_with fail)
          refine hK.out _ _ (⟨a0, a1, a2, a3, b0, b1, b2⟩) (fun hHeld => ?_)
          clear hK K
          (try simp only [Act.put, List.setIfInBounds_toArray, List.set_cons_zero, List.set_cons_succ])
          refine pure_ (i := 25) (N := some 92) (v := ?_) (a' := ?_) #[true, true, true, true, true, true, true, true, true, true, true, true, true, true, true, true, true, true, true, true, true, true, true, true, true, true, false] rfl rfl (by kernel_rfl) (fun _ _ _ h => h) (Or.inl ⟨by rfl, ?_⟩) ?_ ?_
          rotate_left
          · intro w'
            go_simp
            all_goals (with_reducible rfl)
          rotate_left
          · simp only [Act.put, List.setIfInBounds_toArray, List.set_cons_zero, List.set_cons_succ, i64_w, i32_w]
            rfl
          refine pure_ (i := 26) (N := some 93) (v := ?_) (a' := ?_) #[true, true, true, true, true, true, true, true, true, true, true, true, true, true, true, true, true, true, true, true, true, true, true, true, true, true, true] rfl rfl (by kernel_rfl) (fun _ _ _ h => h) (Or.inl ⟨by rfl, ?_⟩) ?_ ?_
          rotate_left
          · intro w'
            go_simp
            all_goals (with_reducible rfl)
          rotate_left
          · simp only [Act.put, List.setIfInBounds_toArray, List.set_cons_zero, List.set_cons_succ, i64_w, i32_w]
            rfl
          refine done_ (by kernel_rfl) ?_
          go_wp2
          go_roundg (gk - 1)
          case measure => have := Hk.out; omega
          case rel => exact ⟨k + 1, _, _, ⟨by have := Hk.out; omega⟩, by simp, by omega, ⟨HTA.out.apart (Below.refl _ _) (fun q hq => .inl (.inl hq))⟩, HDA⟩
    · have hend2 : ¬ k < m.length ∨ ¬ k < 60 := by omega
      have HBn := Aside0.mk HT.out.bel
      go_wp2_with (first | (go_at_call 21; refine (do_nil _ _ _ _ _).mono ?_; rintro e wq ⟨rfl, hb⟩; have HBn := Aside0.mk (below_then HBn.out HBn.out.size hb); clear hb) | (go_at_call 19; refine (plan_nil _ _ _ _ _).mono ?_; rintro e wq ⟨rfl, hb⟩; have HBn := Aside0.mk (below_then HBn.out HBn.out.size hb); clear hb) | (go_at_call 10; refine (lives_calls _).mono ?_; rintro e wq ⟨rfl, hb⟩; have HBn := Aside0.mk (below_then HBn.out HBn.out.size hb); clear hb))
      all_goals
        go_ret
        exact ⟨rfl, HBn.out⟩
end Go.Proofs.Ytidgfigfebkieaa
end
section
namespace Go.Proofs.Ytidgfigfebkieaa
open Go.RowKit Go.Proofs.YtidgfigfebkieaaW.PrintWords Go.Proofs.YtidgfigfebkieaaW.PrintLast Go.Proofs.YtidgfigfebkieaaW.PrintMore
open Go.ChangeShapes Go.WideShapes Go.ChangeAt Go.Deep Go.Joins
open Rf
set_option linter.unusedVariables false
set_option linter.unusedSimpArgs false
theorem list_of {α : Type} (P : Nat → α → Prop) (n : Nat) (h : ∀ i, i < n → ∃ o, P i o) : ∃ l : List α, l.length = n ∧ ∀ i o, l[i]? = some o → P i o := by
  induction n with
  | zero => exact ⟨[], rfl, by simp⟩
  | succ n ih =>
    obtain ⟨l, hl, hp⟩ := ih (fun i hi => h i (by omega))
    obtain ⟨o, ho⟩ := h n (by omega)
    refine ⟨l ++ [o], by simp [hl], fun i x hx => ?_⟩
    rcases Nat.lt_or_ge i l.length with hi | hi
    · rw [List.getElem?_append_left hi] at hx; exact hp i x hx
    · have : i = n := by
        have := (List.getElem?_eq_some_iff.1 hx).1
        simp at this; omega
      subst this
      rw [List.getElem?_append_right (by omega)] at hx
      simp [hl] at hx
      rw [← hx]; exact ho
section
variable {H : Type} {enc : TypeId × Value → H} {W : World} {P : Program}
/-- K: the elements' kind; out: an element's cells; one: an element's cells are some element's. Good: what is known of each. -/
theorem open_list {α : Type} (K : Kd α) (out : α → List Value) (Good : α → Prop) {t e : TypeId} (U : P.underlying t = some (.slice e)) (hC : P.cellsOf e = K.sz) (hK : ∀ x, K.K W x (out x)) (hout : ∀ x, (out x).length = K.sz)
    {fuel : Nat} {cs : List Value} {d : DataW H} {p : List MemPlace} (hf : DataW.trod enc P W 0 (fun _ => true) true fuel t cs = some (d, p))
    (one : ∀ n cs' d' p', cs'.length = K.sz → DataW.trod enc P W 0 (fun _ => true) true n e cs' = some (d', p') → ∃ x, cs' = out x ∧ Good x) :
    ∃ A c, ∃ l : List α, cs = [.slice A l.length c] ∧ Kd.C K W A l.length l ∧ l.length ≤ c ∧ ∀ x ∈ l, Good x := by
  rcases open_slice U hf with ⟨hcs, _⟩ | ⟨a, len, cap, m, n, D, Pl, hcs, hb, hl, hm, hmm, hx, hi⟩
  · exact ⟨none, 0, [], hcs, ⟨rfl, by simp, fun h => by simp at h⟩, by simp, by simp⟩
  · obtain ⟨l, hll, hp⟩ := list_of (fun i (o : α) => Good o ∧ ∀ j u, (out o)[j]? = some u → W.cell? (a.add (i * K.sz + j)) = some u) len (fun i hil => by
      obtain ⟨cs', hc, ht'⟩ := hi i (by rw [hmm]; split <;> omega)
      rw [hC] at hc
      obtain ⟨_, hcl, hat⟩ := World.cells?_some hc
      obtain ⟨o, rfl, hg⟩ := one n cs' _ _ hcl ht'
      refine ⟨o, hg, fun j u hj => ?_⟩
      have hjl : j < K.sz := by have := (List.getElem?_eq_some_iff.1 hj).1; rw [hout] at this; exact this
      rw [← Go.Deep.add_add, hat j hjl, hj])
    have hml : cap ≤ 9223372036854775807 := by have : maxLen ≤ 9223372036854775807 := by decide
                                               omega
    refine ⟨some a, cap, l, by rw [hll]; exact hcs, ⟨rfl, by omega, fun _ => ⟨a, rfl, fun j o hj => ⟨out o, hout o, hK o, (hp j o hj).2⟩⟩⟩, by omega, fun o ho => ?_⟩
    obtain ⟨i, hi2⟩ := List.mem_iff_getElem?.1 ho
    exact (hp i o hi2).1
end
end Go.Proofs.Ytidgfigfebkieaa
end
section
namespace Go.Proofs.Ytidgfigfebkieaa
open Go.RowKit Go.Proofs.YtidgfigfebkieaaW.PrintWords Go.Proofs.YtidgfigfebkieaaW.PrintLast Go.Proofs.YtidgfigfebkieaaW.PrintMore
open Go.ChangeShapes Go.WideShapes Go.ChangeAt Go.Deep Go.Joins
open Rf
set_option linter.unusedVariables false
set_option linter.unusedSimpArgs false
section
variable {H : Type} {enc : TypeId × Value → H} {W : World}
set_option maxRecDepth 100000 in
theorem pair_cells {held : Bool} {n : Nat} {cs : List Value} {d : DataW H} {p : List MemPlace} (hl : cs.length = 2) (h : DataW.trod enc Try.prog W 0 (fun _ => true) held n 79 cs = some (d, p)) :
    ∃ o : SGPair, cs = [.string o.f0, .string o.f1] ∧ d = .agg [.lit (.string o.f0.data.toList), .lit (.string o.f1.data.toList)] := by
  obtain ⟨c0, c1, rfl⟩ : ∃ c0 c1, cs = [c0, c1] := by
    match cs, hl with
    | [c0, c1], _ => exact ⟨c0, c1, rfl⟩
  obtain ⟨ys, n', hn', hy, hlen, hyl, hf⟩ := DataW.trod_struct Try.underlying79 h
  have k9 : Try.prog.cellsOf 9 = 1 := by kernel_rfl
  have h0 := hf 0 ⟨"Key", 9, 0, false, "", "", 0⟩ rfl
  have h1 := hf 1 ⟨"Value", 9, 1, false, "", "", 16⟩ rfl
  simp only [k9, List.drop_zero, List.drop_succ_cons, List.take_succ_cons, List.take_zero] at h0 h1
  obtain ⟨y0, y1, rfl⟩ : ∃ a b, ys = [a, b] := by
    match ys, hyl with
    | [a, b], _ => exact ⟨a, b, rfl⟩
  obtain ⟨s0, e0, x0, w0⟩ := DataW.trod_string Try.underlying9 h0
  obtain ⟨s1, e1, x1, w1⟩ := DataW.trod_string Try.underlying9 h1
  cases e0; cases e1; cases x0; cases x1
  obtain ⟨hd, _⟩ := Prod.mk.inj hy
  exact ⟨⟨s0, s1⟩, rfl, hd⟩
set_option maxRecDepth 100000 in
theorem act_cells {held : Bool} {n : Nat} {cs : List Value} {d : DataW H} {p : List MemPlace} (hl : cs.length = 4) (h : DataW.trod enc Try.prog W 0 (fun _ => true) held n 24 cs = some (d, p)) :
    ∃ o : SGAct, cs = [.int .i64 o.f0, .string o.f1, .string o.f2, .string o.f3] ∧ d = .agg [.lit (.int .i64 o.f0), .lit (.string o.f1.data.toList), .lit (.string o.f2.data.toList), .lit (.string o.f3.data.toList)] := by
  obtain ⟨c0, c1, c2, c3, rfl⟩ : ∃ c0 c1 c2 c3, cs = [c0, c1, c2, c3] := by
    match cs, hl with
    | [c0, c1, c2, c3], _ => exact ⟨c0, c1, c2, c3, rfl⟩
  obtain ⟨ys, n', hn', hy, hlen, hyl, hf⟩ := DataW.trod_struct Try.underlying24 h
  have k3 : Try.prog.cellsOf 22 = 1 := by kernel_rfl
  have k9 : Try.prog.cellsOf 9 = 1 := by kernel_rfl
  have h0 := hf 0 ⟨"Kind", 22, 0, false, "", "", 0⟩ rfl
  have h1 := hf 1 ⟨"Key", 9, 1, false, "", "", 8⟩ rfl
  have h2 := hf 2 ⟨"Old", 9, 2, false, "", "", 24⟩ rfl
  have h3 := hf 3 ⟨"New", 9, 3, false, "", "", 40⟩ rfl
  simp only [k3, k9, List.drop_zero, List.drop_succ_cons, List.take_succ_cons, List.take_zero] at h0 h1 h2 h3
  obtain ⟨y0, y1, y2, y3, rfl⟩ : ∃ a b c d, ys = [a, b, c, d] := by
    match ys, hyl with
    | [a, b, c, d], _ => exact ⟨a, b, c, d, rfl⟩
  obtain ⟨n0, e0, x0, w0⟩ := DataW.trod_int Try.underlying22 h0
  obtain ⟨s1, e1, x1, w1⟩ := DataW.trod_string Try.underlying9 h1
  obtain ⟨s2, e2, x2, w2⟩ := DataW.trod_string Try.underlying9 h2
  obtain ⟨s3, e3, x3, w3⟩ := DataW.trod_string Try.underlying9 h3
  cases e0; cases e1; cases e2; cases e3
  cases x0; cases x1; cases x2; cases x3
  obtain ⟨hd, _⟩ := Prod.mk.inj hy
  exact ⟨⟨n0, s1, s2, s3⟩, rfl, hd⟩
theorem mem_weightsAll {H : Type} {P : Program} {e : TypeId} : ∀ {ds : List (DataW H)} {d : DataW H}, d ∈ ds → ∀ n ∈ d.weights P e, n ∈ DataW.weightsAll P e ds
  | [], _, h, _, _ => by simp at h
  | a :: r, d, h, n, hn => by
    simp only [DataW.weightsAll, List.mem_append]
    rcases List.mem_cons.1 h with rfl | h
    · exact .inl hn
    · exact .inr (mem_weightsAll h n hn)
/-- As open_list, with each element's weights at hand. -/
theorem open_listw {α : Type} (K : Kd α) (out : α → List Value) (Good : α → Prop) {t e : TypeId} (U : Try.prog.underlying t = some (.slice e)) (hC : Try.prog.cellsOf e = K.sz) (hB : 1 ≤ Try.prog.bytesOf e) (hK : ∀ x, K.K W x (out x)) (hout : ∀ x, (out x).length = K.sz)
    {fuel : Nat} {cs : List Value} {d : DataW H} {p : List MemPlace} (hf : DataW.trod enc Try.prog W 0 (fun _ => true) true fuel t cs = some (d, p))
    (hw : ∀ x ∈ d.weights Try.prog t, x ≤ reachBytes)
    (one : ∀ n cs' d' p', cs'.length = K.sz → DataW.trod enc Try.prog W 0 (fun _ => true) true n e cs' = some (d', p') → (∀ x ∈ d'.weights Try.prog e, x ≤ reachBytes) → ∃ x, cs' = out x ∧ Good x) :
    ∃ A c, ∃ l : List α, cs = [.slice A l.length c] ∧ Kd.C K W A l.length l ∧ l.length ≤ c ∧ l.length ≤ 140737488351232 ∧ ∀ x ∈ l, Good x := by
  rcases open_slice U hf with ⟨hcs, _⟩ | ⟨a, len, cap, m, n, D, Pl, hcs, hb, hl, hm, hmm, hx, hi⟩
  · exact ⟨none, 0, [], hcs, ⟨rfl, by simp, fun h => by simp at h⟩, by simp, by simp, by simp⟩
  · obtain ⟨hd, _⟩ := Prod.mk.inj hx
    subst hd
    have hlen : len ≤ reachBytes := by
      have := hw ((((List.range len).map D).length + ((List.range (m - len)).map fun j => D (len + j)).length) * Try.prog.bytesOf e) (by rw [DataW.weights, U]; simp)
      rw [List.length_map, List.length_range] at this
      have h2 : (len + ((List.range (m - len)).map fun j => D (len + j)).length) * 1 ≤ (len + ((List.range (m - len)).map fun j => D (len + j)).length) * Try.prog.bytesOf e := Nat.mul_le_mul_left _ hB
      omega
    have hr : reachBytes = 140737488351232 := by kernel_rfl
    obtain ⟨l, hll, hp⟩ := list_of (fun i (o : α) => Good o ∧ ∀ j u, (out o)[j]? = some u → W.cell? (a.add (i * K.sz + j)) = some u) len (fun i hil => by
      obtain ⟨cs', hc, ht'⟩ := hi i (by rw [hmm]; split <;> omega)
      rw [hC] at hc
      obtain ⟨_, hcl, hat⟩ := World.cells?_some hc
      obtain ⟨o, rfl, hg⟩ := one n cs' _ _ hcl ht' (fun x hx => hw x (by
        rw [DataW.weights, U]
        simp only [List.mem_cons, List.mem_append]
        exact .inr (.inl (mem_weightsAll (List.mem_map.2 ⟨i, List.mem_range.2 hil, rfl⟩) x hx))))
      refine ⟨o, hg, fun j u hj => ?_⟩
      have hjl : j < K.sz := by have := (List.getElem?_eq_some_iff.1 hj).1; rw [hout] at this; exact this
      rw [← Go.Deep.add_add, hat j hjl, hj])
    have hml : cap ≤ 9223372036854775807 := by have : maxLen ≤ 9223372036854775807 := by decide
                                               omega
    refine ⟨some a, cap, l, by rw [hll]; exact hcs, ⟨rfl, by omega, fun _ => ⟨a, rfl, fun j o hj => ⟨out o, hout o, hK o, (hp j o hj).2⟩⟩⟩, by omega, by omega, fun o ho => ?_⟩
    obtain ⟨i, hi2⟩ := List.mem_iff_getElem?.1 ho
    exact (hp i o hi2).1
set_option maxRecDepth 100000 in
/-- A slice of Pair. -/
theorem open_pairs {r : Reach} {b0 : Nat} {v : Value} {d : DataW H} {p : List MemPlace} (hv : Value.okWide Try.prog W r b0 41 v) (h : DataW.Trod enc Try.prog W 0 (fun _ => true) true 41 v d p)
    (hw : ∀ x ∈ d.weights Try.prog 41, x ≤ reachBytes) :
    ∃ A c, ∃ l : List SGPair, v = .slice A l.length c ∧ Kd.C kGPair W A l.length l ∧ l.length ≤ 140737488351232 ∧ ∀ x ∈ l, x.f0.size ≤ 140737488351232 ∧ x.f1.size ≤ 140737488351232 := by
  obtain ⟨A, len, cap, rfl⟩ := okWide_slice Try.underlying41 hv
  obtain ⟨fuel, hf⟩ := h
  obtain ⟨A', c', l, hcs, hC, _, hl, hg⟩ := open_listw kGPair (fun o => [.string o.f0, .string o.f1]) (fun x => x.f0.size ≤ reachBytes ∧ x.f1.size ≤ reachBytes) Try.underlying41 (by kernel_rfl) (of_decide_eq_true (by kernel_rfl)) (fun x => kGPair_mk W x) (fun x => rfl) hf hw
    (fun n cs' d' p' hl ht hw' => by
      obtain ⟨o, rfl, rfl⟩ := pair_cells hl ht
      refine ⟨o, rfl, hw' _ ?_, hw' _ ?_⟩
      · rw [DataW.weights, Try.underlying79]
        simp [DataW.weightsEach, DataW.weights]
      · rw [DataW.weights, Try.underlying79]
        simp [DataW.weightsEach, DataW.weights])
  simp [Value.cells] at hcs
  obtain ⟨rfl, rfl, rfl⟩ := hcs
  exact ⟨_, _, l, rfl, hC, hl, hg⟩
set_option maxRecDepth 100000 in
/-- A slice of Act. -/
theorem open_acts {r : Reach} {b0 : Nat} {v : Value} {d : DataW H} {p : List MemPlace} (hv : Value.okWide Try.prog W r b0 42 v) (h : DataW.Trod enc Try.prog W 0 (fun _ => true) true 42 v d p)
    (hw : ∀ x ∈ d.weights Try.prog 42, x ≤ reachBytes) :
    ∃ A c, ∃ l : List SGAct, v = .slice A l.length c ∧ Kd.C kGAct W A l.length l ∧ l.length ≤ 140737488351232 ∧ ∀ x ∈ l, x.f1.size ≤ 140737488351232 ∧ x.f2.size ≤ 140737488351232 ∧ x.f3.size ≤ 140737488351232 := by
  obtain ⟨A, len, cap, rfl⟩ := okWide_slice Try.underlying42 hv
  obtain ⟨fuel, hf⟩ := h
  obtain ⟨A', c', l, hcs, hC, _, hl, hg⟩ := open_listw kGAct (fun o => [.int .i64 o.f0, .string o.f1, .string o.f2, .string o.f3]) (fun x => x.f1.size ≤ reachBytes ∧ x.f2.size ≤ reachBytes ∧ x.f3.size ≤ reachBytes) Try.underlying42 (by kernel_rfl) (of_decide_eq_true (by kernel_rfl)) (fun x => kGAct_mk W x) (fun x => rfl) hf hw
    (fun n cs' d' p' hl ht hw' => by
      obtain ⟨o, rfl, rfl⟩ := act_cells hl ht
      refine ⟨o, rfl, hw' _ ?_, hw' _ ?_, hw' _ ?_⟩
      · rw [DataW.weights, Try.underlying24]
        simp [DataW.weightsEach, DataW.weights]
      · rw [DataW.weights, Try.underlying24]
        simp [DataW.weightsEach, DataW.weights]
      · rw [DataW.weights, Try.underlying24]
        simp [DataW.weightsEach, DataW.weights])
  simp [Value.cells] at hcs
  obtain ⟨rfl, rfl, rfl⟩ := hcs
  exact ⟨_, _, l, rfl, hC, hl, hg⟩
end
end Go.Proofs.Ytidgfigfebkieaa
end
section
namespace Go.Proofs.Ytidgfigfebkieaa.actDoes
open Go.ChangeShapes Go.WideShapes Go.ChangeAt Go.RowKit
open Go.ChangeMaps (open_string shut_string)
set_option linter.unusedVariables false
theorem own : ownKnob Try.prog.godebug = none := by kernel_rfl
theorem laidOut : laidOutB Try.prog = true := by kernel_rfl
open Rf Go.Proofs.YtidgfigfebkieaaW.PrintWords in
theorem does_row (W : World) (l : List SGPair) (A : Option Addr) (c : Nat) (hC : Kd.C kGPair W A l.length l) (hl : l.length ≤ 140737488351232) (hsz : ∀ x ∈ l, x.f0.size ≤ 140737488351232 ∧ x.f1.size ≤ 140737488351232)
    (m : List SGAct) (Am : Option Addr) (cm : Nat) (hM : Kd.C kGAct W Am m.length m) (hml : m.length ≤ 140737488351232) (hmz : ∀ x ∈ m, x.f1.size ≤ 140737488351232 ∧ x.f2.size ≤ 140737488351232 ∧ x.f3.size ≤ 140737488351232) :
    Calls Try.prog 5 #[.slice A l.length c, .slice Am m.length cm] W fun e w' => e = .returned (.bool true) ∧ Below W.heap.size W w' :=
  does_walk W l A c hC (by omega) hsz m Am cm hM (by omega) hmz
set_option maxRecDepth 100000 in
theorem lifted (os : Os) (started : os.Started) (H : Type) (enc : TypeId × Value → H) :
    ReturnsInHanded {} Try.checked os 5 .any (Rows.actDoesSpec.pre6 enc Try.prog Try.f5 Rows.actDoesRow.domain false) (Rows.actDoesSpec.post enc Try.prog Try.f5 false true false false) := by
  refine returnsInHanded_of_change_sized (C := Try.checked) own started (by kernel_rfl) Try.func5
    (ChangeSpec.witness6 (enc := enc) (C := Try.checked) false ⟨#[], #[.slice none 0 0, .slice none 0 0], []⟩ 8 (by kernel_rfl) (by kernel_rfl) (by kernel_rfl) (by kernel_rfl)) ?_
  intro W base args ds gs before hval0 hW hcnd hsz0 _
  have hsz : (DataW.weightsEach Try.prog (Try.f5.params.toList ++ Rows.actDoesSpec.plain.varTypes Try.prog) (ds ++ gs)).all (· ≤ reachBytes) = true := hsz0
  have hval : ∀ (j : Nat) t v, Try.f5.params[j]? = some t → args[j]? = some v → Value.okWide Try.prog W .any base t v := hval0
  have hW' := hW
  obtain ⟨p, q, hA0, hV, rfl, hfz, hnd⟩ := hW
  have hA : DataW.TrodAll enc Try.prog W 0 (fun _ => true) true Try.f5.params.toList args.toList ds p := hA0
  rw [Try.params5] at hA hval hsz
  obtain ⟨v0, vs0, d0, ds0, p0, q0, hargs, rfl, rfl, h0, r0⟩ := trodAll_cons hA
  obtain ⟨v1, vs1, d1, ds1, p1, q1, rfl, rfl, rfl, h1, r1⟩ := trodAll_cons r0
  obtain ⟨rfl, rfl, rfl⟩ := trodAll_nil r1
  obtain rfl : args = #[v0, v1] := by cases args; simp_all
  obtain ⟨rfl, rfl⟩ := trodVars_none hV
  have k0 := h0
  have lt0 : ∀ x ∈ p0, x.block < W.heap.size := by obtain ⟨m, hm⟩ := k0; exact DataW.trod_lt m _ _ _ hm
  obtain ⟨A0, c0, l0, rfl, hC0, hl0, ho0⟩ := open_pairs (hval 0 41 v0 rfl rfl) h0 (fun x hx => by have := List.all_eq_true.1 hsz _ (DataW.weights_mem_each (j := 0) (t := 41) rfl rfl x hx); simpa using this)
  have k1 := h1
  have lt1 : ∀ x ∈ p1, x.block < W.heap.size := by obtain ⟨m, hm⟩ := k1; exact DataW.trod_lt m _ _ _ hm
  obtain ⟨A1, c1, l1, rfl, hC1, hl1, ho1⟩ := open_acts (hval 1 42 v1 rfl rfl) h1 (fun x hx => by have := List.all_eq_true.1 hsz _ (DataW.weights_mem_each (j := 1) (t := 42) rfl rfl x hx); simpa using this)
  clear hA0 hval0 hsz0 hsz
  refine (does_row W l0 A0 c0 hC0 hl0 ho0 l1 A1 c1 hC1 hl1 ho1).mono fun e W' ⟨he, bel⟩ => ?_
  subst he
  exact ⟨_, rfl, _, _, _, [], _, [], hW', trodAll_mk1 (shut_bool Try.underlying4 _), (trodAll_cons_mk (Below.trod laidOut (by kernel_rfl) (of_decide_eq_true (by kernel_rfl)) k0 bel lt0) (trodAll_cons_mk (Below.trod laidOut (by kernel_rfl) (of_decide_eq_true (by kernel_rfl)) k1 bel lt1) trodAll_mk0)), rfl, bel.frame _, fun h => by cases h⟩
theorem over : Rows.actDoesRow.holds Try.pinned (OpenSpec.ofChange Rows.actDoesSpec) :=
  OpenClaim.holds_of_wide 5 Try.f5 rfl rfl rfl rfl rfl rfl rfl ⟨rfl, rfl, rfl, rfl, rfl⟩ rfl rfl rfl rfl rfl (by kernel_rfl) Try.func5 (by kernel_rfl)
    (of_decide_eq_true (by kernel_rfl)) (by unfold Func.isWrapper; first | (rw [if_pos (by decide +kernel)]; kernel_rfl) | (rw [if_neg (by decide +kernel)]; exact ⟨rfl, rfl⟩))
    (fun os started H enc _ => lifted os started H enc)
theorem proved : Rows.ActDoesSaid := over
end Go.Proofs.Ytidgfigfebkieaa.actDoes
namespace Go.Proofs.Ytidgfigfebkieaa
/-- The row, under a short name, for the claim. -/
theorem actDoes_holds : Rows.ActDoesSaid := actDoes.proved
#print axioms actDoes_holds
end Go.Proofs.Ytidgfigfebkieaa
end
