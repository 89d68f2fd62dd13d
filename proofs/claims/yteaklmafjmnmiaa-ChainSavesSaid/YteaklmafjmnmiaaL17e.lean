/- Layer 17: ChainSaves' walk. -/
import Derived.Test.YteaklmafjmnmiaaSv
import Derived.Deep.DeepCutAuto
import Derived.Deep.CutBlock
namespace Go.Proofs.Yteaklmafjmnmiaa
open Go.RowKit Go.Proofs.YteaklmafjmnmiaaW.PrintWords Go.Proofs.YteaklmafjmnmiaaW.PrintLast Go.Proofs.YteaklmafjmnmiaaW.PrintMore
open Rf MapL MapV
set_option linter.unusedVariables false
set_option linter.unusedSimpArgs false
section
variable {w0 : Wb} {w w' : World} {t mb : Nat} {bx bx' : Int → Nat} {ks ks' : List Int} {X X' : Int → TX} {S S' : Int → List Int}
/-- A row of the walk's own, apart from the table. -/
structure Mk (w : World) (t mb : Nat) (bx : Int → Nat) (ks : List Int) (X : Int → TX) (v : Value) (L : List Int) (b : Nat) : Prop where
  row : Kd.R kU 31 w b (fun _ => True) v L
  far : ∀ q, v.ownBlock = some q → ¬ ownS t mb bx ks X q
theorem Mk.next {v : Value} {L : List Int} {b : Nat} (h : Mk w t mb bx ks X v L b) (hb : Below w.heap.size w w') : Mk w' t mb bx ks X v L b := ⟨Kd.R_below h.row hb, h.far⟩
/-- It stays where the table alone is touched. -/
theorem Mk.keep {v : Value} {L : List Int} {b : Nat} (h : Mk w t mb bx ks X v L b) (g : TabS ⟨w, ownS t mb bx ks X⟩ w' t mb bx' ks' X' S') : Mk w' t mb bx' ks' X' v L b := by
  obtain ⟨inner, ho⟩ := Kd.R_own h.row
  have hT : ∀ q, v.ownBlock = some q → ¬ Wb.T ⟨w, ownS t mb bx ks X⟩ q := fun q hq hT => hT.elim (fun h2 => by have := own_lt ho q hq; exact absurd h2 (by simpa using this)) (h.far q hq)
  refine ⟨Kd.R_mono (Kd.R_move (w1 := w') (Kd.R_tight2 kU_E h.row) (fun k hk => ?_)) (fun _ _ => trivial), fun q hq => ?_⟩
  · exact g.tab.bel.block k (own_lt ho k hk.1.symm) (h.far k hk.1.symm)
  · rintro ((rfl | rfl | ⟨id, hi, rfl⟩) | ⟨id, hi, hq'⟩)
    · exact hT _ hq g.tab.get
    · exact hT _ hq g.tab.gem
    · exact hT _ hq (g.tab.geb id hi)
    · exact hT q hq ((g.row id hi).1 q hq')
/-- A block that is not the table's is written. -/
theorem TabS.grownFar {row : Option Nat} (h : TabS w0 w t mb bx ks X S) (hg : w.grownBy w' row) (hn : ∀ q, row = some q → ¬ ownS t mb bx ks X q ∧ w0.T q) : TabS w0 w' t mb bx ks X S := by
  have hne : ∀ q, ownS t mb bx ks X q → some q ≠ row := fun q hq e => (hn q e.symm).1 hq
  refine ⟨⟨blk_grown h.tab.box hg (hne _ (.inl (.inl rfl))), h.tab.map.of_block (hg.block mb h.tab.map.lt (hne _ (.inl (.inr (.inl rfl))))), fun id hi => blk_grown (h.tab.at_ id hi) hg (hne _ (.inl (.inr (.inr ⟨id, hi, rfl⟩)))), h.tab.inj, h.tab.bel.grown' hg (fun q hq => (hn q hq).2), h.tab.get, h.tab.gem, h.tab.geb⟩, fun id hi => ?_, h.dis⟩
  exact Kd.R_grown2 (h.row id hi) kU_E hg (fun k hk e => hne k (.inr ⟨id, hi, e.symm⟩) hk.symm)
theorem Mk.grown {row : Option Nat} {v : Value} {L : List Int} {b : Nat} (h : Mk w t mb bx ks X v L b) (hg : w.grownBy w' row) (hn : ∀ q, row = some q → v.ownBlock ≠ some q) : Mk w' t mb bx ks X v L b :=
  ⟨Kd.R_grown2 h.row kU_E hg (fun k hk e => hn k hk e.symm), h.far⟩
theorem grown_set (w : World) (q j : Nat) (v : Value) : w.grownBy (w.setCell ⟨q, j, none⟩ v) (some q) := ⟨rfl, rfl, rfl, by simp [World.setCell], fun k hk hne => Below.heap_setCell _ ⟨q, j, none⟩ _ k (fun e => hne (by rw [e]))⟩
theorem Mk.ne_op {v : Value} {L : List Int} {b q : Nat} {cs : Array Value} (h : Mk w t mb bx ks X v L b) (hq : w.heap[q]? = some (.cells cs 51 (0, 0))) : v.ownBlock ≠ some q :=
  fun e => Kd.R_ne h.row hq (by decide) e.symm
end
theorem op_ok {w : World} {A : Option Addr} {n : Nat} {xs : List SOp} (h : Kd.C kOp w A n xs) (k : Nat) (h1 : k < n) : OkOp w (xs.getD k zOp) := by
  obtain ⟨ad, c, e, _, hK, hc0⟩ := Kd.C_get h zOp (k : Int) (by omega) (by omega)
  rw [Int.toNat_natCast] at hK
  exact hK.2
theorem op_at15g {w : World} {A : Option Addr} {n : Nat} {xs : List SOp} (h : Kd.C kOp w A n xs) (k : Nat) (h1 : k < n) : ∃ (ad : Addr) (o : SOp), A = some ad ∧ o = xs.getD k zOp ∧ w.cell? (ad.add (k * 15)) = some (.int .i64 o.kd) ∧ w.cell? ⟨(ad.add (k * 15)).block, (ad.add (k * 15)).off + 1, none⟩ = some (.int .i64 o.tn) ∧ w.cell? ⟨(ad.add (k * 15)).block, (ad.add (k * 15)).off + 2, none⟩ = some (.int .i64 o.nn) ∧ w.cell? ⟨(ad.add (k * 15)).block, (ad.add (k * 15)).off + 3, none⟩ = some (.int .i64 o.k) ∧ w.cell? ⟨(ad.add (k * 15)).block, (ad.add (k * 15)).off + 4, none⟩ = some (.int .u64 o.ls) ∧ w.cell? ⟨(ad.add (k * 15)).block, (ad.add (k * 15)).off + 5, none⟩ = some (.int .i64 o.tx) ∧ w.cell? ⟨(ad.add (k * 15)).block, (ad.add (k * 15)).off + 6, none⟩ = some (.int .u64 o.pv) ∧ w.cell? ⟨(ad.add (k * 15)).block, (ad.add (k * 15)).off + 7, none⟩ = some (.int .u64 o.un) ∧ w.cell? ⟨(ad.add (k * 15)).block, (ad.add (k * 15)).off + 8, none⟩ = some (.int .i64 o.pg) ∧ w.cell? ⟨(ad.add (k * 15)).block, (ad.add (k * 15)).off + 9, none⟩ = some (.int .i64 o.ak) ∧ w.cell? ⟨(ad.add (k * 15)).block, (ad.add (k * 15)).off + 10, none⟩ = some (.string o.a) ∧ w.cell? ⟨(ad.add (k * 15)).block, (ad.add (k * 15)).off + 11, none⟩ = some (.string o.b) ∧ w.cell? ⟨(ad.add (k * 15)).block, (ad.add (k * 15)).off + 12, none⟩ = some (.string o.c) ∧ w.cell? ⟨(ad.add (k * 15)).block, (ad.add (k * 15)).off + 13, none⟩ = some (.slice o.At o.l.length o.ct) ∧ w.cell? ⟨(ad.add (k * 15)).block, (ad.add (k * 15)).off + 14, none⟩ = some (.slice o.Ad o.m.length o.cd) := by
  obtain ⟨ad, c, e, _, hK, hc0⟩ := Kd.C_get h zOp (k : Int) (by omega) (by omega)
  rw [Int.toNat_natCast] at hK
  obtain ⟨rfl, ho⟩ := hK
  have hc : ∀ j u, (xs.getD k zOp).out[j]? = some u → w.cell? (ad.add (k * 15 + j)) = some u := hc0
  exact ⟨ad, _, e, rfl, hc 0 _ rfl, by rw [← add_field _ _ 1 (by omega)]; exact hc 1 _ rfl, by rw [← add_field _ _ 2 (by omega)]; exact hc 2 _ rfl, by rw [← add_field _ _ 3 (by omega)]; exact hc 3 _ rfl, by rw [← add_field _ _ 4 (by omega)]; exact hc 4 _ rfl, by rw [← add_field _ _ 5 (by omega)]; exact hc 5 _ rfl, by rw [← add_field _ _ 6 (by omega)]; exact hc 6 _ rfl, by rw [← add_field _ _ 7 (by omega)]; exact hc 7 _ rfl, by rw [← add_field _ _ 8 (by omega)]; exact hc 8 _ rfl, by rw [← add_field _ _ 9 (by omega)]; exact hc 9 _ rfl, by rw [← add_field _ _ 10 (by omega)]; exact hc 10 _ rfl, by rw [← add_field _ _ 11 (by omega)]; exact hc 11 _ rfl, by rw [← add_field _ _ 12 (by omega)]; exact hc 12 _ rfl, by rw [← add_field _ _ 13 (by omega)]; exact hc 13 _ rfl, by rw [← add_field _ _ 14 (by omega)]; exact hc 14 _ rfl⟩
/-- What a note leaves, the savepoints with it. -/
theorem noted_full {w0 : Wb} {w' : World} {t mb : Nat} {bx : Int → Nat} {ks : List Int} {X : Int → TX} {k ls tx pv un pg ak : Int} {a b c : ByteArray} {l : List SGTxn} {m : List SGDirty} {n : Int} {j : Nat} (h : Noted w0 w' t mb bx ks X k ls tx pv un pg ak a b c l m n) (hN : NB ks X j) :
    ∃ ks' X', Tab w0 w' t mb bx ks' X' ∧ NB ks' X' (j + 1) ∧ (ks' = ks ∨ ks' = ks.filter fun y => decide (y ≠ tx)) ∧ (∀ id, (X' id).sv = (X id).sv) ∧ (∀ id, id ≠ tx → (id ∈ ks' ↔ id ∈ ks) ∧ X' id = X id) := by
  have hup : NB ks X (j + 1) := fun id hi => by have := hN id hi; omega
  cases h with
  | arg hbad he h => exact ⟨ks, X, h, hup, .inl rfl, fun _ => rfl, fun _ _ => ⟨Iff.rfl, rfl⟩⟩
  | none hok hk hi he h => exact ⟨ks, X, h, hup, .inl rfl, fun _ => rfl, fun _ _ => ⟨Iff.rfl, rfl⟩⟩
  | state hok hk hi hs he h => exact ⟨ks, X, h, hup, .inl rfl, fun _ => rfl, fun _ _ => ⟨Iff.rfl, rfl⟩⟩
  | gone hok hk hi hpl hs he h =>
    exact ⟨_, X, h, fun id hid => hup id (List.mem_filter.1 hid).1, .inr rfl, fun _ => rfl, fun id hne => ⟨⟨fun q => (List.mem_filter.1 q).1, fun q => List.mem_filter.2 ⟨q, by simpa using hne⟩⟩, rfl⟩⟩
  | ok hok hk hi hpl hs he h =>
    have hnl := need_le (ks := ks) (X := X) (k := k) (ls := ls) (tx := tx) (pv := pv) (un := un) (pg := pg) (ak := ak) (a := a) (b := b) (c := c) (l := l) (m := m)
    have hlp := num_pos hok
    have h0 := hN tx hi
    refine ⟨ks, _, h, fun id hid => ?_, .inl rfl, fun id => ?_, fun id hne => ⟨Iff.rfl, by unfold updX; rw [if_neg hne]⟩⟩
    · by_cases e : id = tx
      · subst e
        rw [updX_at]
        unfold noteX
        have h27 : (0 : Int) ≤ 27 ∧ (27 : Int) ≤ 3000 * ((j + 1 : Nat) : Int) := by omega
        split
        · exact ⟨by show 0 ≤ (X id).need + _; omega, by show (X id).need + _ ≤ _; omega, hlp⟩
        · split
          · exact ⟨by show 0 ≤ max 0 _; omega, by show max 0 _ ≤ _; omega, hlp⟩
          · split
            · exact ⟨h27.1, h27.2, hlp⟩
            · split
              · exact ⟨by show 0 ≤ max 0 _; omega, by show max 0 _ ≤ _; omega, hlp⟩
              · exact ⟨by show 0 ≤ (X id).need + _; omega, by show (X id).need + _ ≤ _; omega, hlp⟩
      · unfold updX
        rw [if_neg e]
        exact hup id hid
    · unfold updX
      by_cases e : id = tx
      · rw [if_pos e, e]
        unfold noteX
        split
        · rfl
        · split
          · rfl
          · split
            · rfl
            · split <;> rfl
      · rw [if_neg e]
set_option maxRecDepth 100000 in
set_option maxHeartbeats 16000000 in
theorem saves_row (w : World) (l : List SOp) (A : Option Addr) (c : Nat) (hC : Kd.C kOp w A l.length l) (hl : l.length ≤ 140737488351232) :
    Calls Try.prog 5 #[.slice A l.length c] w fun e w' => e = .returned (.bool true) ∧ Below w.heap.size w w' := by
  have HC := Aside0.mk hC
  clear hC
  go_enter Try.func5, Try.ntmps5
  go_wp2_with fail
  refine (tabnew w (fun _ => tx0) (fun _ => 0)).mono ?_
  rintro e w1 ⟨t, mb, rfl, h1⟩
  have H1 := Aside0.mk h1
  clear h1
  go_wp2_with fail
  refine (tabopen _ w1 t mb _ [] _ 3 H1.out).mono ?_
  rintro e w2 ho
  rcases ho with (⟨hq, _⟩ | ⟨_, hq, _⟩) | ⟨_, _, rfl, bx0, h2⟩
  · omega
  · exact absurd hq (by simp)
  have hS2 : TabS ⟨w, fun _ => False⟩ w2 t mb bx0 [3] (fun y => if y = 3 then tx0 else tx0) (fun _ => []) := ⟨h2, fun id hi => by rw [List.mem_singleton.1 hi]; exact Kd.R_nil _ _ _ _ _, fun id hi id' hi' hne => absurd ((List.mem_singleton.1 hi).trans (List.mem_singleton.1 hi').symm) hne⟩
  have H2 := Aside0.mk hS2
  clear h2 H1 hS2
  go_wp2_with fail
  go_loopg [4, 5] 60 (fun gk v4 v5 wr => ∃ (k : Nat) (bx : Int → Nat) (X : Int → TX) (S : Int → List Int), Aside0 (k + gk = 60) ∧ v5 = .int .i64 k ∧ k ≤ l.length ∧ k ≤ 60 ∧ (S 3).length ≤ 4 ∧ Aside0 (TabS ⟨w, fun _ => False⟩ wr t mb bx [3] X S) ∧ Aside0 (NB [3] X k) ∧ Aside0 (Mk wr t mb bx [3] X v4 (S 3) w.heap.size))
  case atStart => exact ⟨0, _, _, _, ⟨rfl⟩, rfl, Nat.zero_le _, Nat.zero_le _, Nat.zero_le _, H2, ⟨fun id h => by rw [List.mem_singleton.1 h]; exact ⟨Int.le_refl _, Int.le_refl _, Int.le_refl _⟩⟩, ⟨⟨Kd.R_nil _ _ _ _ _, fun q hq => by simp [Value.ownBlock] at hq⟩⟩⟩
  case round =>
    obtain ⟨k, bx, X, S, HK, rfl, hkl, hk60, hs4, HT, HN, HM⟩ := hrel
    clear H2
    obtain ⟨MA, MC, rfl, hmc, _⟩ := Kd.R_reads HM.out.row
    by_cases hend : k < l.length ∧ k < 60
    · obtain ⟨hlt, h60⟩ := hend
      have hd60 : decide ((k : Int) < 60) = true := by simp; omega
      obtain ⟨ad, o, rfl, ho, x0, x1, x2, x3, x4, x5, x6, x7, x8, x9, x10, x11, x12, x13, x14⟩ := op_at15g (Kd.C_below HC.out (HT.out.tab.bel.below (fun _ h => h))) k hlt
      have HOK := Aside0.mk (show OkOp w o from by rw [ho]; exact op_ok HC.out k hlt)
      clear ho
      go_wp2_with fail
      have hb2 : Below wr.heap.size wr (wr.alloc (.cells #[.int .i64 o.kd, .int .i64 o.tn, .int .i64 o.nn, .int .i64 o.k, .int .u64 o.ls, .int .i64 o.tx, .int .u64 o.pv, .int .u64 o.un, .int .i64 o.pg, .int .i64 o.ak, .string o.a, .string o.b, .string o.c, .slice o.At o.l.length o.ct, .slice o.Ad o.m.length o.cd] 51)) := below_alloc (Below.refl _ _) _
      have ho2 := heap_alloc_new wr (.cells #[.int .i64 o.kd, .int .i64 o.tn, .int .i64 o.nn, .int .i64 o.k, .int .u64 o.ls, .int .i64 o.tx, .int .u64 o.pv, .int .u64 o.un, .int .i64 o.pg, .int .i64 o.ak, .string o.a, .string o.b, .string o.c, .slice o.At o.l.length o.ct, .slice o.Ad o.m.length o.cd] 51)
      obtain ⟨OB, hOB⟩ : ∃ x, x = wr.heap.size := ⟨_, rfl⟩
      generalize wr.alloc (.cells #[.int .i64 o.kd, .int .i64 o.tn, .int .i64 o.nn, .int .i64 o.k, .int .u64 o.ls, .int .i64 o.tx, .int .u64 o.pv, .int .u64 o.un, .int .i64 o.pg, .int .i64 o.ak, .string o.a, .string o.b, .string o.c, .slice o.At o.l.length o.ct, .slice o.Ad o.m.length o.cd] 51) = w2 at hb2 ho2 ⊢
      rw [← hOB] at ho2 ⊢
      have HOBT := Aside0.mk (show w.heap.size ≤ OB from by rw [hOB]; exact HT.out.tab.bel.size)
      have HNO := Aside0.mk (HT.out.not_own (Nat.le_of_eq hOB.symm))
      have HT2 := Aside0.mk (HT.out.next hb2)
      have HM2 := Aside0.mk (HM.out.next hb2)
      have HO2 := Aside0.mk ho2
      clear hb2 ho2 hOB x0 x1 x2 x3 x4 x5 x6 x7 x8 x9 x10 x11 x12 x13 x14
      obtain ⟨r, hr⟩ := light_ex' o
      refine (flotillalaw17_light.calls o.k o.ls o.tx o.pv o.un o.pg o.ak o.a o.b o.c o.At o.ct o.l o.Ad o.cd o.m r w2 (HOK.out.below (HT2.out.tab.bel.below (fun _ h => h))).hT HOK.out.hTc (HOK.out.below (HT2.out.tab.bel.below (fun _ h => h))).hD HOK.out.hDc hr).mono ?_
      rintro e w3 ⟨rfl, hb⟩
      have HT3 := Aside0.mk (HT2.out.next hb)
      have HM3 := Aside0.mk (HM2.out.next hb)
      have HO3 := Aside0.mk (blk_below HO2.out hb)
      clear hb hr HT2 HO2 HM2
      cases r with
      | false =>
        have HBn := Aside0.mk (HT3.out.tab.bel.below (fun _ h => h))
        go_wp2_with fail
        refine (lives17 _).mono ?_
        rintro e wq ⟨rfl, hb⟩
        have HBq := Aside0.mk (below_then HBn.out HBn.out.size hb)
        clear hb
        go_wp2_with fail
        go_ret
        exact ⟨rfl, HBq.out⟩
      | true =>
        have y0 : w3.cell? ⟨OB, 0, none⟩ = some (.int .i64 o.kd) := blk_cell HO3.out 0
        have y2 : w3.cell? ⟨OB, 2, none⟩ = some (.int .i64 o.nn) := blk_cell HO3.out 2
        go_upto_block 2 with fail
        go_cut [4] (fun v4 wx => ∃ (ks' : List Int) (X' : Int → TX) (S' : Int → List Int), Aside0 (TabS ⟨w, fun _ => False⟩ wx t mb bx ks' X' S') ∧ Aside0 (NB ks' X' (k + 1)) ∧ Aside0 (Mk wx t mb bx ks' X' v4 (S' 3) w.heap.size) ∧ (ks' = [3] ∨ ks' = []) ∧ (S' 3).length ≤ 4)
        case first =>
          have hup : NB [3] X (k + 1) := fun id hi => by have := HN.out id hi; omega
          have HUP := Aside0.mk hup
          have HL3 := Aside0.mk (HN.out 3 (by simp)).2.2
          clear hup
          by_cases k12 : o.kd = 1 ∨ o.kd = 2
          · go_step
            go_step
            go_cut [48] (fun v48 wx => v48 = .bool true ∧ w3 = wx)
            case first =>
              by_cases k1 : o.kd = 1
              · have e1 : (o.kd == 1) = true := by simp [k1]
                clear k12 k1
                go_wp2_with fail
                go_meet
                case rel => exact ⟨rfl, rfl⟩
              · have e1 : (o.kd == 1) = false := by simp [k1]
                have e2 : (o.kd == 2) = true := by simp; omega
                clear k12 k1
                go_wp2_with fail
                go_meet
                case rel => exact ⟨rfl, rfl⟩
            case rest =>
              obtain ⟨rfl, rfl⟩ := hcut
              clear k12
              as_aux_lemma =>
                go_wp2_with fail
                refine (tabrow _ w3 t mb bx [3] X 3 HT3.out.tab).mono ?_
                rintro e w4 ⟨rfl, _, hb⟩
                have HT4 := Aside0.mk (HT3.out.next hb)
                have HM4 := Aside0.mk (HM3.out.next hb)
                have HO4 := Aside0.mk (blk_below HO3.out hb)
                clear hb HT3 HM3 HO3 y0 y2
                have hrv : rowV [3] X 3 = .tuple #[.agg #[.int .i64 3, .int .i64 (X 3).st, .int .u64 (X 3).last], .bool true] := by unfold rowV; rw [if_pos (by simp)]
                rw [hrv]
                clear hrv
                go_upto_region 17 with fail
                have hb5 : Below w4.heap.size w4 (w4.alloc (.cells #[.int .i64 3, .int .i64 (X 3).st, .int .u64 (X 3).last] 54)) := below_alloc (Below.refl _ _) _
                have hw5 := heap_alloc_new w4 (.cells #[.int .i64 3, .int .i64 (X 3).st, .int .u64 (X 3).last] 54)
                obtain ⟨WB, hWB⟩ : ∃ x, x = w4.heap.size := ⟨_, rfl⟩
                generalize w4.alloc (.cells #[.int .i64 3, .int .i64 (X 3).st, .int .u64 (X 3).last] 54) = w5 at hb5 hw5 ⊢
                rw [← hWB] at hw5 ⊢
                have HT5 := Aside0.mk (HT4.out.next hb5)
                have HM5 := Aside0.mk (HM4.out.next hb5)
                have HO5 := Aside0.mk (blk_below HO4.out hb5)
                have HW5 := Aside0.mk hw5
                clear hb5 hw5 hWB HT4 HM4 HO4
                have y0 : w5.cell? ⟨OB, 0, none⟩ = some (.int .i64 o.kd) := blk_cell HO5.out 0
                have f0 := blk_frozen HO5.out 0
                have y1 : (w5.setCell ⟨OB, 0, none⟩ (.int .i64 2)).cell? ⟨OB, 1, none⟩ = some (.int .i64 o.tn) := blk_cell (blk_put (cs' := #[.int .i64 2, .int .i64 o.tn, .int .i64 o.nn, .int .i64 o.k, .int .u64 o.ls, .int .i64 o.tx, .int .u64 o.pv, .int .u64 o.un, .int .i64 o.pg, .int .i64 o.ak, .string o.a, .string o.b, .string o.c, .slice o.At o.l.length o.ct, .slice o.Ad o.m.length o.cd]) HO5.out 0 (.int .i64 2) rfl) 1
                have f1 := blk_frozen (blk_put HO5.out 0 (.int .i64 2) rfl) 1
                go_upto_region 18 with fail
                have HO6 := Aside0.mk (show ((w5.setCell ⟨OB, 0, none⟩ (.int .i64 2)).setCell ⟨OB, 1, none⟩ (.int .i64 3)).heap[OB]? = some (.cells #[.int .i64 2, .int .i64 3, .int .i64 o.nn, .int .i64 o.k, .int .u64 o.ls, .int .i64 o.tx, .int .u64 o.pv, .int .u64 o.un, .int .i64 o.pg, .int .i64 o.ak, .string o.a, .string o.b, .string o.c, .slice o.At o.l.length o.ct, .slice o.Ad o.m.length o.cd] 51 (0, 0)) from blk_put (blk_put (cs' := #[.int .i64 2, .int .i64 o.tn, .int .i64 o.nn, .int .i64 o.k, .int .u64 o.ls, .int .i64 o.tx, .int .u64 o.pv, .int .u64 o.un, .int .i64 o.pg, .int .i64 o.ak, .string o.a, .string o.b, .string o.c, .slice o.At o.l.length o.ct, .slice o.Ad o.m.length o.cd]) HO5.out 0 (.int .i64 2) rfl) 1 (.int .i64 3) rfl)
                have hne : WB ≠ OB := blk_ne HW5.out HO5.out (by decide)
                have HW6 := Aside0.mk (show ((w5.setCell ⟨OB, 0, none⟩ (.int .i64 2)).setCell ⟨OB, 1, none⟩ (.int .i64 3)).heap[WB]? = some (.cells #[.int .i64 3, .int .i64 (X 3).st, .int .u64 (X 3).last] 54 (0, 0)) from blk_far (p := ⟨OB, 1, none⟩) (blk_far (p := ⟨OB, 0, none⟩) HW5.out hne _) hne _)
                have HT6 := Aside0.mk ((HT5.out.grownFar (grown_set w5 OB 0 (.int .i64 2)) (fun q hq => by injection hq with hq; subst hq; exact ⟨HNO.out, .inl HOBT.out⟩)).grownFar (grown_set _ OB 1 (.int .i64 3)) (fun q hq => by injection hq with hq; subst hq; exact ⟨HNO.out, .inl HOBT.out⟩))
                have HM6 := Aside0.mk ((HM5.out.grown (grown_set w5 OB 0 (.int .i64 2)) (fun q hq => by injection hq with hq; subst hq; exact HM5.out.ne_op HO5.out)).grown (grown_set _ OB 1 (.int .i64 3)) (fun q hq => by injection hq with hq; subst hq; exact HM5.out.ne_op HO5.out))
                clear hne y0 y1 f0 f1
                generalize (w5.setCell ⟨OB, 0, none⟩ (.int .i64 2)).setCell ⟨OB, 1, none⟩ (.int .i64 3) = w6 at HO6 HW6 HT6 HM6 ⊢
                clear HT5 HM5 HO5 HW5
                have p0 : w6.cell? ⟨OB, 0, none⟩ = some (.int .i64 2) := blk_cell HO6.out 0
                have p1 : w6.cell? ⟨OB, 1, none⟩ = some (.int .i64 3) := blk_cell HO6.out 1
                have p2 : w6.cell? ⟨OB, 2, none⟩ = some (.int .i64 o.nn) := blk_cell HO6.out 2
                have p3 : w6.cell? ⟨OB, 3, none⟩ = some (.int .i64 o.k) := blk_cell HO6.out 3
                have p4 : w6.cell? ⟨OB, 4, none⟩ = some (.int .u64 o.ls) := blk_cell HO6.out 4
                have p5 : w6.cell? ⟨OB, 5, none⟩ = some (.int .i64 o.tx) := blk_cell HO6.out 5
                have p6 : w6.cell? ⟨OB, 6, none⟩ = some (.int .u64 o.pv) := blk_cell HO6.out 6
                have p7 : w6.cell? ⟨OB, 7, none⟩ = some (.int .u64 o.un) := blk_cell HO6.out 7
                have p8 : w6.cell? ⟨OB, 8, none⟩ = some (.int .i64 o.pg) := blk_cell HO6.out 8
                have p9 : w6.cell? ⟨OB, 9, none⟩ = some (.int .i64 o.ak) := blk_cell HO6.out 9
                have p10 : w6.cell? ⟨OB, 10, none⟩ = some (.string o.a) := blk_cell HO6.out 10
                have p11 : w6.cell? ⟨OB, 11, none⟩ = some (.string o.b) := blk_cell HO6.out 11
                have p12 : w6.cell? ⟨OB, 12, none⟩ = some (.string o.c) := blk_cell HO6.out 12
                have p13 : w6.cell? ⟨OB, 13, none⟩ = some (.slice o.At o.l.length o.ct) := blk_cell HO6.out 13
                have p14 : w6.cell? ⟨OB, 14, none⟩ = some (.slice o.Ad o.m.length o.cd) := blk_cell HO6.out 14
                have q2 : w6.cell? ⟨WB, 2, none⟩ = some (.int .u64 (X 3).last) := blk_cell HW6.out 2
                go_wp2_with fail
                refine (record_any w6 ⟨2, 3, o.nn, o.k, o.ls, o.tx, o.pv, o.un, o.pg, o.ak, o.a, o.b, o.c, o.At, o.Ad, o.l, o.m, o.ct, o.cd⟩ (X 3).last k HL3.out (by omega) HOK.out.pv HOK.out.un).mono ?_
                rintro e w7 ⟨ls, tx, pv, un, rfl, hpv, hun, htx1, htx2, hb⟩
                obtain rfl : tx = 3 := htx1 rfl
                have HT7 := Aside0.mk (HT6.out.next hb)
                have HM7 := Aside0.mk (HM6.out.next hb)
                have HPV := Aside0.mk hpv
                have HUN := Aside0.mk hun
                clear hb hpv hun htx1 htx2 HT6 HM6 HO6 HW6 q2 p0 p1 p2 p3 p4 p5 p6 p7 p8 p9 p10 p11 p12 p13 p14
                go_wp2_with fail
                have HOK7 := Aside0.mk (HOK.out.below (HT7.out.tab.bel.below (fun _ h => h)))
                refine (note_calls ⟨w7, own t mb bx [3]⟩ w7 t mb bx [3] X o.k ls 3 pv un o.pg o.ak o.a o.b o.c o.At o.ct o.l o.Ad o.cd o.m HT7.out.tab.here HOK7.out.hT HOK7.out.hTc HOK7.out.hD HOK7.out.hDc HPV.out HUN.out (fun hi => ⟨(HN.out 3 hi).1, by have := (HN.out 3 hi).2.1; omega⟩)).mono ?_
                rintro e w8 ⟨n, rfl, hnt⟩
                obtain ⟨ks', X', hT, hn', hks, hsv, hot⟩ := noted_full hnt HN.out
                have g : TabS ⟨w7, ownS t mb bx [3] X⟩ w8 t mb bx ks' X' S := HT7.out.here.of_tab hT (fun id hi => .inl ⟨by rcases hks with rfl | rfl; exact hi; exact (List.mem_filter.1 hi).1, hsv id, rfl⟩)
                have HT8 := Aside0.mk (HT7.out.back g)
                have HM8 := Aside0.mk (HM7.out.keep g)
                have HN8 := Aside0.mk hn'
                have HKS := Aside0.mk (show ks' = [3] ∨ ks' = [] from by rcases hks with rfl | rfl; exact .inl rfl; exact .inr (by simp))
                clear g hT hn' hks hsv hot hnt HT7 HM7
                go_wp2_with fail
                go_meet
                case rel => exact ⟨ks', X', S, HT8, HN8, HM8, HKS.out, hs4⟩
          · have e1 : (o.kd == 1) = false := by simp; omega
            have e2 : (o.kd == 2) = false := by simp; omega
            clear k12
            by_cases k3 : o.kd = 3
            · have e3 : (o.kd == 3) = true := by simpa using k3
              clear k3
              as_aux_lemma =>
                go_wp2_with fail
                have hnx := tabnext _ w3 t mb bx [3] X 3 HT3.out.tab
                rw [if_pos (by simp)] at hnx
                refine hnx.mono ?_
                rintro e wz ⟨rfl, rfl⟩
                clear hnx
                go_wp2_with fail
                refine (tabsave ⟨w3, ownS t mb bx [3] X⟩ w3 t mb bx [3] X S 3 HT3.out.here (fun _ => hs4)).mono ?_
                rintro e w4 ⟨n, q, rfl, hsv⟩
                clear y0 y2
                cases hsv with
                | no hn he hw g =>
                  subst hn
                  have HT4 := Aside0.mk (HT3.out.back g)
                  have HM4 := Aside0.mk (HM3.out.keep g)
                  have HW := Aside0.mk hw
                  have eq0 : (q == 0) = false := by simpa using he
                  have eq1 : (q != 0) = true := by simpa using he
                  clear g HT3 HM3 HO3 hw he
                  go_wp2_with fail
                  refine (tabrow _ w4 t mb bx [3] X 3 HT4.out.tab).mono ?_
                  rintro e w5 ⟨rfl, _, hb⟩
                  have HT5 := Aside0.mk (HT4.out.next hb)
                  have HM5 := Aside0.mk (HM4.out.next hb)
                  clear hb HT4 HM4
                  have hrv : rowV [3] X 3 = .tuple #[.agg #[.int .i64 3, .int .i64 (X 3).st, .int .u64 (X 3).last], .bool true] := by unfold rowV; rw [if_pos (by simp)]
                  rw [hrv]
                  clear hrv
                  by_cases hst : (X 3).st = 0
                  · have es : ((X 3).st != 0) = false := by simp [hst]
                    have h4 : (S 3).length = 4 := by
                      rcases HW.out with h | h | h
                      · exact absurd (by simp) h
                      · exact absurd hst h
                      · exact h
                    have d4 : decide (((S 3).length : Int) < 4) = false := by simp; omega
                    clear hst h4
                    go_wp2_with fail
                    go_meet
                    case rel => exact ⟨[3], X, S, ⟨HT5.out.next (below_alloc (Below.refl _ _) _)⟩, HUP, ⟨HM5.out.next (below_alloc (Below.refl _ _) _)⟩, .inl rfl, hs4⟩
                  · have es : ((X 3).st != 0) = true := by simp [hst]
                    clear hst
                    go_wp2_with fail
                    have HBn := Aside0.mk (below_alloc (HT5.out.tab.bel.below (fun _ h => h)) (.cells #[.int .i64 3, .int .i64 (X 3).st, .int .u64 (X 3).last] 54))
                    refine (lives17 _).mono ?_
                    rintro e wq ⟨rfl, hb⟩
                    have HBq := Aside0.mk (below_then HBn.out HBn.out.size hb)
                    clear hb
                    go_wp2_with fail
                    go_ret
                    exact ⟨rfl, HBq.out⟩
                | ok hi hst hl4 hn he g =>
                  obtain ⟨v, g⟩ := g
                  subst hn
                  subst he
                  have HT4 := Aside0.mk (HT3.out.back g)
                  have HM4 := Aside0.mk (HM3.out.keep g)
                  have HX' := Aside0.mk (show NB [3] (updX X 3 ⟨(X 3).st, (X 3).last, (X 3).next, (X 3).need, v⟩) (k + 1) from fun id hi => by rw [List.mem_singleton.1 hi, updX_at]; exact HUP.out 3 (by simp))
                  have hrv : rowV [3] (updX X 3 ⟨(X 3).st, (X 3).last, (X 3).next, (X 3).need, v⟩) 3 = .tuple #[.agg #[.int .i64 3, .int .i64 0, .int .u64 (X 3).last], .bool true] := by
                    unfold rowV; rw [if_pos (by simp), updX_at, ← hst]
                  have HRVV := Aside0.mk hrv
                  clear g HT3 HM3 HO3 hst hrv
                  generalize updX X 3 ⟨(X 3).st, (X 3).last, (X 3).next, (X 3).need, v⟩ = X2 at HT4 HM4 HX' HRVV
                  go_wp2_with fail
                  refine (tabrow _ w4 t mb bx [3] X2 3 HT4.out.tab).mono ?_
                  rintro e w5 ⟨rfl, _, hb⟩
                  have HT5 := Aside0.mk (HT4.out.next hb)
                  have HM5 := Aside0.mk (HM4.out.next hb)
                  clear hb HT4 HM4
                  rw [HRVV.out]
                  have d4 : decide (((S 3).length : Int) < 4) = true := by simp; omega
                  go_upto_region 23 with fail
                  have hb6 : Below w5.heap.size w5 (w5.alloc (.cells #[.int .i64 3, .int .i64 0, .int .u64 (X 3).last] 54)) := below_alloc (Below.refl _ _) _
                  have hq6 := heap_alloc_new w5 (.cells #[.int .i64 3, .int .i64 0, .int .u64 (X 3).last] 54)
                  obtain ⟨QB, hQB⟩ : ∃ x, x = w5.heap.size := ⟨_, rfl⟩
                  generalize w5.alloc (.cells #[.int .i64 3, .int .i64 0, .int .u64 (X 3).last] 54) = w6 at hb6 hq6 ⊢
                  rw [← hQB] at hq6 ⊢
                  have q1 := blk_cell hq6 1
                  have HT6 := Aside0.mk (HT5.out.next hb6)
                  have HM6 := Aside0.mk (HM5.out.next hb6)
                  have HB6 := Aside0.mk (HT6.out.tab.bel.below (fun _ h => h))
                  clear hb6 hq6 hQB HT5 HM5
                  go_wp2_with (at_builtin; refine Kd.R_append kU (w0 := w) (W := w6) w.heap.size (by rfl) (.tmp 112) (.tmp 114) 59 31 (.int .u64 0) 8 (by rfl) Try.underlying59 infoLsn rfl (by decide) (by omega) (.slice MA (S 3).length MC) (S 3) (X 3).next [.int .u64 (X 3).next] (fun _ => True) (fun _ => False) (by go_simp) (by go_simp) rfl (fun _ hk => hk.elim) (fun _ _ => trivial) HM6.out.row HB6.out HB6.out.size (by omega) ?_; intro v1 w7 ho hb hg hat; have HT7 := Aside0.mk (HT6.out.grownFar hg (fun q hq => ⟨HM6.out.far q hq, .inl (by obtain ⟨inner, hown⟩ := Kd.R_own HM6.out.row; exact own_base hown q hq)⟩)); have HM7 : Aside0 (Mk w7 t mb bx [3] X2 v1 (S 3 ++ [(X 3).next]) w.heap.size) := ⟨⟨ho, fun q hq => (by rcases hat with ha | ⟨b, hb2, hb3⟩; exact HM6.out.far q (ha ▸ hq); rw [hb2] at hq; injection hq with hq; subst hq; exact HT6.out.not_own hb3)⟩⟩; clear ho hb hg hat HT6 HM6 HB6)
                  go_meet
                  case rel => exact ⟨[3], X2, addS S 3 (X 3).next, HT7, HX', ⟨by have := HM7.out; unfold addS; rw [if_pos rfl]; exact this⟩, .inl rfl, by unfold addS; rw [if_pos rfl, List.length_append]; exact hl4⟩
            · have e3 : (o.kd == 3) = false := by simpa using k3
              by_cases k5 : o.kd = 5
              · have e5 : (o.kd == 5) = true := by simpa using k5
                clear k3 k5
                as_aux_lemma =>
                  go_wp2_with fail
                  refine (tabdrop ⟨w3, ownS t mb bx [3] X⟩ w3 t mb bx [3] X S 3 o.nn HT3.out.here (fun _ => by omega)).mono ?_
                  rintro e w4 hd
                  rcases hd with ⟨_, rfl, rfl⟩ | ⟨_, hn0, hnl, rfl, v, g⟩
                  · go_wp2_with fail
                    go_meet
                    case rel => exact ⟨[3], X, S, HT3, HUP, HM3, .inl rfl, hs4⟩
                  · have HT4 := Aside0.mk (HT3.out.back g)
                    have HM4 := Aside0.mk (HM3.out.keep g)
                    have HO4 := Aside0.mk (g.keep HO3.out HNO.out)
                    have HX' := Aside0.mk (show NB [3] (updX X 3 ⟨(X 3).st, (X 3).last, (X 3).next, (X 3).need, v⟩) (k + 1) from fun id hi => by rw [List.mem_singleton.1 hi, updX_at]; exact HUP.out 3 (by simp))
                    obtain ⟨j, hj⟩ : ∃ j : Nat, o.nn = j := ⟨o.nn.toNat, by omega⟩
                    have z2 : w4.cell? ⟨OB, 2, none⟩ = some (.int .i64 (j : Int)) := by rw [← hj]; exact blk_cell HO4.out 2
                    have d0 : decide ((j : Int) < 0) = false := by simp
                    have d1 : decide (((S 3).length : Int) ≤ (j : Int)) = false := by simp; omega
                    have hjl : j ≤ (S 3).length := by omega
                    have hjl2 : j < (S 3).length := by omega
                    have HJ := Aside0.mk hj
                    clear g HT3 HM3 HO3 hj hn0 hnl y0 y2
                    go_wp2_with fail
                    go_meet
                    case rel => exact ⟨[3], _, takeS S 3 o.nn, HT4, HX', ⟨by
                      unfold takeS
                      rw [if_pos rfl, HJ.out, Int.toNat_natCast]
                      exact ⟨Kd.R_take HM4.out.row hjl, fun q hq => HM4.out.far q (by cases MA with | none => exact hq | some a => exact hq)⟩⟩, .inl rfl, by unfold takeS; rw [if_pos rfl, List.length_take]; omega⟩
              · have e5 : (o.kd == 5) = false := by simpa using k5
                clear k3 k5
                go_wp2_with fail
                go_meet
                case rel => exact ⟨[3], X, S, HT3, HUP, HM3, .inl rfl, hs4⟩
        case rest =>
          as_aux_lemma =>
            obtain ⟨gk0, hgk0⟩ : ∃ x, x = gk := ⟨_, rfl⟩
            have HG0 := Aside0.mk hgk0
            clear hgk0 y0 y2
            clear HT3 HM3 HO3 HN HT HM hs4
            obtain ⟨ks', X', S', HT4, HN4, HM4, hks, hs4⟩ := hcut
            go_wp2_with fail
            refine (tabrow _ wc t mb bx ks' X' 3 HT4.out.tab).mono ?_
            rintro e w5 ⟨rfl, _, hb⟩
            have HT5 := Aside0.mk (HT4.out.next hb)
            have HM5 := Aside0.mk (HM4.out.next hb)
            clear hb HT4 HM4
            rcases hks with rfl | rfl
            rotate_left
            · have hrv : rowV [] X' 3 = .tuple #[.agg #[.int .i64 0, .int .i64 0, .int .u64 0], .bool false] := by unfold rowV; rw [if_neg (by simp)]
              rw [hrv]
              clear hrv
              go_wp2_with fail
              have HBn := Aside0.mk (below_alloc (HT5.out.tab.bel.below (fun _ h => h)) (.cells #[.int .i64 0, .int .i64 0, .int .u64 0] 54))
              refine (lives17 _).mono ?_
              rintro e wq ⟨rfl, hb⟩
              have HBq := Aside0.mk (below_then HBn.out HBn.out.size hb)
              clear hb
              go_wp2_with fail
              go_ret
              exact ⟨rfl, HBq.out⟩
            · have hrv : rowV [3] X' 3 = .tuple #[.agg #[.int .i64 3, .int .i64 (X' 3).st, .int .u64 (X' 3).last], .bool true] := by unfold rowV; rw [if_pos (by simp)]
              rw [hrv]
              clear hrv
              obtain ⟨VA, VC, rfl⟩ := Kd.R_slice HM5.out.row
              go_wp2_with fail
              have hb6 : Below w5.heap.size w5 (w5.alloc (.cells #[.int .i64 3, .int .i64 (X' 3).st, .int .u64 (X' 3).last] 54)) := below_alloc (Below.refl _ _) _
              generalize w5.alloc (.cells #[.int .i64 3, .int .i64 (X' 3).st, .int .u64 (X' 3).last] 54) = w6 at hb6 ⊢
              have HT6 := Aside0.mk (HT5.out.next hb6)
              have HM6 := Aside0.mk (HM5.out.next hb6)
              clear hb6 HT5 HM5
              obtain ⟨n4, hn4⟩ : ∃ n, n = (S' 3).length := ⟨_, rfl⟩
              have HN4L := Aside0.mk hn4
              rw [← hn4] at hs4 ⊢
              clear hn4
              go_loopg [16] 5 (fun gj v16 wz => ∃ j : Nat, Aside0 (j + gj = 5) ∧ v16 = .int .i64 j ∧ j ≤ n4 + 1 ∧ Aside0 (TabS ⟨w, fun _ => False⟩ wz t mb bx [3] X' S') ∧ Aside0 (Mk wz t mb bx [3] X' (.slice VA n4 VC) (S' 3) w.heap.size))
              case atStart => exact ⟨0, ⟨rfl⟩, rfl, Nat.zero_le _, HT6, ⟨by have := HM6.out; rwa [← HN4L.out] at this⟩⟩
              case round =>
                obtain ⟨j, HJ, rfl, hj, HT7, HM7⟩ := hrel
                clear HT6 HM6
                by_cases hjn : j ≤ n4
                · have d0 : decide ((j : Int) ≤ (n4 : Int)) = true := by simp; omega
                  have hmk := tabmark ⟨w, fun _ => False⟩ wr t mb bx [3] X' S' 3 j HT7.out (fun _ => by have := HN4L.out; omega)
                  by_cases hjl : j < n4
                  · have hjS : j < (S' 3).length := by have := HN4L.out; omega
                    have hv : markV [3] S' 3 j = some (S' 3)[j] := by
                      unfold markV; rw [if_pos ⟨by simp, by omega⟩, Int.toNat_natCast, List.getElem?_eq_getElem hjS]
                    rw [hv] at hmk
                    obtain ⟨A', c', hv', hlc, hC'⟩ := Kd.R_reads HM7.out.row
                    injection hv' with hv1 hv2 hv3
                    obtain ⟨adm, he, hcell⟩ := lsn_at hC' j hjS hjS
                    rw [he] at hv1
                    subst hv1
                    clear hv hv2 hv3 hC' he hlc
                    obtain ⟨mm, hmm⟩ : ∃ m, m = (S' 3)[j] := ⟨_, rfl⟩
                    rw [← hmm] at hmk hcell
                    clear hmm hjS
                    have d1 : decide ((j : Int) < (n4 : Int)) = true := by simp; omega
                    go_wp2_with fail
                    refine hmk.mono ?_
                    rintro e wz ⟨rfl, rfl⟩
                    clear hmk
                    go_wp2_with fail
                    go_roundg (gk - 1)
                    case measure => have := HJ.out; omega
                    case rel => exact ⟨j + 1, ⟨by have := HJ.out; omega⟩, (by go_num), by omega, HT7, HM7⟩
                  · have hv : markV [3] S' 3 j = none := by
                      unfold markV; rw [if_pos ⟨by simp, by omega⟩, Int.toNat_natCast, List.getElem?_eq_none (by have := HN4L.out; omega)]
                    rw [hv] at hmk
                    clear hv
                    have d1 : decide ((j : Int) < (n4 : Int)) = false := by simp; omega
                    go_wp2_with fail
                    refine hmk.mono ?_
                    rintro e wz ⟨rfl, rfl⟩
                    clear hmk
                    go_wp2_with fail
                    go_roundg (gk - 1)
                    case measure => have := HJ.out; omega
                    case rel => exact ⟨j + 1, ⟨by have := HJ.out; omega⟩, (by go_num), by omega, HT7, HM7⟩
                · have d0 : decide ((j : Int) ≤ (n4 : Int)) = false := by simp; omega
                  go_wp2_with fail
                  go_roundg (gk0 - 1)
                  case measure => have := HK.out; have := HG0.out; omega
                  case rel => exact ⟨k + 1, bx, X', S', ⟨by have := HK.out; have := HG0.out; omega⟩, (by go_num), by omega, by omega, (by have := HN4L.out; omega), HT7, HN4, HM7⟩
    · by_cases h60 : k < 60
      · have hd1 : decide ((k : Int) < l.length) = false := by simp; omega
        have HBn := Aside0.mk (HT.out.tab.bel.below (fun _ h => h))
        go_wp2_with fail
        refine (lives17 _).mono ?_
        rintro e wq ⟨rfl, hb⟩
        have HBq := Aside0.mk (below_then HBn.out HBn.out.size hb)
        clear hb
        go_wp2_with fail
        go_ret
        exact ⟨rfl, HBq.out⟩
      · have hd1 : decide ((k : Int) < 60) = false := by simp; omega
        by_cases hlt : k < l.length
        ·
          have HBn := Aside0.mk (HT.out.tab.bel.below (fun _ h => h))
          go_wp2_with fail
          refine (lives17 _).mono ?_
          rintro e wq ⟨rfl, hb⟩
          have HBq := Aside0.mk (below_then HBn.out HBn.out.size hb)
          clear hb
          go_wp2_with fail
          go_ret
          exact ⟨rfl, HBq.out⟩
        ·
          have HBn := Aside0.mk (HT.out.tab.bel.below (fun _ h => h))
          go_wp2_with fail
          refine (lives17 _).mono ?_
          rintro e wq ⟨rfl, hb⟩
          have HBq := Aside0.mk (below_then HBn.out HBn.out.size hb)
          clear hb
          go_wp2_with fail
          go_ret
          exact ⟨rfl, HBq.out⟩
end Go.Proofs.Yteaklmafjmnmiaa
