/- Layer 17: ChainSaves' walk. -/
import Derived.Test.YteaklmafjmnmiaaZMgAp21
import Derived.Deep.DeepCutAuto
import Derived.Deep.CutBlock
section
namespace Go.Proofs.Yteaklmafjmnmiaa
open Go.RowKit Go.Proofs.YteaklmafjmnmiaaW.PrintWords Go.Proofs.YteaklmafjmnmiaaW.PrintLast Go.Proofs.YteaklmafjmnmiaaW.PrintMore
open Rf MapL MapV
set_option linter.unusedVariables false
set_option linter.unusedSimpArgs false
section
variable {w0 : Wb} {w w' : World} {t mb : Nat} {bx bx' : Int → Nat} {ks ks' : List Int} {X X' : Int → TX} {S S' : Int → List Int}
/-- A row of the walk's own, apart from the table. -/
structure Mk (w : World) (t mb : Nat) (bx : Int → Nat) (ks : List Int) (X : Int → TX) (v : Value) (L : List Int) (b : Nat) : Prop where
  row : Kd.R kU 31 w b (fun _ => True) v L
  far : ∀ q, v.ownBlock = some q → ¬ ownS t mb bx ks X q
theorem Mk.next {v : Value} {L : List Int} {b : Nat} (h : Mk w t mb bx ks X v L b) (hb : Below w.heap.size w w') : Mk w' t mb bx ks X v L b := ⟨Kd.R_below h.row hb, h.far⟩
/-- It stays where the table alone is touched. -/
theorem Mk.keep {v : Value} {L : List Int} {b : Nat} (h : Mk w t mb bx ks X v L b) (g : TabS ⟨w, ownS t mb bx ks X⟩ w' t mb bx' ks' X' S') : Mk w' t mb bx' ks' X' v L b := by
  obtain ⟨inner, ho⟩ := Kd.R_own h.row
  have hT : ∀ q, v.ownBlock = some q → ¬ Wb.T ⟨w, ownS t mb bx ks X⟩ q := fun q hq hT => hT.elim (fun h2 => by have := own_lt ho q hq; exact absurd h2 (by simpa using this)) (h.far q hq)
  refine ⟨Kd.R_mono (Kd.R_move (w1 := w') (Kd.R_tight2 kU_E h.row) (fun k hk => ?_)) (fun _ _ => trivial), fun q hq => ?_⟩
  · exact g.tab.bel.block k (own_lt ho k hk.1.symm) (h.far k hk.1.symm)
  · rintro ((rfl | rfl | ⟨id, hi, rfl⟩) | ⟨id, hi, hq'⟩)
    · exact hT _ hq g.tab.get
    · exact hT _ hq g.tab.gem
    · exact hT _ hq (g.tab.geb id hi)
    · exact hT q hq ((g.row id hi).1 q hq')
theorem Mk.grown {row : Option Nat} {v : Value} {L : List Int} {b : Nat} (h : Mk w t mb bx ks X v L b) (hg : w.grownBy w' row) (hn : ∀ q, row = some q → v.ownBlock ≠ some q) : Mk w' t mb bx ks X v L b :=
  ⟨Kd.R_grown2 h.row kU_E hg (fun k hk e => hn k hk e.symm), h.far⟩
end
theorem op_ok {w : World} {A : Option Addr} {n : Nat} {xs : List SOp} (h : Kd.C kOp w A n xs) (k : Nat) (h1 : k < n) : OkOp w (xs.getD k zOp) := by
  obtain ⟨ad, c, e, _, hK, hc0⟩ := Kd.C_get h zOp (k : Int) (by omega) (by omega)
  rw [Int.toNat_natCast] at hK
  exact hK.2
theorem op_at15g {w : World} {A : Option Addr} {n : Nat} {xs : List SOp} (h : Kd.C kOp w A n xs) (k : Nat) (h1 : k < n) : ∃ (ad : Addr) (o : SOp), A = some ad ∧ o = xs.getD k zOp ∧ w.cell? (ad.add (k * 15)) = some (.int .i64 o.kd) ∧ w.cell? ⟨(ad.add (k * 15)).block, (ad.add (k * 15)).off + 1, none⟩ = some (.int .i64 o.tn) ∧ w.cell? ⟨(ad.add (k * 15)).block, (ad.add (k * 15)).off + 2, none⟩ = some (.int .i64 o.nn) ∧ w.cell? ⟨(ad.add (k * 15)).block, (ad.add (k * 15)).off + 3, none⟩ = some (.int .i64 o.k) ∧ w.cell? ⟨(ad.add (k * 15)).block, (ad.add (k * 15)).off + 4, none⟩ = some (.int .u64 o.ls) ∧ w.cell? ⟨(ad.add (k * 15)).block, (ad.add (k * 15)).off + 5, none⟩ = some (.int .i64 o.tx) ∧ w.cell? ⟨(ad.add (k * 15)).block, (ad.add (k * 15)).off + 6, none⟩ = some (.int .u64 o.pv) ∧ w.cell? ⟨(ad.add (k * 15)).block, (ad.add (k * 15)).off + 7, none⟩ = some (.int .u64 o.un) ∧ w.cell? ⟨(ad.add (k * 15)).block, (ad.add (k * 15)).off + 8, none⟩ = some (.int .i64 o.pg) ∧ w.cell? ⟨(ad.add (k * 15)).block, (ad.add (k * 15)).off + 9, none⟩ = some (.int .i64 o.ak) ∧ w.cell? ⟨(ad.add (k * 15)).block, (ad.add (k * 15)).off + 10, none⟩ = some (.string o.a) ∧ w.cell? ⟨(ad.add (k * 15)).block, (ad.add (k * 15)).off + 11, none⟩ = some (.string o.b) ∧ w.cell? ⟨(ad.add (k * 15)).block, (ad.add (k * 15)).off + 12, none⟩ = some (.string o.c) ∧ w.cell? ⟨(ad.add (k * 15)).block, (ad.add (k * 15)).off + 13, none⟩ = some (.slice o.At o.l.length o.ct) ∧ w.cell? ⟨(ad.add (k * 15)).block, (ad.add (k * 15)).off + 14, none⟩ = some (.slice o.Ad o.m.length o.cd) := by
  obtain ⟨ad, c, e, _, hK, hc0⟩ := Kd.C_get h zOp (k : Int) (by omega) (by omega)
  rw [Int.toNat_natCast] at hK
  obtain ⟨rfl, ho⟩ := hK
  have hc : ∀ j u, (xs.getD k zOp).out[j]? = some u → w.cell? (ad.add (k * 15 + j)) = some u := hc0
  exact ⟨ad, _, e, rfl, hc 0 _ rfl, by rw [← add_field _ _ 1 (by omega)]; exact hc 1 _ rfl, by rw [← add_field _ _ 2 (by omega)]; exact hc 2 _ rfl, by rw [← add_field _ _ 3 (by omega)]; exact hc 3 _ rfl, by rw [← add_field _ _ 4 (by omega)]; exact hc 4 _ rfl, by rw [← add_field _ _ 5 (by omega)]; exact hc 5 _ rfl, by rw [← add_field _ _ 6 (by omega)]; exact hc 6 _ rfl, by rw [← add_field _ _ 7 (by omega)]; exact hc 7 _ rfl, by rw [← add_field _ _ 8 (by omega)]; exact hc 8 _ rfl, by rw [← add_field _ _ 9 (by omega)]; exact hc 9 _ rfl, by rw [← add_field _ _ 10 (by omega)]; exact hc 10 _ rfl, by rw [← add_field _ _ 11 (by omega)]; exact hc 11 _ rfl, by rw [← add_field _ _ 12 (by omega)]; exact hc 12 _ rfl, by rw [← add_field _ _ 13 (by omega)]; exact hc 13 _ rfl, by rw [← add_field _ _ 14 (by omega)]; exact hc 14 _ rfl⟩
/-- What a note leaves, the savepoints with it. -/
theorem noted_full {w0 : Wb} {w' : World} {t mb : Nat} {bx : Int → Nat} {ks : List Int} {X : Int → TX} {k ls tx pv un pg ak : Int} {a b c : ByteArray} {l : List SGTxn} {m : List SGDirty} {n : Int} {j : Nat} (h : Noted w0 w' t mb bx ks X k ls tx pv un pg ak a b c l m n) (hN : NB ks X j) :
    ∃ ks' X', Tab w0 w' t mb bx ks' X' ∧ NB ks' X' (j + 1) ∧ (ks' = ks ∨ ks' = ks.filter fun y => decide (y ≠ tx)) ∧ (∀ id, (X' id).sv = (X id).sv) ∧ (∀ id, id ≠ tx → (id ∈ ks' ↔ id ∈ ks) ∧ X' id = X id) := by
  have hup : NB ks X (j + 1) := fun id hi => by have := hN id hi; omega
  cases h with
  | arg hbad he h => exact ⟨ks, X, h, hup, .inl rfl, fun _ => rfl, fun _ _ => ⟨Iff.rfl, rfl⟩⟩
  | none hok hk hi he h => exact ⟨ks, X, h, hup, .inl rfl, fun _ => rfl, fun _ _ => ⟨Iff.rfl, rfl⟩⟩
  | state hok hk hi hs he h => exact ⟨ks, X, h, hup, .inl rfl, fun _ => rfl, fun _ _ => ⟨Iff.rfl, rfl⟩⟩
  | gone hok hk hi hpl hs he h =>
    exact ⟨_, X, h, fun id hid => hup id (List.mem_filter.1 hid).1, .inr rfl, fun _ => rfl, fun id hne => ⟨⟨fun q => (List.mem_filter.1 q).1, fun q => List.mem_filter.2 ⟨q, by simpa using hne⟩⟩, rfl⟩⟩
  | ok hok hk hi hpl hs he h =>
    have hnl := need_le (ks := ks) (X := X) (k := k) (ls := ls) (tx := tx) (pv := pv) (un := un) (pg := pg) (ak := ak) (a := a) (b := b) (c := c) (l := l) (m := m)
    have hlp := num_pos hok
    have h0 := hN tx hi
    refine ⟨ks, _, h, fun id hid => ?_, .inl rfl, fun id => ?_, fun id hne => ⟨Iff.rfl, by unfold updX; rw [if_neg hne]⟩⟩
    · by_cases e : id = tx
      · subst e
        rw [updX_at]
        unfold noteX
        have h27 : (0 : Int) ≤ 27 ∧ (27 : Int) ≤ 3000 * ((j + 1 : Nat) : Int) := by omega
        split
        · exact ⟨by show 0 ≤ (X id).need + _; omega, by show (X id).need + _ ≤ _; omega, hlp⟩
        · split
          · exact ⟨by show 0 ≤ max 0 _; omega, by show max 0 _ ≤ _; omega, hlp⟩
          · split
            · exact ⟨h27.1, h27.2, hlp⟩
            · split
              · exact ⟨by show 0 ≤ max 0 _; omega, by show max 0 _ ≤ _; omega, hlp⟩
              · exact ⟨by show 0 ≤ (X id).need + _; omega, by show (X id).need + _ ≤ _; omega, hlp⟩
      · unfold updX
        rw [if_neg e]
        exact hup id hid
    · unfold updX
      by_cases e : id = tx
      · rw [if_pos e, e]
        unfold noteX
        split
        · rfl
        · split
          · rfl
          · split
            · rfl
            · split <;> rfl
      · rw [if_neg e]
end Go.Proofs.Yteaklmafjmnmiaa
end
