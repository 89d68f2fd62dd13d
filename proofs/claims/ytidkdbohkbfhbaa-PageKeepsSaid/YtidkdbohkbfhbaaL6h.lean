/- More of a page that stands: Clone, Pairs, Stamp; what is kept; rows of pairs written. -/
import Derived.Test.YtidkdbohkbfhbaaL6b
import Derived.Test.YtidkdbohkbfhbaaWq
namespace Go.Proofs.Ytidkdbohkbfhbaa
open Go.RowKit Go.Proofs.YtidkdbohkbfhbaaW.PrintWords Go.Proofs.YtidkdbohkbfhbaaW.PrintLast Go.Proofs.YtidkdbohkbfhbaaW.PrintMore
open Rf
set_option linter.unusedVariables false
set_option linter.unusedSimpArgs false

section
variable {w0 w : World} {ok : Nat → Prop} {g id lsn : Nat} {cs : List SGCell}
theorem Here.bound (h : Here w0 w ok g id lsn cs) : Here w0 w (fun k => ok k ∧ k < w.heap.size) g id lsn cs := by
  obtain ⟨⟨h1, h2, v, h3, h4⟩, hb, hv, hi, hl⟩ := h
  exact ⟨⟨h1, ⟨h2, blk_lt h3⟩, v, h3, Kd.R_mono (Kd.R_bound h4) (fun k hk => ⟨⟨hk.1.1, hk.2.2.1⟩, hk.1.2⟩)⟩, hb, hv, hi, hl⟩
theorem Here.mono {ok' : Nat → Prop} (h : Here w0 w ok g id lsn cs) (hk : ∀ k, ok k → ok' k) : Here w0 w ok' g id lsn cs := ⟨h.pg.mono hk, h.bel, h.val, h.id16, h.lsn64⟩
theorem Here.kept {w' : World} {S : Nat → Prop} (h : Here w0 w ok g id lsn cs) (hk : Kept w w' S) (hne : ∀ k, ok k → ¬ S k) (hb : Below w0.heap.size w0 w') : Here w0 w' ok g id lsn cs :=
  ⟨h.pg.kept hk hne, hb, h.val, h.id16, h.lsn64⟩
theorem Here.clone (h : Here w0 w ok g id lsn cs) : Calls Try.prog 29 #[.pointer (some ⟨g, 0, none⟩)] w fun e w' => ∃ g', e = .returned (.pointer (some ⟨g', 0, none⟩)) ∧ Here w0 w' (fun k => w.heap.size ≤ k) g' id lsn cs ∧ Below w.heap.size w w' := by
  obtain ⟨h1, h2, v, h3, h4⟩ := h.pg
  obtain ⟨A, c, rfl, hlc, hC⟩ := Kd.R_reads h4
  refine (clone_calls w0 w g id lsn A c cs h.bel h3 hC h.val.small.big).mono ?_
  rintro e w' ⟨g', rfl, hp, hb⟩
  exact ⟨g', rfl, ⟨hp, below_then h.bel h.bel.size hb, h.val, h.id16, h.lsn64⟩, hb⟩
theorem Here.pairs (h : Here w0 w ok g id lsn cs) : Calls Try.prog 27 #[.pointer (some ⟨g, 0, none⟩)] w fun e w' => ∃ A c l, e = .returned (.slice A l.length c) ∧ Kd.R kGPair 36 w' w.heap.size (fun k => w.heap.size ≤ k) (.slice A l.length c) l ∧ l.Perm (prs cs) ∧ Srt l ∧ Here w0 w' ok g id lsn cs ∧ Below w.heap.size w w' := by
  obtain ⟨h1, h2, v, h3, h4⟩ := h.pg
  obtain ⟨A, c, rfl, hlc, hC⟩ := Kd.R_reads h4
  refine (pairs_calls w g id lsn A c cs h3 hC h.val.small.big).mono ?_
  rintro e w' ⟨v, l, rfl, hR, hp, hs, hb⟩
  obtain ⟨A, c, rfl⟩ := Kd.R_slice hR
  exact ⟨A, c, l, rfl, hR, hp, hs, h.next hb, hb⟩
theorem Here.stamp (h : Here w0 w ok g id lsn cs) (l : Nat) (hl : l < 18446744073709551616) : Calls Try.prog 30 #[.pointer (some ⟨g, 0, none⟩), .int .u64 l] w fun e w' => e = .returned (.tuple #[]) ∧ Here w0 w' ok g id l cs ∧ Kept w w' ok := by
  obtain ⟨h1, h2, v, h3, h4⟩ := h.pg
  refine (stamp_calls w g id lsn l v h3).mono ?_
  rintro e w' ⟨rfl, rfl⟩
  exact ⟨rfl, ⟨⟨h1, h2, v, blk_set h3 1 _, Kd.R_far (p := ⟨g, 1, none⟩) h4 (fun _ hk => hk.2) _⟩, below_set h.bel h1, h.val, h.id16, hl⟩, Kept.setCell (Kept.refl w ok) (p := ⟨g, 1, none⟩) (.inl h2) _⟩
end
theorem pair_at {w : World} {A : Option Addr} {n : Nat} {xs : List SGPair} (h : Kd.C kGPair w A n xs) (k : Nat) (h1 : k < n) : ∃ ad, A = some ad ∧ w.cell? (ad.add (k * 2)) = some (.string (rd_TGPair xs k).f0) ∧ w.cell? ⟨(ad.add (k * 2)).block, (ad.add (k * 2)).off + 1, none⟩ = some (.string (rd_TGPair xs k).f1) := by
  have := at_TGPair h (k : Int) (by omega) (by omega)
  rwa [Int.toNat_natCast] at this
/-- A whole element of a row of pairs is written. -/
theorem row_putP {w : World} {base go n c : Nat} {ok : Nat → Prop} {l : List SGPair} (h : Kd.R kGPair 36 w base ok (.slice (some ⟨go, 0, none⟩) n c) l) (i : Nat) (hi : i < l.length) (x : SGPair) :
    Kd.R kGPair 36 ((w.setCell ⟨go, i * 2, none⟩ (.string x.f0)).setCell ⟨go, i * 2 + 1, none⟩ (.string x.f1)) base ok (.slice (some ⟨go, 0, none⟩) n c) (l.set i x) ∧
      w.grownBy ((w.setCell ⟨go, i * 2, none⟩ (.string x.f0)).setCell ⟨go, i * 2 + 1, none⟩ (.string x.f1)) (some go) := by
  have hn := (Kd.R_reads' h).1
  obtain ⟨ad, ea, hx0, hx1⟩ := pair_at (Kd.R_reads' h).2.2 i hi
  cases ea
  simp only [add_plain] at hx0 hx1
  have hs := Kd.R_seg (okp := fun _ => False) (seg := [.string x.f0, .string x.f1]) (j := 0) (c := [.string (rd_TGPair l i).f0, .string (rd_TGPair l i).f1]) (x' := x) h (i : Int) (by omega) (by omega) rfl
    (fun j u hu => by
      rw [Int.toNat_natCast]
      match j, hu with
      | 0, hu => rw [← Option.some.inj hu]; exact hx0
      | 1, hu => rw [← Option.some.inj hu]; exact hx1) (Nat.le_refl 2) (kGPair_mkM _ _ _ x) (fun _ hk => hk.elim)
  rw [Int.toNat_natCast] at hs
  exact hs
end Go.Proofs.Ytidkdbohkbfhbaa
