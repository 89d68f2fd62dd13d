/- A page that stands: what its calls answer, and what they keep. -/
import Derived.Test.YtidgfigfebkieaaWh
import Derived.Test.YtidgfigfebkieaaWe
import Derived.Test.YtidgfigfebkieaaPv
import Derived.Test.YtidgfigfebkieaaLr
import Derived.WalkLawsBesides
namespace Go.Proofs.Ytidgfigfebkieaa
open Go.RowKit Go.Proofs.YtidgfigfebkieaaW.PrintWords Go.Proofs.YtidgfigfebkieaaW.PrintLast Go.Proofs.YtidgfigfebkieaaW.PrintMore
open Rf
set_option linter.unusedVariables false
set_option linter.unusedSimpArgs false
theorem IsPg.reads {w : World} {base : Nat} {ok : Nat → Prop} {g : Nat} {id lsn : Int} {cs : List SGCell} (h : IsPg w base ok g id lsn cs) :
    ∃ A c, PgAt w g id lsn (.slice A cs.length c) ∧ Kd.C kGCell w A cs.length cs := by
  obtain ⟨_, _, v, h1, h2⟩ := h
  obtain ⟨A, c, rfl, _, hC⟩ := Kd.R_reads h2
  exact ⟨A, c, h1, hC⟩
theorem free_pg (w : World) (base : Nat) (ok : Nat → Prop) (g : Nat) (id lsn : Int) (cs : List SGCell) (h : IsPg w base ok g id lsn cs) (hS : Small cs) :
    Calls Try.prog 58 #[.pointer (some ⟨g, 0, none⟩)] w fun e w' => e = .returned (.int .i64 (free cs)) ∧ Below w.heap.size w w' := by
  obtain ⟨A, c, h1, h2⟩ := h.reads
  exact free_calls w g id lsn A c cs h1 h2 hS
theorem get_pg (w : World) (base : Nat) (ok : Nat → Prop) (g : Nat) (id lsn : Int) (cs : List SGCell) (key : ByteArray) (h : IsPg w base ok g id lsn cs) (hl : cs.length ≤ 1000) :
    Calls Try.prog 72 #[.pointer (some ⟨g, 0, none⟩), .string key] w fun e w' => e = .returned (.tuple #[.string (if fnd cs key < 0 then ⟨#[]⟩ else (rd_TGCell cs (fnd cs key)).f2), .bool (decide (0 ≤ fnd cs key))]) ∧ Below w.heap.size w w' := by
  obtain ⟨A, c, h1, h2⟩ := h.reads
  exact get_calls w g id lsn A c cs key h1 h2 hl
theorem bytes_pg (w : World) (base : Nat) (ok : Nat → Prop) (g id lsn : Nat) (cs : List SGCell) (h : IsPg w base ok g id lsn cs) (hS : Small cs) (hroom : 4 * cs.length + tot cs ≤ 496) (hid : id < 65536) (hlsn : lsn < 18446744073709551616) :
    Calls Try.prog 18 #[.pointer (some ⟨g, 0, none⟩)] w fun e w' => e = .returned (.slice (some ⟨w.heap.size, 0, none⟩) 512 512) ∧ BufAt w' w.heap.size (pgB id lsn cs) ∧ Below w.heap.size w w' := by
  obtain ⟨A, c, h1, h2⟩ := h.reads
  exact bytes_calls w g id lsn A c cs h1 h2 hS hroom hid hlsn
theorem cells_pg (w : World) (base : Nat) (ok : Nat → Prop) (g : Nat) (id lsn : Int) (cs : List SGCell) (h : IsPg w base ok g id lsn cs) (hl : cs.length ≤ 1000) :
    Calls Try.prog 44 #[.pointer (some ⟨g, 0, none⟩)] w fun e w' => ∃ v, e = .returned v ∧ Kd.R kGCell 86 w' w.heap.size (fun k => w.heap.size ≤ k) v cs ∧ Below w.heap.size w w' := by
  obtain ⟨A, c, h1, h2⟩ := h.reads
  exact cells_calls w g id lsn A c cs h1 h2 hl
theorem id_pg (w : World) (base : Nat) (ok : Nat → Prop) (g : Nat) (id lsn : Int) (cs : List SGCell) (h : IsPg w base ok g id lsn cs) :
    Calls Try.prog 41 #[.pointer (some ⟨g, 0, none⟩)] w fun e w' => e = .returned (.int .i64 id) ∧ w = w' := by
  obtain ⟨A, c, h1, h2⟩ := h.reads
  exact id_calls w g id lsn _ h1
theorem lsn_pg (w : World) (base : Nat) (ok : Nat → Prop) (g : Nat) (id lsn : Int) (cs : List SGCell) (h : IsPg w base ok g id lsn cs) :
    Calls Try.prog 42 #[.pointer (some ⟨g, 0, none⟩)] w fun e w' => e = .returned (.int .u64 lsn) ∧ w = w' := by
  obtain ⟨A, c, h1, h2⟩ := h.reads
  exact lsn_calls w g id lsn _ h1

theorem stamp_pg (w0 w : World) (ok : Nat → Prop) (g : Nat) (id lsn l : Int) (cs : List SGCell) (hB : Below w0.heap.size w0 w) (hp : IsPg w w0.heap.size ok g id lsn cs) :
    Calls Try.prog 43 #[.pointer (some ⟨g, 0, none⟩), .int .u64 l] w fun e w' => e = .returned (.tuple #[]) ∧ IsPg w' w0.heap.size ok g id l cs ∧ Below w0.heap.size w0 w' := by
  obtain ⟨hlow, hm, v, h1, h2⟩ := hp
  refine (stamp_calls w g id lsn l v h1).mono ?_
  rintro e w' ⟨rfl, rfl⟩
  exact ⟨rfl, ⟨hlow, hm, v, blk_set h1 1 _, Kd.R_far (p := ⟨g, 1, none⟩) h2 (fun _ hk => hk.2) _⟩, below_set hB hlow⟩
/-- What is true of a step's cell at a place of a list of steps. -/
theorem Small.big {cs : List SGCell} (h : Small cs) : cs.length ≤ 1000 := by have := h.1; omega
theorem IsPg.drew {w : World} {base : Nat} {ok : Nat → Prop} {g : Nat} {id lsn : Int} {cs : List SGCell} (h : IsPg w base ok g id lsn cs) : IsPg w.drew base ok g id lsn cs := by
  obtain ⟨a, b, v, h1, h2⟩ := h
  exact ⟨a, b, v, h1, Kd.R_drew h2⟩
theorem mkS_ints (L : List UInt8) : strOfNums (ints L) = mkS L := by
  apply ByteArray.ext
  apply Array.ext'
  have h : ∀ x : UInt8, UInt8.ofNat (((x.toNat : Nat) : Int)).toNat = x := fun x => by simp
  simp only [strOfNums, ints, mkS, List.map_map]
  conv => rhs; rw [← List.map_id L]
  refine List.map_congr_left (fun x _ => h x)
theorem buf_string {w : World} {g : Nat} {L : List UInt8} (h : BufAt w g L) (n : Nat) (hn : L.length = n) (hl : n ≤ 1000000) : (convert 49 9 (.slice (some ⟨g, 0, none⟩) n n)).run Try.prog w = .ok (.string (mkS L)) w := by
  have hr := h.reads 0 (Nat.zero_le _) (by omega)
  rw [Nat.sub_zero, List.drop_zero, hn] at hr
  rw [string_of_reads Try.underlying49 Try.underlying5 Try.underlying9 hr, mkS_ints]
theorem pg_string {w : World} {g id lsn : Nat} {cs : List SGCell} (h : BufAt w g (pgB id lsn cs)) (hv : Valid cs) : (convert 49 9 (.slice (some ⟨g, 0, none⟩) 512 512)).run Try.prog w = .ok (.string (mkS (pgB id lsn cs))) w :=
  buf_string h 512 (pgB_length id lsn cs hv.room4) (by omega)

/-- The call's own page, as it stands in a world behind w0. -/
structure Here (w0 w : World) (ok : Nat → Prop) (g : Nat) (id lsn : Nat) (cs : List SGCell) : Prop where
  pg : IsPg w w0.heap.size ok g id lsn cs
  bel : Below w0.heap.size w0 w
  val : Valid cs
  id16 : id < 16
  lsn64 : lsn < 18446744073709551616
theorem Here.drew {w0 w : World} {ok : Nat → Prop} {g id lsn : Nat} {cs : List SGCell} (h : Here w0 w ok g id lsn cs) : Here w0 w.drew ok g id lsn cs := ⟨h.pg.drew, below_drew h.bel, h.val, h.id16, h.lsn64⟩
theorem Here.next {w0 w w' : World} {ok : Nat → Prop} {g id lsn : Nat} {cs : List SGCell} (h : Here w0 w ok g id lsn cs) (hb : Below w.heap.size w w') : Here w0 w' ok g id lsn cs := ⟨h.pg.below hb, below_then h.bel h.bel.size hb, h.val, h.id16, h.lsn64⟩
section
variable {w0 w : World} {ok : Nat → Prop} {g id lsn : Nat} {cs : List SGCell}
theorem Here.free (h : Here w0 w ok g id lsn cs) : Calls Try.prog 58 #[.pointer (some ⟨g, 0, none⟩)] w fun e w' => e = .returned (.int .i64 (free cs)) ∧ Here w0 w' ok g id lsn cs ∧ Below w.heap.size w w' :=
  (free_pg w _ ok g id lsn cs h.pg h.val.small).mono (by rintro e w' ⟨rfl, hb⟩; exact ⟨rfl, h.next hb, hb⟩)
theorem Here.get (h : Here w0 w ok g id lsn cs) (key : ByteArray) : Calls Try.prog 72 #[.pointer (some ⟨g, 0, none⟩), .string key] w fun e w' => e = .returned (.tuple #[.string (if fnd cs key < 0 then ⟨#[]⟩ else (rd_TGCell cs (fnd cs key)).f2), .bool (decide (0 ≤ fnd cs key))]) ∧ Here w0 w' ok g id lsn cs ∧ Below w.heap.size w w' :=
  (get_pg w _ ok g id lsn cs key h.pg h.val.small.big).mono (by rintro e w' ⟨rfl, hb⟩; exact ⟨rfl, h.next hb, hb⟩)
theorem Here.bytes (h : Here w0 w ok g id lsn cs) : Calls Try.prog 18 #[.pointer (some ⟨g, 0, none⟩)] w fun e w' => e = .returned (.slice (some ⟨w.heap.size, 0, none⟩) 512 512) ∧ BufAt w' w.heap.size (pgB id lsn cs) ∧ Here w0 w' ok g id lsn cs ∧ Below w.heap.size w w' :=
  (bytes_pg w _ ok g id lsn cs h.pg h.val.small h.val.room4 (by have := h.id16; omega) h.lsn64).mono (by rintro e w' ⟨rfl, hf, hb⟩; exact ⟨rfl, hf, h.next hb, hb⟩)
theorem Here.cells (h : Here w0 w ok g id lsn cs) : Calls Try.prog 44 #[.pointer (some ⟨g, 0, none⟩)] w fun e w' => ∃ A c, e = .returned (.slice A cs.length c) ∧ Kd.R kGCell 86 w' w.heap.size (fun k => w.heap.size ≤ k) (.slice A cs.length c) cs ∧ Here w0 w' ok g id lsn cs ∧ Below w.heap.size w w' :=
  (cells_pg w _ ok g id lsn cs h.pg h.val.small.big).mono (by
    rintro e w' ⟨v, rfl, hR, hb⟩
    obtain ⟨A, c, rfl⟩ := Kd.R_slice hR
    exact ⟨A, c, rfl, hR, h.next hb, hb⟩)
theorem Here.insert (h : Here w0 w ok g id lsn cs) (key value : ByteArray) : Calls Try.prog 30 #[.pointer (some ⟨g, 0, none⟩), .string key, .string value] w fun e w' => e = .returned (.int .i64 (ins cs key value).2) ∧ Here w0 w' (fun k => ok k ∨ w.heap.size ≤ k) g id lsn (ins cs key value).1 ∧ Kept w w' ok :=
  (insert_calls w0 w ok g id lsn cs key value h.bel h.pg h.val.small h.val.len).mono (by rintro e w' ⟨rfl, hp, hb, hk⟩; exact ⟨rfl, ⟨hp, hb, h.val.ins key value, h.id16, h.lsn64⟩, hk⟩)
theorem Here.update (h : Here w0 w ok g id lsn cs) (key value : ByteArray) : Calls Try.prog 52 #[.pointer (some ⟨g, 0, none⟩), .string key, .string value] w fun e w' => e = .returned (.int .i64 (upd cs key value).2) ∧ Here w0 w' (fun k => ok k ∨ w.heap.size ≤ k) g id lsn (upd cs key value).1 ∧ Kept w w' ok :=
  (update_calls w0 w ok g id lsn cs key value h.bel h.pg h.val.small).mono (by rintro e w' ⟨rfl, hp, hb, hk⟩; exact ⟨rfl, ⟨hp, hb, h.val.upd key value, h.id16, h.lsn64⟩, hk⟩)
theorem Here.delete (h : Here w0 w ok g id lsn cs) (key : ByteArray) : Calls Try.prog 55 #[.pointer (some ⟨g, 0, none⟩), .string key] w fun e w' => e = .returned (.int .i64 (del cs key).2) ∧ Here w0 w' (fun k => ok k ∨ w.heap.size ≤ k) g id lsn (del cs key).1 ∧ Kept w w' ok :=
  (delete_calls w0 w ok g id lsn cs key h.bel h.pg h.val.small.big).mono (by rintro e w' ⟨rfl, hp, hb, hk⟩; exact ⟨rfl, ⟨hp, hb, h.val.del key, h.id16, h.lsn64⟩, hk⟩)
end
section
variable {w0 w : World} {ok : Nat → Prop} {g id lsn : Nat} {cs : List SGCell}
theorem Here.bound (h : Here w0 w ok g id lsn cs) : Here w0 w (fun k => ok k ∧ k < w.heap.size) g id lsn cs := by
  obtain ⟨⟨h1, h2, v, h3, h4⟩, hb, hv, hi, hl⟩ := h
  exact ⟨⟨h1, ⟨h2, blk_lt h3⟩, v, h3, Kd.R_mono (Kd.R_bound h4) (fun k hk => ⟨⟨hk.1.1, hk.2.2.1⟩, hk.1.2⟩)⟩, hb, hv, hi, hl⟩
theorem Here.mono {ok' : Nat → Prop} (h : Here w0 w ok g id lsn cs) (hk : ∀ k, ok k → ok' k) : Here w0 w ok' g id lsn cs := ⟨h.pg.mono hk, h.bel, h.val, h.id16, h.lsn64⟩
theorem Here.kept {w' : World} {S : Nat → Prop} (h : Here w0 w ok g id lsn cs) (hk : Kept w w' S) (hne : ∀ k, ok k → ¬ S k) (hb : Below w0.heap.size w0 w') : Here w0 w' ok g id lsn cs :=
  ⟨h.pg.kept hk hne, hb, h.val, h.id16, h.lsn64⟩
theorem Here.clone (h : Here w0 w ok g id lsn cs) : Calls Try.prog 35 #[.pointer (some ⟨g, 0, none⟩)] w fun e w' => ∃ g', e = .returned (.pointer (some ⟨g', 0, none⟩)) ∧ Here w0 w' (fun k => w.heap.size ≤ k) g' id lsn cs ∧ Below w.heap.size w w' := by
  obtain ⟨h1, h2, v, h3, h4⟩ := h.pg
  obtain ⟨A, c, rfl, hlc, hC⟩ := Kd.R_reads h4
  refine (clone_calls w0 w g id lsn A c cs h.bel h3 hC h.val.small.big).mono ?_
  rintro e w' ⟨g', rfl, hp, hb⟩
  exact ⟨g', rfl, ⟨hp, below_then h.bel h.bel.size hb, h.val, h.id16, h.lsn64⟩, hb⟩
theorem Here.stamp (h : Here w0 w ok g id lsn cs) (l : Nat) (hl : l < 18446744073709551616) : Calls Try.prog 43 #[.pointer (some ⟨g, 0, none⟩), .int .u64 l] w fun e w' => e = .returned (.tuple #[]) ∧ Here w0 w' ok g id l cs ∧ Kept w w' ok := by
  obtain ⟨h1, h2, v, h3, h4⟩ := h.pg
  refine (stamp_calls w g id lsn l v h3).mono ?_
  rintro e w' ⟨rfl, rfl⟩
  exact ⟨rfl, ⟨⟨h1, h2, v, blk_set h3 1 _, Kd.R_far (p := ⟨g, 1, none⟩) h4 (fun _ hk => hk.2) _⟩, below_set h.bel h1, h.val, h.id16, hl⟩, Kept.setCell (Kept.refl w ok) (p := ⟨g, 1, none⟩) (.inl h2) _⟩
end
theorem Here.grown {w0 w w' : World} {ok : Nat → Prop} {g id lsn : Nat} {cs : List SGCell} {row : Option Nat} (h : Here w0 w ok g id lsn cs) (hg : w.grownBy w' row) (hr : ∀ k, row = some k → ¬ ok k ∧ w0.heap.size ≤ k) : Here w0 w' ok g id lsn cs :=
  h.kept (Kept.of_grown hg (Kept.refl _ (fun k => row = some k)) (fun k e => .inl e)) (fun k hk e => (hr k e).1 hk) (h.bel.grown hg h.bel.size (fun g hg' => (hr g hg').2))
end Go.Proofs.Ytidgfigfebkieaa
