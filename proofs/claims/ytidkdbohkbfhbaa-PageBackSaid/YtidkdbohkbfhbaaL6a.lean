/- Layer 6: lives. -/
import Derived.Test.YtidkdbohkbfhbaaWe
import Derived.Test.YtidkdbohkbfhbaaWh
import Derived.WalkLawsBesides
namespace Go.Proofs.Ytidkdbohkbfhbaa
open Go.RowKit Go.Proofs.YtidkdbohkbfhbaaW.PrintWords Go.Proofs.YtidkdbohkbfhbaaW.PrintLast Go.Proofs.YtidkdbohkbfhbaaW.PrintMore
open Rf
set_option linter.unusedVariables false
set_option linter.unusedSimpArgs false

/-- A page's reading, out of its own. -/
theorem IsPg.reads {w : World} {base : Nat} {ok : Nat → Prop} {g : Nat} {id lsn : Int} {cs : List SGCell} (h : IsPg w base ok g id lsn cs) :
    ∃ A c, PgAt w g id lsn (.slice A cs.length c) ∧ Kd.C kGCell w A cs.length cs := by
  obtain ⟨_, _, v, h1, h2⟩ := h
  obtain ⟨A, c, rfl, _, hC⟩ := Kd.R_reads h2
  exact ⟨A, c, h1, hC⟩
theorem free_pg (w : World) (base : Nat) (ok : Nat → Prop) (g : Nat) (id lsn : Int) (cs : List SGCell) (h : IsPg w base ok g id lsn cs) (hS : Small cs) :
    Calls Try.prog 16 #[.pointer (some ⟨g, 0, none⟩)] w fun e w' => e = .returned (.int .i64 (free cs)) ∧ Below w.heap.size w w' := by
  obtain ⟨A, c, h1, h2⟩ := h.reads
  exact free_calls w g id lsn A c cs h1 h2 hS
theorem get_pg (w : World) (base : Nat) (ok : Nat → Prop) (g : Nat) (id lsn : Int) (cs : List SGCell) (key : ByteArray) (h : IsPg w base ok g id lsn cs) (hl : cs.length ≤ 1000) :
    Calls Try.prog 18 #[.pointer (some ⟨g, 0, none⟩), .string key] w fun e w' => e = .returned (.tuple #[.string (if fnd cs key < 0 then ⟨#[]⟩ else (rd_TGCell cs (fnd cs key)).f2), .bool (decide (0 ≤ fnd cs key))]) ∧ Below w.heap.size w w' := by
  obtain ⟨A, c, h1, h2⟩ := h.reads
  exact get_calls w g id lsn A c cs key h1 h2 hl
theorem bytes_pg (w : World) (base : Nat) (ok : Nat → Prop) (g id lsn : Nat) (cs : List SGCell) (h : IsPg w base ok g id lsn cs) (hS : Small cs) (hroom : 4 * cs.length + tot cs ≤ 496) (hid : id < 65536) (hlsn : lsn < 18446744073709551616) :
    Calls Try.prog 15 #[.pointer (some ⟨g, 0, none⟩)] w fun e w' => e = .returned (.slice (some ⟨w.heap.size, 0, none⟩) 512 512) ∧ BufAt w' w.heap.size (pgB id lsn cs) ∧ Below w.heap.size w w' := by
  obtain ⟨A, c, h1, h2⟩ := h.reads
  exact bytes_calls w g id lsn A c cs h1 h2 hS hroom hid hlsn
theorem cells_pg (w : World) (base : Nat) (ok : Nat → Prop) (g : Nat) (id lsn : Int) (cs : List SGCell) (h : IsPg w base ok g id lsn cs) (hl : cs.length ≤ 1000) :
    Calls Try.prog 17 #[.pointer (some ⟨g, 0, none⟩)] w fun e w' => ∃ v, e = .returned v ∧ Kd.R kGCell 46 w' w.heap.size (fun k => w.heap.size ≤ k) v cs ∧ Below w.heap.size w w' := by
  obtain ⟨A, c, h1, h2⟩ := h.reads
  exact cells_calls w g id lsn A c cs h1 h2 hl
theorem id_pg (w : World) (base : Nat) (ok : Nat → Prop) (g : Nat) (id lsn : Int) (cs : List SGCell) (h : IsPg w base ok g id lsn cs) :
    Calls Try.prog 25 #[.pointer (some ⟨g, 0, none⟩)] w fun e w' => e = .returned (.int .i64 id) ∧ w = w' := by
  obtain ⟨A, c, h1, h2⟩ := h.reads
  exact id_calls w g id lsn _ h1
theorem lsn_pg (w : World) (base : Nat) (ok : Nat → Prop) (g : Nat) (id lsn : Int) (cs : List SGCell) (h : IsPg w base ok g id lsn cs) :
    Calls Try.prog 24 #[.pointer (some ⟨g, 0, none⟩)] w fun e w' => e = .returned (.int .u64 lsn) ∧ w = w' := by
  obtain ⟨A, c, h1, h2⟩ := h.reads
  exact lsn_calls w g id lsn _ h1

def sA : ByteArray := ⟨#[97]⟩
def sX : ByteArray := ⟨#[120]⟩
theorem lives_ins : ins [] sA sX = ([cel sA sX], 0) := by kernel_rfl
theorem lives_small : Small [cel sA sX] := ⟨by decide, by decide⟩
theorem lives_x : sX.toList = [120] := by rw [ByteArray.toList_eq]; rfl
theorem lives_get : (Ending.returned (.tuple #[.string (if fnd [cel sA sX] sA < 0 then ⟨#[]⟩ else (rd_TGCell [cel sA sX] (fnd [cel sA sX] sA)).f2), .bool (decide (0 ≤ fnd [cel sA sX] sA))])) = .returned (.tuple #[.string sX, .bool true]) := by kernel_rfl
theorem lives_fnd : fnd [cel sA sX] sA = 0 := by kernel_rfl
theorem lives_free : free [cel sA sX] = 489 := by kernel_rfl
set_option maxHeartbeats 1000000 in
theorem lives_calls (w : World) : Calls Try.prog 12 #[] w fun e w' => e = .returned (.bool true) ∧ Below w.heap.size w w' := by
  go_enter Try.func12, Try.ntmps12
  go_wp2_with fail
  refine (new_ok 3 w (by omega) (by omega)).mono ?_
  rintro e w1 ⟨rfl, hp, hb⟩
  have HB := Aside0.mk hb
  have HP := Aside0.mk (hp w.heap.size (Nat.le_refl _))
  clear hp hb
  go_wp2_with fail
  refine (insert_calls w w1 _ w.heap.size 3 0 [] sA sX HB.out HP.out Valid.nil.small (by decide)).mono ?_
  rintro e w2 ⟨rfl, hp, hb, hk⟩
  rw [lives_ins] at hp ⊢
  have HB2 := Aside0.mk hb
  have HP2 := Aside0.mk hp
  clear hp hb hk
  go_wp2_with fail
  refine (get_pg w2 _ _ w.heap.size 3 0 _ sA HP2.out (by decide)).mono ?_
  rintro e w3 ⟨rfl, hb⟩
  have HB3 := Aside0.mk (below_then HB2.out HB2.out.size hb)
  have HP3 := Aside0.mk (HP2.out.below hb)
  clear hb
  rw [lives_get]
  have hx : sX.toList = [120] := lives_x
  go_wp2_with (first | (go_at_call 16; refine (free_pg _ _ _ w.heap.size 3 0 _ HP3.out lives_small).mono ?_; rintro e w4 ⟨rfl, hb⟩; rw [lives_free]; have HB4 := Aside0.mk (below_then HB3.out HB3.out.size hb); have HP4 := Aside0.mk (HP3.out.below hb); clear hb) | (go_at_call 15; refine (bytes_pg _ _ _ w.heap.size 3 0 _ HP4.out lives_small (by decide) (by decide) (by decide)).mono ?_; rintro e w5 ⟨rfl, hbuf, hb⟩; have HB5 := Aside0.mk (below_then HB4.out HB4.out.size hb); clear hb hbuf))
  go_ret
  exact ⟨rfl, HB5.out⟩
end Go.Proofs.Ytidkdbohkbfhbaa
