/- Layer 6: made: a page behind some steps. -/
import Derived.Test.YtidkdbohkbfhbaaL6a
import Derived.Test.YtidkdbohkbfhbaaL6o
import Derived.Test.YtidkdbohkbfhbaaPv
namespace Go.Proofs.Ytidkdbohkbfhbaa
open Go.RowKit Go.Proofs.YtidkdbohkbfhbaaW.PrintWords Go.Proofs.YtidkdbohkbfhbaaW.PrintLast Go.Proofs.YtidkdbohkbfhbaaW.PrintMore
open Rf
set_option linter.unusedVariables false
set_option linter.unusedSimpArgs false

theorem stamp_pg (w0 w : World) (ok : Nat → Prop) (g : Nat) (id lsn l : Int) (cs : List SGCell) (hB : Below w0.heap.size w0 w) (hp : IsPg w w0.heap.size ok g id lsn cs) :
    Calls Try.prog 30 #[.pointer (some ⟨g, 0, none⟩), .int .u64 l] w fun e w' => e = .returned (.tuple #[]) ∧ IsPg w' w0.heap.size ok g id l cs ∧ Below w0.heap.size w0 w' := by
  obtain ⟨hlow, hm, v, h1, h2⟩ := hp
  refine (stamp_calls w g id lsn l v h1).mono ?_
  rintro e w' ⟨rfl, rfl⟩
  exact ⟨rfl, ⟨hlow, hm, v, blk_set h1 1 _, Kd.R_far (p := ⟨g, 1, none⟩) h2 (fun _ hk => hk.2) _⟩, below_set hB hlow⟩
/-- What is true of a step's cell at a place of a list of steps. -/
theorem op_at {w : World} {A : Option Addr} {n : Nat} {xs : List SGOp} (h : Kd.C kGOp w A n xs) (k : Nat) (h1 : k < n) : ∃ ad, A = some ad ∧ w.cell? (ad.add (k * 4)) = some (.int .i64 (rd_TGOp xs k).f0) ∧ w.cell? ⟨(ad.add (k * 4)).block, (ad.add (k * 4)).off + 1, none⟩ = some (.string (rd_TGOp xs k).f1) ∧ w.cell? ⟨(ad.add (k * 4)).block, (ad.add (k * 4)).off + 2, none⟩ = some (.string (rd_TGOp xs k).f2) ∧ w.cell? ⟨(ad.add (k * 4)).block, (ad.add (k * 4)).off + 3, none⟩ = some (.int .u64 (rd_TGOp xs k).f3) := by
  simpa using at_TGOp h k (by omega) (by omega)
theorem op_mem (xs : List SGOp) (k : Nat) (h : k < xs.length) : rd_TGOp xs k ∈ xs := by
  simp [rd_TGOp, List.getD_eq_getElem?_getD, List.getElem?_eq_getElem h]

theorem Small.big {cs : List SGCell} (h : Small cs) : cs.length ≤ 1000 := by have := h.1; omega
/-- A page of the call's own that is valid. -/
structure Own (w0 w : World) (g : Nat) (id : Int) : Prop where
  pg : ∃ ok lsn cs, IsPg w w0.heap.size ok g id lsn cs ∧ Valid cs ∧ Used cs ∧ 0 ≤ lsn ∧ lsn < 18446744073709551616
  bel : Below w0.heap.size w0 w

theorem Own.drew {w0 w : World} {g : Nat} {id : Int} (h : Own w0 w g id) : Own w0 w.drew g id := by
  obtain ⟨⟨ok, lsn, cs, ⟨a, b, v, h1, h2⟩, hv, hu, h0, h3⟩, hB⟩ := h
  exact ⟨⟨ok, lsn, cs, ⟨a, b, v, h1, Kd.R_drew h2⟩, hv, hu, h0, h3⟩, below_drew hB⟩
/-- A step's cells, as facts of a world behind. -/
theorem ops_later {w0 w : World} {ad : Addr} {n : Nat} {xs : List SGOp} (h : Kd.C kGOp w0 (some ad) n xs) (hB : Below w0.heap.size w0 w) (k : Nat) (h1 : k < n) : w.cell? (ad.add (k * 4)) = some (.int .i64 (rd_TGOp xs k).f0) ∧ w.cell? ⟨(ad.add (k * 4)).block, (ad.add (k * 4)).off + 1, none⟩ = some (.string (rd_TGOp xs k).f1) ∧ w.cell? ⟨(ad.add (k * 4)).block, (ad.add (k * 4)).off + 2, none⟩ = some (.string (rd_TGOp xs k).f2) ∧ w.cell? ⟨(ad.add (k * 4)).block, (ad.add (k * 4)).off + 3, none⟩ = some (.int .u64 (rd_TGOp xs k).f3) := by
  obtain ⟨ad', e, h⟩ := op_at (Kd.C_below h hB) k h1
  cases e
  exact h

theorem own_insert (w0 w : World) (g : Nat) (id : Int) (key value : ByteArray) (h : Own w0 w g id) :
    Calls Try.prog 19 #[.pointer (some ⟨g, 0, none⟩), .string key, .string value] w fun e w' => (∃ r, e = .returned (.int .i64 r)) ∧ Own w0 w' g id := by
  obtain ⟨⟨ok, lsn, cs, hp, hv, hu, h0, h1⟩, hB⟩ := h
  refine (insert_calls w0 w ok g id lsn cs key value hB hp hv.small hv.len).mono ?_
  rintro e w' ⟨rfl, hp', hb', _⟩
  exact ⟨⟨_, rfl⟩, ⟨_, lsn, _, hp', hv.ins key value, hu.ins key value, h0, h1⟩, hb'⟩
theorem own_update (w0 w : World) (g : Nat) (id : Int) (key value : ByteArray) (h : Own w0 w g id) :
    Calls Try.prog 26 #[.pointer (some ⟨g, 0, none⟩), .string key, .string value] w fun e w' => (∃ r, e = .returned (.int .i64 r)) ∧ Own w0 w' g id := by
  obtain ⟨⟨ok, lsn, cs, hp, hv, hu, h0, h1⟩, hB⟩ := h
  refine (update_calls w0 w ok g id lsn cs key value hB hp hv.small).mono ?_
  rintro e w' ⟨rfl, hp', hb', _⟩
  exact ⟨⟨_, rfl⟩, ⟨_, lsn, _, hp', hv.upd key value, hu.upd key value, h0, h1⟩, hb'⟩
theorem own_delete (w0 w : World) (g : Nat) (id : Int) (key : ByteArray) (h : Own w0 w g id) :
    Calls Try.prog 20 #[.pointer (some ⟨g, 0, none⟩), .string key] w fun e w' => (∃ r, e = .returned (.int .i64 r)) ∧ Own w0 w' g id := by
  obtain ⟨⟨ok, lsn, cs, hp, hv, hu, h0, h1⟩, hB⟩ := h
  refine (delete_calls w0 w ok g id lsn cs key hB hp hv.small.big).mono ?_
  rintro e w' ⟨rfl, hp', hb', _⟩
  exact ⟨⟨_, rfl⟩, ⟨_, lsn, _, hp', hv.del key, hu.del key, h0, h1⟩, hb'⟩
theorem own_stamp (w0 w : World) (g : Nat) (id : Int) (l : Int) (h : Own w0 w g id) (h0 : 0 ≤ l) (h1 : l < 18446744073709551616) :
    Calls Try.prog 30 #[.pointer (some ⟨g, 0, none⟩), .int .u64 l] w fun e w' => e = .returned (.tuple #[]) ∧ Own w0 w' g id := by
  obtain ⟨⟨ok, lsn, cs, hp, hv, hu, _, _⟩, hB⟩ := h
  refine (stamp_pg w0 w ok g id lsn l cs hB hp).mono ?_
  rintro e w' ⟨rfl, hp', hb'⟩
  exact ⟨rfl, ⟨_, l, _, hp', hv, hu, h0, h1⟩, hb'⟩

theorem made_bad (w : World) (id : Int) (l : List SGOp) (A : Option Addr) (c : Nat) (h : id < 0 ∨ 16 ≤ id) :
    Calls Try.prog 14 #[.int .i64 id, .slice A l.length c] w fun e w' => e = .returned (.pointer none) ∧ Below w.heap.size w w' := by
  go_enter Try.func14, Try.ntmps14
  go_wp2_with (go_at_call 10; refine (new_bad id _ h).mono ?_; rintro e w' ⟨rfl, rfl⟩)
  go_ret
  exact ⟨rfl, Below.refl _ _⟩
set_option maxHeartbeats 2000000 in
theorem made_ok (w : World) (id : Int) (l : List SGOp) (A : Option Addr) (c : Nat) (hC : Kd.C kGOp w A l.length l) (hl : l.length ≤ 140737488351232) (hw : ∀ o ∈ l, 0 ≤ o.f3 ∧ o.f3 < 18446744073709551616) (h0 : 0 ≤ id) (h1 : id < 16) :
    Calls Try.prog 14 #[.int .i64 id, .slice A l.length c] w fun e w' => ∃ g, e = .returned (.pointer (some ⟨g, 0, none⟩)) ∧ Own w w' g id := by
  have HC := Aside0.mk hC
  have HW := Aside0.mk hw
  clear hC hw
  go_enter Try.func14, Try.ntmps14
  go_wp2_with fail
  refine (new_ok id w h0 h1).mono ?_
  rintro e w1 ⟨rfl, hp, hb⟩
  have HO := Aside0.mk (show Own w w1 w.heap.size id from ⟨⟨_, 0, _, hp _ (Nat.le_refl _), Valid.nil, fun _ h => by simp at h, by decide, by decide⟩, hb⟩)
  clear hp hb
  go_wp2
  go_loopg [7] l.length (fun gk v7 wr => ∃ k : Nat, Aside0 (k + gk = l.length) ∧ v7 = .int .i64 k ∧ k ≤ l.length ∧ Aside0 (Own w wr w.heap.size id))
  case atStart => exact ⟨0, ⟨by omega⟩, rfl, by omega, HO⟩
  case round =>
    obtain ⟨k, Hk, rfl, hkl, Ho⟩ := hrel
    clear HO
    by_cases hend : k < l.length ∧ k < 100
    · obtain ⟨hlt, hk100⟩ := hend
      obtain ⟨ad, rfl, hx0, hx1, hx2, hx3⟩ := op_at (Kd.C_below HC.out Ho.out.bel) k hlt
      have hwk := HW.out _ (op_mem l k hlt)
      by_cases c0 : (rd_TGOp l k).f0 = 0
      · rw [c0] at hx0
        go_wp2_with fail
        go_region_held3 (fun wx => wx.cell? (ad.add (k * 4)) = some (.int .i64 0) ∧ wx.cell? ⟨(ad.add (k * 4)).block, (ad.add (k * 4)).off + 1, none⟩ = some (.string (rd_TGOp l k).f1) ∧ wx.cell? ⟨(ad.add (k * 4)).block, (ad.add (k * 4)).off + 2, none⟩ = some (.string (rd_TGOp l k).f2) ∧ wx.cell? ⟨(ad.add (k * 4)).block, (ad.add (k * 4)).off + 3, none⟩ = some (.int .u64 (rd_TGOp l k).f3)) (go_keep) ((go_at_call 19; refine (own_insert w _ w.heap.size id _ _ Ho.out.drew).mono ?_; rintro e wq ⟨⟨r, rfl⟩, ho⟩; have HQ := Aside0.mk ho; clear ho; have q := ops_later HC.out HQ.out.bel k hlt; rw [c0] at q; obtain ⟨q0, q1, q2, q3⟩ := q))
        all_goals
          go_wp2
          go_roundg (gk - 1)
          case measure => have := Hk.out; omega
          case rel => exact ⟨k + 1, ⟨by have := Hk.out; omega⟩, by simp, by omega, HQ⟩
      by_cases c1 : (rd_TGOp l k).f0 = 1
      · rw [c1] at hx0
        go_wp2_with fail
        go_region_held3 (fun wx => wx.cell? (ad.add (k * 4)) = some (.int .i64 1) ∧ wx.cell? ⟨(ad.add (k * 4)).block, (ad.add (k * 4)).off + 1, none⟩ = some (.string (rd_TGOp l k).f1) ∧ wx.cell? ⟨(ad.add (k * 4)).block, (ad.add (k * 4)).off + 2, none⟩ = some (.string (rd_TGOp l k).f2) ∧ wx.cell? ⟨(ad.add (k * 4)).block, (ad.add (k * 4)).off + 3, none⟩ = some (.int .u64 (rd_TGOp l k).f3)) (go_keep) ((go_at_call 26; refine (own_update w _ w.heap.size id _ _ Ho.out.drew).mono ?_; rintro e wq ⟨⟨r, rfl⟩, ho⟩; have HQ := Aside0.mk ho; clear ho; have q := ops_later HC.out HQ.out.bel k hlt; rw [c1] at q; obtain ⟨q0, q1, q2, q3⟩ := q))
        all_goals
          go_wp2
          go_roundg (gk - 1)
          case measure => have := Hk.out; omega
          case rel => exact ⟨k + 1, ⟨by have := Hk.out; omega⟩, by simp, by omega, HQ⟩
      by_cases c2 : (rd_TGOp l k).f0 = 2
      · rw [c2] at hx0
        go_wp2_with fail
        refine (own_delete w _ w.heap.size id _ Ho.out).mono ?_
        rintro e wq ⟨⟨r, rfl⟩, HQ⟩
        have HQ := Aside0.mk HQ
        go_wp2
        go_roundg (gk - 1)
        case measure => have := Hk.out; omega
        case rel => exact ⟨k + 1, ⟨by have := Hk.out; omega⟩, by simp, by omega, HQ⟩
      by_cases c4 : (rd_TGOp l k).f0 = 4
      · rw [c4] at hx0
        go_wp2_with fail
        refine (own_stamp w _ w.heap.size id _ Ho.out hwk.1 hwk.2).mono ?_
        rintro e wq ⟨rfl, HQ⟩
        have HQ := Aside0.mk HQ
        go_wp2
        go_roundg (gk - 1)
        case measure => have := Hk.out; omega
        case rel => exact ⟨k + 1, ⟨by have := Hk.out; omega⟩, by simp, by omega, HQ⟩
      · go_wp2
        go_roundg (gk - 1)
        case measure => have := Hk.out; omega
        case rel => exact ⟨k + 1, ⟨by have := Hk.out; omega⟩, by simp, by omega, Ho⟩
    · by_cases hkl2 : k < l.length
      · have h100 : ¬ k < 100 := fun h => hend ⟨hkl2, h⟩
        go_wp2
        go_ret
        exact ⟨_, rfl, Ho.out⟩
      · go_wp2
        go_ret
        exact ⟨_, rfl, Ho.out⟩
end Go.Proofs.Ytidkdbohkbfhbaa
