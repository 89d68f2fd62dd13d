/- PLAIN: a page's bytes. -/
import Derived.Test.YtidkdbohkbfhbaaPg
import Derived.Test.YtidkdbohkbfhbaaCrc
namespace Go.Proofs.Ytidkdbohkbfhbaa
open Go.RowKit Go.Proofs.YtidkdbohkbfhbaaW.PrintWords Go.Proofs.YtidkdbohkbfhbaaW.PrintLast Go.Proofs.YtidkdbohkbfhbaaW.PrintMore
open Rf
set_option linter.unusedVariables false
set_option linter.unusedSimpArgs false

/-- A number's lowest bytes, the lowest first. -/
def le (x : Nat) (m : Nat) : List UInt8 := (List.range m).map fun i => UInt8.ofNat (x / 2 ^ (8 * i))
theorem le_length (x m : Nat) : (le x m).length = m := by simp [le]
theorem le_succ (x m : Nat) : le x (m + 1) = le x m ++ [UInt8.ofNat (x / 2 ^ (8 * m))] := by simp [le, List.range_succ]
/-- L with cs from off on. -/
def put (L : List UInt8) (off : Nat) (cs : List UInt8) : List UInt8 := L.take off ++ (cs ++ L.drop (off + cs.length))
theorem put_length (L : List UInt8) (off : Nat) (cs : List UInt8) (h : off + cs.length ≤ L.length) : (put L off cs).length = L.length := by
  simp [put]; omega
theorem put_nil (L : List UInt8) (off : Nat) : put L off [] = L := by simp [put]
theorem put_snoc (L : List UInt8) (off : Nat) (cs : List UInt8) (x : UInt8) (h : off + cs.length < L.length) : (put L off cs).set (off + cs.length) x = put L off (cs ++ [x]) := by
  unfold put
  have h1 : (L.take off).length = off := by rw [List.length_take]; omega
  rw [List.set_append_right _ _ (by omega), h1, Nat.add_sub_cancel_left, List.set_append_right _ _ (Nat.le_refl _), Nat.sub_self, List.drop_eq_getElem_cons h, List.set_cons_zero]
  simp [Nat.add_assoc]
theorem le_val (x i : Nat) : (x : Int) / 2 ^ (8 * i) % 256 = (((UInt8.ofNat (x / 2 ^ (8 * i))).toNat : Nat) : Int) := by
  have h : (UInt8.ofNat (x / 2 ^ (8 * i))).toNat = x / 2 ^ (8 * i) % 256 := rfl
  rw [h, Int.natCast_emod, Int.natCast_ediv, Int.natCast_pow]
  rfl


theorem put_one (L : List UInt8) (off : Nat) (x : UInt8) (h : off < L.length) : L.set off x = put L off [x] := by
  have := put_snoc L off [] x (by simpa using h)
  rw [put_nil] at this
  simpa using this
theorem put_put (L : List UInt8) (off : Nat) (cs ds : List UInt8) (h : off + cs.length + ds.length ≤ L.length) : put (put L off cs) (off + cs.length) ds = put L off (cs ++ ds) := by
  unfold put
  have h1 : (L.take off).length = off := by rw [List.length_take]; omega
  rw [← List.append_assoc (L.take off) cs, List.take_left' (by rw [List.length_append, h1])]
  rw [List.append_assoc (L.take off) cs, List.drop_append, List.drop_append, h1]
  rw [List.drop_eq_nil_of_le (by rw [h1]; omega), List.drop_eq_nil_of_le (by omega), List.nil_append, List.nil_append, List.drop_drop]
  simp only [List.append_assoc, List.length_append, h1]
  congr 4
  omega
theorem put_front (A B : List UInt8) (z : Nat) (cs : List UInt8) (h : cs.length ≤ z) : put (A ++ List.replicate z 0 ++ B) A.length cs = (A ++ cs) ++ List.replicate (z - cs.length) 0 ++ B := by
  unfold put
  rw [List.append_assoc A, List.take_left, List.drop_append, List.drop_eq_nil_of_le (by omega), List.nil_append, Nat.add_sub_cancel_left, List.drop_append, List.drop_replicate, List.length_replicate]
  rw [show cs.length - z = 0 by omega, List.drop_zero]
  simp only [List.append_assoc]
theorem put_back (A B : List UInt8) (z : Nat) (cs : List UInt8) (h : cs.length ≤ z) : put (A ++ List.replicate z 0 ++ B) (A.length + z - cs.length) cs = A ++ List.replicate (z - cs.length) 0 ++ (cs ++ B) := by
  unfold put
  have e : A ++ List.replicate z 0 ++ B = (A ++ List.replicate (z - cs.length) 0) ++ (List.replicate cs.length 0 ++ B) := by
    simp only [List.append_assoc]
    rw [← List.append_assoc (List.replicate (z - cs.length) (0 : UInt8)), List.replicate_append_replicate, Nat.sub_add_cancel h]
  have hl : (A ++ List.replicate (z - cs.length) 0).length = A.length + z - cs.length := by rw [List.length_append, List.length_replicate]; omega
  rw [e, List.take_left' hl, List.drop_append, List.drop_eq_nil_of_le (by omega), List.nil_append, hl, Nat.add_sub_cancel_left, List.drop_left' (by rw [List.length_replicate])]

/-- A cell's bytes. -/
def cellB (c : SGCell) : List UInt8 := if c.f0 = true then UInt8.ofNat c.f1.size :: (c.f1.data.toList ++ c.f2.data.toList) else []
theorem cellB_length (c : SGCell) : (cellB c).length = csz c := by
  unfold cellB csz
  split
  · rw [List.length_cons, List.length_append, data_length, data_length]; omega
  · rfl
def slotB (c : SGCell) (e : Nat) : List UInt8 := if c.f0 = true then le e 2 ++ le (csz c) 2 else [0, 0, 0, 0]
theorem slotB_length (c : SGCell) (e : Nat) : (slotB c e).length = 4 := by
  unfold slotB; split
  · rw [List.length_append, le_length, le_length]
  · rfl
/-- The slots, the cells' end at first being e. -/
def slotsB : List SGCell → Nat → List UInt8
  | [], _ => []
  | c :: r, e => slotB c (e - csz c) ++ slotsB r (e - csz c)
theorem slotsB_length (cs : List SGCell) (e : Nat) : (slotsB cs e).length = 4 * cs.length := by
  induction cs generalizing e with
  | nil => rfl
  | cons c r ih => simp only [slotsB, List.length_append, slotB_length, ih, List.length_cons]; omega
theorem slotsB_snoc (cs : List SGCell) (c : SGCell) (e : Nat) : slotsB (cs ++ [c]) e = slotsB cs e ++ slotB c (e - tot cs - csz c) := by
  induction cs generalizing e with
  | nil => simp [slotsB, tot_nil]
  | cons d r ih => simp only [List.cons_append, slotsB, ih, tot_cons, List.append_assoc]; congr 3; omega
def cellsB : List SGCell → List UInt8
  | [] => []
  | c :: r => cellsB r ++ cellB c
theorem cellsB_length (cs : List SGCell) : (cellsB cs).length = tot cs := by
  induction cs with
  | nil => rfl
  | cons c r ih => simp only [cellsB, List.length_append, ih, cellB_length, tot_cons]; omega
theorem cellsB_snoc (cs : List SGCell) (c : SGCell) : cellsB (cs ++ [c]) = cellB c ++ cellsB cs := by
  induction cs with
  | nil => simp [cellsB]
  | cons d r ih => simp only [List.cons_append, cellsB, ih, List.append_assoc]
/-- Slots, noughts, cells. -/
def layB (cs : List SGCell) : List UInt8 := slotsB cs 512 ++ List.replicate (496 - 4 * cs.length - tot cs) 0 ++ cellsB cs
theorem layB_length (cs : List SGCell) (h : 4 * cs.length + tot cs ≤ 496) : (layB cs).length = 496 := by
  simp only [layB, List.length_append, slotsB_length, List.length_replicate, cellsB_length]; omega
def hdB (id lsn n : Nat) : List UInt8 := le lsn 8 ++ le id 2 ++ le n 2
theorem hdB_length (id lsn n : Nat) : (hdB id lsn n).length = 12 := by simp [hdB, le_length]
/-- What stands behind the sum. -/
def bodyB (id lsn : Nat) (cs : List SGCell) : List UInt8 := hdB id lsn cs.length ++ layB cs
theorem bodyB_length (id lsn : Nat) (cs : List SGCell) (h : 4 * cs.length + tot cs ≤ 496) : (bodyB id lsn cs).length = 508 := by
  rw [bodyB, List.length_append, hdB_length, layB_length cs h]
/-- A page's bytes. -/
def pgB (id lsn : Nat) (cs : List SGCell) : List UInt8 := le (Crc.sum (bodyB id lsn cs)) 4 ++ bodyB id lsn cs
theorem pgB_length (id lsn : Nat) (cs : List SGCell) (h : 4 * cs.length + tot cs ≤ 496) : (pgB id lsn cs).length = 512 := by
  rw [pgB, List.length_append, le_length, bodyB_length id lsn cs h]

/-! The buffer as Bytes fills it. -/
def bufB (id lsn n : Nat) (cs : List SGCell) : List UInt8 := List.replicate 4 0 ++ hdB id lsn n ++ layB cs
theorem bufB_start (id lsn n : Nat) : put (put (put (List.replicate 512 0) 4 (le lsn 8)) 12 (le id 2)) 14 (le n 2) = bufB id lsn n [] := by
  have e0 : (List.replicate 512 (0 : UInt8)) = List.replicate 4 0 ++ List.replicate 508 0 ++ [] := by rw [List.append_nil, List.replicate_append_replicate]
  have e1 := put_front (List.replicate 4 0) [] 508 (le lsn 8) (by rw [le_length]; omega)
  rw [List.length_replicate, ← e0, le_length] at e1
  have e2 := put_front (List.replicate 4 0 ++ le lsn 8) [] 500 (le id 2) (by rw [le_length]; omega)
  rw [List.length_append, List.length_replicate, le_length, le_length] at e2
  have e3 := put_front (List.replicate 4 0 ++ le lsn 8 ++ le id 2) [] 498 (le n 2) (by rw [le_length]; omega)
  simp only [List.length_append, List.length_replicate, le_length] at e3
  rw [e1, e2, e3]
  simp only [bufB, hdB, layB, slotsB, cellsB, tot_nil, List.nil_append, List.append_nil, List.append_assoc, List.length_nil]
theorem bufB_pre (id lsn n : Nat) (cs : List SGCell) : bufB id lsn n cs = (List.replicate 4 0 ++ hdB id lsn n ++ slotsB cs 512) ++ List.replicate (496 - 4 * cs.length - tot cs) 0 ++ cellsB cs := by
  simp only [bufB, layB, List.append_assoc]
theorem bufB_length (id lsn n : Nat) (cs : List SGCell) (h : 4 * cs.length + tot cs ≤ 496) : (bufB id lsn n cs).length = 512 := by
  simp only [bufB, List.length_append, List.length_replicate, hdB_length, layB_length cs h]
/-- A slot that is free. -/
theorem bufB_free (id lsn n : Nat) (cs : List SGCell) (c : SGCell) (hc : c.f0 = false) (h : 4 * (cs.length + 1) + tot cs ≤ 496) : bufB id lsn n (cs ++ [c]) = bufB id lsn n cs := by
  have hz : csz c = 0 := by unfold csz; rw [if_neg (by rw [hc]; simp)]
  rw [bufB_pre, bufB_pre, slotsB_snoc, cellsB_snoc, tot_append, tot_cons, tot_nil, hz]
  have hs : slotB c (512 - tot cs - 0) = List.replicate 4 0 := by unfold slotB; rw [if_neg (by rw [hc]; simp)]; rfl
  have hb : cellB c = [] := by unfold cellB; rw [if_neg (by rw [hc]; simp)]
  rw [hs, hb, List.nil_append, List.length_append, List.length_singleton]
  have e : List.replicate (496 - 4 * cs.length - tot cs) (0 : UInt8) = List.replicate 4 0 ++ List.replicate (496 - 4 * (cs.length + 1) - (tot cs + (0 + 0))) 0 := by
    rw [List.replicate_append_replicate]; congr 1; omega
  rw [e]
  simp only [List.append_assoc]
/-- One that isn't: its place, its length, its cell. -/
theorem bufB_used (id lsn n : Nat) (cs : List SGCell) (c : SGCell) (hc : c.f0 = true) (h : 4 * (cs.length + 1) + tot cs + csz c ≤ 496) :
    put (put (put (bufB id lsn n cs) (16 + 4 * cs.length) (le (512 - tot cs - csz c) 2)) (16 + 4 * cs.length + 2) (le (csz c) 2)) (512 - tot cs - csz c) (cellB c) = bufB id lsn n (cs ++ [c]) := by
  have hA : (List.replicate 4 0 ++ hdB id lsn n ++ slotsB cs 512).length = 16 + 4 * cs.length := by
    simp only [List.length_append, List.length_replicate, hdB_length, slotsB_length]
  have hs : slotB c (512 - tot cs - csz c) = le (512 - tot cs - csz c) 2 ++ le (csz c) 2 := by unfold slotB; rw [if_pos hc]
  have e1 := put_put (bufB id lsn n cs) (16 + 4 * cs.length) (le (512 - tot cs - csz c) 2) (le (csz c) 2) (by rw [bufB_length _ _ _ _ (by omega), le_length, le_length]; omega)
  rw [le_length] at e1
  rw [e1, ← hs, bufB_pre]
  have e2 := put_front (List.replicate 4 0 ++ hdB id lsn n ++ slotsB cs 512) (cellsB cs) (496 - 4 * cs.length - tot cs) (slotB c (512 - tot cs - csz c)) (by rw [slotB_length]; omega)
  rw [hA, slotB_length] at e2
  rw [e2]
  have e3 := put_back ((List.replicate 4 0 ++ hdB id lsn n ++ slotsB cs 512) ++ slotB c (512 - tot cs - csz c)) (cellsB cs) (496 - 4 * cs.length - tot cs - 4) (cellB c) (by rw [cellB_length]; omega)
  rw [List.length_append, hA, slotB_length, cellB_length, show 16 + 4 * cs.length + 4 + (496 - 4 * cs.length - tot cs - 4) - csz c = 512 - tot cs - csz c by omega] at e3
  rw [e3, bufB_pre, slotsB_snoc, cellsB_snoc, tot_append, tot_cons, tot_nil, List.length_append, List.length_singleton]
  simp only [List.append_assoc]
  rw [show 496 - 4 * cs.length - tot cs - 4 - csz c = 496 - 4 * (cs.length + 1) - (tot cs + (csz c + 0)) by omega]
/-- The sum is laid last. -/
theorem bufB_end (id lsn : Nat) (cs : List SGCell) (h : 4 * cs.length + tot cs ≤ 496) :
    (bufB id lsn cs.length cs).drop 4 = bodyB id lsn cs ∧ put (bufB id lsn cs.length cs) 0 (le (Crc.sum (bodyB id lsn cs)) 4) = pgB id lsn cs := by
  have e : bufB id lsn cs.length cs = List.replicate 4 0 ++ bodyB id lsn cs := by simp only [bufB, bodyB, List.append_assoc]
  refine ⟨by rw [e]; rfl, ?_⟩
  rw [e]
  unfold put pgB
  rw [le_length, List.take_zero, List.nil_append]
  rfl
end Go.Proofs.Ytidkdbohkbfhbaa
