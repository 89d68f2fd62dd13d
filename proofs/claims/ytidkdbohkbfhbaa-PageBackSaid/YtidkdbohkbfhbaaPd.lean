/- PLAIN: a page's bytes read back: numbers, slots, cells. -/
import Derived.Test.YtidkdbohkbfhbaaPb
import Derived.Test.YtidkdbohkbfhbaaPv
namespace Go.Proofs.Ytidkdbohkbfhbaa
open Go.RowKit Go.Proofs.YtidkdbohkbfhbaaW.PrintWords Go.Proofs.YtidkdbohkbfhbaaW.PrintLast Go.Proofs.YtidkdbohkbfhbaaW.PrintMore
open Rf
set_option linter.unusedVariables false
set_option linter.unusedSimpArgs false

/-- The number that bytes are, the lowest first. -/
def val : List UInt8 → Nat
  | [] => 0
  | x :: r => x.toNat + 256 * val r
def rdN (b : List UInt8) (o m : Nat) : Nat := val ((b.drop o).take m)
theorem le_cons (x m : Nat) : le x (m + 1) = UInt8.ofNat x :: le (x / 256) m := by
  unfold le
  rw [List.range_succ_eq_map, List.map_cons, List.map_map]
  congr 1
  · simp
  · apply List.map_congr_left
    intro i _
    show UInt8.ofNat (x / 2 ^ (8 * (i + 1))) = UInt8.ofNat (x / 256 / 2 ^ (8 * i))
    rw [Nat.div_div_eq_div_mul, show 2 ^ (8 * (i + 1)) = 256 * 2 ^ (8 * i) from by rw [Nat.mul_add, Nat.pow_add]; omega]
theorem val_le (m x : Nat) (h : x < 256 ^ m) : val (le x m) = x := by
  induction m generalizing x with
  | zero => simp [le, val]; simp at h; omega
  | succ m ih =>
    rw [le_cons, val, ih (x / 256) (by rw [Nat.div_lt_iff_lt_mul (by omega)]; rwa [Nat.pow_succ] at h)]
    have : (UInt8.ofNat x).toNat = x % 256 := rfl
    omega
theorem val_lt (l : List UInt8) : val l < 256 ^ l.length := by
  induction l with
  | nil => simp [val]
  | cons x r ih =>
    rw [val, List.length_cons, Nat.pow_succ]
    have := x.toNat_lt
    omega
theorem val_append (a b : List UInt8) : val (a ++ b) = val a + 256 ^ a.length * val b := by
  induction a with
  | nil => simp [val]
  | cons x r ih =>
    rw [List.cons_append, val, ih, val, List.length_cons, Nat.pow_succ, Nat.mul_comm (256 ^ r.length) 256, Nat.mul_add, Nat.mul_assoc, Nat.add_assoc]
theorem le_val' (l : List UInt8) : le (val l) l.length = l := by
  induction l with
  | nil => rfl
  | cons x r ih =>
    rw [List.length_cons, le_cons, val]
    have hx := x.toNat_lt
    rw [show (x.toNat + 256 * val r) / 256 = val r from by omega, ih]
    congr 1
    apply UInt8.toNat_inj.1
    show (x.toNat + 256 * val r) % 256 = x.toNat
    omega
/-- What stands at a place of a row of parts. -/
theorem rdN_at (a c r : List UInt8) (o m : Nat) (ho : a.length = o) (hm : c.length = m) : rdN (a ++ (c ++ r)) o m = val c := by
  unfold rdN
  rw [List.drop_left' ho, List.take_left' hm]
theorem slotsB_split (a : List SGCell) (c : SGCell) (r : List SGCell) (e : Nat) : slotsB (a ++ c :: r) e = slotsB a e ++ (slotB c (e - tot a - csz c) ++ slotsB r (e - tot a - csz c)) := by
  induction a generalizing e with
  | nil => simp [slotsB, tot_nil]
  | cons d s ih =>
    simp only [List.cons_append, slotsB, ih, tot_cons, List.append_assoc]
    rw [show e - csz d - tot s = e - (csz d + tot s) from by omega]
theorem cellsB_split (a : List SGCell) (c : SGCell) (r : List SGCell) : cellsB (a ++ c :: r) = cellsB r ++ (cellB c ++ cellsB a) := by
  induction a with
  | nil => simp [cellsB]
  | cons d s ih => simp only [List.cons_append, cellsB, ih, List.append_assoc]
/-- The parts of a page's bytes about one cell. -/
theorem pgB_slot (id lsn : Nat) (a : List SGCell) (c : SGCell) (r : List SGCell) : pgB id lsn (a ++ c :: r) =
    (le (Crc.sum (bodyB id lsn (a ++ c :: r))) 4 ++ hdB id lsn (a ++ c :: r).length ++ slotsB a 512) ++ (slotB c (512 - tot a - csz c) ++
      (slotsB r (512 - tot a - csz c) ++ List.replicate (496 - 4 * (a ++ c :: r).length - tot (a ++ c :: r)) 0 ++ cellsB (a ++ c :: r))) := by
  unfold pgB
  conv => lhs; rhs; unfold bodyB layB; rw [slotsB_split]
  simp only [List.append_assoc]
theorem pgB_cell (id lsn : Nat) (a : List SGCell) (c : SGCell) (r : List SGCell) : pgB id lsn (a ++ c :: r) =
    (le (Crc.sum (bodyB id lsn (a ++ c :: r))) 4 ++ hdB id lsn (a ++ c :: r).length ++ slotsB (a ++ c :: r) 512 ++ List.replicate (496 - 4 * (a ++ c :: r).length - tot (a ++ c :: r)) 0 ++ cellsB r) ++ (cellB c ++ cellsB a) := by
  unfold pgB
  conv => lhs; rhs; unfold bodyB layB; rw [cellsB_split]
  simp only [List.append_assoc]
theorem pgB_lsn (id lsn : Nat) (cs : List SGCell) (h : lsn < 18446744073709551616) : rdN (pgB id lsn cs) 4 8 = lsn := by
  have e : pgB id lsn cs = le (Crc.sum (bodyB id lsn cs)) 4 ++ (le lsn 8 ++ (le id 2 ++ le cs.length 2 ++ layB cs)) := by
    unfold pgB bodyB hdB; simp only [List.append_assoc]
  rw [e, rdN_at _ _ _ 4 8 (le_length _ _) (le_length _ _), val_le 8 lsn (by simpa using h)]
theorem pgB_id (id lsn : Nat) (cs : List SGCell) (h : id < 65536) : rdN (pgB id lsn cs) 12 2 = id := by
  have e : pgB id lsn cs = (le (Crc.sum (bodyB id lsn cs)) 4 ++ le lsn 8) ++ (le id 2 ++ (le cs.length 2 ++ layB cs)) := by
    unfold pgB bodyB hdB; simp only [List.append_assoc]
  rw [e, rdN_at _ _ _ 12 2 (by rw [List.length_append, le_length, le_length]) (le_length _ _), val_le 2 id (by simpa using h)]
theorem pgB_n (id lsn : Nat) (cs : List SGCell) (h : cs.length < 65536) : rdN (pgB id lsn cs) 14 2 = cs.length := by
  have e : pgB id lsn cs = (le (Crc.sum (bodyB id lsn cs)) 4 ++ le lsn 8 ++ le id 2) ++ (le cs.length 2 ++ layB cs) := by
    unfold pgB bodyB hdB; simp only [List.append_assoc]
  rw [e, rdN_at _ _ _ 14 2 (by rw [List.length_append, List.length_append, le_length, le_length, le_length]) (le_length _ _), val_le 2 _ (by simpa using h)]
/-- A cell read out of bytes: where it begins, how long it is. -/
def cellAt (b : List UInt8) (o long : Nat) : SGCell :=
  if long = 0 then zGCell else
    let k := 1 + (b.getD o 0).toNat
    ⟨true, ⟨((b.drop (o + 1)).take (k - 1)).toArray⟩, ⟨((b.drop (o + k)).take (long - k)).toArray⟩⟩
def slotAt (b : List UInt8) (i : Nat) : SGCell := cellAt b (rdN b (16 + 4 * i) 2) (rdN b (16 + 4 * i + 2) 2)
/-- May a cell be read there? -/
def cellOk (b : List UInt8) (o long : Nat) : Prop := long = 0 ∨ (o + long ≤ b.length ∧ 1 + (b.getD o 0).toNat ≤ long)
theorem slot_used (id lsn : Nat) (a : List SGCell) (c : SGCell) (r : List SGCell) (hc : c.f0 = true) (hs : csz c < 65536) :
    rdN (pgB id lsn (a ++ c :: r)) (16 + 4 * a.length) 2 = 512 - tot a - csz c ∧ rdN (pgB id lsn (a ++ c :: r)) (16 + 4 * a.length + 2) 2 = csz c := by
  have hsl : slotB c (512 - tot a - csz c) = le (512 - tot a - csz c) 2 ++ le (csz c) 2 := by unfold slotB; rw [if_pos hc]
  have hA : (le (Crc.sum (bodyB id lsn (a ++ c :: r))) 4 ++ hdB id lsn (a ++ c :: r).length ++ slotsB a 512).length = 16 + 4 * a.length := by
    simp only [List.length_append, le_length, hdB_length, slotsB_length]
  rw [pgB_slot, hsl]
  constructor
  · rw [List.append_assoc (le (512 - tot a - csz c) 2), rdN_at _ _ _ _ 2 hA (le_length _ _), val_le 2 _ (by omega)]
  · rw [List.append_assoc (le (512 - tot a - csz c) 2), ← List.append_assoc _ (le (512 - tot a - csz c) 2), rdN_at _ _ _ _ 2 (by rw [List.length_append, hA, le_length]) (le_length _ _), val_le 2 _ (by omega)]
theorem slot_free (id lsn : Nat) (a : List SGCell) (c : SGCell) (r : List SGCell) (hc : c.f0 = false) :
    rdN (pgB id lsn (a ++ c :: r)) (16 + 4 * a.length) 2 = 0 ∧ rdN (pgB id lsn (a ++ c :: r)) (16 + 4 * a.length + 2) 2 = 0 := by
  have hsl : slotB c (512 - tot a - csz c) = [0, 0] ++ [0, 0] := by unfold slotB; rw [if_neg (by rw [hc]; simp)]; rfl
  have hA : (le (Crc.sum (bodyB id lsn (a ++ c :: r))) 4 ++ hdB id lsn (a ++ c :: r).length ++ slotsB a 512).length = 16 + 4 * a.length := by
    simp only [List.length_append, le_length, hdB_length, slotsB_length]
  rw [pgB_slot, hsl]
  constructor
  · rw [List.append_assoc [0, 0], rdN_at _ _ _ _ 2 hA rfl]; rfl
  · rw [List.append_assoc [0, 0], ← List.append_assoc _ [0, 0], rdN_at _ _ _ _ 2 (by rw [List.length_append, hA]; rfl) rfl]; rfl
theorem cell_back (A R : List UInt8) (c : SGCell) (hc : c.f0 = true) (hk : c.f1.size < 256) : cellAt (A ++ (cellB c ++ R)) A.length (csz c) = c ∧ cellOk (A ++ (cellB c ++ R)) A.length (csz c) := by
  have hcz : csz c = 1 + c.f1.size + c.f2.size := by unfold csz; rw [if_pos hc]
  have hcb : cellB c = UInt8.ofNat c.f1.size :: (c.f1.data.toList ++ c.f2.data.toList) := by unfold cellB; rw [if_pos hc]
  have hl1 : c.f1.data.toList.length = c.f1.size := data_length _
  have hl2 : c.f2.data.toList.length = c.f2.size := data_length _
  have hg : ((A ++ (cellB c ++ R)).getD A.length 0).toNat = c.f1.size := by
    rw [hcb, List.getD_eq_getElem?_getD, List.getElem?_append_right (Nat.le_refl _), Nat.sub_self, List.cons_append, List.getElem?_cons_zero]
    show c.f1.size % 256 = c.f1.size
    omega
  constructor
  · unfold cellAt
    rw [if_neg (by omega), hg, hcb]
    dsimp only
    have e1 : A ++ (UInt8.ofNat c.f1.size :: (c.f1.data.toList ++ c.f2.data.toList) ++ R) = (A ++ [UInt8.ofNat c.f1.size]) ++ (c.f1.data.toList ++ (c.f2.data.toList ++ R)) := by simp
    have e2 : A ++ (UInt8.ofNat c.f1.size :: (c.f1.data.toList ++ c.f2.data.toList) ++ R) = (A ++ [UInt8.ofNat c.f1.size] ++ c.f1.data.toList) ++ (c.f2.data.toList ++ R) := by simp
    have h1 : ((A ++ (UInt8.ofNat c.f1.size :: (c.f1.data.toList ++ c.f2.data.toList) ++ R)).drop (A.length + 1)).take (1 + c.f1.size - 1) = c.f1.data.toList := by
      rw [e1, List.drop_left' (by simp), List.take_left' (by omega)]
    have h2 : ((A ++ (UInt8.ofNat c.f1.size :: (c.f1.data.toList ++ c.f2.data.toList) ++ R)).drop (A.length + (1 + c.f1.size))).take (csz c - (1 + c.f1.size)) = c.f2.data.toList := by
      rw [e2, List.drop_left' (by simp [hl1]; omega), List.take_left' (by omega)]
    rw [h1, h2]
    obtain ⟨u, k, v⟩ := c
    dsimp only at hc
    subst hc
    rfl
  · right
    rw [hg, List.length_append, List.length_append, cellB_length]
    omega
/-- A page's slots and cells, read back. -/
theorem slotAt_pgB (id lsn : Nat) {cs : List SGCell} (hv : Valid cs) (i : Nat) (hi : i < cs.length) :
    slotAt (pgB id lsn cs) i = cs[i] ∧ cellOk (pgB id lsn cs) (rdN (pgB id lsn cs) (16 + 4 * i) 2) (rdN (pgB id lsn cs) (16 + 4 * i + 2) 2) := by
  have hr4 := hv.room4
  have hmem : cs[i] ∈ cs := List.getElem_mem hi
  have hmay := hv.may _ hmem
  have hzero := hv.zero _ hmem
  have hcs : cs = cs.take i ++ cs[i] :: cs.drop (i + 1) := by rw [← List.drop_eq_getElem_cons hi, List.take_append_drop]
  have hil : (cs.take i).length = i := by rw [List.length_take]; omega
  generalize cs[i] = c at *
  generalize ha : cs.take i = a at *
  generalize cs.drop (i + 1) = r at *
  subst hil
  unfold slotAt
  cases hc : c.f0 with
  | false =>
    obtain ⟨s1, s2⟩ := slot_free id lsn a c r hc
    rw [← hcs] at s1 s2
    rw [s1, s2]
    exact ⟨by rw [hzero hc]; rfl, .inl rfl⟩
  | true =>
    have hm := (mayB_iff _ _).1 (hmay hc)
    have hcz : csz c = 1 + c.f1.size + c.f2.size := by unfold csz; rw [if_pos hc]
    obtain ⟨s1, s2⟩ := slot_used id lsn a c r hc (by omega)
    have htot : tot cs = tot a + (csz c + tot r) := by rw [hcs, tot_append, tot_cons]
    have hlen : (le (Crc.sum (bodyB id lsn (a ++ c :: r))) 4 ++ hdB id lsn (a ++ c :: r).length ++ slotsB (a ++ c :: r) 512 ++ List.replicate (496 - 4 * (a ++ c :: r).length - tot (a ++ c :: r)) 0 ++ cellsB r).length = 512 - tot a - csz c := by
      rw [← hcs]
      simp only [List.length_append, le_length, hdB_length, slotsB_length, List.length_replicate, cellsB_length]
      omega
    have hb := cell_back (R := cellsB a) (c := c) (hc := hc) (hk := by omega) (A := le (Crc.sum (bodyB id lsn (a ++ c :: r))) 4 ++ hdB id lsn (a ++ c :: r).length ++ slotsB (a ++ c :: r) 512 ++ List.replicate (496 - 4 * (a ++ c :: r).length - tot (a ++ c :: r)) 0 ++ cellsB r)
    rw [← pgB_cell, hlen] at hb
    rw [← hcs] at s1 s2 hb
    rw [s1, s2]
    exact hb
/-- The first n slots' cells. -/
def dec (b : List UInt8) (n : Nat) : List SGCell := (List.range n).map (slotAt b)
theorem dec_length (b : List UInt8) (n : Nat) : (dec b n).length = n := by simp [dec]
theorem dec_succ (b : List UInt8) (n : Nat) : dec b (n + 1) = dec b n ++ [slotAt b n] := by simp [dec, List.range_succ]
theorem dec_pgB (id lsn : Nat) {cs : List SGCell} (hv : Valid cs) : dec (pgB id lsn cs) cs.length = cs := by
  apply List.ext_getElem (by rw [dec_length])
  intro i h1 h2
  simp only [dec, List.getElem_map, List.getElem_range]
  exact (slotAt_pgB id lsn hv i h2).1
/-- A page's bytes tell what it has. -/
theorem pgB_inj {id lsn id' lsn' : Nat} {cs cs' : List SGCell} (hv : Valid cs) (hv' : Valid cs') (hi : id < 65536) (hi' : id' < 65536) (hl : lsn < 18446744073709551616) (hl' : lsn' < 18446744073709551616) (h : pgB id lsn cs = pgB id' lsn' cs') : id = id' ∧ lsn = lsn' ∧ cs = cs' := by
  have h1 := pgB_id id lsn cs hi
  have h2 := pgB_lsn id lsn cs hl
  have h3 := pgB_n id lsn cs (by have := hv.len; omega)
  rw [h, pgB_id id' lsn' cs' hi'] at h1
  rw [h, pgB_lsn id' lsn' cs' hl'] at h2
  rw [h, pgB_n id' lsn' cs' (by have := hv'.len; omega)] at h3
  refine ⟨h1.symm, h2.symm, ?_⟩
  have h4 := dec_pgB id lsn hv
  rw [h, ← h3, dec_pgB id' lsn' hv'] at h4
  exact h4.symm
theorem slotAt_free (b : List UInt8) (i : Nat) (h : (slotAt b i).f0 = false) : slotAt b i = zGCell := by
  unfold slotAt cellAt at h ⊢
  split
  · rfl
  · rename_i hn
    rw [if_neg hn] at h
    exact absurd h (by simp)
/-- Cells that were read are a page's, where the program's own test says so. -/
theorem dec_valid (b : List UInt8) (n : Nat) (hn : n ≤ 64) (hm : ∀ c ∈ dec b n, c.f0 = true → mayB c.f1 c.f2 = true) (ho : (dec b n).Pairwise fun a b => a.f0 = true → b.f0 = true → a.f1 ≠ b.f1)
    (hl : ∀ c, (dec b n).getLast? = some c → c.f0 = true) (hr : 0 ≤ free (dec b n)) : Valid (dec b n) := by
  refine ⟨by rw [dec_length]; exact hn, hm, fun c hc hf => ?_, ho, hl, hr⟩
  obtain ⟨i, _, rfl⟩ := List.mem_map.1 hc
  exact slotAt_free b i hf
theorem pgB_sum (id lsn : Nat) (cs : List SGCell) (h : 4 * cs.length + tot cs ≤ 496) : (pgB id lsn cs).drop 4 = bodyB id lsn cs ∧ (pgB id lsn cs).take 4 = le (Crc.sum ((pgB id lsn cs).drop 4)) 4 := by
  have e : (pgB id lsn cs).drop 4 = bodyB id lsn cs := by unfold pgB; rw [List.drop_left' (le_length _ _)]
  refine ⟨e, ?_⟩
  rw [e]
  unfold pgB
  rw [List.take_left' (le_length _ _)]
end Go.Proofs.Ytidkdbohkbfhbaa
