/- What Parse answers to a page's own bytes, under its id, under another one, and with one byte turned. -/
import Derived.Test.YtidkdbohkbfhbaaWz
namespace Go.Proofs.Ytidkdbohkbfhbaa
open Go.RowKit Go.Proofs.YtidkdbohkbfhbaaW.PrintWords Go.Proofs.YtidkdbohkbfhbaaW.PrintLast Go.Proofs.YtidkdbohkbfhbaaW.PrintMore
open Rf
set_option linter.unusedVariables false
set_option linter.unusedSimpArgs false
theorem le_inj {a b : Nat} (ha : a < 4294967296) (hb : b < 4294967296) (h : le a 4 = le b 4) : a = b := by
  have := congrArg val h
  rwa [val_le 4 a (by simpa using ha), val_le 4 b (by simpa using hb)] at this
theorem all_zero {L : List UInt8} (h : L.all (· == 0) = true) : L = List.replicate L.length 0 := by
  rw [List.eq_replicate_iff]
  refine ⟨rfl, fun x hx => ?_⟩
  have := List.all_eq_true.1 h x hx
  simpa using this
theorem zero_all (n : Nat) : (List.replicate n (0 : UInt8)).all (· == 0) = true := by
  rw [List.all_eq_true]
  intro x hx
  rw [(List.mem_replicate.1 hx).2]; rfl
theorem pg_sum (id lsn : Nat) {cs : List SGCell} (hv : Valid cs) : (pgB id lsn cs).take 4 = le (Crc.sum ((pgB id lsn cs).drop 4)) 4 := (pgB_sum id lsn cs hv.room4).2
theorem pg_some (id lsn : Nat) {cs : List SGCell} (hv : Valid cs) : (pgB id lsn cs).all (· == 0) = false := by
  cases h : (pgB id lsn cs).all (· == 0) with
  | false => rfl
  | true =>
    have hl := pgB_length id lsn cs hv.room4
    have hz := all_zero h
    rw [hl] at hz
    have hs := pg_sum id lsn hv
    rw [hz] at hs
    have e : (List.replicate 512 (0 : UInt8)).drop 4 = List.replicate 508 0 := by rw [List.drop_replicate]
    have e2 : (List.replicate 512 (0 : UInt8)).take 4 = le 0 4 := by rw [List.take_replicate]; rfl
    rw [e, e2] at hs
    exact absurd (le_inj (by decide) (Crc.sum_lt _) hs).symm Crc.sum_noughts
theorem parsed_self {w w' : World} {id lsn : Nat} {cs : List SGCell} {v : Value} {er : Int} (hv : Valid cs) (hi : id < 16) (hl : lsn < 18446744073709551616) (h : Parsed w w' id (pgB id lsn cs) v er) : er = 0 ∧ Made w w' id lsn cs v := by
  have hid : (0 : Int) ≤ (id : Int) ∧ (id : Int) < 16 := by omega
  rcases h.page hid (pgB_length id lsn cs hv.room4) (pg_some id lsn hv) (pg_sum id lsn hv) with ⟨lsn', cs', h1, h2, h3, h4, h5⟩ | ⟨h1, _⟩
  · rw [Int.toNat_natCast] at h3
    obtain ⟨_, rfl, rfl⟩ := pgB_inj h2 hv (by omega) (by omega) h1 hl h3
    exact ⟨h4, h5⟩
  · exact absurd ⟨lsn, cs, hl, hv, by rw [Int.toNat_natCast]⟩ h1
theorem parsed_other {w w' : World} {id : Nat} {id' : Int} {lsn : Nat} {cs : List SGCell} {v : Value} {er : Int} (hv : Valid cs) (hi : id < 16) (hl : lsn < 18446744073709551616) (h0 : 0 ≤ id') (h1 : id' < 16) (hne : id' ≠ id) (h : Parsed w w' id' (pgB id lsn cs) v er) : v = .pointer none ∧ er = 5 := by
  rcases h.page ⟨h0, h1⟩ (pgB_length id lsn cs hv.room4) (pg_some id lsn hv) (pg_sum id lsn hv) with ⟨lsn', cs', h2, h3, h4, _⟩ | ⟨_, h2⟩
  · have := (pgB_inj h3 hv (by omega) (by omega) h2 hl h4).1
    omega
  · exact h2
theorem set_apart {L : List UInt8} {j : Nat} (hj : j < L.length) (y : UInt8) : L = L.take j ++ L[j] :: L.drop (j + 1) ∧ L.set j y = L.take j ++ y :: L.drop (j + 1) := by
  refine ⟨?_, ?_⟩
  · conv => lhs; rw [← List.take_append_drop j L, List.drop_eq_getElem_cons hj]
  · rw [List.set_eq_take_append_cons_drop, if_pos hj]
theorem turned_sum {L : List UInt8} (hl : L.length = 512) (hs : L.take 4 = le (Crc.sum (L.drop 4)) 4) {j : Nat} (hj : j < 512) (y : UInt8) (hy : ∀ x, L[j]? = some x → x ≠ y) : (L.set j y).take 4 ≠ le (Crc.sum ((L.set j y).drop 4)) 4 := by
  have hjl : j < L.length := by omega
  have hne : L[j] ≠ y := hy _ (List.getElem?_eq_getElem hjl)
  by_cases h4 : j < 4
  · rw [List.drop_set_of_lt h4, ← hs]
    intro h
    have h2 : ((L.set j y).take 4)[j]? = (L.take 4)[j]? := by rw [h]
    rw [List.getElem?_take_of_lt h4, List.getElem?_take_of_lt h4, List.getElem?_set_self hjl, List.getElem?_eq_getElem hjl] at h2
    exact hne (Option.some.inj h2).symm
  · rw [List.take_set_of_le (by omega), hs]
    intro h
    have h2 := le_inj (Crc.sum_lt _) (Crc.sum_lt _) h
    obtain ⟨i, rfl⟩ : ∃ i, j = 4 + i := ⟨j - 4, by omega⟩
    have hd : (L.set (4 + i) y).drop 4 = (L.drop 4).set i y := by
      rw [List.drop_set]
      rw [if_neg (by omega)]
      congr 1
      omega
    rw [hd] at h2
    have hi : i < (L.drop 4).length := by rw [List.length_drop]; omega
    obtain ⟨e1, e2⟩ := set_apart hi y
    rw [e2] at h2
    have h3 : Crc.sum ((L.drop 4).take i ++ (L.drop 4)[i] :: (L.drop 4).drop (i + 1)) = Crc.sum ((L.drop 4).take i ++ y :: (L.drop 4).drop (i + 1)) := by rw [← e1]; exact h2
    have h5 := Crc.sum_one _ _ _ _ h3
    rw [List.getElem_drop] at h5
    exact hne h5
theorem parsed_turned {w w' : World} {id : Nat} {lsn : Nat} {cs : List SGCell} {v : Value} {er : Int} (hv : Valid cs) (hi : id < 16) {j : Nat} (hj : j < 512) (y : UInt8) (hy : ∀ x, (pgB id lsn cs)[j]? = some x → x ≠ y) (hz : ((pgB id lsn cs).set j y).all (· == 0) = false)
    (h : Parsed w w' id ((pgB id lsn cs).set j y) v er) : v = .pointer none ∧ er = 6 :=
  h.sum (by omega) (by rw [List.length_set]; exact pgB_length id lsn cs hv.room4) hz (turned_sum (pgB_length id lsn cs hv.room4) (pg_sum id lsn hv) hj y hy)
/-- A byte with one bit turned is another one. -/
theorem xor_ne (x : UInt8) (k : Nat) (hk : k < 8) : UInt8.ofNat (x.toNat ^^^ 2 ^ k) ≠ x := by
  intro h
  have h1 := congrArg UInt8.toNat h
  have hx := x.toNat_lt
  have h2 : x.toNat ^^^ 2 ^ k < 2 ^ 8 := Nat.xor_lt_two_pow hx (Nat.pow_lt_pow_right (by omega) hk)
  rw [UInt8.toNat_ofNat', Nat.mod_eq_of_lt h2] at h1
  have h3 : (x.toNat ^^^ 2 ^ k) ^^^ x.toNat = 0 := by rw [h1, Nat.xor_self]
  rw [Nat.xor_comm, ← Nat.xor_assoc, Nat.xor_self, Nat.zero_xor] at h3
  exact absurd h3 (Nat.ne_of_gt (Nat.two_pow_pos k))
end Go.Proofs.Ytidkdbohkbfhbaa
