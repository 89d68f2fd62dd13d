/- PLAIN: what the references' functions come to: numbers, cells, free bytes, sums. -/
import Derived.Test.YtidkdbohkbfhbaaRf0
import Derived.Test.YtidkdbohkbfhbaaPb
import Derived.Laws.BitsAllLaws
namespace Go.Proofs.Ytidkdbohkbfhbaa
open Go.RowKit Go.Proofs.YtidkdbohkbfhbaaW.PrintWords Go.Proofs.YtidkdbohkbfhbaaW.PrintLast Go.Proofs.YtidkdbohkbfhbaaW.PrintMore
open Rf
set_option linter.unusedVariables false
set_option linter.unusedSimpArgs false

/-- Bytes as a string. -/
def mkS (L : List UInt8) : ByteArray := ⟨L.toArray⟩
theorem mkS_data (L : List UInt8) : (mkS L).data.toList = L := rfl
theorem mkS_size (L : List UInt8) : (mkS L).size = L.length := rfl
theorem mkS_of (s : ByteArray) : mkS s.data.toList = s := by apply ByteArray.ext; simp [mkS]
theorem mkS_append (a b : List UInt8) : mkS a ++ mkS b = mkS (a ++ b) := by
  apply ByteArray.ext
  rw [ByteArray.data_append]
  apply Array.ext'
  simp [mkS]
theorem mkS_app (a : List UInt8) (s : ByteArray) : mkS a ++ s = mkS (a ++ s.data.toList) := by
  conv => lhs; rw [← mkS_of s]
  exact mkS_append _ _
theorem mkS_toList (L : List UInt8) : (mkS L).toList = L := by rw [ByteArray.toList_eq]; rfl
theorem mkS_inj {a b : List UInt8} (h : mkS a = mkS b) : a = b := by rw [← mkS_data a, h, mkS_data]
theorem strOfNums_one (x : Nat) : strOfNums [(((x % 256 : Nat)) : Int)] = mkS [UInt8.ofNat x] := by
  apply ByteArray.ext
  apply Array.ext'
  have h : UInt8.ofNat (((x % 256 : Nat) : Int)).toNat = UInt8.ofNat x := by apply UInt8.toNat_inj.1; show (((x % 256 : Nat) : Int)).toNat % 256 = x % 256; omega
  simp only [strOfNums, mkS, List.map_cons, List.map_nil, h]

theorem le_one (x : Nat) : le x 1 = [UInt8.ofNat x] := by simp [le]
theorem num_loop (x m : Nat) (hx : x < 18446744073709551616) (hm : m ≤ 100) (d : Nat) : ∀ i, i + d = m →
    Ev (fun k => flotillaref01_Num.l0 k ((x / 2 ^ (8 * i) : Nat) : Int) m (mkS (le x i)) i) (mkS (le x m)) := by
  induction d with
  | zero =>
    intro i hi
    obtain rfl : i = m := by omega
    refine Ev.step (f := fun _ => some (mkS (le x i))) (fun k => ?_) (Ev.now _)
    simp only [flotillaref01_Num.l0]
    rw [if_neg (by omega)]
  | succ d ih =>
    intro i hi
    refine Ev.step (fun k => ?_) (ih (i + 1) (by omega))
    simp only [flotillaref01_Num.l0]
    have hb : x / 2 ^ (8 * i) < 18446744073709551616 := Nat.lt_of_le_of_lt (Nat.div_le_self _ _) hx
    generalize hy : x / 2 ^ (8 * i) = y at hb
    have e1 : Int.tmod (y : Int) 256 % 256 = ((y % 256 : Nat) : Int) := by
      rw [Int.tmod_eq_emod_of_nonneg (by omega)]; omega
    have e2 : IntKind.u64.wrap (Int.tdiv (y : Int) 256) = ((x / 2 ^ (8 * (i + 1)) : Nat) : Int) := by
      rw [Int.tdiv_eq_ediv_of_nonneg (by omega), u64w (by omega) (by omega), show 8 * (i + 1) = 8 * i + 8 by omega, Nat.pow_add, ← Nat.div_div_eq_div_mul, hy]
      omega
    rw [if_pos (by omega), e1, Option.bind_some, strOfNums_one, mkS_append, mkS_size, mkS_size, le_length, List.length_singleton, if_pos (by omega), e2, w64 (by omega) (by omega), ← hy, ← le_succ]
    rfl
theorem num_ev (x m : Nat) (hx : x < 18446744073709551616) (hm : m ≤ 100) : Ev (fun k => flotillaref01_Num.f k x m) (mkS (le x m)) := by
  have := num_loop x m hx hm m 0 (by omega)
  simp only [Nat.mul_zero, Nat.pow_zero, Nat.div_one] at this
  exact this

theorem cell_ev (c : SGCell) (h1 : c.f1.size ≤ 1000) (h2 : c.f2.size ≤ 1000) : Ev (fun k => flotillaref06_Cell.f k c.f0 c.f1 c.f2) (mkS (cellB c)) := by
  unfold flotillaref06_Cell.f cellB
  by_cases hc : c.f0 = true
  · simp only [hc, if_true]
    have hn := num_ev c.f1.size 1 (by omega) (by omega)
    refine Ev.bind (a := mkS (le c.f1.size 1)) ?_ ?_
    · rw [u64w (by omega) (by omega)]; exact hn
    · rw [mkS_size, le_length, if_pos (by omega), ByteArray.size_append, mkS_size, le_length, if_pos (by omega), le_one, mkS_app, mkS_app]
      exact Ev.now _
  · rw [if_neg hc]
    simp only [if_neg hc]
    exact Ev.now _

theorem free_loop (cs : List SGCell) (hS : Small cs) (id lsn : Int) (d : Nat) : ∀ i, i + d = cs.length →
    Ev (fun k => flotillaref06_Free.l0 k (496 - 4 * (cs.length : Int) - (tot (cs.take i) : Int)) i id lsn cs) (free cs) := by
  have hl := hS.1
  induction d with
  | zero =>
    intro i hi
    refine Ev.step (f := fun _ => some (free cs)) (fun k => ?_) (Ev.now _)
    simp only [flotillaref06_Free.l0]
    rw [if_neg (by omega), List.take_of_length_le (by omega)]
    rfl
  | succ d ih =>
    intro i hi
    have hil : i < cs.length := by omega
    have hm := hS.2 _ (rd_mem cs i hil)
    have ht := tot_take_le cs hS (i + 1)
    have hts := tot_take_succ cs i hil
    refine Ev.step (f := fun k => (flotillaref06_Cell.f k (rd_TGCell cs i).f0 (rd_TGCell cs i).f1 (rd_TGCell cs i).f2).bind fun t112 => flotillaref06_Free.l0 k (wrap64 (496 - 4 * (cs.length : Int) - (tot (cs.take i) : Int) - (t112.size : Int))) (wrap64 ((i : Int) + 1)) id lsn cs) (fun k => ?_) ?_
    · simp only [flotillaref06_Free.l0]
      rw [if_pos (by omega), if_pos (by omega)]
    · refine Ev.bind (cell_ev _ hm.1 hm.2) ?_
      rw [mkS_size, cellB_length, w64 (by omega) (by omega), w64 (by omega) (by omega)]
      have := ih (i + 1) (by omega)
      rw [hts] at this
      have e : 496 - 4 * (cs.length : Int) - (tot (cs.take i) : Int) - (csz (rd_TGCell cs i) : Int) = 496 - 4 * (cs.length : Int) - ((tot (cs.take i) + csz (rd_TGCell cs i) : Nat) : Int) := by omega
      rw [e]
      exact this
theorem free_ev (cs : List SGCell) (hS : Small cs) (id lsn : Int) : Ev (fun k => flotillaref06_Free.f k id lsn cs) (free cs) := by
  have hl := hS.1
  have := free_loop cs hS id lsn cs.length 0 (by omega)
  unfold flotillaref06_Free.f
  rw [w64 (x := 4 * (cs.length : Int)) (by omega) (by omega), w64 (by omega) (by omega)]
  simpa [tot] using this

theorem bt_get (s : ByteArray) (i : Nat) (h : i < s.data.toList.length) : bt s i = ((s.data.toList[i].toNat : Nat) : Int) := by
  have h2 : i < s.size := by rw [data_length] at h; exact h
  unfold bt
  rw [dif_pos (by simpa using h2)]
  simp only [Int.toNat_natCast]
  rfl
theorem rstep_lt {n x : Nat} (hn : n < 4294967296) : Crc.rstep n x < 4294967296 := by
  unfold Crc.rstep
  split
  · omega
  · exact Nat.xor_lt_two_pow (n := 32) (by omega) (by decide)
theorem more_bits (s : ByteArray) (i : Nat) (d : Nat) : ∀ (n x j : Nat), j + d = 8 → n < 4294967296 → x < 4294967296 → ∀ r, Ev (fun k => flotillaref02_More.l0 k s (Crc.rN d n x : Nat) (wrap64 ((i : Int) + 1))) r →
    Ev (fun k => flotillaref02_More.l1 k s (n : Int) i (x : Int) j) r := by
  induction d with
  | zero =>
    intro n x j hj hn hx r hr
    refine Ev.step (fun k => ?_) hr
    simp only [flotillaref02_More.l1, Crc.rN]
    rw [if_neg (by omega)]
  | succ d ih =>
    intro n x j hj hn hx r hr
    have hr' := ih (Crc.rstep n x) (x / 2) (j + 1) (by omega) (rstep_lt hn) (by omega) r hr
    refine Ev.step (fun k => ?_) hr'
    simp only [flotillaref02_More.l1]
    have e1 : Int.tmod (n : Int) 2 = ((n % 2 : Nat) : Int) := by rw [Int.tmod_eq_emod_of_nonneg (by omega)]; omega
    have e2 : Int.tmod (x : Int) 2 = ((x % 2 : Nat) : Int) := by rw [Int.tmod_eq_emod_of_nonneg (by omega)]; omega
    have e3 : Int.tdiv (n : Int) 2 % 4294967296 = ((n / 2 : Nat) : Int) := by rw [Int.tdiv_eq_ediv_of_nonneg (by omega)]; omega
    have e4 : Int.tdiv (x : Int) 2 % 4294967296 = ((x / 2 : Nat) : Int) := by rw [Int.tdiv_eq_ediv_of_nonneg (by omega)]; omega
    rw [if_pos (by omega), e1, e2, e3, e4, w64 (by omega) (by omega)]
    unfold Crc.rstep
    by_cases h : n % 2 = x % 2
    · rw [if_pos (by rw [h]), if_pos h]; rfl
    · rw [if_neg (by omega), if_neg h]
      have e5 : bits .xor .u32 ((n / 2 : Nat) : Int) 2197175160 = ((n / 2 ^^^ 2197175160 : Nat) : Int) := by
        rw [show (2197175160 : Int) = ((2197175160 : Nat) : Int) from rfl, u32_xor_nat _ _ (by omega) (by decide)]
      rw [e5]; rfl
theorem more_loop (s : ByteArray) (hs : s.size ≤ 1000000) (d : Nat) : ∀ (n i : Nat), i + d = s.size → n < 4294967296 →
    Ev (fun k => flotillaref02_More.l0 k s (n : Int) i) ((4294967295 - Crc.more n (s.data.toList.drop i) : Nat) : Int) := by
  induction d with
  | zero =>
    intro n i hi hn
    refine Ev.step (f := fun _ => some (((4294967295 - n : Nat)) : Int)) (fun k => ?_) ?_
    · simp only [flotillaref02_More.l0]
      rw [if_neg (by omega)]
      congr 1; omega
    · rw [List.drop_eq_nil_of_le (by rw [data_length]; omega)]
      exact Ev.now _
  | succ d ih =>
    intro n i hi hn
    have hil : i < s.data.toList.length := by rw [data_length]; omega
    have hx := (s.data.toList[i]).toNat_lt
    have ih' := ih (Crc.byte n (s.data.toList[i].toNat)) (i + 1) (by omega) (Crc.byte_lt hn hx)
    rw [List.drop_eq_getElem_cons hil]
    show Ev _ ((4294967295 - Crc.more (Crc.byte n (s.data.toList[i].toNat)) (s.data.toList.drop (i + 1)) : Nat) : Int)
    refine Ev.step (f := fun k => flotillaref02_More.l1 k s (n : Int) i ((s.data.toList[i].toNat : Nat) : Int) (0 : Nat)) (fun k => ?_) ?_
    · simp only [flotillaref02_More.l0]
      rw [if_pos (by omega), if_pos (by omega), bt_get s i hil, show ((s.data.toList[i].toNat : Nat) : Int) % 4294967296 = ((s.data.toList[i].toNat : Nat) : Int) by omega]
      rfl
    · refine more_bits s i 8 n _ 0 (by omega) hn (by omega) _ ?_
      rw [Crc.rN_8 n _ hx, w64 (by omega) (by omega)]
      exact ih'
theorem sum_ev (s : ByteArray) (hs : s.size ≤ 1000000) : Ev (fun k => flotillaref02_Sum.f k s) (Crc.sum s.data.toList : Int) := by
  unfold flotillaref02_Sum.f flotillaref02_More.f
  refine Ev.bind (a := (Crc.sum s.data.toList : Int)) ?_ (Ev.now _)
  have := more_loop s hs s.size 4294967295 0 (by omega) (by omega)
  rw [List.drop_zero] at this
  exact this
theorem four_f (n : Nat) (hn : n < 4294967296) : flotillaref02_Four.f n = some (mkS (le n 4)) := by
  unfold flotillaref02_Four.f
  have e0 : Int.tmod (n : Int) 256 % 256 = ((n % 256 : Nat) : Int) := by rw [Int.tmod_eq_emod_of_nonneg (by omega)]; omega
  have e1 : Int.tdiv (n : Int) 256 % 4294967296 % 256 = ((n / 256 % 256 : Nat) : Int) := by rw [Int.tdiv_eq_ediv_of_nonneg (by omega)]; omega
  have e2 : Int.tdiv (n : Int) 65536 % 4294967296 % 256 = ((n / 65536 % 256 : Nat) : Int) := by rw [Int.tdiv_eq_ediv_of_nonneg (by omega)]; omega
  have e3 : Int.tdiv (n : Int) 16777216 % 4294967296 % 256 = ((n / 16777216 % 256 : Nat) : Int) := by rw [Int.tdiv_eq_ediv_of_nonneg (by omega)]; omega
  rw [e0, e1, e2, e3]
  have h : ∀ x : Nat, UInt8.ofNat (((x % 256 : Nat) : Int)).toNat = UInt8.ofNat x := fun x => by apply UInt8.toNat_inj.1; show (((x % 256 : Nat) : Int)).toNat % 256 = x % 256; omega
  have h2 : le n 4 = [UInt8.ofNat n, UInt8.ofNat (n / 256), UInt8.ofNat (n / 65536), UInt8.ofNat (n / 16777216)] := by simp [le, List.range_succ]
  rw [h2]
  congr 1
  apply ByteArray.ext
  apply Array.ext'
  simp only [strOfNums, mkS, List.map_cons, List.map_nil, h]
end Go.Proofs.Ytidkdbohkbfhbaa
