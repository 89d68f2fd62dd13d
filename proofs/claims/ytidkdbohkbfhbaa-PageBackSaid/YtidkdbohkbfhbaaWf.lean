/- The calls of crc: steps, More, Sum. -/
import Derived.Test.YtidkdbohkbfhbaaWa
import Derived.Test.YtidkdbohkbfhbaaCrc
import Derived.Laws.BitsAllLaws
import Derived.Laws.Tables
import Derived.Laws.CopyOwn
namespace Go.Proofs.Ytidkdbohkbfhbaa
open Go.RowKit Go.Proofs.YtidkdbohkbfhbaaW.PrintWords Go.Proofs.YtidkdbohkbfhbaaW.PrintLast Go.Proofs.YtidkdbohkbfhbaaW.PrintMore
open Rf
set_option linter.unusedVariables false
set_option linter.unusedSimpArgs false

/-- The table of the sixteen, filled up to i. -/
def tabN (i : Nat) : List Nat := (List.range 16).map fun k => if k < i then Crc.stepN 4 k else 0
def tabV (i : Nat) : Array Value := ((tabN i).map fun (n : Nat) => Value.int .u32 (n : Int)).toArray
theorem tabN_length (i : Nat) : (tabN i).length = 16 := by simp [tabN]
theorem tabV_size (i : Nat) : (tabV i).size = 16 := by simp [tabV, tabN]
theorem tabN_get (i k : Nat) (hk : k < 16) : (tabN i)[k]? = some (if k < i then Crc.stepN 4 k else 0) := by
  simp [tabN, hk]
theorem tabV_get (i k : Nat) (hk : k < 16) : (tabV i)[k]? = some (.int .u32 ((if k < i then Crc.stepN 4 k else 0 : Nat) : Int)) := by
  simp only [tabV, List.getElem?_toArray, List.getElem?_map, tabN_get i k hk, Option.map_some]
theorem tabV_set (i : Nat) (hi : i < 16) : (tabV i).setIfInBounds i (.int .u32 (Crc.stepN 4 i : Int)) = tabV (i + 1) := by
  apply Array.ext_getElem?
  intro k
  rw [Array.getElem?_setIfInBounds]
  by_cases hk : k < 16
  · rw [tabV_get (i + 1) k hk]
    by_cases h : i = k
    · subst h; rw [if_pos rfl, if_pos (by rw [tabV_size]; omega), if_pos (by omega)]
    · rw [if_neg h, tabV_get i k hk]
      by_cases h2 : k < i
      · rw [if_pos h2, if_pos (by omega)]
      · rw [if_neg h2, if_neg (by omega)]
  · rw [if_neg (by omega), Array.getElem?_eq_none (by rw [tabV_size]; omega), Array.getElem?_eq_none (by rw [tabV_size]; omega)]
theorem tab0 : tabV 0 = #[.int .u32 0, .int .u32 0, .int .u32 0, .int .u32 0, .int .u32 0, .int .u32 0, .int .u32 0, .int .u32 0, .int .u32 0, .int .u32 0, .int .u32 0, .int .u32 0, .int .u32 0, .int .u32 0, .int .u32 0, .int .u32 0] := rfl
theorem stepN_last (k n : Nat) : Crc.stepN (k + 1) n = Crc.step1 (Crc.stepN k n) := by rw [Crc.stepN_add k 1]; rfl

set_option maxHeartbeats 1000000 in
theorem steps_calls (w : World) :
    Calls Try.prog 65 #[] w fun e w' => e = .returned (.agg (tabV 16)) ∧ Below w.heap.size w w' := by
  go_enter Try.func65, Try.ntmps65
  go_wp2
  go_loopg [2, 3, 4, 9] 16 (fun gk v2 v3 v4 v9 wr => ∃ i : Nat, Aside0 (i + gk = 16) ∧ i ≤ 16 ∧ v4 = .int .i64 i ∧ Aside0 (wr.heap[w.heap.size]? = some (.cells (tabV 0) 109 (0, 0))) ∧ Aside0 (wr.heap[w.heap.size + 1]? = some (.cells (tabV i) 109 (0, 0))) ∧ Aside0 (Below w.heap.size w wr))
  case atStart =>
    refine ⟨0, ⟨rfl⟩, by omega, rfl, ⟨?_⟩, ⟨?_⟩, ⟨below_alloc (below_alloc (Below.refl _ _) _) _⟩⟩
    · rw [tab0]; exact blk_alloc (heap_alloc_new w _) _
    · rw [tab0, show w.heap.size + 1 = (w.alloc (.cells #[.int .u32 0, .int .u32 0, .int .u32 0, .int .u32 0, .int .u32 0, .int .u32 0, .int .u32 0, .int .u32 0, .int .u32 0, .int .u32 0, .int .u32 0, .int .u32 0, .int .u32 0, .int .u32 0, .int .u32 0, .int .u32 0] 109)).heap.size by simp]; exact heap_alloc_new _ _
  case round =>
    obtain ⟨i, Hi, hi, rfl, H0, H1, HB⟩ := hrel
    by_cases hlt : i < 16
    · have hc1 : wr.cell? ⟨w.heap.size + 1, i, none⟩ = some (.int .u32 ((if i < i then Crc.stepN 4 i else 0 : Nat) : Int)) := (blk_cell H1.out i).trans (tabV_get i i hlt)
      have hf1 := blk_frozen H1.out i
      go_wp2
      go_loopg [3, 9] 4 (fun gj v3 v9 wj => ∃ j n : Nat, Aside0 (j + gj = 4) ∧ j ≤ 4 ∧ v9 = .int .i64 j ∧ v3 = .int .u32 n ∧ n < 4294967296 ∧ Aside0 (n = Crc.stepN j i) ∧ Aside0 (wr = wj))
      case atStart => exact ⟨0, i, ⟨rfl⟩, by omega, rfl, by first | rfl | (congr 1; omega), by omega, ⟨rfl⟩, ⟨rfl⟩⟩
      case round =>
        obtain ⟨j, n, Hj, hj, rfl, rfl, hn, HN, Hw⟩ := hrel
        obtain rfl := Hw.out
        clear Hw
        by_cases hj4 : j < 4
        · have hand : bits .and .u32 (n : Int) 1 = ((n % 2 : Nat) : Int) := by
            rw [show (1 : Int) = ((1 : Nat) : Int) from rfl, u32_and_nat n 1 hn (by decide), Nat.and_one_is_mod]
          have hxor : bits .xor .u32 ((n : Int) / 2) 2197175160 = ((n / 2 ^^^ 2197175160 : Nat) : Int) := by
            rw [show (n : Int) / 2 = ((n / 2 : Nat) : Int) by omega, show (2197175160 : Int) = ((2197175160 : Nat) : Int) from rfl, u32_xor_nat _ _ (by omega) (by decide)]
          have hs := Crc.step1_lt hn
          have HL := Aside0.mk (show Crc.step1 n = Crc.stepN (j + 1) i by rw [stepN_last, ← HN.out])
          by_cases hodd : n % 2 = 1
          · have HS := Aside0.mk (show Crc.step1 n = n / 2 ^^^ 2197175160 by unfold Crc.step1; rw [if_pos hodd])
            go_wp2
            go_roundg (4 - j - 1)
            case measure => have := Hj.out; omega
            case rel => exact ⟨j + 1, Crc.step1 n, ⟨by omega⟩, by omega, by go_num, by rw [HS.out], hs, HL, ⟨rfl⟩⟩
          · have hev : n % 2 = 0 := by omega
            have HS := Aside0.mk (show Crc.step1 n = n / 2 by unfold Crc.step1; rw [if_neg hodd])
            clear hodd
            go_wp2
            go_roundg (4 - j - 1)
            case measure => have := Hj.out; omega
            case rel => exact ⟨j + 1, Crc.step1 n, ⟨by omega⟩, by omega, by go_num, by rw [HS.out]; go_num, hs, HL, ⟨rfl⟩⟩
        · have HN4 := Aside0.mk (show n = Crc.stepN 4 i by rw [HN.out]; congr 1; omega)
          go_wp2
          go_roundg (16 - i - 1)
          case measure => have := Hi.out; omega
          case rel =>
            refine ⟨i + 1, ⟨by omega⟩, by omega, by go_num, ⟨blk_far H0.out (by simp) _⟩, ⟨?_⟩, ⟨HB.out.setCell (by simp) _⟩⟩
            have h := blk_set H1.out i (.int .u32 (n : Int))
            rw [HN4.out, tabV_set i hlt] at h
            rw [HN4.out]
            exact h
    · obtain rfl : i = 16 := by omega
      have hinf : ∀ k, (Try.prog.info? 109).map (·.size) = some (tabV k).size := fun k => by rw [tabV_size]; kernel_rfl
      have hall : (tabV 16).all (·.oneCell') = true := by simp [tabV, Value.oneCell']
      have HA := Aside0.mk hall
      have HI := Aside0.mk hinf
      clear hall hinf hlt
      go_wp2_with (first | ((with_reducible refine gate_ (.load 109 (.tmp 1)) rfl ?_); refine wpList_load_row rfl 109 (.tmp 1) rfl (w.heap.size + 1) rfl 109 (tabV 16) (0, 0) _ H1.out Try.underlying109 rfl (HI.out 16) ?_) | ((with_reducible refine gate_ (.store 109 (.tmp 0) (.tmp 24)) rfl ?_); refine wpList_store_row rfl 109 (.tmp 0) (.tmp 24) rfl w.heap.size (tabV 16) rfl rfl 109 (tabV 0) H0.out (HI.out 16) (by rw [tabV_size, tabV_size]) HA.out ?_))
      refine bodyPost_ret (v := .agg (tabV 16)) (results_cell_row rfl _ _ w.heap.size 109 (tabV 16) (0, 0) _ rfl (setRow_heap wr w.heap.size (tabV 0) (tabV 16) 109 (0, 0) H0.out) Try.underlying109 rfl (HI.out 16)) rfl ⟨rfl, ?_⟩
      exact HB.out.trans ⟨rfl, rfl, rfl, by simp [World.setRow], fun k hk => setRow_other wr w.heap.size k _ (by omega)⟩

/-- Bytes as the numbers in a row. -/
def ints (bs : List UInt8) : List Int := bs.map fun b => (b.toNat : Int)
theorem ints_length (bs : List UInt8) : (ints bs).length = bs.length := by simp [ints]
theorem ints_get (bs : List UInt8) (i : Nat) (h : i < bs.length) : (ints bs).getD i 0 = ((bs[i].toNat : Nat) : Int) := by
  simp [ints, List.getD_eq_getElem?_getD, h]
theorem crc_take (n : Nat) (bs : List UInt8) (i : Nat) (h : i < bs.length) : Crc.more n (bs.take (i + 1)) = Crc.byte (Crc.more n (bs.take i)) (bs[i].toNat) := by
  rw [List.take_succ_eq_append_getElem h, Crc.more_append]; rfl

set_option maxHeartbeats 1000000 in
theorem more_calls (w : World) (sum : Nat) (hsum : sum < 4294967296) (A : Option Addr) (n c : Nat) (bs : List UInt8) (hR : ReadsInt w .u8 A n (ints bs)) (hn : n ≤ 1000000) :
    Calls Try.prog 56 #[.int .u32 sum, .slice A n c] w fun e w' => e = .returned (.int .u32 ((4294967295 - Crc.more (4294967295 - sum) bs : Nat) : Int)) ∧ Below w.heap.size w w' := by
  have hl : bs.length = n := by have := hR.1; rw [ints_length] at this; exact this
  have HR := Aside0.mk hR
  have HL := Aside0.mk hl
  clear hR hl
  have hnot : bits .xor .u32 IntKind.u32.max (sum : Int) = ((4294967295 - sum : Nat) : Int) := by
    rw [show IntKind.u32.max = (4294967295 : Int) from rfl, show (4294967295 : Int) = ((4294967295 : Nat) : Int) from rfl, u32_xor_nat _ _ (by decide) hsum, Crc.not32 sum hsum]
  have HNOT := Aside0.mk hnot
  clear hnot
  have hinf : ∀ k, (Try.prog.info? 109).map (·.size) = some (tabV k).size := fun k => by rw [tabV_size]; kernel_rfl
  have hall : (tabV 16).all (·.oneCell') = true := by simp [tabV, Value.oneCell']
  have HA := Aside0.mk hall
  have HI := Aside0.mk hinf
  clear hall hinf
  go_enter Try.func56, Try.ntmps56
  go_wp2_with fail
  refine (steps_calls _).mono ?_
  rintro e w1 ⟨rfl, hb1⟩
  have HB1 := Aside0.mk hb1
  clear hb1
  go_wp2_with (((with_reducible refine gate_ (.store 109 (.tmp 5) (.tmp 9)) rfl ?_); refine wpList_store_row rfl 109 (.tmp 5) (.tmp 9) rfl w1.heap.size (tabV 16) rfl rfl 109 #[.int .u32 0, .int .u32 0, .int .u32 0, .int .u32 0, .int .u32 0, .int .u32 0, .int .u32 0, .int .u32 0, .int .u32 0, .int .u32 0, .int .u32 0, .int .u32 0, .int .u32 0, .int .u32 0, .int .u32 0, .int .u32 0] (heap_alloc_new w1 _) (HI.out 16) (by rw [tabV_size]; rfl) HA.out ?_; have HX := Aside0.mk (setRow_heap (w1.alloc (.cells #[.int .u32 0, .int .u32 0, .int .u32 0, .int .u32 0, .int .u32 0, .int .u32 0, .int .u32 0, .int .u32 0, .int .u32 0, .int .u32 0, .int .u32 0, .int .u32 0, .int .u32 0, .int .u32 0, .int .u32 0, .int .u32 0] 109)) w1.heap.size #[.int .u32 0, .int .u32 0, .int .u32 0, .int .u32 0, .int .u32 0, .int .u32 0, .int .u32 0, .int .u32 0, .int .u32 0, .int .u32 0, .int .u32 0, .int .u32 0, .int .u32 0, .int .u32 0, .int .u32 0, .int .u32 0] (tabV 16) 109 (0, 0) (heap_alloc_new w1 _)); have HBX := Aside0.mk (bel_trans HB1.out (below_setRow (below_alloc (Below.refl _ w1) (.cells #[.int .u32 0, .int .u32 0, .int .u32 0, .int .u32 0, .int .u32 0, .int .u32 0, .int .u32 0, .int .u32 0, .int .u32 0, .int .u32 0, .int .u32 0, .int .u32 0, .int .u32 0, .int .u32 0, .int .u32 0, .int .u32 0] 109)) (Nat.le_refl _) (tabV 16)))))
  obtain ⟨w2, hw2⟩ : ∃ w2, (w1.alloc (.cells #[.int .u32 0, .int .u32 0, .int .u32 0, .int .u32 0, .int .u32 0, .int .u32 0, .int .u32 0, .int .u32 0, .int .u32 0, .int .u32 0, .int .u32 0, .int .u32 0, .int .u32 0, .int .u32 0, .int .u32 0, .int .u32 0] 109)).setRow w1.heap.size (tabV 16) = w2 := ⟨_, rfl⟩
  rw [hw2] at HX HBX ⊢
  clear hw2
  rw [HNOT.out]
  have hfx : ∀ k, w2.frozen? ⟨w1.heap.size, k, none⟩ = false := fun k => blk_frozen HX.out k
  go_loopg [6, 14] n (fun gk v6 v14 wr => ∃ i m : Nat, Aside0 (i + gk = n) ∧ i ≤ n ∧ v14 = .int .i64 i ∧ v6 = .int .u32 m ∧ m < 4294967296 ∧ Aside0 (m = Crc.more (4294967295 - sum) (bs.take i)) ∧ Aside0 (w2 = wr))
  case atStart => exact ⟨0, 4294967295 - sum, ⟨by omega⟩, by omega, rfl, rfl, by omega, ⟨by simp [Crc.more]⟩, ⟨rfl⟩⟩
  case round =>
    obtain ⟨i, m, Hi, hi, rfl, rfl, hm, HM, Hw⟩ := hrel
    obtain rfl := Hw.out
    clear Hw
    by_cases hlt : i < n
    · obtain ⟨ad, ea, hcx⟩ := HR.out.2.2 (by omega)
      cases ea
      have hib : i < bs.length := by have := HL.out; omega
      have hc := hcx i hlt
      rw [ints_get bs i hib] at hc
      clear hcx
      have hbx : w.heap.size ≤ w1.heap.size := HB1.out.size
      have hc2 : w2.cell? (ad.add i) = some (.int .u8 ((bs[i].toNat : Nat) : Int)) := pw_cell_below HBX.out hc
      generalize hx : bs[i].toNat = x at hc hc2
      have hx256 : x < 256 := by rw [← hx]; exact bs[i].toNat_lt
      have HXX := Aside0.mk hx
      clear hx hc
      have e1 : bits .xor .u32 (m : Int) (x : Int) = ((m ^^^ x : Nat) : Int) := u32_xor_nat m x hm (by omega)
      generalize hy : m ^^^ x = y at e1
      have hy32 : y < 4294967296 := by rw [← hy]; exact Nat.xor_lt_two_pow (n := 32) hm (by omega)
      have e2 : bits .and .u32 (y : Int) 15 = ((y % 16 : Nat) : Int) := by
        rw [show (15 : Int) = ((15 : Nat) : Int) from rfl, u32_and_nat y 15 hy32 (by decide), show (15 : Nat) = 2 ^ 4 - 1 from rfl, Nat.and_two_pow_sub_one_eq_mod]
      have hc3 : w2.cell? ⟨w1.heap.size, y % 16, none⟩ = some (.int .u32 ((Crc.stepN 4 (y % 16) : Nat) : Int)) := by
        rw [blk_cell HX.out, tabV_get 16 (y % 16) (by omega), if_pos (by omega)]
      generalize hs1 : Crc.stepN 4 (y % 16) = s1 at hc3
      have hs1b : s1 < 4294967296 := by rw [← hs1]; exact Crc.stepN_lt 4 (by omega)
      have e3 : bits .xor .u32 ((y : Int) / 16) (s1 : Int) = ((y / 16 ^^^ s1 : Nat) : Int) := by
        rw [show (y : Int) / 16 = ((y / 16 : Nat) : Int) by omega]; exact u32_xor_nat _ _ (by omega) hs1b
      generalize hz : y / 16 ^^^ s1 = z at e3
      have hz32 : z < 4294967296 := by rw [← hz]; exact Nat.xor_lt_two_pow (n := 32) (by omega) hs1b
      have e4 : bits .and .u32 (z : Int) 15 = ((z % 16 : Nat) : Int) := by
        rw [show (15 : Int) = ((15 : Nat) : Int) from rfl, u32_and_nat z 15 hz32 (by decide), show (15 : Nat) = 2 ^ 4 - 1 from rfl, Nat.and_two_pow_sub_one_eq_mod]
      have hc4 : w2.cell? ⟨w1.heap.size, z % 16, none⟩ = some (.int .u32 ((Crc.stepN 4 (z % 16) : Nat) : Int)) := by
        rw [blk_cell HX.out, tabV_get 16 (z % 16) (by omega), if_pos (by omega)]
      generalize hs2 : Crc.stepN 4 (z % 16) = s2 at hc4
      have hs2b : s2 < 4294967296 := by rw [← hs2]; exact Crc.stepN_lt 4 (by omega)
      have e5 : bits .xor .u32 ((z : Int) / 16) (s2 : Int) = ((z / 16 ^^^ s2 : Nat) : Int) := by
        rw [show (z : Int) / 16 = ((z / 16 : Nat) : Int) by omega]; exact u32_xor_nat _ _ (by omega) hs2b
      have HB := Aside0.mk (show Crc.byte m x = z / 16 ^^^ s2 by rw [Crc.byte_table]; simp only; rw [hy, hs1, hz, hs2])
      clear hy hs1 hz hs2
      have hw32 : z / 16 ^^^ s2 < 4294967296 := Nat.xor_lt_two_pow (n := 32) (by omega) hs2b
      go_wp2
      go_roundg (n - i - 1)
      case measure => have := Hi.out; omega
      case rel => exact ⟨i + 1, z / 16 ^^^ s2, ⟨by have := Hi.out; omega⟩, by omega, by go_num, rfl, hw32, ⟨by rw [crc_take _ bs i hib, ← HM.out, HXX.out, HB.out]⟩, ⟨rfl⟩⟩
    · have HM2 := Aside0.mk (show m = Crc.more (4294967295 - sum) bs by rw [HM.out, List.take_of_length_le (by have := HL.out; omega)])
      have e6 : bits .xor .u32 IntKind.u32.max (m : Int) = ((4294967295 - m : Nat) : Int) := by
        rw [show IntKind.u32.max = (4294967295 : Int) from rfl, show (4294967295 : Int) = ((4294967295 : Nat) : Int) from rfl, u32_xor_nat _ _ (by decide) hm, Crc.not32 m hm]
      go_wp2
      go_ret
      exact ⟨by rw [← HM2.out]; rfl, HBX.out⟩

theorem sum_calls (w : World) (A : Option Addr) (n c : Nat) (bs : List UInt8) (hR : ReadsInt w .u8 A n (ints bs)) (hn : n ≤ 1000000) :
    Calls Try.prog 38 #[.slice A n c] w fun e w' => e = .returned (.int .u32 (Crc.sum bs : Int)) ∧ Below w.heap.size w w' := by
  have HR := Aside0.mk hR
  clear hR
  go_enter Try.func38, Try.ntmps38
  go_wp2_with fail
  refine (more_calls w 0 (by decide) A n c bs HR.out hn).mono ?_
  rintro e w1 ⟨rfl, hb⟩
  go_wp2
  go_ret
  exact ⟨rfl, hb⟩
end Go.Proofs.Ytidkdbohkbfhbaa
