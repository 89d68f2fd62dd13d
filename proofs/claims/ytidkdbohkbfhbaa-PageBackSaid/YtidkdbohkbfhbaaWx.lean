/- The calls of page's noughts and take. -/
import Derived.Test.YtidkdbohkbfhbaaPd
import Derived.Test.YtidkdbohkbfhbaaWg
import Derived.Test.YtidkdbohkbfhbaaRf2
import Derived.WalkMore
namespace Go.Proofs.Ytidkdbohkbfhbaa
open Go.RowKit Go.Proofs.YtidkdbohkbfhbaaW.PrintWords Go.Proofs.YtidkdbohkbfhbaaW.PrintLast Go.Proofs.YtidkdbohkbfhbaaW.PrintMore
open Rf
set_option linter.unusedVariables false
set_option linter.unusedSimpArgs false
theorem val_snoc (l : List UInt8) (x : UInt8) : val (l ++ [x]) = val l + 256 ^ l.length * x.toNat := by
  rw [val_append]; simp [val]
/-- take's loop adds up the bytes. -/
theorem take_l0 (L : List UInt8) (m : Nat) (hm : m ≤ 8) (hmL : m ≤ L.length) : ∀ (k i : Nat), i ≤ m → m - i < k → page_take.l0 k (ints L) (val (L.take i)) m i = some (val (L.take m) : Int) := by
  intro k
  induction k with
  | zero => intro i _ h; omega
  | succ k ih =>
    intro i hi hk
    unfold page_take.l0
    by_cases hlt : i < m
    · have hil : i < L.length := by omega
      have hx := (L[i]'hil).toNat_lt
      have hv := val_lt (L.take i)
      rw [List.length_take, Nat.min_eq_left (by omega)] at hv
      have hp : (256 : Nat) ^ i ≤ 256 ^ 7 := Nat.pow_le_pow_right (by omega) (by omega)
      have e0 : (i : Int) < (m : Int) := by omega
      have e1 : (0 : Int) ≤ (i : Int) := by omega
      have e2 : (i : Int) < ((ints L).length : Int) := by rw [ints_length]; omega
      have e3 : wrap64 (8 * (i : Int)) = 8 * (i : Int) := w64 (by omega) (by omega)
      rw [if_pos e0, if_pos e1, if_pos e2, e3, if_pos (by omega)]
      have e4 : rd (ints L) (i : Int) = (((L[i]'hil).toNat : Nat) : Int) := by
        unfold rd
        rw [Int.toNat_natCast]
        exact ints_get L i hil
      have hlen : (L.take i).length = i := by rw [List.length_take, Nat.min_eq_left (by omega)]
      have hnext : val (L.take (i + 1)) = val (L.take i) + 256 ^ i * (L[i]'hil).toNat := by
        rw [List.take_succ_eq_append_getElem hil, val_snoc, hlen]
      have hb : 256 ^ i * (L[i]'hil).toNat ≤ 256 ^ i * 255 := Nat.mul_le_mul_left _ (by omega)
      have hb2 : val (L.take (i + 1)) < 18446744073709551616 := by
        have h1 : 256 ^ i * 256 ≤ 256 ^ 7 * 256 := Nat.mul_le_mul_right _ hp
        have h2 : (256 : Nat) ^ 7 * 256 = 18446744073709551616 := by decide
        omega
      have e5 : shl .u64 (IntKind.u64.wrap (rd (ints L) (i : Int))) (8 * (i : Int)) = ((256 ^ i * (L[i]'hil).toNat : Nat) : Int) := by
        rw [e4, u64w (by omega) (by omega)]
        unfold shl
        rw [show min (8 * (i : Int)).toNat IntKind.u64.bits = 8 * i from by show min _ 64 = _; omega]
        have hq : (((L[i]'hil).toNat : Nat) : Int) * 2 ^ (8 * i) = ((256 ^ i * (L[i]'hil).toNat : Nat) : Int) := by
          rw [Int.natCast_mul, Int.natCast_pow, Int.mul_comm, Int.pow_mul]
          rfl
        rw [hq, u64w (by omega) (by omega)]
      rw [e5, show ((val (L.take i) : Nat) : Int) + ((256 ^ i * (L[i]'hil).toNat : Nat) : Int) = ((val (L.take (i + 1)) : Nat) : Int) from by rw [hnext, Int.natCast_add], u64w (by omega) (by omega),
        show wrap64 ((i : Int) + 1) = ((i + 1 : Nat) : Int) from by rw [w64 (by omega) (by omega)]; omega]
      exact ih (i + 1) (by omega) (by omega)
    · have : i = m := by omega
      subst this
      rw [if_neg (by omega)]
set_option maxRecDepth 100000 in
set_option maxHeartbeats 2000000 in
theorem take_calls (w : World) (g o m n c : Nat) (L : List UInt8) (hb : BufAt w g L) (ho : o + n = L.length) (hm : m ≤ n) (hm8 : m ≤ 8) (hl : L.length ≤ 1000000) (hc : n ≤ c) :
    Calls Try.prog 42 #[.slice (some ⟨g, o, none⟩) n c, .int .i64 m] w fun e w' => e = .returned (.int .u64 ((rdN L o m : Nat) : Int)) ∧ Below w.heap.size w w' := by
  have hr := hb.reads o (by omega) hl
  have hn : (ints (L.drop o)).length = n := by rw [ints_length, List.length_drop]; omega
  have ht := take_l0 (L.drop o) m hm8 (by rw [List.length_drop]; omega) (m + 1) 0 (by omega) (by omega)
  have hC : Kd.C (Kd.int .u8) w (some ⟨g, o, none⟩) (ints (L.drop o)).length (ints (L.drop o)) := by
    obtain ⟨h1, h2, h3⟩ := hr
    refine ⟨rfl, by omega, fun hpos => ⟨_, rfl, fun j v hj => ⟨[.int .u8 v], rfl, rfl, fun s u hs => ?_⟩⟩⟩
    have hjl : j < (ints (L.drop o)).length := (List.getElem?_eq_some_iff.1 hj).1
    obtain ⟨ad, ea, hcell⟩ := h3 (by omega)
    cases ea
    cases s with
    | zero =>
      have hu : u = .int .u8 v := by simpa using hs.symm
      have := hcell j (by omega)
      rw [List.getD_eq_getElem?_getD, hj] at this
      rw [hu, show j * (Kd.int .u8).sz + 0 = j from by show j * 1 + 0 = j; omega]
      exact this
    | succ s => simp at hs
  have := page_take.calls (m + 1) (some ⟨g, o, none⟩) c (ints (L.drop o)) m _ w hC (by omega) ht
  rw [hn] at this
  exact this.mono (by rintro e w' ⟨rfl, hd⟩; exact ⟨rfl, hd.below⟩)
set_option maxRecDepth 100000 in
set_option maxHeartbeats 2000000 in
theorem noughts_calls (w : World) (g c : Nat) (L : List UInt8) (hb : BufAt w g L) (hl : L.length ≤ 100000) :
    Calls Try.prog 41 #[.slice (some ⟨g, 0, none⟩) L.length c] w fun e w' => e = .returned (.bool (L.all (· == 0))) ∧ Below w.heap.size w w' := by
  go_enter Try.func41, Try.ntmps41
  go_wp2_with fail
  go_step3
  go_wp2_with fail
  go_step3
  go_wp2_with fail
  go_loopg [3, 5, 8] L.length (fun gk v3 v5 v8 wr => ∃ k : Nat, Aside0 (k + gk = L.length) ∧ v3 = .bool true ∧ v8 = .int .i64 k ∧ k ≤ L.length ∧ Aside0 ((L.take k).all (· == 0) = true) ∧ wr = w)
  case atStart => exact ⟨0, ⟨by omega⟩, rfl, rfl, by omega, ⟨by simp⟩, rfl⟩
  case round =>
    obtain ⟨k, Hk, rfl, rfl, hkl, HA, rfl⟩ := hrel
    by_cases hlt : k < L.length
    · have hx := hb.cell k hlt
      have HT := Aside0.mk (List.take_succ_eq_append_getElem hlt)
      have HM := Aside0.mk (List.getElem_mem hlt)
      generalize L[k] = x at hx HT HM
      cases hz : (((x.toNat : Nat) : Int) != 0) with
      | true =>
        have HZ := Aside0.mk hz
        go_wp2_with fail
        all_goals
          (try simp only [Exit.noGoto_ret])
          go_ret
          refine ⟨?_, Below.refl _ _⟩
          have h := HZ.out
          have hne : ¬ x = 0 := fun e => by rw [e] at h; exact absurd h (by decide)
          have hf : L.all (· == 0) = false := by
            rw [List.all_eq_false]
            exact ⟨x, HM.out, by simpa using hne⟩
          rw [hf]
          rfl
      | false =>
        have HZ := Aside0.mk hz
        go_wp2_with fail
        go_roundg (gk - 1)
        case measure => have := Hk.out; omega
        case rel =>
          refine ⟨k + 1, ⟨by have := Hk.out; omega⟩, rfl, by simp, by omega, ⟨?_⟩, rfl⟩
          rw [HT.out, List.all_append, HA.out]
          have h := HZ.out
          have h0 : x = 0 := by
            apply UInt8.toNat_inj.1
            have : ((x.toNat : Nat) : Int) = 0 := by simpa using h
            show x.toNat = 0
            omega
          rw [h0]; rfl
    · have hke : k = L.length := by omega
      subst hke
      go_wp2_with fail
      (try simp only [Exit.noGoto_ret])
      go_ret
      refine ⟨?_, Below.refl _ _⟩
      have h := HA.out
      rw [List.take_of_length_le (Nat.le_refl _)] at h
      rw [h]
      rfl
end Go.Proofs.Ytidkdbohkbfhbaa
