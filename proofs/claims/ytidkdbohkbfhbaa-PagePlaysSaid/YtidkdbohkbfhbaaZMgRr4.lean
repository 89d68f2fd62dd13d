/- The call of page's Parse. 
PLAIN: the references' Find, with, Insert, Update: what they come to. -/
import Derived.Test.YtidkdbohkbfhbaaZMgRr3
import Derived.Test.YtidkdbohkbfhbaaZMgRr1
import Derived.Test.YtidkdbohkbfhbaaZMgRr2
import Derived.Test.YtidkdbohkbfhbaaZRf3
import Derived.Test.YtidkdbohkbfhbaaZRf4
section
namespace Go.Proofs.Ytidkdbohkbfhbaa
open Go.RowKit Go.Proofs.YtidkdbohkbfhbaaW.PrintWords Go.Proofs.YtidkdbohkbfhbaaW.PrintLast Go.Proofs.YtidkdbohkbfhbaaW.PrintMore
open Rf Go.ChangeMaps
set_option linter.unusedVariables false
set_option linter.unusedSimpArgs false
theorem more_z {P : Program} {ops : Array Oper} {Q : Exit → Act → World → Prop} {md : Region.Mode} {S S' : World → Prop} (hS : ∀ w, S' w → S w) : ∀ (fuel : Nat) (l : Array Bool) (a : Act) (w : World), S' w → wpAnyLast P md ops Q S' [] fuel l a w → wpAnyLast P md ops Q S [] fuel l a w
  | 0, _, _, _, _, h => h
  | f + 1, l, a, w, hw, h => ⟨h.1, fun i hi => wpOp_mono (fun a' w' h' => ⟨fun hd _ => hS _ (h'.1 hd hw), more_z hS f _ _ _ (h'.1 (by simp) hw) h'.2⟩) (h.2 i hi)⟩
theorem skip_z {b : Bool} {A B : Prop} (h : b = false) (hB : B) : if b = true then A else B := by subst h; exact hB
theorem yundz : yielded.match_1 (fun _ => Option Bool) (some undef) (fun b => some b) (fun _ => none) = none := rfl
attribute [local go_sem high] yundz
theorem rdN_lt2 (b : List UInt8) (o : Nat) : rdN b o 2 < 65536 := by
  have h := val_lt ((b.drop o).take 2)
  have h2 : ((b.drop o).take 2).length ≤ 2 := by rw [List.length_take]; omega
  have h3 : 256 ^ ((b.drop o).take 2).length ≤ 256 ^ 2 := Nat.pow_le_pow_right (by omega) h2
  have h4 : (256 : Nat) ^ 2 = 65536 := by decide
  unfold rdN
  omega
theorem rdN_lt8 (b : List UInt8) (o : Nat) : rdN b o 8 < 18446744073709551616 := by
  have h := val_lt ((b.drop o).take 8)
  have h2 : ((b.drop o).take 8).length ≤ 8 := by rw [List.length_take]; omega
  have h3 : 256 ^ ((b.drop o).take 8).length ≤ 256 ^ 8 := Nat.pow_le_pow_right (by omega) h2
  have h4 : (256 : Nat) ^ 8 = 18446744073709551616 := by decide
  unfold rdN
  omega
theorem dec_small (L : List UInt8) (n : Nat) (hl : L.length = 512) (hn : n ≤ 64) : Small (dec L n) := by
  refine ⟨by rw [dec_length]; omega, fun c hc => ?_⟩
  obtain ⟨i, _, rfl⟩ := List.mem_map.1 hc
  unfold slotAt cellAt
  split
  · exact ⟨by decide, by decide⟩
  · constructor
    · show (((L.drop _).take _).toArray).size ≤ 1000
      rw [List.size_toArray, List.length_take, List.length_drop]; omega
    · show (((L.drop _).take _).toArray).size ≤ 1000
      rw [List.size_toArray, List.length_take, List.length_drop]; omega
theorem sum_iff {s : Nat} (l : List UInt8) (hl : l.length = 4) (hs : s < 4294967296) : val l = s ↔ l = le s 4 := by
  constructor
  · rintro rfl
    have := le_val' l
    rw [hl] at this
    exact this.symm
  · intro h
    rw [h, val_le 4 s (by simpa using hs)]
theorem wraps (o m x : Nat) (ho : o < 65536) (hm : m < 65536) (hx : x < 256) : wrap64 (o : Int) = (o : Int) ∧ wrap64 (m : Int) = (m : Int) ∧ wrap64 ((o : Int) + (m : Int)) = (o : Int) + (m : Int) ∧ wrap64 (x : Int) = (x : Int) ∧ wrap64 (1 + (x : Int)) = 1 + (x : Int) ∧
    wrap64 ((o : Int) + 1) = (o : Int) + 1 ∧ wrap64 ((o : Int) + 1 + (x : Int)) = (o : Int) + 1 + (x : Int) :=
  ⟨w64 (by omega) (by omega), w64 (by omega) (by omega), w64 (by omega) (by omega), w64 (by omega) (by omega), w64 (by omega) (by omega), w64 (by omega) (by omega), w64 (by omega) (by omega)⟩
def bsOf (l : List UInt8) : ByteArray := ⟨l.toArray⟩
theorem strOf_ints (L : List UInt8) : strOfNums (ints L) = bsOf L := by
  apply ByteArray.ext
  apply Array.ext'
  have h : ∀ x : UInt8, UInt8.ofNat (((x.toNat : Nat) : Int)).toNat = x := fun x => by simp
  simp only [strOfNums, ints, bsOf, List.map_map]
  conv => rhs; rw [← List.map_id L]
  refine List.map_congr_left (fun x _ => h x)
theorem ints_cut (L : List UInt8) (a b : Nat) : ((ints L).take b).drop a = ints ((L.take b).drop a) := by
  simp [ints, List.map_take, List.map_drop]
/-- 'string(b[lo:hi])'. -/
theorem cut_conv {g : Nat} (c lo hi : Nat) (L : List UInt8) (hl : L.length = 512) (hc : 512 ≤ c) (h1 : lo ≤ hi) (h2 : hi ≤ 512) (A : Option Addr) (n c' : Nat) (hA : A = if c = lo then some ⟨g, 0, none⟩ else some ⟨g, lo, none⟩) (hn : n = hi - lo) (hc' : c' = c - lo) :
    ∀ W, RdAt W g L → (convert 38 9 (.slice A n c')).run Try.prog W = .ok (.string (bsOf ((L.take hi).drop lo))) W := by
  subst hA hn hc'
  intro W hb
  have hil : (ints L).length = 512 := by simp [ints, hl]
  have hrd := hb.reads 0 (by omega) (by omega)
  rw [Nat.sub_zero, List.drop_zero, hl] at hrd
  have h3 := (hrd.take_ hi h2).drop_ (c := c) lo h1 (by omega)
  have he : (if c = lo then some (⟨g, 0, none⟩ : Addr) else (some (⟨g, 0, none⟩ : Addr)).map (·.add lo)) = if c = lo then some ⟨g, 0, none⟩ else some ⟨g, lo, none⟩ := by
    split
    · rfl
    · simp [Addr.add]
      exact fun h => h.symm
  rw [he] at h3
  rw [string_of_reads Try.underlying38 Try.underlying5 Try.underlying9 h3, ints_cut, strOf_ints]
theorem slotAt_eq (L : List UInt8) (k o m x : Nat) (ho : rdN L (16 + 4 * k) 2 = o) (hm : rdN L (16 + 4 * k + 2) 2 = m) (hx : x = (L.getD o 0).toNat) (h0 : ¬ m = 0) :
    slotAt L k = ⟨true, bsOf ((L.take (o + 1 + x)).drop (o + 1)), bsOf ((L.take (o + m)).drop (o + 1 + x))⟩ := by
  unfold slotAt cellAt bsOf
  rw [ho, hm, if_neg h0, ← hx, List.drop_take, List.drop_take]
  have e1 : o + 1 + x - (o + 1) = 1 + x - 1 := by omega
  have e2 : o + m - (o + 1 + x) = m - (1 + x) := by omega
  have e3 : o + 1 + x = o + (1 + x) := by omega
  rw [e1, e2, e3]
theorem not_page {id : Int} (L : List UInt8) (k : Nat) (hid : 0 ≤ id ∧ id < 16) (hk : k < rdN L 14 2) (hno : ¬ cellOk L (rdN L (16 + 4 * k) 2) (rdN L (16 + 4 * k + 2) 2)) :
    ¬ ∃ lsn cs, lsn < 18446744073709551616 ∧ Valid cs ∧ pgB id.toNat lsn cs = L := fun ⟨lsn, cs, h1, h2, h3⟩ => by
  have hn := pgB_n id.toNat lsn cs (by have := h2.len; omega)
  rw [h3] at hn
  have := (slotAt_pgB id.toNat lsn h2 k (by omega)).2
  rw [h3] at this
  exact hno this
/-- A page's fresh parts, of the call's own. -/
def Made (w w' : World) (id : Int) (lsn : Nat) (cs : List SGCell) (v : Value) : Prop :=
  ∃ g', v = .pointer (some ⟨g', 0, none⟩) ∧ w.heap.size ≤ g' ∧ IsPg w' w.heap.size (fun k => w.heap.size ≤ k) g' id lsn cs
/-- What Parse answers: the page or nil, the error. -/
structure Parsed (w w' : World) (id : Int) (L : List UInt8) (v : Value) (er : Int) : Prop where
  bel : Below w.heap.size w w'
  arg : ¬ (0 ≤ id ∧ id < 16 ∧ L.length = 512) → v = .pointer none ∧ er = 1
  nought : 0 ≤ id ∧ id < 16 → L.length = 512 → L.all (· == 0) = true → er = 0 ∧ Made w w' id 0 [] v
  sum : 0 ≤ id ∧ id < 16 → L.length = 512 → L.all (· == 0) = false → L.take 4 ≠ le (Crc.sum (L.drop 4)) 4 → v = .pointer none ∧ er = 6
  page : 0 ≤ id ∧ id < 16 → L.length = 512 → L.all (· == 0) = false → L.take 4 = le (Crc.sum (L.drop 4)) 4 →
    (∃ lsn cs, lsn < 18446744073709551616 ∧ Valid cs ∧ pgB id.toNat lsn cs = L ∧ er = 0 ∧ Made w w' id lsn cs v) ∨ ((¬ ∃ lsn cs, lsn < 18446744073709551616 ∧ Valid cs ∧ pgB id.toNat lsn cs = L) ∧ v = .pointer none ∧ er = 5)
set_option maxRecDepth 100000 in
set_option maxHeartbeats 2000000 in
theorem parse_rd (w : World) (id : Int) (g c : Nat) (L : List UInt8) (hb : RdAt w g L) (hl : L.length ≤ 100000) (hc : L.length ≤ c) :
    Calls Try.prog 21 #[.int .i64 id, .slice (some ⟨g, 0, none⟩) L.length c] w fun e w' => ∃ v er, e = .returned (.tuple #[v, .int .i64 er]) ∧ Parsed w w' id L v er := by
  have HBF := Aside0.mk hb
  clear hb
  go_enter Try.func21, Try.ntmps21
  go_wp2_with fail
  by_cases hid : 0 ≤ id ∧ id < 16
  · refine (new_ok id w hid.1 hid.2).mono ?_
    rintro e w1 ⟨rfl, hp1, hb1⟩
    have HP1 := Aside0.mk hp1
    have HB1 := Aside0.mk hb1
    have HBF1 := Aside0.mk (HBF.out.below hb1)
    have HID := Aside0.mk hid
    clear hp1 hb1 hid
    by_cases hlen : L.length = 512
    · have HLEN := Aside0.mk hlen
      obtain ⟨d, rfl⟩ : ∃ d, c = d + 512 := ⟨c - 512, by omega⟩
      have hn := noughts_calls w1 g (d + 512) L HBF1.out hl
      rw [hlen] at hn ⊢
      go_wp2_with fail
      refine hn.mono ?_
      rintro e w2 ⟨rfl, hb2⟩
      have HB2 := Aside0.mk (below_then HB1.out HB1.out.size hb2)
      have HBF2 := Aside0.mk (HBF1.out.below hb2)
      have HP2 := Aside0.mk ((HP1.out w.heap.size (Nat.le_refl _)).below hb2)
      clear hb2
      cases hz : L.all (· == 0) with
      | true =>
        have HZ := Aside0.mk hz
        clear hz
        go_wp2_with fail
        go_ret2
        refine ⟨_, _, rfl, HB2.out, fun h => absurd ⟨HID.out.1, HID.out.2, HLEN.out⟩ h, fun _ _ _ => ⟨rfl, _, rfl, Nat.le_refl _, HP2.out⟩, fun _ _ h => ?_, fun _ _ h => ?_⟩
        · rw [HZ.out] at h; exact absurd h (by decide)
        · rw [HZ.out] at h; exact absurd h (by decide)
      | false =>
        have HZ := Aside0.mk hz
        clear hz
        have hrd := HBF2.out.reads 4 (by rw [hlen]; omega) (by omega)
        rw [hlen] at hrd
        go_wp2_with fail
        refine (sum_calls w2 (some ⟨g, 4, none⟩) 508 (d + 508) (L.drop 4) hrd (by omega)).mono ?_
        rintro e w3 ⟨rfl, hb3⟩
        have HB3 := Aside0.mk (below_then HB2.out HB2.out.size hb3)
        have HBF3 := Aside0.mk (HBF2.out.below hb3)
        have HP3 := Aside0.mk (HP2.out.below hb3)
        have hlt := Crc.sum_lt (L.drop 4)
        have hiff := sum_iff (s := Crc.sum (L.drop 4)) (L.take 4) (by rw [List.length_take, hlen]; rfl) hlt
        have hwu : IntKind.u64.wrap ((Crc.sum (L.drop 4) : Nat) : Int) = ((Crc.sum (L.drop 4) : Nat) : Int) := u64w (by omega) (by omega)
        clear hb3 hrd
        go_wp2_with fail
        refine (take_calls w3 g 0 4 512 (d + 512) L HBF3.out (by omega) (by omega) (by omega) (by omega) (by omega)).mono ?_
        rintro e w4 ⟨rfl, hb4⟩
        have HB4 := Aside0.mk (below_then HB3.out HB3.out.size hb4)
        have HBF4 := Aside0.mk (HBF3.out.below hb4)
        have HP4 := Aside0.mk (HP3.out.below hb4)
        clear hb4
        have hrd0 : rdN L 0 4 = val (L.take 4) := rfl
        by_cases hsum : val (L.take 4) = Crc.sum (L.drop 4)
        · have HSM := Aside0.mk (hiff.1 hsum)
          have e3 : (((Crc.sum (L.drop 4) : Nat) : Int) != ((rdN L 0 4 : Nat) : Int)) = false := by rw [hrd0, hsum]; simp
          clear hiff hsum hrd0
          go_wp2_with fail
          refine (take_calls w4 g 4 8 508 (d + 508) L HBF4.out (by omega) (by omega) (by omega) (by omega) (by omega)).mono ?_
          rintro e w5 ⟨rfl, hb5⟩
          have HB5 := Aside0.mk (below_then HB4.out HB4.out.size hb5)
          have HBF5 := Aside0.mk (HBF4.out.below hb5)
          obtain ⟨q1, q2, pv, hpa, hpr⟩ := HP4.out.below hb5
          obtain ⟨Ap, cp, rfl⟩ := Kd.R_slice hpr
          have HPA := Aside0.mk hpa
          have HPR := Aside0.mk hpr
          have p1 := blk_cell hpa 1
          have f1 := blk_frozen hpa 1
          clear hpa hpr q1 q2 hb5
          go_wp2_with fail
          have HGL := Aside0.mk (show g < w.heap.size from HBF.out.lt)
          have hbf6 : RdAt (w5.setCell ⟨w.heap.size, 1, none⟩ (.int .u64 ((rdN L 4 8 : Nat) : Int))) g L := HBF5.out.far (p := ⟨w.heap.size, 1, none⟩) (Nat.ne_of_lt HGL.out) _
          have hpa6 : PgAt (w5.setCell ⟨w.heap.size, 1, none⟩ (.int .u64 ((rdN L 4 8 : Nat) : Int))) w.heap.size id (rdN L 4 8) (.slice Ap 0 cp) := blk_set HPA.out 1 _
          have hpr6 := Kd.R_far (p := ⟨w.heap.size, 1, none⟩) HPR.out (fun _ hk => hk.2) (.int .u64 ((rdN L 4 8 : Nat) : Int))
          have hb6 := below_set (g := w.heap.size) (j := 1) (v := .int .u64 ((rdN L 4 8 : Nat) : Int)) HB5.out (Nat.le_refl _)
          generalize w5.setCell ⟨w.heap.size, 1, none⟩ (.int .u64 ((rdN L 4 8 : Nat) : Int)) = w6 at hbf6 hpa6 hpr6 hb6 ⊢
          refine (take_calls w6 g 14 2 498 (d + 498) L hbf6 (by omega) (by omega) (by omega) (by omega) (by omega)).mono ?_
          rintro e w7 ⟨rfl, hb7⟩
          have HB7 := Aside0.mk (below_then hb6 hb6.size hb7)
          have HBF7 := Aside0.mk (hbf6.below hb7)
          have HPA7 := Aside0.mk (hpa6.below hb7)
          have HPR7 := Aside0.mk (Kd.R_below hpr6 hb7)
          clear hbf6 hpa6 hpr6 hb6 hb7 p1 f1
          have hn2 : rdN L 14 2 < 65536 := rdN_lt2 L 14
          have hi2 : rdN L 12 2 < 65536 := rdN_lt2 L 12
          have hwn : wrap64 ((rdN L 14 2 : Nat) : Int) = ((rdN L 14 2 : Nat) : Int) := w64 (by omega) (by omega)
          have hwi : wrap64 ((rdN L 12 2 : Nat) : Int) = ((rdN L 12 2 : Nat) : Int) := w64 (by omega) (by omega)
          go_wp2_with fail
          refine (take_calls w7 g 12 2 500 (d + 500) L HBF7.out (by omega) (by omega) (by omega) (by omega) (by omega)).mono ?_
          rintro e w8 ⟨rfl, hb8⟩
          have HB8 := Aside0.mk (below_then HB7.out HB7.out.size hb8)
          have HBF8 := Aside0.mk (HBF7.out.below hb8)
          have HPA8 := Aside0.mk (HPA7.out.below hb8)
          have HPR8 := Aside0.mk (Kd.R_below HPR7.out hb8)
          clear hb8
          by_cases hbad : ((rdN L 12 2 : Nat) : Int) = id ∧ rdN L 14 2 ≤ 64
          · obtain ⟨hid2, hn64⟩ := hbad
            have e4 : (((rdN L 12 2 : Nat) : Int) != id) = false := by simp [hid2]
            have e5 : decide ((64 : Int) < ((rdN L 14 2 : Nat) : Int)) = false := by simp; omega
            have HI2 := Aside0.mk hid2
            clear hid2
            go_wp2_with fail
            obtain ⟨n, hn⟩ : ∃ x, x = rdN L 14 2 := ⟨_, rfl⟩
            have HN := Aside0.mk (show n ≤ 64 from by omega)
            have HNE := Aside0.mk hn
            rw [← hn]
            clear hn hn2 hwn hn64 e5
            go_loopg [9, 10, 11, 12, 57] n (fun gk v9 v10 v11 v12 v57 wr => ∃ (k : Nat) (v : Value), Aside0 (k + gk = n) ∧ v57 = .int .i64 k ∧ k ≤ n ∧ Aside0 (Below w.heap.size w wr) ∧ Aside0 (RdAt wr g L) ∧ Aside0 (PgAt wr w.heap.size id (rdN L 4 8) v) ∧ Aside0 (Kd.R kGCell 46 wr w.heap.size (fun q => w.heap.size ≤ q ∧ q ≠ w.heap.size) v (dec L k)) ∧ Aside0 (∀ i, i < k → cellOk L (rdN L (16 + 4 * i) 2) (rdN L (16 + 4 * i + 2) 2)))
            case atStart => exact ⟨0, .slice Ap 0 cp, ⟨by omega⟩, rfl, by omega, HB8, HBF8, HPA8, ⟨by simpa [dec] using HPR8.out⟩, ⟨fun i h => by omega⟩⟩
            case round =>
              obtain ⟨k, v, Hk, rfl, hkn, HBr, HBFr, HPAr, HPRr, HOK⟩ := hrel
              obtain ⟨A2, c2, rfl⟩ := Kd.R_slice HPRr.out
              by_cases hlt : k < n
              · have hk64 : k < 64 := by have := HN.out; omega
                have w1 : wrap64 (4 * (k : Int)) = 4 * (k : Int) := w64 (by omega) (by omega)
                have w2' : wrap64 (16 + 4 * (k : Int)) = 16 + 4 * (k : Int) := w64 (by omega) (by omega)
                have w3' : wrap64 (16 + 4 * (k : Int) + 2) = 16 + 4 * (k : Int) + 2 := w64 (by omega) (by omega)
                have t1 : (16 + 4 * (k : Int)).toNat = 16 + 4 * k := by omega
                have t2 : (16 + 4 * (k : Int) + 2).toNat = 16 + 4 * k + 2 := by omega
                go_wp2_with fail
                have HBr := Aside0.mk (below_drew HBr.out)
                have HBFr := Aside0.mk HBFr.out.drew
                have HPAr := Aside0.mk (blk_drew HPAr.out)
                have HPRr := Aside0.mk (Kd.R_drew HPRr.out)
                -- BEGIN
                refine start_ (n := 17) (S := fun _ => True) (ds := []) #[false, false, false, false, false, false, false, false, false, false, false, false, false, false, false, false, false] (by kernel_rfl) rfl rfl (trivial) (fun hHeld => ?_)
                refine pure_ (i := 0) (N := some 60) (v := ?_) (a' := ?_) #[true, false, false, false, false, false, false, false, false, false, false, false, false, false, false, false, false] rfl rfl (by kernel_rfl) (fun _ _ _ h => h) (Or.inl ⟨by rfl, ?_⟩) ?_ ?_
                rotate_left
                · intro w'
                  go_simp
                  all_goals (with_reducible rfl)
                rotate_left
                · simp only [Act.put, List.setIfInBounds_toArray, List.set_cons_zero, List.set_cons_succ, i64_w, i32_w]
                  rfl
                refine pure_ (i := 1) (N := some 61) (v := ?_) (a' := ?_) #[true, true, false, false, false, false, false, false, false, false, false, false, false, false, false, false, false] rfl rfl (by kernel_rfl) (fun _ _ _ h => h) (Or.inl ⟨by rfl, ?_⟩) ?_ ?_
                rotate_left
                · intro w'
                  go_simp
                  all_goals (with_reducible rfl)
                rotate_left
                · simp only [Act.put, List.setIfInBounds_toArray, List.set_cons_zero, List.set_cons_succ, i64_w, i32_w]
                  rfl
                refine pure_ (i := 2) (N := some 62) (v := ?_) (a' := ?_) #[true, true, true, false, false, false, false, false, false, false, false, false, false, false, false, false, false] rfl rfl (by kernel_rfl) (fun _ _ _ h => h) (Or.inl ⟨by rfl, ?_⟩) ?_ ?_
                rotate_left
                · intro w'
                  go_simp
                  all_goals (with_reducible rfl)
                rotate_left
                · simp only [Act.put, List.setIfInBounds_toArray, List.set_cons_zero, List.set_cons_succ, i64_w, i32_w]
                  rfl
                refine pure_ (i := 3) (N := some 63) (v := ?_) (a' := ?_) #[true, true, true, true, false, false, false, false, false, false, false, false, false, false, false, false, false] rfl rfl (by kernel_rfl) (fun _ _ _ h => h) (Or.inl ⟨by rfl, ?_⟩) ?_ ?_
                rotate_left
                · intro w'
                  go_simp
                  all_goals (with_reducible rfl)
                rotate_left
                · simp only [Act.put, List.setIfInBounds_toArray, List.set_cons_zero, List.set_cons_succ, i64_w, i32_w]
                  rfl
                refine pure_ (i := 4) (N := some 64) (v := .slice (some ⟨g, 16 + 4 * k, none⟩) (512 - (16 + 4 * k)) (d + 512 - (16 + 4 * k))) (a' := ?_) #[true, true, true, true, true, false, false, false, false, false, false, false, false, false, false, false, false] rfl rfl (by kernel_rfl) (fun _ _ _ h => h) (Or.inl ⟨by rfl, ?_⟩) ?_ ?_
                · intro w'
                  go_simp
                  all_goals (rw [if_pos (by omega), if_neg (by omega)])
                rotate_left
                · simp only [Act.put, List.setIfInBounds_toArray, List.set_cons_zero, List.set_cons_succ, i64_w, i32_w]
                  rfl
                refine pure_ (i := 7) (N := some 67) (v := ?_) (a' := ?_) #[true, true, true, true, true, false, false, true, false, false, false, false, false, false, false, false, false] rfl rfl (by kernel_rfl) (fun _ _ _ h => h) (Or.inl ⟨by rfl, ?_⟩) ?_ ?_
                rotate_left
                · intro w'
                  go_simp
                  all_goals (with_reducible rfl)
                rotate_left
                · simp only [Act.put, List.setIfInBounds_toArray, List.set_cons_zero, List.set_cons_succ, i64_w, i32_w]
                  rfl
                refine pure_ (i := 8) (N := some 68) (v := ?_) (a' := ?_) #[true, true, true, true, true, false, false, true, true, false, false, false, false, false, false, false, false] rfl rfl (by kernel_rfl) (fun _ _ _ h => h) (Or.inl ⟨by rfl, ?_⟩) ?_ ?_
                rotate_left
                · intro w'
                  go_simp
                  all_goals (with_reducible rfl)
                rotate_left
                · simp only [Act.put, List.setIfInBounds_toArray, List.set_cons_zero, List.set_cons_succ, i64_w, i32_w]
                  rfl
                refine pure_ (i := 9) (N := some 69) (v := ?_) (a' := ?_) #[true, true, true, true, true, false, false, true, true, true, false, false, false, false, false, false, false] rfl rfl (by kernel_rfl) (fun _ _ _ h => h) (Or.inl ⟨by rfl, ?_⟩) ?_ ?_
                rotate_left
                · intro w'
                  go_simp
                  all_goals (with_reducible rfl)
                rotate_left
                · simp only [Act.put, List.setIfInBounds_toArray, List.set_cons_zero, List.set_cons_succ, i64_w, i32_w]
                  rfl
                refine pure_ (i := 10) (N := some 70) (v := ?_) (a' := ?_) #[true, true, true, true, true, false, false, true, true, true, true, false, false, false, false, false, false] rfl rfl (by kernel_rfl) (fun _ _ _ h => h) (Or.inl ⟨by rfl, ?_⟩) ?_ ?_
                rotate_left
                · intro w'
                  go_simp
                  all_goals (with_reducible rfl)
                rotate_left
                · simp only [Act.put, List.setIfInBounds_toArray, List.set_cons_zero, List.set_cons_succ, i64_w, i32_w]
                  rfl
                refine pure_ (i := 11) (N := some 71) (v := ?_) (a' := ?_) #[true, true, true, true, true, false, false, true, true, true, true, true, false, false, false, false, false] rfl rfl (by kernel_rfl) (fun _ _ _ h => h) (Or.inl ⟨by rfl, ?_⟩) ?_ ?_
                rotate_left
                · intro w'
                  go_simp
                  all_goals (with_reducible rfl)
                rotate_left
                · simp only [Act.put, List.setIfInBounds_toArray, List.set_cons_zero, List.set_cons_succ, i64_w, i32_w]
                  rfl
                refine pure_ (i := 12) (N := some 72) (v := .slice (some ⟨g, 16 + 4 * k + 2, none⟩) (510 - (16 + 4 * k)) (d + 510 - (16 + 4 * k))) (a' := ?_) #[true, true, true, true, true, false, false, true, true, true, true, true, true, false, false, false, false] rfl rfl (by kernel_rfl) (fun _ _ _ h => h) (Or.inl ⟨by rfl, ?_⟩) ?_ ?_
                · intro w'
                  go_simp
                  all_goals (rw [if_pos (by omega), if_neg (by omega)])
                rotate_left
                · simp only [Act.put, List.setIfInBounds_toArray, List.set_cons_zero, List.set_cons_succ, i64_w, i32_w]
                  rfl
                refine one_ (i := 5) (N := some 65) #[true, true, true, true, true, true, false, true, true, true, true, true, true, false, false, false, false] rfl rfl (by kernel_rfl) (by decide) (fun K hK => ?_)
                go_simp
                go_at_call 42
                refine (take_calls _ g _ 2 _ _ L HBFr.out (by omega) (by omega) (by omega) (by omega) (by omega)).mono ?_
                rintro e ws ⟨rfl, hbz⟩
                have HBs := Aside0.mk (below_then HBr.out HBr.out.size hbz)
                have HBFs := Aside0.mk (HBFr.out.below hbz)
                have HPAs := Aside0.mk (blk_below HPAr.out hbz)
                have HPRs := Aside0.mk (Kd.R_below HPRr.out hbz)
                clear hbz
                (try go_wp2_with fail)
                refine hK.out _ _ (trivial) (fun hHeld => ?_)
                clear hK K
                (try simp only [Act.put, List.setIfInBounds_toArray, List.set_cons_zero, List.set_cons_succ])
                refine pure_ (i := 6) (N := some 66) (v := ?_) (a' := ?_) #[true, true, true, true, true, true, true, true, true, true, true, true, true, false, false, false, false] rfl rfl (by kernel_rfl) (fun _ _ _ h => h) (Or.inl ⟨by rfl, ?_⟩) ?_ ?_
                rotate_left
                · intro w'
                  go_simp
                  all_goals (with_reducible rfl)
                rotate_left
                · simp only [Act.put, List.setIfInBounds_toArray, List.set_cons_zero, List.set_cons_succ, i64_w, i32_w]
                  rfl
                refine one_ (i := 13) (N := some 73) #[true, true, true, true, true, true, true, true, true, true, true, true, true, true, false, false, false] rfl rfl (by kernel_rfl) (by decide) (fun K hK => ?_)
                go_simp
                go_at_call 42
                refine (take_calls _ g _ 2 _ _ L HBFs.out (by omega) (by omega) (by omega) (by omega) (by omega)).mono ?_
                rintro e wt ⟨rfl, hbz⟩
                have HBt := Aside0.mk (below_then HBs.out HBs.out.size hbz)
                have HBFt := Aside0.mk (HBFs.out.below hbz)
                have HPAt := Aside0.mk (blk_below HPAs.out hbz)
                have HPRt := Aside0.mk (Kd.R_below HPRs.out hbz)
                clear hbz
                (try go_wp2_with fail)
                refine hK.out _ _ (trivial) (fun hHeld => ?_)
                clear hK K
                (try simp only [Act.put, List.setIfInBounds_toArray, List.set_cons_zero, List.set_cons_succ])
                refine pure_ (i := 14) (N := some 74) (v := ?_) (a' := ?_) #[true, true, true, true, true, true, true, true, true, true, true, true, true, true, true, false, false] rfl rfl (by kernel_rfl) (fun _ _ _ h => h) (Or.inl ⟨by rfl, ?_⟩) ?_ ?_
                rotate_left
                · intro w'
                  go_simp
                  all_goals (with_reducible rfl)
                rotate_left
                · simp only [Act.put, List.setIfInBounds_toArray, List.set_cons_zero, List.set_cons_succ, i64_w, i32_w]
                  rfl
                refine pure_ (i := 15) (N := some 10) (v := ?_) (a' := ?_) #[true, true, true, true, true, true, true, true, true, true, true, true, true, true, true, true, false] rfl rfl (by kernel_rfl) (fun _ _ _ h => h) (Or.inl ⟨by rfl, ?_⟩) ?_ ?_
                rotate_left
                · intro w'
                  go_simp
                  all_goals (with_reducible rfl)
                rotate_left
                · simp only [Act.put, List.setIfInBounds_toArray, List.set_cons_zero, List.set_cons_succ, i64_w, i32_w]
                  rfl
                refine pure_ (i := 16) (N := some 11) (v := ?_) (a' := ?_) #[true, true, true, true, true, true, true, true, true, true, true, true, true, true, true, true, true] rfl rfl (by kernel_rfl) (fun _ _ _ h => h) (Or.inl ⟨by rfl, ?_⟩) ?_ ?_
                rotate_left
                · intro w'
                  go_simp
                  all_goals (with_reducible rfl)
                rotate_left
                · simp only [Act.put, List.setIfInBounds_toArray, List.set_cons_zero, List.set_cons_succ, i64_w, i32_w]
                  rfl
                refine done_ (by kernel_rfl) ?_
                -- END
                have hoL := rdN_lt2 L (16 + 4 * k)
                have hmL := rdN_lt2 L (16 + 4 * k + 2)
                generalize hoe : rdN L (16 + 4 * k) 2 = o at hoL ⊢
                generalize hme : rdN L (16 + 4 * k + 2) 2 = m at hmL ⊢
                have HOE := Aside0.mk hoe
                have HME := Aside0.mk hme
                clear hoe hme w1 w2' w3' t1 t2
                rw [(wraps o m 0 hoL hmL (by omega)).1, (wraps o m 0 hoL hmL (by omega)).2.1]
                by_cases hm0 : m = 0
                · obtain rfl := hm0
                  have HC := Aside0.mk (show slotAt L k = zGCell by unfold slotAt cellAt; rw [if_pos HME.out])
                  rw [show ((0 : Nat) : Int) = 0 from rfl]
                  -- [A
                  go_wp2_with fail
                  have hbq : Below wt.heap.size wt (wt.alloc (.cells #[.bool false, .string ⟨#[]⟩, .string ⟨#[]⟩] 46)) := below_alloc (Below.refl _ _) _
                  have hxq : (wt.alloc (.cells #[.bool false, .string ⟨#[]⟩, .string ⟨#[]⟩] 46)).heap[wt.heap.size]? = some (.cells #[.bool false, .string ⟨#[]⟩, .string ⟨#[]⟩] 46 (0, 0)) := heap_alloc_new wt _
                  have HOKk := Aside0.mk (show cellOk L (rdN L (16 + 4 * k) 2) (rdN L (16 + 4 * k + 2) 2) from .inl HME.out)
                  generalize wt.alloc (.cells #[.bool false, .string ⟨#[]⟩, .string ⟨#[]⟩] 46) = wq at hbq hxq ⊢
                  have HBq := Aside0.mk (below_then HBt.out HBt.out.size hbq)
                  have HXq := Aside0.mk hxq
                  have HBFq := Aside0.mk (HBFt.out.below hbq)
                  have HPAq := Aside0.mk (blk_below HPAt.out hbq)
                  have HRq := Aside0.mk (Kd.R_below HPRt.out hbq)
                  have hdl : (dec L k).length ≤ 64 := by rw [dec_length]; omega
                  have g2 : wq.cell? ⟨w.heap.size, 2, none⟩ = some (.slice A2 (dec L k).length c2) := blk_cell HPAq.out 2
                  have y0 := blk_cell HXq.out 0
                  have g2a : ∀ ob, (wq.alloc ob).cell? ⟨w.heap.size, 2, none⟩ = some (.slice A2 (dec L k).length c2) := fun ob => blk_cell (blk_alloc HPAq.out ob) 2
                  have y1 := blk_cell HXq.out 1
                  have y2 := blk_cell HXq.out 2
                  have hsz := HBq.out.size
                  have hlen : (dec L k ++ [zGCell]).length = (dec L k).length + 1 := by simp
                  clear hbq hxq
                  go_wp2_with fail
                  go_region_law (refine R_append_drew kGCell (w0 := w) (W := wq) w.heap.size (by rfl) (.tmp 120) (.tmp 122) 31 46 (.agg #[(.bool false), (.string ⟨#[]⟩), (.string ⟨#[]⟩)]) 40 (by rfl) Try.underlying31 Rf.info46 rfl (by decide) (by omega) (.slice A2 (dec L k).length c2) (dec L k) zGCell [.bool false, .string ⟨#[]⟩, .string ⟨#[]⟩] (fun q => w.heap.size ≤ q ∧ q ≠ w.heap.size) (fun _ => False) (by rfl) (by rfl) (kGCell_mkM _ _ _ zGCell) (fun _ hk => hk.elim) ?hfr HRq.out HBq.out hsz (by omega) ?_; (case hfr => intro k hk; exact ⟨by omega, by have := blk_lt HPAq.out; omega⟩); intro v1 w5 ho hb hg hat; obtain ⟨A1, c1, hv1⟩ := Kd.R_slice ho; rw [hlen] at hv1; rw [hv1]; rw [hv1] at ho; have HAT5 := Aside0.mk (blk_grown HPAq.out hg (Kd.R_ne HRq.out HPAq.out (by decide))); have hg5 : w5.cell? ⟨w.heap.size, 2, none⟩ = some (.slice A2 (dec L k).length c2) := blk_cell HAT5.out 2; have hf5 := blk_frozen HAT5.out 2; have HO := Aside0.mk ho; have HG5 := Aside0.mk hg; have HB5 := Aside0.mk hb; have HBF5 := Aside0.mk (show RdAt w5 g L from RdAt.grown HBFq.out hg (fun he => absurd (HRq.out.1 g he.symm).1 (Nat.not_le.2 HGL.out))); clear ho hat hv1 hg hb)
                  all_goals
                    go_wp2_with fail
                    go_roundg (gk - 1)
                    case measure => have := Hk.out; omega
                    case rel =>
                      refine ⟨k + 1, _, ⟨by have := Hk.out; omega⟩, by go_num, by omega, ⟨HB5.out.setCell (Nat.le_refl _) _⟩, ⟨HBF5.out.far (p := ⟨w.heap.size, 2, none⟩) (Nat.ne_of_lt HGL.out) _⟩, ⟨blk_set HAT5.out 2 _⟩, ⟨?_⟩, ⟨fun i hi => ?_⟩⟩
                      · rw [dec_succ, HC.out]
                        exact Kd.R_far (p := ⟨w.heap.size, 2, none⟩) HO.out (fun _ hk => hk.2) _
                      · rcases Nat.lt_or_eq_of_le (Nat.le_of_lt_succ hi) with h | rfl
                        · exact HOK.out i h
                        · exact HOKk.out
                  -- A]
                · have hmp : (0 : Int) < (m : Int) := by omega
                  have hmp' : 0 < m := by omega
                  by_cases hr : o + m ≤ 512
                  · have e6 : decide ((512 : Int) < (o : Int) + (m : Int)) = false := by simp; omega
                    have ho512 : (o : Int) < 512 := by omega
                    have ho512' : o < 512 := by omega
                    obtain ⟨x, hxe⟩ : ∃ x, x = (L.getD o 0).toNat := ⟨_, rfl⟩
                    have hx256 : x < 256 := by rw [hxe]; exact (L.getD o 0).toNat_lt
                    have hxc : ∀ ob, (wt.alloc ob).cell? ⟨g, o, none⟩ = some (.int .u8 (x : Int)) := fun ob => by
                      have := (HBFt.out.below (below_alloc (Below.refl _ wt) ob)).cell o (by rw [HLEN.out]; omega)
                      rw [this, hxe, List.getD_eq_getElem?_getD, List.getElem?_eq_getElem (by rw [HLEN.out]; omega)]
                      rfl
                    have HXE := Aside0.mk hxe
                    clear hxe
                    by_cases hl1 : 1 + x ≤ m
                    · have e7 : decide ((m : Int) < 1 + (x : Int)) = false := by simp; omega
                      have HRR := Aside0.mk (And.intro hr hl1)
                      clear hr hl1
                      -- [B
                      go_wp2_with fail
                      have hba : Below wt.heap.size wt (wt.alloc (.cells #[.bool false, .string ⟨#[]⟩, .string ⟨#[]⟩] 46)) := below_alloc (Below.refl _ _) _
                      have hxa : (wt.alloc (.cells #[.bool false, .string ⟨#[]⟩, .string ⟨#[]⟩] 46)).heap[wt.heap.size]? = some (.cells #[.bool false, .string ⟨#[]⟩, .string ⟨#[]⟩] 46 (0, 0)) := heap_alloc_new wt _
                      have HOKk := Aside0.mk (show cellOk L (rdN L (16 + 4 * k) 2) (rdN L (16 + 4 * k + 2) 2) from .inr (by rw [HOE.out, HME.out, ← HXE.out, HLEN.out]; exact HRR.out))
                      generalize wt.alloc (.cells #[.bool false, .string ⟨#[]⟩, .string ⟨#[]⟩] 46) = wa at hba hxa ⊢
                      have HBFa := Aside0.mk (HBFt.out.below hba)
                      obtain ⟨A1s, ha1⟩ : ∃ A : Option Addr, A = (if d + 511 = o then some ⟨g, 0, none⟩ else some ⟨g, o + 1, none⟩) := ⟨_, rfl⟩
                      obtain ⟨A2s, ha2⟩ : ∃ A : Option Addr, A = (if d + 512 = ((o : Int) + 1 + (x : Int)).toNat then some ⟨g, 0, none⟩ else some ⟨g, ((o : Int) + 1 + (x : Int)).toNat, none⟩) := ⟨_, rfl⟩
                      have HA1 := Aside0.mk ha1
                      have HA2 := Aside0.mk ha2
                      clear ha1 ha2
                      have hr1 := cut_conv (g := g) (d + 512) (o + 1) (o + 1 + x) L HLEN.out (by omega) (by omega) (by have := HRR.out; omega) A1s (((o : Int) + 1 + (x : Int)).toNat - (o + 1)) (d + 511 - o) (by have e : (d + 511 = o) = (d + 512 = o + 1) := propext ⟨(by omega), (by omega)⟩; rw [HA1.out]; simp only [e]) (by omega) (by omega)
                      have hr2 := cut_conv (g := g) (d + 512) (o + 1 + x) (o + m) L HLEN.out (by omega) (by have := HRR.out; omega) (by have := HRR.out; omega) A2s (((o : Int) + (m : Int)).toNat - ((o : Int) + 1 + (x : Int)).toNat) (d + 512 - ((o : Int) + 1 + (x : Int)).toNat) (by have e : ((o : Int) + 1 + (x : Int)).toNat = o + 1 + x := (by omega); rw [HA2.out, e]) (by omega) (by omega)
                      have HI1 := Aside0.mk (show (0 ≤ (o : Int) + 1 + (x : Int) ∧ (o : Int) + 1 + (x : Int) ≤ (d : Int) + 512) ∧ (0 ≤ (o : Int) + 1 ∧ (o : Int) + 1 ≤ max ((o : Int) + 1 + (x : Int)) 0) from by have := HRR.out; omega)
                      have HI2 := Aside0.mk (show (0 ≤ (o : Int) + (m : Int) ∧ (o : Int) + (m : Int) ≤ (d : Int) + 512) ∧ (0 ≤ (o : Int) + 1 + (x : Int) ∧ (o : Int) + 1 + (x : Int) ≤ max ((o : Int) + (m : Int)) 0) from by have := HRR.out; omega)
                      have hc := slotAt_eq L k o m x HOE.out HME.out HXE.out hm0
                      obtain ⟨s1, se1⟩ : ∃ s, s = bsOf ((L.take (o + 1 + x)).drop (o + 1)) := ⟨_, rfl⟩
                      obtain ⟨s2, se2⟩ : ∃ s, s = bsOf ((L.take (o + m)).drop (o + 1 + x)) := ⟨_, rfl⟩
                      rw [← se1] at hr1 hc
                      rw [← se2] at hr2 hc
                      have HC := Aside0.mk hc
                      clear se1 se2 hc
                      have hgw : g ≠ wt.heap.size := Nat.ne_of_lt (HBFt.out.lt)
                      have HBS := Aside0.mk (show RdAt (((wa.setCell ⟨wt.heap.size, 0, none⟩ (.bool true)).setCell ⟨wt.heap.size, 1, none⟩ (.string s1)).setCell ⟨wt.heap.size, 2, none⟩ (.string s2)) g L from ((RdAt.far (p := ⟨wt.heap.size, 0, none⟩) HBFa.out hgw _).far (p := ⟨wt.heap.size, 1, none⟩) hgw _).far (p := ⟨wt.heap.size, 2, none⟩) hgw _)
                      have HBQ := Aside0.mk (show Below wt.heap.size wt (((wa.setCell ⟨wt.heap.size, 0, none⟩ (.bool true)).setCell ⟨wt.heap.size, 1, none⟩ (.string s1)).setCell ⟨wt.heap.size, 2, none⟩ (.string s2)).drew from below_drew (below_set (below_set (below_set hba (Nat.le_refl _)) (Nat.le_refl _)) (Nat.le_refl _)))
                      have HXQ := Aside0.mk (show (((wa.setCell ⟨wt.heap.size, 0, none⟩ (.bool true)).setCell ⟨wt.heap.size, 1, none⟩ (.string s1)).setCell ⟨wt.heap.size, 2, none⟩ (.string s2)).drew.heap[wt.heap.size]? = some (.cells #[.bool true, .string s1, .string s2] 46 (0, 0)) from blk_drew (blk_set (blk_set (blk_set hxa 0 _) 1 _) 2 _))
                      have HWR := Aside0.mk (wraps o m x hoL hmL hx256)
                      have y0 := blk_cell hxa 0
                      have y1 := blk_cell hxa 1
                      have y2 := blk_cell hxa 2
                      have z0 := blk_frozen hxa 0
                      have z1 := blk_frozen hxa 1
                      have z2 := blk_frozen hxa 2
                      clear hba hxa hxc hgw
                      have hwom := HWR.out.2.2.1
                      have hwo1 := HWR.out.2.2.2.2.2.1
                      have hwo1x := HWR.out.2.2.2.2.2.2
                      refine start_ (n := 15) (S := fun wx => (convert 38 9 (.slice A1s (((o : Int) + 1 + (x : Int)).toNat - (o + 1)) (d + 511 - o))).run Try.prog wx = .ok (.string s1) wx ∧ (convert 38 9 (.slice A2s (((o : Int) + (m : Int)).toNat - ((o : Int) + 1 + (x : Int)).toNat) (d + 512 - ((o : Int) + 1 + (x : Int)).toNat))).run Try.prog wx = .ok (.string s2) wx) (ds := []) #[false, false, false, false, false, false, false, false, false, false, false, false, false, false, false] (by kernel_rfl) rfl rfl (⟨hr1 _ HBFa.out, hr2 _ HBFa.out⟩) (fun hHeld => ?_)
                      refine pure_ (i := 0) (N := some 102) (v := ?_) (a' := ?_) #[true, false, false, false, false, false, false, false, false, false, false, false, false, false, false] rfl rfl (by kernel_rfl) (fun _ _ _ h => h) (Or.inl ⟨by rfl, ?_⟩) ?_ ?_
                      rotate_left
                      · intro w'
                        go_simp
                        all_goals (with_reducible rfl)
                      rotate_left
                      · simp only [Act.put, List.setIfInBounds_toArray, List.set_cons_zero, List.set_cons_succ, i64_w, i32_w]
                        rfl
                      refine pure_ (i := 1) (N := some 103) (v := ?_) (a' := ?_) #[true, true, false, false, false, false, false, false, false, false, false, false, false, false, false] rfl rfl (by kernel_rfl) (fun _ _ _ h => h) (Or.inl ⟨by rfl, ?_⟩) ?_ ?_
                      rotate_left
                      · intro w'
                        go_simp
                        all_goals (with_reducible rfl)
                      rotate_left
                      · simp only [Act.put, List.setIfInBounds_toArray, List.set_cons_zero, List.set_cons_succ, i64_w, i32_w]
                        rfl
                      refine pure_ (i := 2) (N := some 104) (v := ?_) (a' := ?_) #[true, true, true, false, false, false, false, false, false, false, false, false, false, false, false] rfl rfl (by kernel_rfl) (fun _ _ _ h => h) (Or.inl ⟨by rfl, ?_⟩) ?_ ?_
                      rotate_left
                      · intro w'
                        go_simp
                        all_goals (with_reducible rfl)
                      rotate_left
                      · simp only [Act.put, List.setIfInBounds_toArray, List.set_cons_zero, List.set_cons_succ, i64_w, i32_w]
                        rfl
                      refine pure_ (i := 3) (N := some 105) (v := ?_) (a' := ?_) #[true, true, true, true, false, false, false, false, false, false, false, false, false, false, false] rfl rfl (by kernel_rfl) (fun _ _ _ h => h) (Or.inl ⟨by rfl, ?_⟩) ?_ ?_
                      rotate_left
                      · intro w'
                        go_simp
                        all_goals (with_reducible rfl)
                      rotate_left
                      · simp only [Act.put, List.setIfInBounds_toArray, List.set_cons_zero, List.set_cons_succ, i64_w, i32_w]
                        rfl
                      refine pure_ (i := 4) (N := some 106) (v := .slice A1s (((o : Int) + 1 + (x : Int)).toNat - (o + 1)) (d + 511 - o)) (a' := ?_) #[true, true, true, true, true, false, false, false, false, false, false, false, false, false, false] rfl rfl (by kernel_rfl) (fun _ _ _ h => h) (Or.inl ⟨by rfl, ?_⟩) ?_ ?_
                      · intro w'
                        go_simp
                        all_goals (rw [if_pos HI1.out.1, if_pos HI1.out.2, ← HA1.out])
                      rotate_left
                      · simp only [Act.put, List.setIfInBounds_toArray, List.set_cons_zero, List.set_cons_succ, i64_w, i32_w]
                        rfl
                      refine pure_ (i := 6) (N := some 108) (v := ?_) (a' := ?_) #[true, true, true, true, true, false, true, false, false, false, false, false, false, false, false] rfl rfl (by kernel_rfl) (fun _ _ _ h => h) (Or.inl ⟨by rfl, ?_⟩) ?_ ?_
                      rotate_left
                      · intro w'
                        go_simp
                        all_goals (with_reducible rfl)
                      rotate_left
                      · simp only [Act.put, List.setIfInBounds_toArray, List.set_cons_zero, List.set_cons_succ, i64_w, i32_w]
                        rfl
                      refine pure_ (i := 7) (N := some 109) (v := ?_) (a' := ?_) #[true, true, true, true, true, false, true, true, false, false, false, false, false, false, false] rfl rfl (by kernel_rfl) (fun _ _ _ h => h) (Or.inl ⟨by rfl, ?_⟩) ?_ ?_
                      rotate_left
                      · intro w'
                        go_simp
                        all_goals (with_reducible rfl)
                      rotate_left
                      · simp only [Act.put, List.setIfInBounds_toArray, List.set_cons_zero, List.set_cons_succ, i64_w, i32_w]
                        rfl
                      refine pure_ (i := 8) (N := some 110) (v := ?_) (a' := ?_) #[true, true, true, true, true, false, true, true, true, false, false, false, false, false, false] rfl rfl (by kernel_rfl) (fun _ _ _ h => h) (Or.inl ⟨by rfl, ?_⟩) ?_ ?_
                      rotate_left
                      · intro w'
                        go_simp
                        all_goals (with_reducible rfl)
                      rotate_left
                      · simp only [Act.put, List.setIfInBounds_toArray, List.set_cons_zero, List.set_cons_succ, i64_w, i32_w]
                        rfl
                      refine pure_ (i := 9) (N := some 111) (v := ?_) (a' := ?_) #[true, true, true, true, true, false, true, true, true, true, false, false, false, false, false] rfl rfl (by kernel_rfl) (fun _ _ _ h => h) (Or.inl ⟨by rfl, ?_⟩) ?_ ?_
                      rotate_left
                      · intro w'
                        go_simp
                        all_goals (with_reducible rfl)
                      rotate_left
                      · simp only [Act.put, List.setIfInBounds_toArray, List.set_cons_zero, List.set_cons_succ, i64_w, i32_w]
                        rfl
                      refine pure_ (i := 10) (N := some 112) (v := ?_) (a' := ?_) #[true, true, true, true, true, false, true, true, true, true, true, false, false, false, false] rfl rfl (by kernel_rfl) (fun _ _ _ h => h) (Or.inl ⟨by rfl, ?_⟩) ?_ ?_
                      rotate_left
                      · intro w'
                        go_simp
                        all_goals (with_reducible rfl)
                      rotate_left
                      · simp only [Act.put, List.setIfInBounds_toArray, List.set_cons_zero, List.set_cons_succ, i64_w, i32_w]
                        rfl
                      refine pure_ (i := 11) (N := some 113) (v := .slice A2s (((o : Int) + (m : Int)).toNat - ((o : Int) + 1 + (x : Int)).toNat) (d + 512 - ((o : Int) + 1 + (x : Int)).toNat)) (a' := ?_) #[true, true, true, true, true, false, true, true, true, true, true, true, false, false, false] rfl rfl (by kernel_rfl) (fun _ _ _ h => h) (Or.inl ⟨by rfl, ?_⟩) ?_ ?_
                      · intro w'
                        go_simp
                        all_goals (rw [if_pos HI2.out.1, if_pos HI2.out.2, ← HA2.out])
                      rotate_left
                      · simp only [Act.put, List.setIfInBounds_toArray, List.set_cons_zero, List.set_cons_succ, i64_w, i32_w]
                        rfl
                      refine take_ (i := 5) (N := some 107) (v := .string s1) (a' := ?_) #[true, true, true, true, true, true, true, true, true, true, true, true, false, false, false] rfl rfl (by kernel_rfl) (fun _ _ _ h => h) (Or.inl ⟨by rfl, ?_⟩) hHeld ?_ ?_
                      · intro w' hSw
                        go_simp
                        all_goals (with_reducible exact hSw'.1)
                      rotate_left
                      · simp only [Act.put, List.setIfInBounds_toArray, List.set_cons_zero, List.set_cons_succ, i64_w, i32_w]
                        rfl
                      refine take_ (i := 12) (N := some 114) (v := .string s2) (a' := ?_) #[true, true, true, true, true, true, true, true, true, true, true, true, true, false, false] rfl rfl (by kernel_rfl) (fun _ _ _ h => h) (Or.inl ⟨by rfl, ?_⟩) hHeld ?_ ?_
                      · intro w' hSw
                        go_simp
                        all_goals (with_reducible exact hSw'.2)
                      rotate_left
                      · simp only [Act.put, List.setIfInBounds_toArray, List.set_cons_zero, List.set_cons_succ, i64_w, i32_w]
                        rfl
                      refine pure_ (i := 13) (N := some 115) (v := ?_) (a' := ?_) #[true, true, true, true, true, true, true, true, true, true, true, true, true, true, false] rfl rfl (by kernel_rfl) (fun _ _ _ h => h) (Or.inl ⟨by rfl, ?_⟩) ?_ ?_
                      rotate_left
                      · intro w'
                        go_simp
                        all_goals (with_reducible rfl)
                      rotate_left
                      · simp only [Act.put, List.setIfInBounds_toArray, List.set_cons_zero, List.set_cons_succ, i64_w, i32_w]
                        rfl
                      refine one_ (i := 14) (N := none) #[true, true, true, true, true, true, true, true, true, true, true, true, true, true, true] rfl rfl (by kernel_rfl) (by decide) (fun K hK => ?_)
                      go_simp
                      go_wp2_with fail
                      (try go_wp2_with fail)
                      refine hK.out _ _ (⟨hr1 _ HBS.out, hr2 _ HBS.out⟩) (fun hHeld => ?_)
                      clear hK K
                      (try simp only [Act.put, List.setIfInBounds_toArray, List.set_cons_zero, List.set_cons_succ])
                      refine done_ (by kernel_rfl) ?_
                      clear hwom hwo1 hwo1x y0 y1 y2 z0 z1 z2 hr1 hr2
                      have hbq := HBQ.out
                      have hxq := HXQ.out
                      generalize (((wa.setCell ⟨wt.heap.size, 0, none⟩ (.bool true)).setCell ⟨wt.heap.size, 1, none⟩ (.string s1)).setCell ⟨wt.heap.size, 2, none⟩ (.string s2)).drew = wq at hbq hxq ⊢
                      have HBq := Aside0.mk (below_then HBt.out HBt.out.size hbq)
                      have HXq := Aside0.mk hxq
                      have HBFq := Aside0.mk (HBFt.out.below hbq)
                      have HPAq := Aside0.mk (blk_below HPAt.out hbq)
                      have HRq := Aside0.mk (Kd.R_below HPRt.out hbq)
                      have hdl : (dec L k).length ≤ 64 := by rw [dec_length]; omega
                      have g2 : wq.cell? ⟨w.heap.size, 2, none⟩ = some (.slice A2 (dec L k).length c2) := blk_cell HPAq.out 2
                      have y0 := blk_cell HXq.out 0
                      have g2a : ∀ ob, (wq.alloc ob).cell? ⟨w.heap.size, 2, none⟩ = some (.slice A2 (dec L k).length c2) := fun ob => blk_cell (blk_alloc HPAq.out ob) 2
                      have y1 := blk_cell HXq.out 1
                      have y2 := blk_cell HXq.out 2
                      have hsz := HBq.out.size
                      have hlen : (dec L k ++ [(⟨true, s1, s2⟩ : SGCell)]).length = (dec L k).length + 1 := by simp
                      clear hbq hxq
                      go_wp2_with fail
                      go_region_law (refine R_append_drew kGCell (w0 := w) (W := wq) w.heap.size (by rfl) (.tmp 120) (.tmp 122) 31 46 (.agg #[(.bool false), (.string ⟨#[]⟩), (.string ⟨#[]⟩)]) 40 (by rfl) Try.underlying31 Rf.info46 rfl (by decide) (by omega) (.slice A2 (dec L k).length c2) (dec L k) (⟨true, s1, s2⟩ : SGCell) [.bool true, .string s1, .string s2] (fun q => w.heap.size ≤ q ∧ q ≠ w.heap.size) (fun _ => False) (by rfl) (by rfl) (kGCell_mkM _ _ _ (⟨true, s1, s2⟩ : SGCell)) (fun _ hk => hk.elim) ?hfr HRq.out HBq.out hsz (by omega) ?_; (case hfr => intro k hk; exact ⟨by omega, by have := blk_lt HPAq.out; omega⟩); intro v1 w5 ho hb hg hat; obtain ⟨A1, c1, hv1⟩ := Kd.R_slice ho; rw [hlen] at hv1; rw [hv1]; rw [hv1] at ho; have HAT5 := Aside0.mk (blk_grown HPAq.out hg (Kd.R_ne HRq.out HPAq.out (by decide))); have hg5 : w5.cell? ⟨w.heap.size, 2, none⟩ = some (.slice A2 (dec L k).length c2) := blk_cell HAT5.out 2; have hf5 := blk_frozen HAT5.out 2; have HO := Aside0.mk ho; have HG5 := Aside0.mk hg; have HB5 := Aside0.mk hb; have HBF5 := Aside0.mk (show RdAt w5 g L from RdAt.grown HBFq.out hg (fun he => absurd (HRq.out.1 g he.symm).1 (Nat.not_le.2 HGL.out))); clear ho hat hv1 hg hb)
                      all_goals
                        go_wp2_with fail
                        go_roundg (gk - 1)
                        case measure => have := Hk.out; omega
                        case rel =>
                          refine ⟨k + 1, _, ⟨by have := Hk.out; omega⟩, by go_num, by omega, ⟨HB5.out.setCell (Nat.le_refl _) _⟩, ⟨HBF5.out.far (p := ⟨w.heap.size, 2, none⟩) (Nat.ne_of_lt HGL.out) _⟩, ⟨blk_set HAT5.out 2 _⟩, ⟨?_⟩, ⟨fun i hi => ?_⟩⟩
                          · rw [dec_succ, HC.out]
                            exact Kd.R_far (p := ⟨w.heap.size, 2, none⟩) HO.out (fun _ hk => hk.2) _
                          · rcases Nat.lt_or_eq_of_le (Nat.le_of_lt_succ hi) with h | rfl
                            · exact HOK.out i h
                            · exact HOKk.out
                      -- B]
                    · have e7 : decide ((m : Int) < 1 + (x : Int)) = true := by simp; omega
                      have HNOK := Aside0.mk (show ¬ cellOk L (rdN L (16 + 4 * k) 2) (rdN L (16 + 4 * k + 2) 2) from fun h => by
                        rw [HOE.out, HME.out] at h
                        rcases h with h | ⟨_, h⟩
                        · omega
                        · rw [← HXE.out] at h; exact hl1 h)
                      clear hr hl1
                      -- [C
                      go_wp2_with fail
                      go_ret2
                      refine ⟨_, _, rfl, below_alloc HBt.out _, fun h => absurd ⟨HID.out.1, HID.out.2, HLEN.out⟩ h, fun _ _ h => ?_, fun _ _ _ h => absurd HSM.out h, fun _ _ _ _ => .inr ⟨?_, rfl, rfl⟩⟩
                      · rw [HZ.out] at h; exact absurd h (by decide)
                      · exact not_page L k HID.out (by rw [← HNE.out]; exact hlt) HNOK.out
                      -- C]
                  · have e6 : decide ((512 : Int) < (o : Int) + (m : Int)) = true := by simp; omega
                    have HNOK := Aside0.mk (show ¬ cellOk L (rdN L (16 + 4 * k) 2) (rdN L (16 + 4 * k + 2) 2) from fun h => by
                      rw [HOE.out, HME.out] at h
                      rcases h with h | ⟨h, _⟩
                      · omega
                      · rw [HLEN.out] at h; omega)
                    clear hr
                    -- [D
                    go_wp2_with fail
                    go_ret2
                    refine ⟨_, _, rfl, below_alloc HBt.out _, fun h => absurd ⟨HID.out.1, HID.out.2, HLEN.out⟩ h, fun _ _ h => ?_, fun _ _ _ h => absurd HSM.out h, fun _ _ _ _ => .inr ⟨?_, rfl, rfl⟩⟩
                    · rw [HZ.out] at h; exact absurd h (by decide)
                    · exact not_page L k HID.out (by rw [← HNE.out]; exact hlt) HNOK.out
                    -- D]
              · have hkn : k = n := by omega
                subst hkn
                have HB9 := Aside0.mk HBr.out
                have p2 := blk_cell HPAr.out 2
                -- [E
                have HBr := Aside0.mk (below_drew HBr.out)
                have HBFr := Aside0.mk HBFr.out.drew
                have HPAr := Aside0.mk (blk_drew HPAr.out)
                have HPRr := Aside0.mk (Kd.R_drew HPRr.out)
                have HIDN := Aside0.mk (Int.toNat_of_nonneg HID.out.1)
                have HCr := Aside0.mk (Kd.R_reads' HPRr.out).2.2
                have HSM2 := Aside0.mk (dec_small L k HLEN.out (by have := HN.out; omega))
                have HZR := Aside0.mk (show ∀ c ∈ dec L k, c.f0 = false → c = zGCell from fun c hc hf => by
                  obtain ⟨i, _, rfl⟩ := List.mem_map.1 hc
                  exact slotAt_free L i hf)
                have hcvL : ∀ W, RdAt W g L → (convert 38 9 (.slice (some ⟨g, 0, none⟩) 512 (d + 512))).run Try.prog W = .ok (.string (bsOf L)) W := fun W hb => by
                  have := cut_conv (g := g) (d + 512) 0 512 L HLEN.out (by omega) (by omega) (by omega) (some ⟨g, 0, none⟩) 512 (d + 512) (by simp) rfl rfl W hb
                  rwa [List.take_of_length_le (by rw [HLEN.out]; omega), List.drop_zero] at this
                by_cases hV : Valid (dec L k)
                · have HV := Aside0.mk hV
                  by_cases hpg : pgB id.toNat (rdN L 4 8) (dec L k) = L
                  · have HPG := Aside0.mk hpg
                    have e9 : ((bsOf (pgB id.toNat (rdN L 4 8) (dec L k))).toList == (bsOf L).toList) = true := by rw [hpg]; simp
                    clear hV hpg
                    go_wp2_with fail
                    refine start_ (n := 11) (S := fun wx => RdAt wx g L) (ds := []) #[false, false, false, false, false, false, false, false, false, false, false] (by kernel_rfl) rfl rfl (HBFr.out) (fun hHeld => ?_)
                    refine pure_ (i := 0) (N := some 127) (v := ?_) (a' := ?_) #[true, false, false, false, false, false, false, false, false, false, false] rfl rfl (by kernel_rfl) (fun _ _ _ h => h) (Or.inl ⟨by rfl, ?_⟩) ?_ ?_
                    rotate_left
                    · intro w'
                      go_simp
                      all_goals (with_reducible rfl)
                    rotate_left
                    · simp only [Act.put, List.setIfInBounds_toArray, List.set_cons_zero, List.set_cons_succ, i64_w, i32_w]
                      rfl
                    refine one_ (i := 1) (N := some 128) #[true, true, false, false, false, false, false, false, false, false, false] rfl rfl (by kernel_rfl) (by decide) (fun K hK => ?_)
                    go_simp
                    go_at_call 43
                    refine (right_calls _ w.heap.size id (rdN L 4 8) A2 c2 (dec L k) HPAr.out HCr.out HSM2.out HZR.out).mono ?_
                    rintro e wA ⟨r, rfl, hr, hbA⟩
                    obtain rfl : r = true := hr.2 ⟨HV.out.may, HV.out.once, HV.out.last, HV.out.room⟩
                    have HBA := Aside0.mk (below_then HBr.out HBr.out.size hbA)
                    have HBFA := Aside0.mk (HBFr.out.below hbA)
                    have HPAA := Aside0.mk (blk_below HPAr.out hbA)
                    have HRA := Aside0.mk (Kd.R_below HPRr.out hbA)
                    clear hbA hr
                    (try go_wp2_with fail)
                    refine hK.out _ _ (HBFA.out) (fun hHeld => ?_)
                    clear hK K
                    (try simp only [Act.put, List.setIfInBounds_toArray, List.set_cons_zero, List.set_cons_succ])
                    refine pure_ (i := 2) (N := some 129) (v := ?_) (a' := ?_) #[true, true, true, false, false, false, false, false, false, false, false] rfl rfl (by kernel_rfl) (fun _ _ _ h => h) (Or.inl ⟨by rfl, ?_⟩) ?_ ?_
                    rotate_left
                    · intro w'
                      go_simp
                      all_goals (with_reducible rfl)
                    rotate_left
                    · simp only [Act.put, List.setIfInBounds_toArray, List.set_cons_zero, List.set_cons_succ, i64_w, i32_w]
                      rfl
                    refine pure_ (i := 3) (N := some 130) (v := ?_) (a' := ?_) #[true, true, true, true, false, false, false, false, false, false, false] rfl rfl (by kernel_rfl) (fun _ _ _ h => h) (Or.inl ⟨by rfl, ?_⟩) ?_ ?_
                    rotate_left
                    · intro w'
                      go_simp
                      all_goals (with_reducible rfl)
                    rotate_left
                    · simp only [Act.put, List.setIfInBounds_toArray, List.set_cons_zero, List.set_cons_succ, i64_w, i32_w]
                      rfl
                    refine pure_ (i := 4) (N := some 131) (v := ?_) (a' := ?_) #[true, true, true, true, true, false, false, false, false, false, false] rfl rfl (by kernel_rfl) (fun _ _ _ h => h) (Or.inl ⟨by rfl, ?_⟩) ?_ ?_
                    rotate_left
                    · intro w'
                      go_simp
                      all_goals (with_reducible rfl)
                    rotate_left
                    · simp only [Act.put, List.setIfInBounds_toArray, List.set_cons_zero, List.set_cons_succ, i64_w, i32_w]
                      rfl
                    refine pure_ (i := 7) (N := some 134) (v := ?_) (a' := ?_) #[true, true, true, true, true, false, false, true, false, false, false] rfl rfl (by kernel_rfl) (fun _ _ _ h => h) (Or.inl ⟨by rfl, ?_⟩) ?_ ?_
                    rotate_left
                    · intro w'
                      go_simp
                      all_goals (with_reducible rfl)
                    rotate_left
                    · simp only [Act.put, List.setIfInBounds_toArray, List.set_cons_zero, List.set_cons_succ, i64_w, i32_w]
                      rfl
                    refine take_ (i := 8) (N := some 135) (v := .string (bsOf L)) (a' := ?_) #[true, true, true, true, true, false, false, true, true, false, false] rfl rfl (by kernel_rfl) (fun _ _ _ h => h) (Or.inl ⟨by rfl, ?_⟩) hHeld ?_ ?_
                    · intro w' hSw
                      go_simp
                      all_goals (with_reducible exact hcvL _ hSw')
                    rotate_left
                    · simp only [Act.put, List.setIfInBounds_toArray, List.set_cons_zero, List.set_cons_succ, i64_w, i32_w]
                      rfl
                    refine one_ (i := 5) (N := some 132) #[true, true, true, true, true, true, false, true, true, false, false] rfl rfl (by kernel_rfl) (by decide) (fun K hK => ?_)
                    go_simp
                    go_at_call 15
                    refine (bytes_calls _ w.heap.size id.toNat (rdN L 4 8) A2 c2 (dec L k) (by rw [HIDN.out]; exact HPAA.out) (Kd.R_reads' HRA.out).2.2 HSM2.out HV.out.room4 (by have := HID.out; omega) (rdN_lt8 L 4)).mono ?_
                    rintro e wB ⟨rfl, hbuf, hbB⟩
                    have HBB := Aside0.mk (below_then HBA.out HBA.out.size hbB)
                    have HBFB := Aside0.mk (HBFA.out.below hbB)
                    have HPAB := Aside0.mk (blk_below HPAA.out hbB)
                    have HRB := Aside0.mk (Kd.R_below HRA.out hbB)
                    have HCV := Aside0.mk (cut_conv (g := wA.heap.size) 512 0 512 _ (pgB_length id.toNat (rdN L 4 8) (dec L k) HV.out.room4) (by omega) (by omega) (by omega) (some ⟨wA.heap.size, 0, none⟩) 512 512 (by simp) rfl rfl wB hbuf.rd)
                    have hcv := HCV.out
                    rw [List.take_of_length_le (by rw [pgB_length id.toNat (rdN L 4 8) (dec L k) HV.out.room4]; omega), List.drop_zero] at hcv
                    clear hbuf hbB
                    (try go_wp2_with fail)
                    refine hK.out _ _ (HBFB.out) (fun hHeld => ?_)
                    clear hK K
                    (try simp only [Act.put, List.setIfInBounds_toArray, List.set_cons_zero, List.set_cons_succ])
                    refine more_z (S' := fun wx => (convert 38 9 (.slice (some ⟨wA.heap.size, 0, none⟩) 512 512)).run Try.prog wx = .ok (.string (bsOf (pgB id.toNat (rdN L 4 8) (dec L k)))) wx ∧ RdAt wx g L) (fun _ h => h.2) _ _ _ _ (⟨hcv, HBFB.out⟩) ?_
                    have hHeld : (fun wx => (convert 38 9 (.slice (some ⟨wA.heap.size, 0, none⟩) 512 512)).run Try.prog wx = .ok (.string (bsOf (pgB id.toNat (rdN L 4 8) (dec L k)))) wx ∧ RdAt wx g L) _ := ⟨hcv, HBFB.out⟩
                    refine take_ (i := 6) (N := some 133) (v := .string (bsOf (pgB id.toNat (rdN L 4 8) (dec L k)))) (a' := ?_) #[true, true, true, true, true, true, true, true, true, false, false] rfl rfl (by kernel_rfl) (fun _ _ _ h => h) (Or.inl ⟨by rfl, ?_⟩) hHeld ?_ ?_
                    · intro w' hSw
                      go_simp
                      all_goals (with_reducible exact hSw'.1)
                    rotate_left
                    · simp only [Act.put, List.setIfInBounds_toArray, List.set_cons_zero, List.set_cons_succ, i64_w, i32_w]
                      rfl
                    refine pure_ (i := 9) (N := some 136) (v := ?_) (a' := ?_) #[true, true, true, true, true, true, true, true, true, true, false] rfl rfl (by kernel_rfl) (fun _ _ _ h => h) (Or.inl ⟨by rfl, ?_⟩) ?_ ?_
                    rotate_left
                    · intro w'
                      go_simp
                      all_goals (with_reducible rfl)
                    rotate_left
                    · simp only [Act.put, List.setIfInBounds_toArray, List.set_cons_zero, List.set_cons_succ, i64_w, i32_w]
                      rfl
                    refine pure_ (i := 10) (N := some 137) (v := ?_) (a' := ?_) #[true, true, true, true, true, true, true, true, true, true, true] rfl rfl (by kernel_rfl) (fun _ _ _ h => h) (Or.inl ⟨by rfl, ?_⟩) ?_ ?_
                    rotate_left
                    · intro w'
                      go_simp
                      all_goals (with_reducible rfl)
                    rotate_left
                    · simp only [Act.put, List.setIfInBounds_toArray, List.set_cons_zero, List.set_cons_succ, i64_w, i32_w]
                      rfl
                    refine done_ (by kernel_rfl) ?_
                    go_wp2_with fail
                    go_ret2
                    refine ⟨_, _, rfl, HBB.out, fun h => absurd ⟨HID.out.1, HID.out.2, HLEN.out⟩ h, fun _ _ h => ?_, fun _ _ _ h => absurd HSM.out h, fun _ _ _ _ => .inl ⟨rdN L 4 8, dec L k, rdN_lt8 L 4, HV.out, HPG.out, rfl, w.heap.size, rfl, Nat.le_refl _, Nat.le_refl _, Nat.le_refl _, _, HPAB.out, HRB.out⟩⟩
                    rw [HZ.out] at h; exact absurd h (by decide)
                  · have hbs : ¬ bsOf (pgB id.toNat (rdN L 4 8) (dec L k)) = bsOf L := fun h => hpg (by have := congrArg (fun b : ByteArray => b.data.toList) h; simpa [bsOf] using this)
                    have HNP := Aside0.mk (show ¬ ∃ lsn cs, lsn < 18446744073709551616 ∧ Valid cs ∧ pgB id.toNat lsn cs = L from fun ⟨lsn, cs, h1, h2, h3⟩ => hpg (by
                      have hn := pgB_n id.toNat lsn cs (by have := h2.len; omega)
                      have hd := dec_pgB id.toNat lsn h2
                      have hls := pgB_lsn id.toNat lsn cs h1
                      rw [h3] at hn hd hls
                      rw [hls, HNE.out, hn, hd, h3]))
                    have e9 : ((bsOf (pgB id.toNat (rdN L 4 8) (dec L k))).toList == (bsOf L).toList) = false := by rw [beq_toList]; simpa using hbs
                    clear hV hpg hbs
                    go_wp2_with fail
                    refine start_ (n := 11) (S := fun wx => RdAt wx g L) (ds := []) #[false, false, false, false, false, false, false, false, false, false, false] (by kernel_rfl) rfl rfl (HBFr.out) (fun hHeld => ?_)
                    refine pure_ (i := 0) (N := some 127) (v := ?_) (a' := ?_) #[true, false, false, false, false, false, false, false, false, false, false] rfl rfl (by kernel_rfl) (fun _ _ _ h => h) (Or.inl ⟨by rfl, ?_⟩) ?_ ?_
                    rotate_left
                    · intro w'
                      go_simp
                      all_goals (with_reducible rfl)
                    rotate_left
                    · simp only [Act.put, List.setIfInBounds_toArray, List.set_cons_zero, List.set_cons_succ, i64_w, i32_w]
                      rfl
                    refine one_ (i := 1) (N := some 128) #[true, true, false, false, false, false, false, false, false, false, false] rfl rfl (by kernel_rfl) (by decide) (fun K hK => ?_)
                    go_simp
                    go_at_call 43
                    refine (right_calls _ w.heap.size id (rdN L 4 8) A2 c2 (dec L k) HPAr.out HCr.out HSM2.out HZR.out).mono ?_
                    rintro e wA ⟨r, rfl, hr, hbA⟩
                    obtain rfl : r = true := hr.2 ⟨HV.out.may, HV.out.once, HV.out.last, HV.out.room⟩
                    have HBA := Aside0.mk (below_then HBr.out HBr.out.size hbA)
                    have HBFA := Aside0.mk (HBFr.out.below hbA)
                    have HPAA := Aside0.mk (blk_below HPAr.out hbA)
                    have HRA := Aside0.mk (Kd.R_below HPRr.out hbA)
                    clear hbA hr
                    (try go_wp2_with fail)
                    refine hK.out _ _ (HBFA.out) (fun hHeld => ?_)
                    clear hK K
                    (try simp only [Act.put, List.setIfInBounds_toArray, List.set_cons_zero, List.set_cons_succ])
                    refine pure_ (i := 2) (N := some 129) (v := ?_) (a' := ?_) #[true, true, true, false, false, false, false, false, false, false, false] rfl rfl (by kernel_rfl) (fun _ _ _ h => h) (Or.inl ⟨by rfl, ?_⟩) ?_ ?_
                    rotate_left
                    · intro w'
                      go_simp
                      all_goals (with_reducible rfl)
                    rotate_left
                    · simp only [Act.put, List.setIfInBounds_toArray, List.set_cons_zero, List.set_cons_succ, i64_w, i32_w]
                      rfl
                    refine pure_ (i := 3) (N := some 130) (v := ?_) (a' := ?_) #[true, true, true, true, false, false, false, false, false, false, false] rfl rfl (by kernel_rfl) (fun _ _ _ h => h) (Or.inl ⟨by rfl, ?_⟩) ?_ ?_
                    rotate_left
                    · intro w'
                      go_simp
                      all_goals (with_reducible rfl)
                    rotate_left
                    · simp only [Act.put, List.setIfInBounds_toArray, List.set_cons_zero, List.set_cons_succ, i64_w, i32_w]
                      rfl
                    refine pure_ (i := 4) (N := some 131) (v := ?_) (a' := ?_) #[true, true, true, true, true, false, false, false, false, false, false] rfl rfl (by kernel_rfl) (fun _ _ _ h => h) (Or.inl ⟨by rfl, ?_⟩) ?_ ?_
                    rotate_left
                    · intro w'
                      go_simp
                      all_goals (with_reducible rfl)
                    rotate_left
                    · simp only [Act.put, List.setIfInBounds_toArray, List.set_cons_zero, List.set_cons_succ, i64_w, i32_w]
                      rfl
                    refine pure_ (i := 7) (N := some 134) (v := ?_) (a' := ?_) #[true, true, true, true, true, false, false, true, false, false, false] rfl rfl (by kernel_rfl) (fun _ _ _ h => h) (Or.inl ⟨by rfl, ?_⟩) ?_ ?_
                    rotate_left
                    · intro w'
                      go_simp
                      all_goals (with_reducible rfl)
                    rotate_left
                    · simp only [Act.put, List.setIfInBounds_toArray, List.set_cons_zero, List.set_cons_succ, i64_w, i32_w]
                      rfl
                    refine take_ (i := 8) (N := some 135) (v := .string (bsOf L)) (a' := ?_) #[true, true, true, true, true, false, false, true, true, false, false] rfl rfl (by kernel_rfl) (fun _ _ _ h => h) (Or.inl ⟨by rfl, ?_⟩) hHeld ?_ ?_
                    · intro w' hSw
                      go_simp
                      all_goals (with_reducible exact hcvL _ hSw')
                    rotate_left
                    · simp only [Act.put, List.setIfInBounds_toArray, List.set_cons_zero, List.set_cons_succ, i64_w, i32_w]
                      rfl
                    refine one_ (i := 5) (N := some 132) #[true, true, true, true, true, true, false, true, true, false, false] rfl rfl (by kernel_rfl) (by decide) (fun K hK => ?_)
                    go_simp
                    go_at_call 15
                    refine (bytes_calls _ w.heap.size id.toNat (rdN L 4 8) A2 c2 (dec L k) (by rw [HIDN.out]; exact HPAA.out) (Kd.R_reads' HRA.out).2.2 HSM2.out HV.out.room4 (by have := HID.out; omega) (rdN_lt8 L 4)).mono ?_
                    rintro e wB ⟨rfl, hbuf, hbB⟩
                    have HBB := Aside0.mk (below_then HBA.out HBA.out.size hbB)
                    have HBFB := Aside0.mk (HBFA.out.below hbB)
                    have HPAB := Aside0.mk (blk_below HPAA.out hbB)
                    have HRB := Aside0.mk (Kd.R_below HRA.out hbB)
                    have HCV := Aside0.mk (cut_conv (g := wA.heap.size) 512 0 512 _ (pgB_length id.toNat (rdN L 4 8) (dec L k) HV.out.room4) (by omega) (by omega) (by omega) (some ⟨wA.heap.size, 0, none⟩) 512 512 (by simp) rfl rfl wB hbuf.rd)
                    have hcv := HCV.out
                    rw [List.take_of_length_le (by rw [pgB_length id.toNat (rdN L 4 8) (dec L k) HV.out.room4]; omega), List.drop_zero] at hcv
                    clear hbuf hbB
                    (try go_wp2_with fail)
                    refine hK.out _ _ (HBFB.out) (fun hHeld => ?_)
                    clear hK K
                    (try simp only [Act.put, List.setIfInBounds_toArray, List.set_cons_zero, List.set_cons_succ])
                    refine more_z (S' := fun wx => (convert 38 9 (.slice (some ⟨wA.heap.size, 0, none⟩) 512 512)).run Try.prog wx = .ok (.string (bsOf (pgB id.toNat (rdN L 4 8) (dec L k)))) wx ∧ RdAt wx g L) (fun _ h => h.2) _ _ _ _ (⟨hcv, HBFB.out⟩) ?_
                    have hHeld : (fun wx => (convert 38 9 (.slice (some ⟨wA.heap.size, 0, none⟩) 512 512)).run Try.prog wx = .ok (.string (bsOf (pgB id.toNat (rdN L 4 8) (dec L k)))) wx ∧ RdAt wx g L) _ := ⟨hcv, HBFB.out⟩
                    refine take_ (i := 6) (N := some 133) (v := .string (bsOf (pgB id.toNat (rdN L 4 8) (dec L k)))) (a' := ?_) #[true, true, true, true, true, true, true, true, true, false, false] rfl rfl (by kernel_rfl) (fun _ _ _ h => h) (Or.inl ⟨by rfl, ?_⟩) hHeld ?_ ?_
                    · intro w' hSw
                      go_simp
                      all_goals (with_reducible exact hSw'.1)
                    rotate_left
                    · simp only [Act.put, List.setIfInBounds_toArray, List.set_cons_zero, List.set_cons_succ, i64_w, i32_w]
                      rfl
                    refine pure_ (i := 9) (N := some 136) (v := ?_) (a' := ?_) #[true, true, true, true, true, true, true, true, true, true, false] rfl rfl (by kernel_rfl) (fun _ _ _ h => h) (Or.inl ⟨by rfl, ?_⟩) ?_ ?_
                    rotate_left
                    · intro w'
                      go_simp
                      all_goals (with_reducible rfl)
                    rotate_left
                    · simp only [Act.put, List.setIfInBounds_toArray, List.set_cons_zero, List.set_cons_succ, i64_w, i32_w]
                      rfl
                    refine pure_ (i := 10) (N := some 137) (v := ?_) (a' := ?_) #[true, true, true, true, true, true, true, true, true, true, true] rfl rfl (by kernel_rfl) (fun _ _ _ h => h) (Or.inl ⟨by rfl, ?_⟩) ?_ ?_
                    rotate_left
                    · intro w'
                      go_simp
                      all_goals (with_reducible rfl)
                    rotate_left
                    · simp only [Act.put, List.setIfInBounds_toArray, List.set_cons_zero, List.set_cons_succ, i64_w, i32_w]
                      rfl
                    refine done_ (by kernel_rfl) ?_
                    go_wp2_with fail
                    go_ret2
                    refine ⟨_, _, rfl, HBB.out, fun h => absurd ⟨HID.out.1, HID.out.2, HLEN.out⟩ h, fun _ _ h => ?_, fun _ _ _ h => absurd HSM.out h, fun _ _ _ _ => .inr ⟨HNP.out, rfl, rfl⟩⟩
                    rw [HZ.out] at h; exact absurd h (by decide)
                · have HV := Aside0.mk hV
                  have HNP := Aside0.mk (show ¬ ∃ lsn cs, lsn < 18446744073709551616 ∧ Valid cs ∧ pgB id.toNat lsn cs = L from fun ⟨lsn, cs, h1, h2, h3⟩ => hV (by
                    have hn := pgB_n id.toNat lsn cs (by have := h2.len; omega)
                    have hd := dec_pgB id.toNat lsn h2
                    rw [h3] at hn hd
                    rw [HNE.out, hn, hd]; exact h2))
                  clear hV
                  go_wp2_with fail
                  refine start_ (n := 11) (S := fun wx => RdAt wx g L) (ds := []) #[false, false, false, false, false, false, false, false, false, false, false] (by kernel_rfl) rfl rfl (HBFr.out) (fun hHeld => ?_)
                  refine pure_ (i := 0) (N := some 127) (v := ?_) (a' := ?_) #[true, false, false, false, false, false, false, false, false, false, false] rfl rfl (by kernel_rfl) (fun _ _ _ h => h) (Or.inl ⟨by rfl, ?_⟩) ?_ ?_
                  rotate_left
                  · intro w'
                    go_simp
                    all_goals (with_reducible rfl)
                  rotate_left
                  · simp only [Act.put, List.setIfInBounds_toArray, List.set_cons_zero, List.set_cons_succ, i64_w, i32_w]
                    rfl
                  refine one_ (i := 1) (N := some 128) #[true, true, false, false, false, false, false, false, false, false, false] rfl rfl (by kernel_rfl) (by decide) (fun K hK => ?_)
                  go_simp
                  go_at_call 43
                  refine (right_calls _ w.heap.size id (rdN L 4 8) A2 c2 (dec L k) HPAr.out HCr.out HSM2.out HZR.out).mono ?_
                  rintro e wA ⟨r, rfl, hr, hbA⟩
                  obtain rfl : r = false := by cases r with | false => rfl | true => exact absurd (have q := hr.1 rfl; dec_valid L k (by have := HN.out; omega) q.1 q.2.1 q.2.2.1 q.2.2.2) HV.out
                  have HBA := Aside0.mk (below_then HBr.out HBr.out.size hbA)
                  have HBFA := Aside0.mk (HBFr.out.below hbA)
                  have HPAA := Aside0.mk (blk_below HPAr.out hbA)
                  have HRA := Aside0.mk (Kd.R_below HPRr.out hbA)
                  clear hbA hr
                  (try go_wp2_with fail)
                  refine hK.out _ _ (HBFA.out) (fun hHeld => ?_)
                  clear hK K
                  (try simp only [Act.put, List.setIfInBounds_toArray, List.set_cons_zero, List.set_cons_succ])
                  refine pure_ (i := 2) (N := some 129) (v := ?_) (a' := ?_) #[true, true, true, false, false, false, false, false, false, false, false] rfl rfl (by kernel_rfl) (fun _ _ _ h => h) (Or.inl ⟨by rfl, ?_⟩) ?_ ?_
                  rotate_left
                  · intro w'
                    go_simp
                    all_goals (with_reducible rfl)
                  rotate_left
                  · simp only [Act.put, List.setIfInBounds_toArray, List.set_cons_zero, List.set_cons_succ, i64_w, i32_w]
                    rfl
                  refine pure_ (i := 3) (N := some 130) (v := ?_) (a' := ?_) #[true, true, true, true, false, false, false, false, false, false, false] rfl rfl (by kernel_rfl) (fun _ _ _ h => h) (Or.inl ⟨by rfl, ?_⟩) ?_ ?_
                  rotate_left
                  · intro w'
                    go_simp
                    all_goals (with_reducible rfl)
                  rotate_left
                  · simp only [Act.put, List.setIfInBounds_toArray, List.set_cons_zero, List.set_cons_succ, i64_w, i32_w]
                    rfl
                  refine pure_ (i := 4) (N := some 131) (v := undef) (a' := ?_) #[true, true, true, true, true, false, false, false, false, false, false] rfl rfl (by kernel_rfl) (fun _ _ _ h => h) (Or.inr ⟨by rfl, rfl⟩) ?_ ?_
                  rotate_left
                  · simp only [Act.put, List.setIfInBounds_toArray, List.set_cons_zero, List.set_cons_succ, i64_w, i32_w]
                    rfl
                  refine pure_ (i := 7) (N := some 134) (v := undef) (a' := ?_) #[true, true, true, true, true, false, false, true, false, false, false] rfl rfl (by kernel_rfl) (fun _ _ _ h => h) (Or.inr ⟨by rfl, rfl⟩) ?_ ?_
                  rotate_left
                  · simp only [Act.put, List.setIfInBounds_toArray, List.set_cons_zero, List.set_cons_succ, i64_w, i32_w]
                    rfl
                  refine pure_ (i := 8) (N := some 135) (v := undef) (a' := ?_) #[true, true, true, true, true, false, false, true, true, false, false] rfl rfl (by kernel_rfl) (fun _ _ _ h => h) (Or.inr ⟨by rfl, rfl⟩) ?_ ?_
                  rotate_left
                  · simp only [Act.put, List.setIfInBounds_toArray, List.set_cons_zero, List.set_cons_succ, i64_w, i32_w]
                    rfl
                  refine one_ (i := 5) (N := some 132) #[true, true, true, true, true, true, false, true, true, false, false] rfl rfl (by kernel_rfl) (by decide) (fun K hK => ?_)
                  refine skip_z (by rfl) ?_
                  refine hK.out _ _ hHeld (fun hHeld => ?_)
                  clear hK K
                  (try simp only [Act.put, List.setIfInBounds_toArray, List.set_cons_zero, List.set_cons_succ])
                  refine pure_ (i := 6) (N := some 133) (v := undef) (a' := ?_) #[true, true, true, true, true, true, true, true, true, false, false] rfl rfl (by kernel_rfl) (fun _ _ _ h => h) (Or.inr ⟨by rfl, rfl⟩) ?_ ?_
                  rotate_left
                  · simp only [Act.put, List.setIfInBounds_toArray, List.set_cons_zero, List.set_cons_succ, i64_w, i32_w]
                    rfl
                  refine pure_ (i := 9) (N := some 136) (v := undef) (a' := ?_) #[true, true, true, true, true, true, true, true, true, true, false] rfl rfl (by kernel_rfl) (fun _ _ _ h => h) (Or.inr ⟨by rfl, rfl⟩) ?_ ?_
                  rotate_left
                  · simp only [Act.put, List.setIfInBounds_toArray, List.set_cons_zero, List.set_cons_succ, i64_w, i32_w]
                    rfl
                  refine pure_ (i := 10) (N := some 137) (v := ?_) (a' := ?_) #[true, true, true, true, true, true, true, true, true, true, true] rfl rfl (by kernel_rfl) (fun _ _ _ h => h) (Or.inl ⟨by rfl, ?_⟩) ?_ ?_
                  rotate_left
                  · intro w'
                    go_simp
                    all_goals (with_reducible rfl)
                  rotate_left
                  · simp only [Act.put, List.setIfInBounds_toArray, List.set_cons_zero, List.set_cons_succ, i64_w, i32_w]
                    rfl
                  refine done_ (by kernel_rfl) ?_
                  go_wp2_with fail
                  go_ret2
                  refine ⟨_, _, rfl, HBA.out, fun h => absurd ⟨HID.out.1, HID.out.2, HLEN.out⟩ h, fun _ _ h => ?_, fun _ _ _ h => absurd HSM.out h, fun _ _ _ _ => .inr ⟨HNP.out, rfl, rfl⟩⟩
                  rw [HZ.out] at h; exact absurd h (by decide)
                -- E]
          · have HNO := Aside0.mk (show ¬ ∃ lsn cs, lsn < 18446744073709551616 ∧ Valid cs ∧ pgB id.toNat lsn cs = L from fun ⟨lsn, cs, h1, h2, h3⟩ => hbad (by
              rw [← h3, pgB_id _ _ _ (by have := HID.out; omega), pgB_n _ _ _ (by have := h2.len; omega)]
              exact ⟨by have := HID.out; omega, h2.len⟩))
            by_cases hq : ((rdN L 12 2 : Nat) : Int) = id
            · have e4 : (((rdN L 12 2 : Nat) : Int) != id) = false := by simp [hq]
              have e5 : decide ((64 : Int) < ((rdN L 14 2 : Nat) : Int)) = true := by
                have : ¬ rdN L 14 2 ≤ 64 := fun h => hbad ⟨hq, h⟩
                simp; omega
              clear hbad hq
              go_wp2_with fail
              go_ret2
              refine ⟨_, _, rfl, HB8.out, fun h => absurd ⟨HID.out.1, HID.out.2, HLEN.out⟩ h, fun _ _ h => ?_, fun _ _ _ h => absurd HSM.out h, fun _ _ _ _ => .inr ⟨HNO.out, rfl, rfl⟩⟩
              rw [HZ.out] at h; exact absurd h (by decide)
            · have e4 : (((rdN L 12 2 : Nat) : Int) != id) = true := by simpa using hq
              clear hbad hq
              go_wp2_with fail
              go_ret2
              refine ⟨_, _, rfl, HB8.out, fun h => absurd ⟨HID.out.1, HID.out.2, HLEN.out⟩ h, fun _ _ h => ?_, fun _ _ _ h => absurd HSM.out h, fun _ _ _ _ => .inr ⟨HNO.out, rfl, rfl⟩⟩
              rw [HZ.out] at h; exact absurd h (by decide)
        · have HSM := Aside0.mk (fun h => hsum (hiff.2 h))
          have e3 : (((Crc.sum (L.drop 4) : Nat) : Int) != ((rdN L 0 4 : Nat) : Int)) = true := by rw [hrd0]; simp; omega
          clear hiff hsum hrd0
          go_wp2_with fail
          go_ret2
          refine ⟨_, _, rfl, HB4.out, fun h => absurd ⟨HID.out.1, HID.out.2, HLEN.out⟩ h, fun _ _ h => ?_, fun _ _ _ _ => ⟨rfl, rfl⟩, fun _ _ _ h => absurd h HSM.out⟩
          rw [HZ.out] at h; exact absurd h (by decide)
    · have HLEN := Aside0.mk hlen
      have e1 : ((L.length : Int) != 512) = true := by simp; omega
      clear hlen
      go_wp2_with fail
      go_ret2
      exact ⟨_, _, rfl, HB1.out, fun _ => ⟨rfl, rfl⟩, fun _ h => absurd h HLEN.out, fun _ h => absurd h HLEN.out, fun _ h => absurd h HLEN.out⟩
  · refine (new_bad id w (by omega)).mono ?_
    rintro e w1 ⟨rfl, rfl⟩
    have HB1 := Aside0.mk (Below.refl w.heap.size w)
    have HID := Aside0.mk hid
    clear hid
    go_wp2_with fail
    go_ret2
    exact ⟨_, _, rfl, HB1.out, fun _ => ⟨rfl, rfl⟩, fun h => absurd h HID.out, fun h => absurd h HID.out, fun h => absurd h HID.out⟩
theorem parse_calls (w : World) (id : Int) (g c : Nat) (L : List UInt8) (hb : BufAt w g L) (hl : L.length ≤ 100000) (hc : L.length ≤ c) :
    Calls Try.prog 21 #[.int .i64 id, .slice (some ⟨g, 0, none⟩) L.length c] w fun e w' => ∃ v er, e = .returned (.tuple #[v, .int .i64 er]) ∧ Parsed w w' id L v er := parse_rd w id g c L hb.rd hl hc
end Go.Proofs.Ytidkdbohkbfhbaa
end
section
namespace Go.Proofs.Ytidkdbohkbfhbaa
open Go.RowKit Go.Proofs.YtidkdbohkbfhbaaW.PrintWords Go.Proofs.YtidkdbohkbfhbaaW.PrintLast Go.Proofs.YtidkdbohkbfhbaaW.PrintMore
open Rf
set_option linter.unusedVariables false
set_option linter.unusedSimpArgs false

theorem find_loop (cs : List SGCell) (hl : cs.length ≤ 1000) (id lsn : Int) (key : ByteArray) (d : Nat) : ∀ i : Nat, i + d = cs.length → Ev (fun k => flotillaref06_Find.l0 k key i id lsn cs) (fndN key (cs.drop i) i) := by
  induction d with
  | zero =>
    intro i hi
    refine Ev.step (f := fun _ => some (-1)) (fun k => ?_) ?_
    · simp only [flotillaref06_Find.l0]; rw [if_neg (by omega)]
    · rw [List.drop_eq_nil_of_le (by omega)]; exact Ev.now _
  | succ d ih =>
    intro i hi
    have hlt : i < cs.length := by omega
    rw [fndN_drop key cs i hlt]
    unfold hit
    by_cases hu : (rd_TGCell cs i).f0 = true
    · by_cases hk : (rd_TGCell cs i).f1.toList = key.toList
      · rw [if_pos (by rw [hu, hk]; simp)]
        refine Ev.step (f := fun _ => some (i : Int)) (fun k => ?_) (Ev.now _)
        simp only [flotillaref06_Find.l0]; rw [if_pos (by omega), if_pos (by omega), if_pos hu, if_pos hk]
      · rw [if_neg (by rw [hu]; simpa using hk)]
        refine Ev.step (fun k => ?_) (ih (i + 1) (by omega))
        simp only [flotillaref06_Find.l0]; rw [if_pos (by omega), if_pos (by omega), if_pos hu, if_neg hk, w64 (by omega) (by omega)]; rfl
    · rw [if_neg (by simp [hu])]
      refine Ev.step (fun k => ?_) (ih (i + 1) (by omega))
      simp only [flotillaref06_Find.l0]; rw [if_pos (by omega), if_pos (by omega), if_neg hu, w64 (by omega) (by omega)]; rfl
theorem find_ev (cs : List SGCell) (hl : cs.length ≤ 1000) (id lsn : Int) (key : ByteArray) : Ev (fun k => flotillaref06_Find.f k id lsn cs key) (fnd cs key) := by
  have := find_loop cs hl id lsn key cs.length 0 (by omega)
  rwa [List.drop_zero] at this

theorem trim_ev (id lsn : Int) (cs0 : List SGCell) (d : Nat) : ∀ l : List SGCell, l.length = d → l.length ≤ 1000 → Ev (fun k => flotillaref06_with.l1 k l id lsn cs0) (id, lsn, trimN d l) := by
  induction d with
  | zero =>
    intro l hl _
    refine Ev.step (f := fun _ => some (id, lsn, l)) (fun k => ?_) (Ev.now _)
    simp only [flotillaref06_with.l1]; rw [if_neg (by omega)]
  | succ d ih =>
    intro l hl hm
    have e1 : wrap64 ((l.length : Int) - 1) = (d : Int) := by rw [w64 (by omega) (by omega)]; omega
    by_cases hu : (rd_TGCell l d).f0 = true
    · rw [trimN_used _ l d hl hu]
      refine Ev.step (f := fun _ => some (id, lsn, l)) (fun k => ?_) (Ev.now _)
      simp only [flotillaref06_with.l1]; rw [if_pos (by omega), e1, if_pos (by omega), if_pos (by omega), if_pos hu]
    · rw [trimN_free d l d hl (by simpa using hu)]
      refine Ev.step (fun k => ?_) (ih (l.take d) (by rw [List.length_take]; omega) (by rw [List.length_take]; omega))
      simp only [flotillaref06_with.l1]; rw [if_pos (by omega), e1, if_pos (by omega), if_pos (by omega), if_neg hu, if_pos (by omega)]; rfl

/-- A list whose slot i (one behind the last: a new one) is c. -/
def putAt (cs : List SGCell) (i : Nat) (c : SGCell) : List SGCell := if i = cs.length then cs ++ [c] else cs.set i c
theorem with_loop (cs : List SGCell) (hl : cs.length ≤ 100) (id lsn : Int) (i : Nat) (c : SGCell) (d : Nat) : ∀ j : Nat, j + d = cs.length →
    Ev (fun k => flotillaref06_with.l0 k i ((cs.set i c).take j) j id lsn cs c.f0 c.f1 c.f2) (id, lsn, trim (putAt cs i c)) := by
  induction d with
  | zero =>
    intro j hj
    obtain rfl : j = cs.length := by omega
    by_cases hi : i = cs.length
    · have e : cs.set i c = cs := by rw [hi]; exact List.set_eq_of_length_le (by omega)
      refine Ev.step (f := fun k => flotillaref06_with.j1 k (cs ++ [c]) id lsn cs) (fun k => ?_) ?_
      · simp only [flotillaref06_with.l0]; rw [if_neg (by omega), if_pos (by omega), if_pos (by rw [List.length_take, List.length_set]; omega), e, List.take_length]
      · refine Ev.step (f := fun k => flotillaref06_with.l1 k (cs ++ [c]) id lsn cs) (fun k => rfl) ?_
        unfold putAt trim; rw [if_pos hi]
        exact trim_ev id lsn cs _ _ rfl (by simp; omega)
    · refine Ev.step (f := fun k => flotillaref06_with.j1 k (cs.set i c) id lsn cs) (fun k => ?_) ?_
      · simp only [flotillaref06_with.l0]; rw [if_neg (by omega), if_neg (by omega), List.take_of_length_le (by rw [List.length_set]; omega)]
      · refine Ev.step (f := fun k => flotillaref06_with.l1 k (cs.set i c) id lsn cs) (fun k => rfl) ?_
        unfold putAt trim; rw [if_neg hi]
        exact trim_ev id lsn cs _ _ rfl (by simp; omega)
  | succ d ih =>
    intro j hj
    have hlt : j < cs.length := by omega
    have hs : (cs.set i c).take (j + 1) = (cs.set i c).take j ++ [if i = j then c else rd_TGCell cs j] := by
      rw [List.take_succ_eq_append_getElem (by rw [List.length_set]; exact hlt), List.getElem_set, rd_get cs j hlt]
    have h := ih (j + 1) (by omega)
    rw [hs] at h
    refine Ev.step (fun k => ?_) h
    simp only [flotillaref06_with.l0]
    rw [if_pos (by omega)]
    by_cases e : i = j
    · rw [if_pos (by omega), if_pos (by rw [List.length_take]; omega), w64 (by omega) (by omega), if_pos e]; rfl
    · rw [if_neg (by omega), if_pos (by omega), if_pos (by rw [List.length_take]; omega), w64 (by omega) (by omega), if_neg e]; rfl
theorem with_ev (cs : List SGCell) (hl : cs.length ≤ 100) (id lsn : Int) (i : Nat) (c : SGCell) : Ev (fun k => flotillaref06_with.f k id lsn cs i c.f0 c.f1 c.f2) (id, lsn, trim (putAt cs i c)) := by
  have := with_loop cs hl id lsn i c cs.length 0 (by omega)
  rwa [List.take_zero] at this

theorem trim_last (cs : List SGCell) (h : ∀ c, cs.getLast? = some c → c.f0 = true) : trim cs = cs := by
  unfold trim
  rcases Nat.eq_zero_or_pos cs.length with h0 | h0
  · exact trimN_zero _ _ h0
  · refine trimN_used _ cs (cs.length - 1) (by omega) ?_
    rw [rd_get cs _ (by omega)]
    exact h _ (by rw [List.getLast?_eq_getElem?, List.getElem?_eq_getElem])
theorem putAt_ins (cs : List SGCell) (c : SGCell) : putAt cs (frs cs) c = insAt cs c := rfl
theorem insAt_last (cs : List SGCell) (hv : Valid cs) (key value : ByteArray) : ∀ c, (insAt cs (cel key value)).getLast? = some c → c.f0 = true := by
  intro c hc
  unfold insAt at hc
  split at hc
  · rw [List.getLast?_append] at hc; simp at hc; rw [← hc]; rfl
  · rename_i hne
    have hle := frs_le cs
    rw [List.getLast?_eq_getElem?, List.length_set, List.getElem?_set] at hc
    split at hc
    · split at hc
      · rw [← Option.some.inj hc]; rfl
      · simp at hc
    · rw [← List.getLast?_eq_getElem?] at hc; exact hv.last c hc
theorem small_insAt (cs : List SGCell) (hv : Valid cs) (key value : ByteArray) (hm : mayB key value = true) : Small (insAt cs (cel key value)) := by
  have h := (mayB_iff _ _).1 hm
  have hs := hv.small
  have hl := hv.len
  unfold insAt
  split
  · refine ⟨by simp; omega, fun c hc => ?_⟩
    rcases List.mem_append.1 hc with hc | hc
    · exact hs.2 c hc
    · rw [List.mem_singleton.1 hc]; show key.size ≤ 1000 ∧ value.size ≤ 1000; omega
  · refine ⟨by simp; omega, fun c hc => ?_⟩
    rcases List.mem_or_eq_of_mem_set hc with hc | rfl
    · exact hs.2 c hc
    · show key.size ≤ 1000 ∧ value.size ≤ 1000; omega
theorem may_f (key value : ByteArray) : flotillaref06_May.f key value = some (mayB key value) := by
  unfold flotillaref06_May.f mayB
  by_cases h1 : (key.size : Int) ≥ 1
  · by_cases h2 : (key.size : Int) ≤ 16
    · rw [if_pos h1, if_pos h2]
      congr 1
      rw [Bool.eq_iff_iff]; simp; omega
    · rw [if_pos h1, if_neg h2]
      congr 1
      rw [Bool.eq_iff_iff]; simp; omega
  · rw [if_neg h1]
    congr 1
    rw [Bool.eq_iff_iff]; simp; omega
theorem insj_ev (cs : List SGCell) (hv : Valid cs) (id lsn : Int) (key value : ByteArray) (hm : mayB key value = true) (hf : fnd cs key < 0) :
    Ev (fun k => flotillaref06_Insert.j1 k key value (frs cs : Nat) id lsn cs) (id, lsn, (ins cs key value).1, (ins cs key value).2) := by
  have hl := hv.len
  have hle := frs_le cs
  have hw := with_ev cs (by omega) id lsn (frs cs) (cel key value)
  rw [putAt_ins, trim_last _ (insAt_last cs hv key value)] at hw
  have hfr := insAt_free cs hv.zero key value
  have hfe := free_ev (insAt cs (cel key value)) (small_insAt cs hv key value hm) id lsn
  refine Ev.step (f := fun k => (flotillaref06_with.f k id lsn cs (frs cs : Nat) true key value).bind fun bt163 => (if ((frs cs : Nat) : Int) ≥ 64 then (some (id, lsn, cs, 7)) else ((flotillaref06_Free.f k bt163.1 bt163.2.1 bt163.2.2).bind fun t169 => (if t169 < 0 then (some (id, lsn, cs, 7)) else (some (bt163.1, bt163.2.1, bt163.2.2, 0)))))) (fun k => rfl) ?_
  refine Ev.bind hw ?_
  unfold ins
  rw [if_pos hm, if_neg (by omega)]
  by_cases h64 : frs cs = 64
  · rw [if_pos (.inl h64)]
    simp only [h64]
    exact Ev.now _
  · have e : ¬ ((frs cs : Nat) : Int) ≥ 64 := by omega
    simp only [if_neg e]
    refine Ev.bind hfe ?_
    by_cases hr : free cs < insNeed cs key value
    · simp only [if_pos (show free (insAt cs (cel key value)) < 0 by omega)]
      rw [if_pos (show frs cs = 64 ∨ free cs < insNeed cs key value from .inr hr)]
      exact Ev.now _
    · simp only [if_neg (show ¬ free (insAt cs (cel key value)) < 0 by omega)]
      rw [if_neg (show ¬ (frs cs = 64 ∨ free cs < insNeed cs key value) by omega)]
      exact Ev.now _
theorem insl_ev (cs : List SGCell) (hv : Valid cs) (id lsn : Int) (key value : ByteArray) (hm : mayB key value = true) (hf : fnd cs key < 0) (d : Nat) : ∀ i : Nat, i + d = frs cs →
    Ev (fun k => flotillaref06_Insert.l0 k key value i id lsn cs) (id, lsn, (ins cs key value).1, (ins cs key value).2) := by
  have hl := hv.len
  have hle := frs_le cs
  induction d with
  | zero =>
    intro i hi
    obtain rfl : i = frs cs := by omega
    refine Ev.step (fun k => ?_) (insj_ev cs hv id lsn key value hm hf)
    simp only [flotillaref06_Insert.l0]
    by_cases h : frs cs < cs.length
    · rw [if_pos (by omega), if_pos (by omega), if_neg (by rw [frs_free cs h]; simp)]
    · rw [if_neg (by omega)]
  | succ d ih =>
    intro i hi
    refine Ev.step (fun k => ?_) (ih (i + 1) (by omega))
    simp only [flotillaref06_Insert.l0]
    rw [if_pos (by omega), if_pos (by omega), if_pos (frs_used cs i (by omega)), w64 (by omega) (by omega)]
    rfl
theorem insert_ev (cs : List SGCell) (hv : Valid cs) (id lsn : Int) (key value : ByteArray) : Ev (fun k => flotillaref06_Insert.f k id lsn cs key value) (id, lsn, (ins cs key value).1, (ins cs key value).2) := by
  have hl := hv.len
  unfold flotillaref06_Insert.f
  rw [may_f]
  by_cases hm : mayB key value = true
  · refine Ev.bind (a := mayB key value) (Ev.now _) ?_
    simp only [hm, if_true]
    refine Ev.bind (find_ev cs (by omega) id lsn key) ?_
    by_cases hf : 0 ≤ fnd cs key
    · simp only [if_pos (show fnd cs key ≥ 0 from hf)]
      unfold ins; rw [if_pos hm, if_pos hf]
      exact Ev.now _
    · simp only [if_neg (show ¬ fnd cs key ≥ 0 from hf)]
      exact insl_ev cs hv id lsn key value hm (by omega) (frs cs) 0 (by omega)
  · refine Ev.bind (a := mayB key value) (Ev.now _) ?_
    simp only [hm]
    unfold ins; rw [if_neg hm]
    exact Ev.now _
theorem update_ev (cs : List SGCell) (hv : Valid cs) (id lsn : Int) (key value : ByteArray) : Ev (fun k => flotillaref06_Update.f k id lsn cs key value) (id, lsn, (upd cs key value).1, (upd cs key value).2) := by
  have hl := hv.len
  unfold flotillaref06_Update.f
  rw [may_f]
  by_cases hm : mayB key value = true
  · refine Ev.bind (a := mayB key value) (Ev.now _) ?_
    simp only [hm, if_true]
    refine Ev.bind (find_ev cs (by omega) id lsn key) ?_
    by_cases hf : fnd cs key < 0
    · simp only [if_pos hf]
      unfold upd; rw [if_pos hm, if_pos hf]
      exact Ev.now _
    · simp only [if_neg hf]
      obtain ⟨j, hj, e, hu, hk⟩ := fnd_hit cs key (by omega)
      have hmm := (mayB_iff _ _).1 hm
      have hp : putAt cs j (cel key value) = updAt cs j value := by
        unfold putAt updAt; rw [if_neg (by omega), rd_get cs j hj, hu, hk]; rfl
      have hlast : ∀ c, (updAt cs j value).getLast? = some c → c.f0 = true := by
        intro c hc
        unfold updAt at hc
        rw [List.getLast?_eq_getElem?, List.length_set, List.getElem?_set] at hc
        split at hc
        · rw [← Option.some.inj hc, rd_get cs j hj]; exact hu
        · rw [← List.getLast?_eq_getElem?] at hc; exact hv.last c hc
      have hsm : Small (updAt cs j value) := by
        refine ⟨by unfold updAt; rw [List.length_set]; omega, fun c hc => ?_⟩
        unfold updAt at hc
        rcases List.mem_or_eq_of_mem_set hc with hc | rfl
        · exact hv.small.2 c hc
        · rw [rd_get cs j hj]; exact ⟨(hv.small.2 _ (List.getElem_mem hj)).1, by show value.size ≤ 1000; omega⟩
      have hw := with_ev cs (by omega) id lsn j (cel key value)
      rw [hp, trim_last _ hlast] at hw
      have hfr := updAt_free cs j hj hu value
      rw [e]
      refine Ev.bind hw ?_
      refine Ev.bind (free_ev (updAt cs j value) hsm id lsn) ?_
      unfold upd
      rw [if_pos hm, if_neg hf, e, rd_get cs j hj, Int.toNat_natCast]
      by_cases hr : free cs < (value.size : Int) - (cs[j].f2.size : Int)
      · rw [if_pos hr]
        simp only [if_pos (show free (updAt cs j value) < 0 by omega)]
        exact Ev.now _
      · rw [if_neg hr]
        simp only [if_neg (show ¬ free (updAt cs j value) < 0 by omega)]
        exact Ev.now _
  · refine Ev.bind (a := mayB key value) (Ev.now _) ?_
    simp only [hm]
    unfold upd; rw [if_neg hm]
    exact Ev.now _
end Go.Proofs.Ytidkdbohkbfhbaa
end
