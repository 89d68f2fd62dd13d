/- The document's num and slot as calls. 
PLAIN: the reference's Delete: what it comes to. 
The document's Find, Insert, Update, Delete, as calls, by the plain laws. 
The call of the document's Parse. 
Layer 6: a law's arguments, laid open: slices of Op, a Pair, an Op. -/
import Derived.Test.YtidkdbohkbfhbaaMgRr2
import Derived.Test.YtidkdbohkbfhbaaMgRr4
import Derived.Test.YtidkdbohkbfhbaaRf7
import Derived.Test.YtidkdbohkbfhbaaRf5
import Derived.Deep.Slices
import Derived.Deep.Fields
import Derived.ChangeSame
import Derived.SizedLaws
import Derived.Lib.SmallJoins
import Derived.ProofKit
import Derived.OpenShut
section
namespace Go.Proofs.Ytidkdbohkbfhbaa
open Go.RowKit Go.Proofs.YtidkdbohkbfhbaaW.PrintWords Go.Proofs.YtidkdbohkbfhbaaW.PrintLast Go.Proofs.YtidkdbohkbfhbaaW.PrintMore
open Rf
set_option linter.unusedVariables false
set_option linter.unusedSimpArgs false
theorem rdN_two (L : List UInt8) (o : Nat) (h : o + 2 ≤ L.length) : rdN L o 2 = L[o].toNat + 256 * L[o + 1].toNat := by
  unfold rdN
  rw [List.drop_eq_getElem_cons (show o < L.length by omega), List.drop_eq_getElem_cons (show o + 1 < L.length by omega)]
  simp only [List.take_succ_cons, List.take_zero, val]
  omega
theorem rnum2_f (L : List UInt8) (o : Nat) (h : o + 2 ≤ L.length) (hl : L.length ≤ 100000) : flotillaref06_num.f 3 (mkS L) o 2 = some ((rdN L o 2 : Nat) : Int) := by
  have hb0 : bt (mkS L) ((o : Int) + 1) = ((L[o + 1].toNat : Nat) : Int) := bt_get (mkS L) (o + 1) (by show o + 1 < L.length; omega)
  have hb1 : bt (mkS L) ((o : Int)) = ((L[o].toNat : Nat) : Int) := bt_get (mkS L) o (by show o < L.length; omega)
  have hx0 := (L[o]).toNat_lt
  have hx1 := (L[o + 1]).toNat_lt
  rw [rdN_two L o h]
  generalize L[o].toNat = x at *
  generalize L[o + 1].toNat = y at *
  have hz : ((mkS L).size : Int) = (L.length : Int) := by rw [mkS_size]
  simp only [flotillaref06_num.f, flotillaref06_num.l0]
  rw [show wrap64 (2 - 1) = 1 from w64 (x := 2 - 1) (by omega) (by omega), if_pos (by omega), w64 (x := (o : Int) + 1) (by omega) (by omega), if_pos (by omega), if_pos (by omega), hb0]
  rw [show wrap64 (1 - 1) = 0 from w64 (x := 1 - 1) (by omega) (by omega), if_pos (by omega), show (o : Int) + 0 = o from by omega, w64 (x := (o : Int)) (by omega) (by omega), if_pos (by omega), if_pos (by omega), hb1]
  rw [show wrap64 (0 - 1) = -1 from w64 (x := 0 - 1) (by omega) (by omega), if_neg (by omega), show wrap64 (256 * 0) = 0 from w64 (x := 256 * 0) (by omega) (by omega), w64 (x := (y : Int)) (by omega) (by omega), w64 (x := (0 : Int) + y) (by omega) (by omega), w64 (x := 256 * ((0 : Int) + y)) (by omega) (by omega), w64 (x := (x : Int)) (by omega) (by omega), w64 (by omega) (by omega)]
  congr 1
  omega
theorem rnum_at (w : World) (L : List UInt8) (o : Nat) (h : o + 2 ≤ L.length) (hl : L.length ≤ 100000) :
    Calls Try.prog 46 #[.string (mkS L), .int .i64 o, .int .i64 2] w fun e w' => e = .returned (.int .i64 ((rdN L o 2 : Nat) : Int)) ∧ Below w.heap.size w w' :=
  (flotillaref06_num.calls 3 (mkS L) o 2 _ w (rnum2_f L o h hl)).mono (by rintro e w' ⟨rfl, hd⟩; exact ⟨rfl, hd.below⟩)
theorem mkS_extract (L : List UInt8) (a b : Nat) : (mkS L).extract a b = mkS ((L.take b).drop a) := by
  apply ByteArray.ext
  rw [ByteArray.data_extract]
  apply Array.ext'
  simp [mkS, List.drop_take]
theorem skip_ {b : Bool} {A B : Prop} (h : b = false) (hB : B) : if b = true then A else B := by subst h; exact hB
attribute [local go_sem high] yundz
theorem rmay_calls (w : World) (a b : ByteArray) :
    Calls Try.prog 58 #[.string a, .string b] w fun e w' => e = .returned (.bool (mayB a b)) ∧ Below w.heap.size w w' :=
  (flotillaref06_May.calls a b _ w (may_f a b)).mono (by rintro e w' ⟨rfl, hd⟩; exact ⟨rfl, hd.below⟩)
theorem put3 {w : World} {g : Nat} {t : TypeId} {a b c x y z : Value} (h : w.heap[g]? = some (.cells #[a, b, c] t (0, 0))) :
    (((w.setCell ⟨g, 0, none⟩ x).setCell ⟨g, 1, none⟩ y).setCell ⟨g, 2, none⟩ z).heap[g]? = some (.cells #[x, y, z] t (0, 0)) :=
  blk_put (cs' := #[x, y, z]) (blk_put (cs' := #[x, y, c]) (blk_put (cs' := #[x, b, c]) h 0 x rfl) 1 y rfl) 2 z rfl
theorem bel3 {w0 w : World} {g : Nat} {x y z : Value} (h : Below w0.heap.size w0 w) (hg : w0.heap.size ≤ g) : Below w0.heap.size w0 (((w.setCell ⟨g, 0, none⟩ x).setCell ⟨g, 1, none⟩ y).setCell ⟨g, 2, none⟩ z) :=
  below_set (g := g) (j := 2) (below_set (g := g) (j := 1) (below_set (g := g) (j := 0) h hg) hg) hg
theorem ext_get (L : List UInt8) (o m x : Nat) (hl : L.length = 512) (hx : x = (L.getD o 0).toNat) (h : 0 < ((mkS L).extract o (o + m)).size) : (((mkS L).extract o (o + m))[0]'h).toNat = x := by
  have hs : ((mkS L).extract o (o + m)).size = min (o + m) (mkS L).size - o := ByteArray.size_extract
  have hz : (mkS L).size = L.length := mkS_size L
  have ho : o < L.length := by omega
  rw [hx, ByteArray.getElem_extract]
  rw [List.getD_eq_getElem?_getD, List.getElem?_eq_getElem ho]
  simp only [Nat.add_zero]
  rfl
theorem ext_two (L : List UInt8) (a b c d : Nat) (h : a + d ≤ b) : (((L.take b).drop a).take d).drop c = (L.take (a + d)).drop (a + c) := by
  rw [List.take_drop, List.drop_drop, List.take_take, Nat.min_eq_left (by omega)]
theorem slot_is (L : List UInt8) (k o m x : Nat) (hl : L.length = 512) (ho : rdN L (16 + 4 * k) 2 = o) (hm : rdN L (16 + 4 * k + 2) 2 = m) (hx : x = (L.getD o 0).toNat) (h0 : ¬ m = 0) (hr : o + m ≤ 512) (h1 : 1 + x ≤ m) (C : ByteArray) (hC : C = (mkS L).extract o (o + m)) :
    slotAt L k = ⟨true, C.extract 1 (1 + (x : Int)).toNat, C.extract (1 + (x : Int)).toNat m⟩ := by
  rw [slotAt_eq L k o m x ho hm hx h0, hC, mkS_extract, mkS_extract, mkS_extract, show (1 + (x : Int)).toNat = 1 + x from by omega, ext_two L o (o + m) 1 (1 + x) (by omega), ext_two L o (o + m) (1 + x) m (by omega), ← Nat.add_assoc]
  rfl
/-- A slot that the document takes. -/
def SlotOk (L : List UInt8) (k : Nat) : Prop := cellOk L (rdN L (16 + 4 * k) 2) (rdN L (16 + 4 * k + 2) 2) ∧ (rdN L (16 + 4 * k + 2) 2 = 0 → rdN L (16 + 4 * k) 2 = 0) ∧ ((slotAt L k).f0 = true → mayB (slotAt L k).f1 (slotAt L k).f2 = true)
set_option maxRecDepth 100000 in
set_option maxHeartbeats 2000000 in
theorem rslot_calls (w : World) (L : List UInt8) (k : Nat) (hl : L.length = 512) (hk : 16 + 4 * k + 4 ≤ 512) :
    Calls Try.prog 47 #[.string (mkS L), .int .i64 (16 + 4 * (k : Int))] w fun e w' => ∃ b s1 s2 ok, e = .returned (.tuple #[.agg #[.bool b, .string s1, .string s2], .bool ok]) ∧ Below w.heap.size w w' ∧
      (ok = true → SlotOk L k ∧ slotAt L k = ⟨b, s1, s2⟩) ∧ (ok = false → ¬ SlotOk L k) := by
  have HLEN := Aside0.mk hl
  go_enter Try.func47, Try.ntmps47
  go_wp2_with fail
  have hb0 : Below w.heap.size w (w.alloc (.cells #[.bool false, .string ⟨#[]⟩, .string ⟨#[]⟩] 46)) := below_alloc (Below.refl _ _) _
  have hx0 : (w.alloc (.cells #[.bool false, .string ⟨#[]⟩, .string ⟨#[]⟩] 46)).heap[w.heap.size]? = some (.cells #[.bool false, .string ⟨#[]⟩, .string ⟨#[]⟩] 46 (0, 0)) := heap_alloc_new w _
  generalize w.alloc (.cells #[.bool false, .string ⟨#[]⟩, .string ⟨#[]⟩] 46) = wa at hb0 hx0 ⊢
  have HB0 := Aside0.mk hb0
  have HX0 := Aside0.mk hx0
  clear hb0 hx0
  have hn0 := rnum_at wa L (16 + 4 * k) (by omega) (by omega)
  rw [show (((16 + 4 * k : Nat) : Nat) : Int) = 16 + 4 * (k : Int) from by omega] at hn0
  refine hn0.mono ?_
  rintro e w1 ⟨rfl, hb⟩
  have HB1 := Aside0.mk (below_then HB0.out HB0.out.size hb)
  have HX1 := Aside0.mk (blk_below HX0.out hb)
  clear hb hn0
  go_wp2_with fail
  have hn1 := rnum_at w1 L (16 + 4 * k + 2) (by omega) (by omega)
  rw [show (((16 + 4 * k + 2 : Nat) : Nat) : Int) = 16 + 4 * (k : Int) + 2 from by omega] at hn1
  refine hn1.mono ?_
  rintro e w2 ⟨rfl, hb⟩
  have HB2 := Aside0.mk (below_then HB1.out HB1.out.size hb)
  have HX2 := Aside0.mk (blk_below HX1.out hb)
  clear hb hn1
  have hoL := rdN_lt2 L (16 + 4 * k)
  have hmL := rdN_lt2 L (16 + 4 * k + 2)
  generalize hoe : rdN L (16 + 4 * k) 2 = o at hoL ⊢
  generalize hme : rdN L (16 + 4 * k + 2) 2 = m at hmL ⊢
  have HOE := Aside0.mk hoe
  have HME := Aside0.mk hme
  clear hoe hme
  have y0 := blk_cell HX2.out 0
  have y1 := blk_cell HX2.out 1
  have y2 := blk_cell HX2.out 2
  have g0 := blk_frozen HX2.out 0
  have g1 := blk_frozen HX2.out 1
  have g2 := blk_frozen HX2.out 2
  by_cases hm0 : m = 0
  · obtain rfl := hm0
    have HC := Aside0.mk (show slotAt L k = zGCell by unfold slotAt cellAt; rw [if_pos HME.out])
    rw [show ((0 : Nat) : Int) = 0 from rfl]
    go_wp2_with fail
    refine bodyPost_ret (results_ct rfl _ _ w.heap.size 46 #[.bool false, .string ⟨#[]⟩, .string ⟨#[]⟩] (0, 0) _ rfl (put3 HX2.out) Try.underlying46 rfl (by kernel_rfl)) rfl ?_
    refine ⟨false, ⟨#[]⟩, ⟨#[]⟩, ((o : Int) == 0), rfl, bel3 HB2.out (Nat.le_refl _), fun h => ?_, fun h => ?_⟩
    · have h0 : o = 0 := by simpa using h
      refine ⟨⟨?_, ?_, ?_⟩, HC.out⟩
      · rw [HME.out]; exact .inl rfl
      · rw [HOE.out]; exact fun _ => h0
      · rw [HC.out]; intro h; simp [zGCell] at h
    · have h0 : ¬ o = 0 := by simpa using h
      intro hs
      have := hs.2.1 HME.out
      rw [HOE.out] at this
      exact h0 this
  · have hmp : (0 : Int) < (m : Int) := by omega
    have hm1 : ((m : Int) == 0) = false := by simp; omega
    by_cases hr : o + m ≤ 512
    · have e6 : decide ((512 : Int) < (o : Int) + (m : Int)) = false := by simp; omega
      have hsz : ((mkS L).size : Int) = 512 := by rw [mkS_size, hl]; rfl
      go_wp2_with fail
      obtain ⟨x, hxe⟩ : ∃ x, x = (L.getD o 0).toNat := ⟨_, rfl⟩
      have hx256 : x < 256 := by rw [hxe]; exact (L.getD o 0).toNat_lt
      have hidx : ∀ h : 0 < ((mkS L).extract o (o + m)).size, (((mkS L).extract o (o + m))[0]'h).toNat = x := fun h => ext_get L o m x hl hxe h
      rw [hidx, (wraps o m x hoL hmL hx256).2.2.2.1, (wraps o m x hoL hmL hx256).2.2.2.2.1]
      obtain ⟨C, hC⟩ : ∃ C, C = (mkS L).extract o (o + m) := ⟨_, rfl⟩
      rw [← hC]
      have hcz : C.size = m := by rw [hC, ByteArray.size_extract, mkS_size]; omega
      have HCE := Aside0.mk hC
      have HXE := Aside0.mk hxe
      clear hC hxe hidx
      by_cases hl1 : 1 + x ≤ m
      · have e7 : decide ((m : Int) < 1 + (x : Int)) = false := by simp; omega
        go_wp2_with fail
        obtain ⟨q, hq⟩ : ∃ q, q = mayB (C.extract 1 (1 + (x : Int)).toNat) (C.extract (1 + (x : Int)).toNat m) := ⟨_, rfl⟩
        have hmay : ∀ W, Calls Try.prog 58 #[.string (C.extract 1 (1 + (x : Int)).toNat), .string (C.extract (1 + (x : Int)).toNat m)] W fun e w' => e = .returned (.bool q) ∧ Below W.heap.size W w' := fun W => by rw [hq]; exact rmay_calls W _ _
        have HQ := Aside0.mk hq
        have HSL := Aside0.mk (slot_is L k o m x HLEN.out HOE.out HME.out HXE.out hm0 hr hl1 C HCE.out)
        clear hq
        -- [A
        refine start_ (n := 13) (S := fun _ => True) (ds := []) #[false, false, false, false, false, false, false, false, false, false, false, false, false] (by kernel_rfl) rfl rfl (trivial) (fun hHeld => ?_)
        refine pure_ (i := 0) (N := some 37) (v := ?_) (a' := ?_) #[true, false, false, false, false, false, false, false, false, false, false, false, false] rfl rfl (by kernel_rfl) (fun _ _ _ h => h) (Or.inl ⟨by rfl, ?_⟩) ?_ ?_
        rotate_left
        · intro w'
          go_simp
          all_goals (with_reducible rfl)
        rotate_left
        · simp only [Act.put, List.setIfInBounds_toArray, List.set_cons_zero, List.set_cons_succ, i64_w, i32_w]
          rfl
        refine pure_ (i := 1) (N := some 38) (v := ?_) (a' := ?_) #[true, true, false, false, false, false, false, false, false, false, false, false, false] rfl rfl (by kernel_rfl) (fun _ _ _ h => h) (Or.inl ⟨by rfl, ?_⟩) ?_ ?_
        rotate_left
        · intro w'
          go_simp
          all_goals (with_reducible rfl)
        rotate_left
        · simp only [Act.put, List.setIfInBounds_toArray, List.set_cons_zero, List.set_cons_succ, i64_w, i32_w]
          rfl
        refine pure_ (i := 2) (N := some 39) (v := ?_) (a' := ?_) #[true, true, true, false, false, false, false, false, false, false, false, false, false] rfl rfl (by kernel_rfl) (fun _ _ _ h => h) (Or.inl ⟨by rfl, ?_⟩) ?_ ?_
        rotate_left
        · intro w'
          go_simp
          all_goals (with_reducible rfl)
        rotate_left
        · simp only [Act.put, List.setIfInBounds_toArray, List.set_cons_zero, List.set_cons_succ, i64_w, i32_w]
          rfl
        refine pure_ (i := 3) (N := some 40) (v := ?_) (a' := ?_) #[true, true, true, true, false, false, false, false, false, false, false, false, false] rfl rfl (by kernel_rfl) (fun _ _ _ h => h) (Or.inl ⟨by rfl, ?_⟩) ?_ ?_
        rotate_left
        · intro w'
          go_simp
          all_goals (with_reducible rfl)
        rotate_left
        · simp only [Act.put, List.setIfInBounds_toArray, List.set_cons_zero, List.set_cons_succ, i64_w, i32_w]
          rfl
        refine pure_ (i := 4) (N := some 41) (v := ?_) (a' := ?_) #[true, true, true, true, true, false, false, false, false, false, false, false, false] rfl rfl (by kernel_rfl) (fun _ _ _ h => h) (Or.inl ⟨by rfl, ?_⟩) ?_ ?_
        rotate_left
        · intro w'
          go_simp
          all_goals (with_reducible rfl)
        rotate_left
        · simp only [Act.put, List.setIfInBounds_toArray, List.set_cons_zero, List.set_cons_succ, i64_w, i32_w]
          rfl
        refine pure_ (i := 5) (N := some 42) (v := ?_) (a' := ?_) #[true, true, true, true, true, true, false, false, false, false, false, false, false] rfl rfl (by kernel_rfl) (fun _ _ _ h => h) (Or.inl ⟨by rfl, ?_⟩) ?_ ?_
        rotate_left
        · intro w'
          go_simp
          all_goals (with_reducible rfl)
        rotate_left
        · simp only [Act.put, List.setIfInBounds_toArray, List.set_cons_zero, List.set_cons_succ, i64_w, i32_w]
          rfl
        refine pure_ (i := 6) (N := some 43) (v := .string (C.extract 1 (1 + (x : Int)).toNat)) (a' := ?_) #[true, true, true, true, true, true, true, false, false, false, false, false, false] rfl rfl (by kernel_rfl) (fun _ _ _ h => h) (Or.inl ⟨by rfl, ?_⟩) ?_ ?_
        · intro w'
          go_simp
          all_goals (rw [if_pos ⟨by omega, by omega⟩, if_pos (by omega)])
        rotate_left
        · simp only [Act.put, List.setIfInBounds_toArray, List.set_cons_zero, List.set_cons_succ, i64_w, i32_w]
          rfl
        refine pure_ (i := 7) (N := some 44) (v := ?_) (a' := ?_) #[true, true, true, true, true, true, true, true, false, false, false, false, false] rfl rfl (by kernel_rfl) (fun _ _ _ h => h) (Or.inl ⟨by rfl, ?_⟩) ?_ ?_
        rotate_left
        · intro w'
          go_simp
          all_goals (with_reducible rfl)
        rotate_left
        · simp only [Act.put, List.setIfInBounds_toArray, List.set_cons_zero, List.set_cons_succ, i64_w, i32_w]
          rfl
        refine pure_ (i := 8) (N := some 45) (v := ?_) (a' := ?_) #[true, true, true, true, true, true, true, true, true, false, false, false, false] rfl rfl (by kernel_rfl) (fun _ _ _ h => h) (Or.inl ⟨by rfl, ?_⟩) ?_ ?_
        rotate_left
        · intro w'
          go_simp
          all_goals (with_reducible rfl)
        rotate_left
        · simp only [Act.put, List.setIfInBounds_toArray, List.set_cons_zero, List.set_cons_succ, i64_w, i32_w]
          rfl
        refine pure_ (i := 9) (N := some 46) (v := .string (C.extract (1 + (x : Int)).toNat m)) (a' := ?_) #[true, true, true, true, true, true, true, true, true, true, false, false, false] rfl rfl (by kernel_rfl) (fun _ _ _ h => h) (Or.inl ⟨by rfl, ?_⟩) ?_ ?_
        · intro w'
          go_simp
          all_goals (intro h; have := h (by omega); omega)
        rotate_left
        · simp only [Act.put, List.setIfInBounds_toArray, List.set_cons_zero, List.set_cons_succ, i64_w, i32_w]
          rfl
        refine one_ (i := 10) (N := some 47) #[true, true, true, true, true, true, true, true, true, true, true, false, false] rfl rfl (by kernel_rfl) (by decide) (fun K hK => ?_)
        go_simp
        go_at_call 58
        refine (hmay _).mono ?_
        rintro e w3 ⟨rfl, hb⟩
        have HB3 := Aside0.mk (below_then (below_drew HB2.out) (below_drew HB2.out).size hb)
        have HX3 := Aside0.mk (blk_below (blk_drew HX2.out) hb)
        clear hb
        (try go_wp2_with fail)
        refine hK.out _ _ (trivial) (fun hHeld => ?_)
        clear hK K
        (try simp only [Act.put, List.setIfInBounds_toArray, List.set_cons_zero, List.set_cons_succ])
        refine pure_ (i := 11) (N := some 48) (v := ?_) (a' := ?_) #[true, true, true, true, true, true, true, true, true, true, true, true, false] rfl rfl (by kernel_rfl) (fun _ _ _ h => h) (Or.inl ⟨by rfl, ?_⟩) ?_ ?_
        rotate_left
        · intro w'
          go_simp
          all_goals (with_reducible rfl)
        rotate_left
        · simp only [Act.put, List.setIfInBounds_toArray, List.set_cons_zero, List.set_cons_succ, i64_w, i32_w]
          rfl
        refine pure_ (i := 12) (N := some 49) (v := ?_) (a' := ?_) #[true, true, true, true, true, true, true, true, true, true, true, true, true] rfl rfl (by kernel_rfl) (fun _ _ _ h => h) (Or.inl ⟨by rfl, ?_⟩) ?_ ?_
        rotate_left
        · intro w'
          go_simp
          all_goals (with_reducible rfl)
        rotate_left
        · simp only [Act.put, List.setIfInBounds_toArray, List.set_cons_zero, List.set_cons_succ, i64_w, i32_w]
          rfl
        refine done_ (by kernel_rfl) ?_
        have y0 := blk_cell HX3.out 0
        have y1 := blk_cell HX3.out 1
        have y2 := blk_cell HX3.out 2
        have g0 := blk_frozen HX3.out 0
        have g1 := blk_frozen HX3.out 1
        have g2 := blk_frozen HX3.out 2
        clear hmay
        cases q with
        | false =>
          go_wp2_with fail
          refine bodyPost_ret (results_ct rfl _ _ w.heap.size 46 #[.bool false, .string ⟨#[]⟩, .string ⟨#[]⟩] (0, 0) _ rfl (put3 HX3.out) Try.underlying46 rfl (by kernel_rfl)) rfl ?_
          refine ⟨false, ⟨#[]⟩, ⟨#[]⟩, false, rfl, bel3 HB3.out (Nat.le_refl _), fun h => (by cases h), fun _ hs => ?_⟩
          have h1 := hs.2.2 (by rw [HSL.out])
          rw [HSL.out] at h1
          have h2 := HQ.out
          rw [h1] at h2
          cases h2
        | true =>
          go_wp2_with fail
          refine start_ (n := 9) (S := fun _ => True) (ds := []) #[false, false, false, false, false, false, false, false, false] (by kernel_rfl) rfl rfl (trivial) (fun hHeld => ?_)
          refine pure_ (i := 0) (N := some 51) (v := ?_) (a' := ?_) #[true, false, false, false, false, false, false, false, false] rfl rfl (by kernel_rfl) (fun _ _ _ h => h) (Or.inl ⟨by rfl, ?_⟩) ?_ ?_
          rotate_left
          · intro w'
            go_simp
            all_goals (with_reducible rfl)
          rotate_left
          · simp only [Act.put, List.setIfInBounds_toArray, List.set_cons_zero, List.set_cons_succ, i64_w, i32_w]
            rfl
          refine pure_ (i := 1) (N := some 52) (v := ?_) (a' := ?_) #[true, true, false, false, false, false, false, false, false] rfl rfl (by kernel_rfl) (fun _ _ _ h => h) (Or.inl ⟨by rfl, ?_⟩) ?_ ?_
          rotate_left
          · intro w'
            go_simp
            all_goals (with_reducible rfl)
          rotate_left
          · simp only [Act.put, List.setIfInBounds_toArray, List.set_cons_zero, List.set_cons_succ, i64_w, i32_w]
            rfl
          refine pure_ (i := 2) (N := some 53) (v := .string (C.extract 1 (1 + (x : Int)).toNat)) (a' := ?_) #[true, true, true, false, false, false, false, false, false] rfl rfl (by kernel_rfl) (fun _ _ _ h => h) (Or.inl ⟨by rfl, ?_⟩) ?_ ?_
          · intro w'
            go_simp
            all_goals (rw [if_pos ⟨by omega, by omega⟩, if_pos (by omega)])
          rotate_left
          · simp only [Act.put, List.setIfInBounds_toArray, List.set_cons_zero, List.set_cons_succ, i64_w, i32_w]
            rfl
          refine pure_ (i := 3) (N := some 54) (v := ?_) (a' := ?_) #[true, true, true, true, false, false, false, false, false] rfl rfl (by kernel_rfl) (fun _ _ _ h => h) (Or.inl ⟨by rfl, ?_⟩) ?_ ?_
          rotate_left
          · intro w'
            go_simp
            all_goals (with_reducible rfl)
          rotate_left
          · simp only [Act.put, List.setIfInBounds_toArray, List.set_cons_zero, List.set_cons_succ, i64_w, i32_w]
            rfl
          refine pure_ (i := 4) (N := some 55) (v := ?_) (a' := ?_) #[true, true, true, true, true, false, false, false, false] rfl rfl (by kernel_rfl) (fun _ _ _ h => h) (Or.inl ⟨by rfl, ?_⟩) ?_ ?_
          rotate_left
          · intro w'
            go_simp
            all_goals (with_reducible rfl)
          rotate_left
          · simp only [Act.put, List.setIfInBounds_toArray, List.set_cons_zero, List.set_cons_succ, i64_w, i32_w]
            rfl
          refine pure_ (i := 5) (N := some 56) (v := .string (C.extract (1 + (x : Int)).toNat m)) (a' := ?_) #[true, true, true, true, true, true, false, false, false] rfl rfl (by kernel_rfl) (fun _ _ _ h => h) (Or.inl ⟨by rfl, ?_⟩) ?_ ?_
          · intro w'
            go_simp
            all_goals (intro h; have := h (by omega); omega)
          rotate_left
          · simp only [Act.put, List.setIfInBounds_toArray, List.set_cons_zero, List.set_cons_succ, i64_w, i32_w]
            rfl
          refine pure_ (i := 6) (N := some 57) (v := ?_) (a' := ?_) #[true, true, true, true, true, true, true, false, false] rfl rfl (by kernel_rfl) (fun _ _ _ h => h) (Or.inl ⟨by rfl, ?_⟩) ?_ ?_
          rotate_left
          · intro w'
            go_simp
            all_goals (with_reducible rfl)
          rotate_left
          · simp only [Act.put, List.setIfInBounds_toArray, List.set_cons_zero, List.set_cons_succ, i64_w, i32_w]
            rfl
          refine one_ (i := 7) (N := none) #[true, true, true, true, true, true, true, true, false] rfl rfl (by kernel_rfl) (by decide) (fun K hK => ?_)
          go_simp
          skip
          (try go_wp2_with fail)
          refine hK.out _ _ (trivial) (fun hHeld => ?_)
          clear hK K
          (try simp only [Act.put, List.setIfInBounds_toArray, List.set_cons_zero, List.set_cons_succ])
          refine pure_ (i := 8) (N := some 5) (v := ?_) (a' := ?_) #[true, true, true, true, true, true, true, true, true] rfl rfl (by kernel_rfl) (fun _ _ _ h => h) (Or.inl ⟨by rfl, ?_⟩) ?_ ?_
          rotate_left
          · intro w'
            go_simp
            all_goals (with_reducible rfl)
          rotate_left
          · simp only [Act.put, List.setIfInBounds_toArray, List.set_cons_zero, List.set_cons_succ, i64_w, i32_w]
            rfl
          refine done_ (by kernel_rfl) ?_
          go_wp2_with fail
          refine bodyPost_ret (results_ct rfl _ _ w.heap.size 46 #[.bool true, .string (C.extract 1 (1 + (x : Int)).toNat), .string (C.extract (1 + (x : Int)).toNat m)] (0, 0) _ rfl (put3 (blk_drew HX3.out)) Try.underlying46 rfl (by kernel_rfl)) rfl ?_
          refine ⟨true, _, _, true, rfl, bel3 (below_drew HB3.out) (Nat.le_refl _), fun _ => ⟨⟨?_, ?_, ?_⟩, HSL.out⟩, fun h => (by cases h)⟩
          · rw [HOE.out, HME.out]; unfold cellOk; rw [HLEN.out]; exact .inr ⟨hr, by rw [← HXE.out]; exact hl1⟩
          · rw [HME.out]; exact fun h => absurd h hm0
          · rw [HSL.out]; exact fun _ => HQ.out.symm
        -- A]
      · have e7 : decide ((m : Int) < 1 + (x : Int)) = true := by simp; omega
        go_wp2_with fail
        -- [B
        refine start_ (n := 13) (S := fun _ => True) (ds := []) #[false, false, false, false, false, false, false, false, false, false, false, false, false] (by kernel_rfl) rfl rfl (trivial) (fun hHeld => ?_)
        refine pure_ (i := 0) (N := some 37) (v := ?_) (a' := ?_) #[true, false, false, false, false, false, false, false, false, false, false, false, false] rfl rfl (by kernel_rfl) (fun _ _ _ h => h) (Or.inl ⟨by rfl, ?_⟩) ?_ ?_
        rotate_left
        · intro w'
          go_simp
          all_goals (with_reducible rfl)
        rotate_left
        · simp only [Act.put, List.setIfInBounds_toArray, List.set_cons_zero, List.set_cons_succ, i64_w, i32_w]
          rfl
        refine pure_ (i := 1) (N := some 38) (v := ?_) (a' := ?_) #[true, true, false, false, false, false, false, false, false, false, false, false, false] rfl rfl (by kernel_rfl) (fun _ _ _ h => h) (Or.inl ⟨by rfl, ?_⟩) ?_ ?_
        rotate_left
        · intro w'
          go_simp
          all_goals (with_reducible rfl)
        rotate_left
        · simp only [Act.put, List.setIfInBounds_toArray, List.set_cons_zero, List.set_cons_succ, i64_w, i32_w]
          rfl
        refine pure_ (i := 2) (N := some 39) (v := ?_) (a' := ?_) #[true, true, true, false, false, false, false, false, false, false, false, false, false] rfl rfl (by kernel_rfl) (fun _ _ _ h => h) (Or.inl ⟨by rfl, ?_⟩) ?_ ?_
        rotate_left
        · intro w'
          go_simp
          all_goals (with_reducible rfl)
        rotate_left
        · simp only [Act.put, List.setIfInBounds_toArray, List.set_cons_zero, List.set_cons_succ, i64_w, i32_w]
          rfl
        refine pure_ (i := 3) (N := some 40) (v := ?_) (a' := ?_) #[true, true, true, true, false, false, false, false, false, false, false, false, false] rfl rfl (by kernel_rfl) (fun _ _ _ h => h) (Or.inl ⟨by rfl, ?_⟩) ?_ ?_
        rotate_left
        · intro w'
          go_simp
          all_goals (with_reducible rfl)
        rotate_left
        · simp only [Act.put, List.setIfInBounds_toArray, List.set_cons_zero, List.set_cons_succ, i64_w, i32_w]
          rfl
        refine pure_ (i := 4) (N := some 41) (v := undef) (a' := ?_) #[true, true, true, true, true, false, false, false, false, false, false, false, false] rfl rfl (by kernel_rfl) (fun _ _ _ h => h) (Or.inr ⟨by rfl, rfl⟩) ?_ ?_
        rotate_left
        · simp only [Act.put, List.setIfInBounds_toArray, List.set_cons_zero, List.set_cons_succ, i64_w, i32_w]
          rfl
        refine pure_ (i := 5) (N := some 42) (v := undef) (a' := ?_) #[true, true, true, true, true, true, false, false, false, false, false, false, false] rfl rfl (by kernel_rfl) (fun _ _ _ h => h) (Or.inr ⟨by rfl, rfl⟩) ?_ ?_
        rotate_left
        · simp only [Act.put, List.setIfInBounds_toArray, List.set_cons_zero, List.set_cons_succ, i64_w, i32_w]
          rfl
        refine pure_ (i := 6) (N := some 43) (v := undef) (a' := ?_) #[true, true, true, true, true, true, true, false, false, false, false, false, false] rfl rfl (by kernel_rfl) (fun _ _ _ h => h) (Or.inr ⟨by rfl, rfl⟩) ?_ ?_
        rotate_left
        · simp only [Act.put, List.setIfInBounds_toArray, List.set_cons_zero, List.set_cons_succ, i64_w, i32_w]
          rfl
        refine pure_ (i := 7) (N := some 44) (v := undef) (a' := ?_) #[true, true, true, true, true, true, true, true, false, false, false, false, false] rfl rfl (by kernel_rfl) (fun _ _ _ h => h) (Or.inr ⟨by rfl, rfl⟩) ?_ ?_
        rotate_left
        · simp only [Act.put, List.setIfInBounds_toArray, List.set_cons_zero, List.set_cons_succ, i64_w, i32_w]
          rfl
        refine pure_ (i := 8) (N := some 45) (v := undef) (a' := ?_) #[true, true, true, true, true, true, true, true, true, false, false, false, false] rfl rfl (by kernel_rfl) (fun _ _ _ h => h) (Or.inr ⟨by rfl, rfl⟩) ?_ ?_
        rotate_left
        · simp only [Act.put, List.setIfInBounds_toArray, List.set_cons_zero, List.set_cons_succ, i64_w, i32_w]
          rfl
        refine pure_ (i := 9) (N := some 46) (v := undef) (a' := ?_) #[true, true, true, true, true, true, true, true, true, true, false, false, false] rfl rfl (by kernel_rfl) (fun _ _ _ h => h) (Or.inr ⟨by rfl, rfl⟩) ?_ ?_
        rotate_left
        · simp only [Act.put, List.setIfInBounds_toArray, List.set_cons_zero, List.set_cons_succ, i64_w, i32_w]
          rfl
        refine one_ (i := 10) (N := some 47) #[true, true, true, true, true, true, true, true, true, true, true, false, false] rfl rfl (by kernel_rfl) (by decide) (fun K hK => ?_)
        refine skip_ (by rfl) ?_
        refine hK.out _ _ hHeld (fun hHeld => ?_)
        clear hK K
        (try simp only [Act.put, List.setIfInBounds_toArray, List.set_cons_zero, List.set_cons_succ])
        refine pure_ (i := 11) (N := some 48) (v := undef) (a' := ?_) #[true, true, true, true, true, true, true, true, true, true, true, true, false] rfl rfl (by kernel_rfl) (fun _ _ _ h => h) (Or.inr ⟨by rfl, rfl⟩) ?_ ?_
        rotate_left
        · simp only [Act.put, List.setIfInBounds_toArray, List.set_cons_zero, List.set_cons_succ, i64_w, i32_w]
          rfl
        refine pure_ (i := 12) (N := some 49) (v := ?_) (a' := ?_) #[true, true, true, true, true, true, true, true, true, true, true, true, true] rfl rfl (by kernel_rfl) (fun _ _ _ h => h) (Or.inl ⟨by rfl, ?_⟩) ?_ ?_
        rotate_left
        · intro w'
          go_simp
          all_goals (with_reducible rfl)
        rotate_left
        · simp only [Act.put, List.setIfInBounds_toArray, List.set_cons_zero, List.set_cons_succ, i64_w, i32_w]
          rfl
        refine done_ (by kernel_rfl) ?_
        go_wp2_with fail
        refine bodyPost_ret (results_ct rfl _ _ w.heap.size 46 #[.bool false, .string ⟨#[]⟩, .string ⟨#[]⟩] (0, 0) _ rfl (put3 HX2.out) Try.underlying46 rfl (by kernel_rfl)) rfl ?_
        refine ⟨false, ⟨#[]⟩, ⟨#[]⟩, false, rfl, bel3 (below_drew HB2.out) (Nat.le_refl _), fun h => (by cases h), fun _ hs => ?_⟩
        have h1 := hs.1
        rw [HOE.out, HME.out] at h1
        rcases h1 with h1 | ⟨_, h1⟩
        · exact hm0 h1
        · rw [← HXE.out] at h1; omega
        -- B]
    · have e6 : decide ((512 : Int) < (o : Int) + (m : Int)) = true := by simp; omega
      go_wp2_with fail
      refine bodyPost_ret (results_ct rfl _ _ w.heap.size 46 #[.bool false, .string ⟨#[]⟩, .string ⟨#[]⟩] (0, 0) _ rfl (put3 HX2.out) Try.underlying46 rfl (by kernel_rfl)) rfl ?_
      refine ⟨false, ⟨#[]⟩, ⟨#[]⟩, false, rfl, bel3 HB2.out (Nat.le_refl _), fun h => (by cases h), fun _ hs => ?_⟩
      have h1 := hs.1
      rw [HOE.out, HME.out] at h1
      rcases h1 with h1 | ⟨h1, _⟩
      · exact hm0 h1
      · rw [HLEN.out] at h1; omega
end Go.Proofs.Ytidkdbohkbfhbaa
end
section
namespace Go.Proofs.Ytidkdbohkbfhbaa
open Go.RowKit Go.Proofs.YtidkdbohkbfhbaaW.PrintWords Go.Proofs.YtidkdbohkbfhbaaW.PrintLast Go.Proofs.YtidkdbohkbfhbaaW.PrintMore
open Rf
set_option linter.unusedVariables false
set_option linter.unusedSimpArgs false

theorem dtrim_ev (id lsn : Int) (cs0 : List SGCell) (d : Nat) : ∀ l : List SGCell, l.length = d → l.length ≤ 1000 → Ev (fun k => flotillaref06_Delete.l0 k l id lsn cs0) (id, lsn, trimN d l, 0) := by
  induction d with
  | zero =>
    intro l hl _
    refine Ev.step (f := fun _ => some (id, lsn, l, 0)) (fun k => ?_) (Ev.now _)
    simp only [flotillaref06_Delete.l0]; rw [if_neg (by omega)]
  | succ d ih =>
    intro l hl hm
    have e1 : wrap64 ((l.length : Int) - 1) = (d : Int) := by rw [w64 (by omega) (by omega)]; omega
    by_cases hu : (rd_TGCell l d).f0 = true
    · rw [trimN_used _ l d hl hu]
      refine Ev.step (f := fun _ => some (id, lsn, l, 0)) (fun k => ?_) (Ev.now _)
      simp only [flotillaref06_Delete.l0]; rw [if_pos (by omega), e1, if_pos (by omega), if_pos (by omega), if_pos hu]
    · rw [trimN_free d l d hl (by simpa using hu)]
      refine Ev.step (fun k => ?_) (ih (l.take d) (by rw [List.length_take]; omega) (by rw [List.length_take]; omega))
      simp only [flotillaref06_Delete.l0]; rw [if_pos (by omega), e1, if_pos (by omega), if_pos (by omega), if_neg hu, if_pos (by omega)]; rfl
theorem delete_ev (cs : List SGCell) (hl : cs.length ≤ 100) (id lsn : Int) (key : ByteArray) : Ev (fun k => flotillaref06_Delete.f k id lsn cs key) (id, lsn, (del cs key).1, (del cs key).2) := by
  unfold flotillaref06_Delete.f
  refine Ev.bind (find_ev cs (by omega) id lsn key) ?_
  unfold del
  by_cases hf : fnd cs key < 0
  · simp only [if_pos hf]
    exact Ev.now _
  · simp only [if_neg hf]
    obtain ⟨j, hj, e, _, _⟩ := fnd_hit cs key (by omega)
    have e1 : wrap64 ((j : Int) + 1) = ((j + 1 : Nat) : Int) := by rw [w64 (by omega) (by omega)]; omega
    have h1 : (cs.take j).length ≤ 100 := by rw [List.length_take]; omega
    have h2 : (cs.drop (j + 1)).length ≤ 100 := by rw [List.length_drop]; omega
    rw [e]
    simp only [if_pos (show (0 : Int) ≤ j by omega), if_pos (show (j : Int) ≤ cs.length by omega), Int.toNat_natCast, Option.bind_some, List.nil_append, List.length_nil, e1, if_pos (show 0 + (cs.take j).length < 3518437208883 by omega), if_pos (show (0 : Int) ≤ ((j + 1 : Nat) : Int) by omega), if_pos (show ((j + 1 : Nat) : Int) ≤ cs.length by omega), if_pos (show (cs.take j).length + (cs.drop (j + 1)).length < 3518437208883 by omega)]
    exact dtrim_ev id lsn cs _ (cs.take j ++ cs.drop (j + 1)) rfl (by rw [List.length_append]; omega)
end Go.Proofs.Ytidkdbohkbfhbaa
end
section
namespace Go.Proofs.Ytidkdbohkbfhbaa
open Go.RowKit Go.Proofs.YtidkdbohkbfhbaaW.PrintWords Go.Proofs.YtidkdbohkbfhbaaW.PrintLast Go.Proofs.YtidkdbohkbfhbaaW.PrintMore
open Rf
set_option linter.unusedVariables false
set_option linter.unusedSimpArgs false
section
variable {w0 w : World} {P : Nat → Prop} {v : Value} {cs : List SGCell}
theorem rfind_calls (A : Option Addr) (c : Nat) (hC : Kd.C kGCell w A cs.length cs) (hc : cs.length ≤ c) (hl : cs.length ≤ 1000) (id lsn : Int) (key : ByteArray) :
    Calls Try.prog 48 #[.agg #[.int .i64 id, .int .u64 lsn, .slice A cs.length c], .string key] w fun e w' => e = .returned (.int .i64 (fnd cs key)) ∧ Below w.heap.size w w' := by
  obtain ⟨k, hk⟩ := find_ev cs hl id lsn key
  exact flotillaref06_Find.calls k id lsn A c cs key _ w hC hc (hk k (Nat.le_refl _))
theorem rins2_calls (hB : Below w0.heap.size w0 w) (hR : Kd.R kGCell 46 w w0.heap.size P v cs) (hv : Valid cs) (id lsn : Int) (key value : ByteArray) :
    Calls Try.prog 51 #[.agg #[.int .i64 id, .int .u64 lsn, v], .string key, .string value] w fun e w' => ∃ v', e = .returned (.tuple #[.agg #[.int .i64 id, .int .u64 lsn, v'], .int .i64 (ins cs key value).2]) ∧
      Kd.R kGCell 46 w' w0.heap.size (fun k => P k ∨ w.heap.size ≤ k) v' (ins cs key value).1 ∧ Below w0.heap.size w0 w' ∧ Kept w w' P ∧ ((ins cs key value).2 ≠ 0 → v' = v) := by
  obtain ⟨k, hk⟩ := insert_ev cs hv id lsn key value
  exact flotillaref06_Insert.calls k id lsn P v cs key value _ _ _ _ w0 w hB hR (hk k (Nat.le_refl _))
theorem rins_calls (hB : Below w0.heap.size w0 w) (hR : Kd.R kGCell 46 w w0.heap.size P v cs) (hv : Valid cs) (id lsn : Int) (key value : ByteArray) :
    Calls Try.prog 51 #[.agg #[.int .i64 id, .int .u64 lsn, v], .string key, .string value] w fun e w' => ∃ v', e = .returned (.tuple #[.agg #[.int .i64 id, .int .u64 lsn, v'], .int .i64 (ins cs key value).2]) ∧
      Kd.R kGCell 46 w' w0.heap.size (fun k => P k ∨ w.heap.size ≤ k) v' (ins cs key value).1 ∧ Below w0.heap.size w0 w' ∧ Kept w w' P := by
  refine (rins2_calls hB hR hv id lsn key value).mono ?_
  rintro e w' ⟨v', rfl, r1, r2, r3, _⟩
  exact ⟨v', rfl, r1, r2, r3⟩
theorem rupd2_calls (hB : Below w0.heap.size w0 w) (hR : Kd.R kGCell 46 w w0.heap.size P v cs) (hv : Valid cs) (id lsn : Int) (key value : ByteArray) :
    Calls Try.prog 52 #[.agg #[.int .i64 id, .int .u64 lsn, v], .string key, .string value] w fun e w' => ∃ v', e = .returned (.tuple #[.agg #[.int .i64 id, .int .u64 lsn, v'], .int .i64 (upd cs key value).2]) ∧
      Kd.R kGCell 46 w' w0.heap.size (fun k => P k ∨ w.heap.size ≤ k) v' (upd cs key value).1 ∧ Below w0.heap.size w0 w' ∧ Kept w w' P ∧ ((upd cs key value).2 ≠ 0 → v' = v) := by
  obtain ⟨k, hk⟩ := update_ev cs hv id lsn key value
  exact flotillaref06_Update.calls k id lsn P v cs key value _ _ _ _ w0 w hB hR (hk k (Nat.le_refl _))
theorem rupd_calls (hB : Below w0.heap.size w0 w) (hR : Kd.R kGCell 46 w w0.heap.size P v cs) (hv : Valid cs) (id lsn : Int) (key value : ByteArray) :
    Calls Try.prog 52 #[.agg #[.int .i64 id, .int .u64 lsn, v], .string key, .string value] w fun e w' => ∃ v', e = .returned (.tuple #[.agg #[.int .i64 id, .int .u64 lsn, v'], .int .i64 (upd cs key value).2]) ∧
      Kd.R kGCell 46 w' w0.heap.size (fun k => P k ∨ w.heap.size ≤ k) v' (upd cs key value).1 ∧ Below w0.heap.size w0 w' ∧ Kept w w' P := by
  refine (rupd2_calls hB hR hv id lsn key value).mono ?_
  rintro e w' ⟨v', rfl, r1, r2, r3, _⟩
  exact ⟨v', rfl, r1, r2, r3⟩
theorem rdel_calls (hB : Below w0.heap.size w0 w) (hR : Kd.R kGCell 46 w w0.heap.size P v cs) (hl : cs.length ≤ 100) (id lsn : Int) (key : ByteArray) :
    Calls Try.prog 53 #[.agg #[.int .i64 id, .int .u64 lsn, v], .string key] w fun e w' => ∃ v', e = .returned (.tuple #[.agg #[.int .i64 id, .int .u64 lsn, v'], .int .i64 (del cs key).2]) ∧
      Kd.R kGCell 46 w' w0.heap.size (fun k => P k ∨ w.heap.size ≤ k) v' (del cs key).1 ∧ Below w0.heap.size w0 w' ∧ Kept w w' P := by
  obtain ⟨k, hk⟩ := delete_ev cs hl id lsn key
  exact flotillaref06_Delete.calls k id lsn P v cs key _ _ _ _ w0 w hB hR (hk k (Nat.le_refl _))
end
end Go.Proofs.Ytidkdbohkbfhbaa
end
section
namespace Go.Proofs.Ytidkdbohkbfhbaa
open Go.RowKit Go.Proofs.YtidkdbohkbfhbaaW.PrintWords Go.Proofs.YtidkdbohkbfhbaaW.PrintLast Go.Proofs.YtidkdbohkbfhbaaW.PrintMore
open Rf
set_option linter.unusedVariables false
set_option linter.unusedSimpArgs false
attribute [local go_sem high] yundz
/-- The bytes are some page's. -/
def IsPage (id : Int) (L : List UInt8) : Prop := ∃ lsn cs, lsn < 18446744073709551616 ∧ Valid cs ∧ pgB id.toNat lsn cs = L
theorem slot_page (id lsn : Nat) {cs : List SGCell} (hv : Valid cs) (i : Nat) (hi : i < cs.length) : SlotOk (pgB id lsn cs) i := by
  obtain ⟨h1, h2⟩ := slotAt_pgB id lsn hv i hi
  have hmem : cs[i] ∈ cs := List.getElem_mem hi
  refine ⟨h2, fun h3 => ?_, fun h3 => ?_⟩
  · have hmay := hv.may _ hmem
    have hcs : cs = cs.take i ++ cs[i] :: cs.drop (i + 1) := by rw [← List.drop_eq_getElem_cons hi, List.take_append_drop]
    have hil : (cs.take i).length = i := by rw [List.length_take]; omega
    generalize cs[i] = c at *
    generalize ha : cs.take i = a at *
    generalize cs.drop (i + 1) = r at *
    subst hil
    cases hc : c.f0 with
    | false =>
      obtain ⟨s1, s2⟩ := slot_free id lsn a c r hc
      rw [← hcs] at s1
      exact s1
    | true =>
      have hm := (mayB_iff _ _).1 (hmay hc)
      have hcz : csz c = 1 + c.f1.size + c.f2.size := by unfold csz; rw [if_pos hc]
      obtain ⟨s1, s2⟩ := slot_used id lsn a c r hc (by omega)
      rw [← hcs, h3] at s2
      omega
  · rw [h1] at h3 ⊢
    exact hv.may _ hmem h3
theorem page_facts {id : Int} {L : List UInt8} (hid : 0 ≤ id ∧ id < 16) (h : IsPage id L) :
    ((rdN L 12 2 : Nat) : Int) = id ∧ rdN L 14 2 ≤ 64 ∧ (∀ k, k < rdN L 14 2 → SlotOk L k) ∧ Valid (dec L (rdN L 14 2)) ∧ pgB id.toNat (rdN L 4 8) (dec L (rdN L 14 2)) = L := by
  obtain ⟨lsn, cs, h1, hv, h2⟩ := h
  have hl := hv.len
  have e1 := pgB_id id.toNat lsn cs (by omega)
  have e2 := pgB_lsn id.toNat lsn cs h1
  have e3 := pgB_n id.toNat lsn cs (by omega)
  have e4 := dec_pgB id.toNat lsn hv
  have e5 := fun k (hk : k < cs.length) => slot_page id.toNat lsn hv k hk
  rw [h2] at e1 e2 e3 e4 e5
  rw [e1, e2, e3, e4, h2]
  exact ⟨by omega, hl, e5, hv, rfl⟩
theorem twice_no (L : List UInt8) (k n : Nat) (s1 s2 : ByteArray) (hn : n = rdN L 14 2) (hlt : k < n) (hsa : slotAt L k = ⟨true, s1, s2⟩) (hge : 0 ≤ fnd (dec L k) s1) (hv : Valid (dec L (rdN L 14 2))) : False := by
  obtain ⟨j, hj, _, hu, hk⟩ := fnd_hit (dec L k) s1 hge
  have hjk : j < k := by rwa [dec_length] at hj
  rw [← hn] at hv
  have h := List.pairwise_iff_getElem.1 hv.once j k (by rw [dec_length]; omega) (by rw [dec_length]; omega) hjk
  simp only [dec, List.getElem_map, List.getElem_range] at h hu hk
  exact h hu (by rw [hsa]) (by rw [hk, hsa])
theorem last_get (L : List UInt8) (k : Nat) (hz : ¬ k = 0) : (dec L k).getLast? = some (rd_TGCell (dec L k) (k - 1 : Nat)) := by
  rw [List.getLast?_eq_getElem?, dec_length, List.getElem?_eq_getElem (by rw [dec_length]; omega), rd_get (dec L k) (k - 1) (by rw [dec_length]; omega)]
theorem last_is (L : List UInt8) (k : Nat) (hz : ¬ k = 0) (hu : (rd_TGCell (dec L k) (k - 1 : Nat)).f0 = true) : ∀ c, (dec L k).getLast? = some c → c.f0 = true := by
  intro c h
  rw [last_get L k hz] at h
  rw [← Option.some.inj h]; exact hu
theorem last_no (L : List UInt8) (k : Nat) (hn : k = rdN L 14 2) (hz : ¬ k = 0) (hu : (rd_TGCell (dec L k) (k - 1 : Nat)).f0 = false) (hv : Valid (dec L (rdN L 14 2))) : False := by
  rw [← hn] at hv
  have h := hv.last _ (last_get L k hz)
  rw [hu] at h
  cases h
theorem cmp_no {a b : List UInt8} (h : (!((mkS a).toList == (mkS b).toList)) = true) : a ≠ b := by
  rw [mkS_toList, mkS_toList] at h
  simpa using h
theorem cmp_yes {a b : List UInt8} (h : (!((mkS a).toList == (mkS b).toList)) = false) : a = b := by
  rw [mkS_toList, mkS_toList] at h
  simpa using h
def RMade (w' : World) (id : Int) (lsn : Nat) (cs : List SGCell) (v : Value) : Prop :=
  ∃ A c, v = .agg #[.int .i64 id, .int .u64 lsn, .slice A cs.length c] ∧ cs.length ≤ c ∧ Kd.C kGCell w' A cs.length cs
theorem take_zero (L : List UInt8) (k : Nat) (h : k < L.length) (x : Nat) (hx : x = L[k].toNat) : (L.take (k + 1)).all (· == 0) = ((L.take k).all (· == 0) && decide (x = 0)) := by
  rw [List.take_succ_eq_append_getElem h, List.all_append, hx]
  congr 1
  simp only [List.all_cons, List.all_nil, Bool.and_true]
  by_cases h0 : L[k] = 0
  · rw [h0]; rfl
  · have h1 : ¬ L[k].toNat = 0 := fun h1 => h0 (UInt8.toNat_inj.1 h1)
    rw [decide_eq_false h1]
    simpa using h0
theorem rd_down (L : List UInt8) (o m : Nat) (h : o + m < L.length) : rdN L o (m + 1) = (L[o]'(by omega)).toNat + 256 * rdN L (o + 1) m := by
  unfold rdN
  rw [List.drop_eq_getElem_cons (show o < L.length by omega), List.take_succ_cons, val]
theorem rdN_8 (L : List UInt8) (o m : Nat) (h : m ≤ 8) : rdN L o m < 18446744073709551616 := by
  have h1 := val_lt ((L.drop o).take m)
  have h2 : ((L.drop o).take m).length ≤ 8 := by rw [List.length_take]; omega
  have h3 : 256 ^ ((L.drop o).take m).length ≤ 256 ^ 8 := Nat.pow_le_pow_right (by omega) h2
  have h4 : (256 : Nat) ^ 8 = 18446744073709551616 := by decide
  unfold rdN
  omega
/-- What the document's Parse answers. -/
structure RParsed (w w' : World) (id : Int) (L : List UInt8) (v : Value) (er : Int) : Prop where
  bel : Below w.heap.size w w'
  shape : ∃ a b A n c, v = .agg #[.int .i64 a, .int .u64 b, .slice A n c]
  arg : ¬ (0 ≤ id ∧ id < 16 ∧ L.length = 512) → er = 1
  nought : 0 ≤ id ∧ id < 16 → L.length = 512 → L.all (· == 0) = true → er = 0 ∧ RMade w' id 0 [] v
  sum : 0 ≤ id ∧ id < 16 → L.length = 512 → L.all (· == 0) = false → L.take 4 ≠ le (Crc.sum (L.drop 4)) 4 → er = 6
  page : 0 ≤ id ∧ id < 16 → L.length = 512 → L.all (· == 0) = false → L.take 4 = le (Crc.sum (L.drop 4)) 4 →
    (∃ lsn cs, lsn < 18446744073709551616 ∧ Valid cs ∧ pgB id.toNat lsn cs = L ∧ er = 0 ∧ RMade w' id lsn cs v) ∨ (¬ IsPage id L ∧ er = 5)
theorem rid_calls (w : World) (id : Int) : Calls Try.prog 11 #[.int .i64 id] w fun e w' => e = .returned (.bool (decide (0 ≤ id ∧ id < 16))) ∧ Below w.heap.size w w' := by
  refine (flotillaref06_Id.calls id (decide (0 ≤ id ∧ id < 16)) w ?_).mono (by rintro e w' ⟨rfl, hd⟩; exact ⟨rfl, hd.below⟩)
  unfold flotillaref06_Id.f
  by_cases h : 0 ≤ id
  · rw [if_pos h]
    by_cases h1 : id < 16
    · rw [decide_eq_true (show id ≤ 15 by omega), decide_eq_true ⟨h, h1⟩]
    · rw [decide_eq_false (show ¬ id ≤ 15 by omega), decide_eq_false (fun h2 => h1 h2.2)]
  · rw [if_neg h, decide_eq_false (fun h2 => h h2.1)]
set_option maxRecDepth 100000 in
set_option maxHeartbeats 16000000 in
theorem rparse_calls (w : World) (id : Int) (L : List UInt8) (hl : L.length ≤ 100000) (h64 : -9223372036854775808 ≤ id ∧ id ≤ 9223372036854775807) :
    Calls Try.prog 22 #[.int .i64 id, .string (mkS L)] w fun e w' => ∃ v er, e = .returned (.tuple #[v, .int .i64 er]) ∧ RParsed w w' id L v er := by
  go_enter Try.func22, Try.ntmps22
  go_wp2_with fail
  have hb0 : Below w.heap.size w (w.alloc (.cells #[.int .i64 0, .int .u64 0, .slice none 0 0] 33)) := below_alloc (Below.refl _ _) _
  have hx0 : (w.alloc (.cells #[.int .i64 0, .int .u64 0, .slice none 0 0] 33)).heap[w.heap.size]? = some (.cells #[.int .i64 0, .int .u64 0, .slice none 0 0] 33 (0, 0)) := heap_alloc_new w _
  generalize w.alloc (.cells #[.int .i64 0, .int .u64 0, .slice none 0 0] 33) = wa at hb0 hx0 ⊢
  have HB0 := Aside0.mk hb0
  have HX0 := Aside0.mk hx0
  clear hb0 hx0
  refine (rid_calls wa id).mono ?_
  rintro e w1 ⟨rfl, hb⟩
  have HB1 := Aside0.mk (below_then HB0.out HB0.out.size hb)
  have HX1 := Aside0.mk (blk_below HX0.out hb)
  clear hb
  have hsz : ((mkS L).size : Int) = (L.length : Int) := by rw [mkS_size]
  have hsz' : (mkS L).size = L.length := mkS_size L
  have x0 := blk_cell HX1.out 0
  have x1 := blk_cell HX1.out 1
  have x2 := blk_cell HX1.out 2
  have g0 := blk_frozen HX1.out 0
  have g1 := blk_frozen HX1.out 1
  have g2 := blk_frozen HX1.out 2
  by_cases hid : 0 ≤ id ∧ id < 16
  · have HID := Aside0.mk hid
    rw [decide_eq_true hid]
    clear hid
    by_cases hlen : L.length = 512
    · have HLEN := Aside0.mk hlen
      have hne : (((512 : Nat) : Int) != 512) = false := by decide
      rw [hlen] at hsz hsz'
      clear hl hlen x0 x1 x2 g0 g1 g2
      go_wp2_with fail
      go_loopg [6, 7] 512 (fun gk v6 v7 wr => ∃ (k : Nat) (b : Bool), Aside0 (k + gk = 512) ∧ v6 = .bool b ∧ v7 = .int .i64 k ∧ k ≤ 512 ∧ Aside0 (b = (L.take k).all (· == 0)) ∧ Aside0 (w1 = wr))
      case atStart => exact ⟨0, true, ⟨by omega⟩, rfl, rfl, by omega, ⟨by simp⟩, ⟨rfl⟩⟩
      case round =>
        obtain ⟨k, b, Hk, rfl, rfl, hkl, HA, HW⟩ := hrel
        by_cases hlt : k < 512
        · have hltL : k < L.length := by rw [HLEN.out]; exact hlt
          obtain ⟨x, hxe⟩ : ∃ x, x = L[k].toNat := ⟨_, rfl⟩
          have hx : ∀ h : k < (mkS L).size, ((mkS L)[k]'h).toNat = x := fun h => by rw [hxe]; rfl
          have HT := Aside0.mk (show (L.take (k + 1)).all (· == 0) = ((L.take k).all (· == 0) && decide (x = 0)) from take_zero L k hltL x hxe)
          clear hxe
          by_cases hx0 : x = 0
          · have hne : ((x : Int) != 0) = false := by simp [hx0]
            have HX := Aside0.mk hx0
            clear hx0
            go_wp2_with fail
            go_roundg (gk - 1)
            case measure => have := Hk.out; omega
            case rel => exact ⟨k + 1, b, ⟨by have := Hk.out; omega⟩, rfl, by go_num, by omega, ⟨by rw [HT.out, ← HA.out, decide_eq_true HX.out, Bool.and_true]⟩, HW⟩
          · have hne : ((x : Int) != 0) = true := by simp; omega
            have HX := Aside0.mk hx0
            clear hx0
            go_wp2_with fail
            go_roundg (gk - 1)
            case measure => have := Hk.out; omega
            case rel => exact ⟨k + 1, false, ⟨by have := Hk.out; omega⟩, rfl, by go_num, by omega, ⟨by rw [HT.out, decide_eq_false HX.out, Bool.and_false]⟩, HW⟩
        · obtain rfl : k = 512 := by omega
          obtain rfl := HW.out
          have HZ := Aside0.mk (show b = L.all (· == 0) by rw [HA.out, List.take_of_length_le (by rw [HLEN.out]; omega)])
          clear HA HW
          cases b with
          | true =>
            have x0 := blk_cell HX1.out 0
            have x1 := blk_cell HX1.out 1
            have x2 := blk_cell HX1.out 2
            have g0 := blk_frozen HX1.out 0
            have g1 := blk_frozen HX1.out 1
            have g2 := blk_frozen HX1.out 2
            go_wp2_with fail
            refine bodyPost_ret (results_ct rfl _ _ w.heap.size 33 #[.int .i64 id, .int .u64 0, .slice none 0 0] (0, 0) _ rfl (put3 HX1.out) Try.underlying33 rfl (by kernel_rfl)) rfl ?_
            exact ⟨_, 0, rfl, bel3 HB1.out (Nat.le_refl _), ⟨_, _, _, _, _, rfl⟩, fun h => absurd ⟨HID.out.1, HID.out.2, HLEN.out⟩ h, fun _ _ _ => ⟨rfl, none, 0, rfl, Nat.le_refl _, Kd.C_nil _ _⟩, fun _ _ h => absurd (HZ.out.trans h) (by decide), fun _ _ h => absurd (HZ.out.trans h) (by decide)⟩
          | false =>
            have hE4 : (mkS L).extract 4 512 = mkS (L.drop 4) := by rw [mkS_extract, List.take_of_length_le (by rw [HLEN.out]; omega)]
            have hE0 : (mkS L).extract 0 4 = mkS (L.take 4) := by rw [mkS_extract, List.drop_zero]
            have hll : L.length = 512 := HLEN.out
            obtain ⟨bs, hbs⟩ : ∃ bs, bs = !decide (L.take 4 = le (Crc.sum (L.drop 4)) 4) := ⟨_, rfl⟩
            have hBS : (!((mkS (le (Crc.sum (L.drop 4)) 4)).toList == (mkS (L.take 4)).toList)) = bs := by
              rw [hbs, mkS_toList, mkS_toList]
              congr 1
              by_cases h : L.take 4 = le (Crc.sum (L.drop 4)) 4
              · rw [h, decide_eq_true rfl]; simp
              · rw [decide_eq_false h]; simpa using fun h' => h h'.symm
            have HBS := Aside0.mk hbs
            clear hbs
            go_wp2_with fail
            -- [A
            refine start_ (n := 7) (S := fun _ => True) (ds := []) #[false, false, false, false, false, false, false] (by kernel_rfl) rfl rfl (trivial) (fun hHeld => ?_)
            refine pure_ (i := 0) (N := some 36) (v := ?_) (a' := ?_) #[true, false, false, false, false, false, false] rfl rfl (by kernel_rfl) (fun _ _ _ h => h) (Or.inl ⟨by rfl, ?_⟩) ?_ ?_
            rotate_left
            · intro w'
              go_simp
              all_goals (with_reducible rfl)
            rotate_left
            · simp only [Act.put, List.setIfInBounds_toArray, List.set_cons_zero, List.set_cons_succ, i64_w, i32_w]
              rfl
            refine pure_ (i := 1) (N := some 37) (v := .string (mkS (L.drop 4))) (a' := ?_) #[true, true, false, false, false, false, false] rfl rfl (by kernel_rfl) (fun _ _ _ h => h) (Or.inl ⟨by rfl, ?_⟩) ?_ ?_
            · intro w'
              go_simp
              all_goals (rw [hE4])
            rotate_left
            · simp only [Act.put, List.setIfInBounds_toArray, List.set_cons_zero, List.set_cons_succ, i64_w, i32_w]
              rfl
            refine pure_ (i := 4) (N := some 40) (v := ?_) (a' := ?_) #[true, true, false, false, true, false, false] rfl rfl (by kernel_rfl) (fun _ _ _ h => h) (Or.inl ⟨by rfl, ?_⟩) ?_ ?_
            rotate_left
            · intro w'
              go_simp
              all_goals (with_reducible rfl)
            rotate_left
            · simp only [Act.put, List.setIfInBounds_toArray, List.set_cons_zero, List.set_cons_succ, i64_w, i32_w]
              rfl
            refine pure_ (i := 5) (N := some 41) (v := .string (mkS (L.take 4))) (a' := ?_) #[true, true, false, false, true, true, false] rfl rfl (by kernel_rfl) (fun _ _ _ h => h) (Or.inl ⟨by rfl, ?_⟩) ?_ ?_
            · intro w'
              go_simp
              all_goals (rw [hE0])
            rotate_left
            · simp only [Act.put, List.setIfInBounds_toArray, List.set_cons_zero, List.set_cons_succ, i64_w, i32_w]
              rfl
            refine one_ (i := 2) (N := some 38) #[true, true, true, false, true, true, false] rfl rfl (by kernel_rfl) (by decide) (fun K hK => ?_)
            go_simp
            go_at_call 45
            refine (rsum_calls _ _ (by rw [List.length_drop]; omega)).mono ?_
            rintro e w2 ⟨rfl, hb⟩
            have HB2 := Aside0.mk (below_then (below_drew HB1.out) (below_drew HB1.out).size hb)
            have HX2 := Aside0.mk (blk_below (blk_drew HX1.out) hb)
            clear hb
            (try go_wp2_with fail)
            refine hK.out _ _ (trivial) (fun hHeld => ?_)
            clear hK K
            (try simp only [Act.put, List.setIfInBounds_toArray, List.set_cons_zero, List.set_cons_succ])
            refine one_ (i := 3) (N := some 39) #[true, true, true, true, true, true, false] rfl rfl (by kernel_rfl) (by decide) (fun K hK => ?_)
            go_simp
            go_at_call 44
            refine (rfour_calls _ _ (Crc.sum_lt _)).mono ?_
            rintro e w3 ⟨rfl, hb⟩
            have HB3 := Aside0.mk (below_then HB2.out HB2.out.size hb)
            have HX3 := Aside0.mk (blk_below HX2.out hb)
            clear hb
            (try go_wp2_with fail)
            refine hK.out _ _ (trivial) (fun hHeld => ?_)
            clear hK K
            (try simp only [Act.put, List.setIfInBounds_toArray, List.set_cons_zero, List.set_cons_succ])
            refine pure_ (i := 6) (N := some 42) (v := .bool bs) (a' := ?_) #[true, true, true, true, true, true, true] rfl rfl (by kernel_rfl) (fun _ _ _ h => h) (Or.inl ⟨by rfl, ?_⟩) ?_ ?_
            · intro w'
              go_simp
              all_goals (exact congrArg (fun b => Result.ok (Next.value (Value.bool b)) w') hBS)
            rotate_left
            · simp only [Act.put, List.setIfInBounds_toArray, List.set_cons_zero, List.set_cons_succ, i64_w, i32_w]
              rfl
            refine done_ (by kernel_rfl) ?_
            -- A]
            clear hE4 hE0 hll hBS
            cases bs with
            | false =>
              have hs : L.take 4 = le (Crc.sum (L.drop 4)) 4 := by simpa using HBS.out
              have HS := Aside0.mk hs
              clear hs
              go_wp2_with fail
              obtain ⟨PB, hPB⟩ : ∃ x, x = w3.heap.size := ⟨_, rfl⟩
              have hp4 : (w3.alloc (.cells #[.int .i64 id, .int .u64 0, .slice none 0 0] 33)).heap[w3.heap.size]? = some (.cells #[.int .i64 id, .int .u64 0, .slice none 0 0] 33 (0, 0)) := heap_alloc_new w3 _
              have hb4 : Below w3.heap.size w3 (w3.alloc (.cells #[.int .i64 id, .int .u64 0, .slice none 0 0] 33)) := below_alloc (Below.refl _ _) _
              generalize w3.alloc (.cells #[.int .i64 id, .int .u64 0, .slice none 0 0] 33) = w4 at hp4 hb4 ⊢
              have HB4 := Aside0.mk (below_then HB3.out HB3.out.size hb4)
              have HX4 := Aside0.mk (blk_below HX3.out hb4)
              have HPN := Aside0.mk (show w.heap.size < PB from by rw [hPB]; exact blk_lt HX3.out)
              rw [← hPB] at hp4 ⊢
              have HP4 := Aside0.mk hp4
              clear hp4 hb4 hPB
              go_loopg [9] 8 (fun gk v9 wr => ∃ j : Nat, Aside0 (j + gk = 8) ∧ v9 = .int .i64 (11 - (j : Int)) ∧ j ≤ 8 ∧ Aside0 (Below w.heap.size w wr) ∧ Aside0 (wr.heap[PB]? = some (.cells #[.int .i64 id, .int .u64 ((rdN L (12 - j) j : Nat) : Int), .slice none 0 0] 33 (0, 0))) ∧ Aside0 (wr.heap[w.heap.size]? = some (.cells #[.int .i64 0, .int .u64 0, .slice none 0 0] 33 (0, 0))))
              case atStart => exact ⟨0, ⟨by omega⟩, rfl, by omega, HB4, ⟨by simpa [rdN, val] using HP4.out⟩, HX4⟩
              case round =>
                obtain ⟨j, Hj, rfl, hjl, HBr, HPr, HXr⟩ := hrel
                by_cases hlt : j < 8
                · have hjL : 11 - j < L.length := by rw [HLEN.out]; omega
                  obtain ⟨x, hxe⟩ : ∃ x, x = L[11 - j].toNat := ⟨_, rfl⟩
                  have hx : ∀ h : 11 - j < (mkS L).size, ((mkS L)[11 - j]'h).toNat = x := fun h => by rw [hxe]; rfl
                  have hx256 : x < 256 := by rw [hxe]; exact (L[11 - j]).toNat_lt
                  have htn : (11 - (j : Int)).toNat = 11 - j := by omega
                  have z1 := blk_cell HPr.out 1
                  have f1 := blk_frozen HPr.out 1
                  have HD := Aside0.mk (rd_down L (11 - j) j (by rw [HLEN.out]; omega))
                  have hX := rdN_8 L (11 - j) (j + 1) (by omega)
                  rw [HD.out, ← hxe, show 11 - j + 1 = 12 - j from by omega] at hX
                  have HXE := Aside0.mk hxe
                  obtain ⟨X, hXe⟩ : ∃ X, X = rdN L (12 - j) j := ⟨_, rfl⟩
                  rw [← hXe] at z1 hX
                  have HXX := Aside0.mk hXe
                  have hw1 : IntKind.u64.wrap (256 * (X : Int)) = 256 * (X : Int) := u64w (by omega) (by omega)
                  have hw2 : IntKind.u64.wrap (x : Int) = (x : Int) := u64w (by omega) (by omega)
                  have hw3 : IntKind.u64.wrap (256 * (X : Int) + (x : Int)) = 256 * (X : Int) + (x : Int) := u64w (by omega) (by omega)
                  clear hxe hXe
                  go_wp2_with fail
                  -- [B
                  have hi1 : (j : Int) ≤ 11 ∧ 11 - (j : Int) < 512 := by omega
                  have z1' : wr.drew.cell? ⟨PB, 1, none⟩ = some (.int .u64 (X : Int)) := z1
                  have f1' : wr.drew.frozen? ⟨PB, 1, none⟩ = false := f1
                  go_region
                  have HB5 := Aside0.mk (below_drew (below_set (g := PB) (j := 1) (v := .int .u64 (256 * (X : Int) + (x : Int))) HBr.out (Nat.le_of_lt HPN.out)))
                  have hp5 : ((wr.setCell ⟨PB, 1, none⟩ (.int .u64 (256 * (X : Int) + (x : Int)))).drew).heap[PB]? = some (.cells #[.int .i64 id, .int .u64 (256 * (X : Int) + (x : Int)), .slice none 0 0] 33 (0, 0)) := blk_put HPr.out 1 _ rfl
                  have HX5 := Aside0.mk (show ((wr.setCell ⟨PB, 1, none⟩ (.int .u64 (256 * (X : Int) + (x : Int)))).drew).heap[w.heap.size]? = some (.cells #[.int .i64 0, .int .u64 0, .slice none 0 0] 33 (0, 0)) from blk_far HXr.out (p := ⟨PB, 1, none⟩) (Nat.ne_of_lt HPN.out) _)
                  have hrw : (256 * (X : Int) + (x : Int)) = ((rdN L (12 - (j + 1)) (j + 1) : Nat) : Int) := by
                    rw [show 12 - (j + 1) = 11 - j from by omega, HD.out, ← HXE.out, show 11 - j + 1 = 12 - j from by omega, ← HXX.out]
                    omega
                  generalize (wr.setCell ⟨PB, 1, none⟩ (.int .u64 (256 * (X : Int) + (x : Int)))).drew = w5 at HB5 hp5 HX5 ⊢
                  rw [hrw] at hp5
                  have HP5 := Aside0.mk hp5
                  clear hp5 z1 f1 z1' f1' hw1 hw2 hw3 hX hrw
                  go_wp2_with fail
                  go_roundg (gk - 1)
                  case measure => have := Hj.out; omega
                  case rel => exact ⟨j + 1, ⟨by have := Hj.out; omega⟩, by go_num, by omega, HB5, HP5, HX5⟩
                  -- B]
                · obtain rfl : j = 8 := by omega
                  have HP8 := Aside0.mk (show wr.heap[PB]? = some (.cells #[.int .i64 id, .int .u64 ((rdN L 4 8 : Nat) : Int), .slice none 0 0] 33 (0, 0)) from HPr.out)
                  have hn14 : ∀ W : World, Calls Try.prog 46 #[.string (mkS L), .int .i64 14, .int .i64 2] W fun e w' => e = .returned (.int .i64 ((rdN L 14 2 : Nat) : Int)) ∧ Below W.heap.size W w' := fun W => rnum_at W L 14 (by rw [HLEN.out]; omega) (by rw [HLEN.out]; omega)
                  have hn12 : ∀ W : World, Calls Try.prog 46 #[.string (mkS L), .int .i64 12, .int .i64 2] W fun e w' => e = .returned (.int .i64 ((rdN L 12 2 : Nat) : Int)) ∧ Below W.heap.size W w' := fun W => rnum_at W L 12 (by rw [HLEN.out]; omega) (by rw [HLEN.out]; omega)
                  clear hlt HPr Hj
                  go_wp2_with fail
                  refine (hn14 _).mono ?_
                  rintro e w5 ⟨rfl, hb⟩
                  have HB5 := Aside0.mk (below_then HBr.out HBr.out.size hb)
                  have HP5 := Aside0.mk (blk_below HP8.out hb)
                  have HX5 := Aside0.mk (blk_below HXr.out hb)
                  clear hb hn14
                  go_wp2_with fail
                  refine (hn12 _).mono ?_
                  rintro e w6 ⟨rfl, hb⟩
                  have HB6 := Aside0.mk (below_then HB5.out HB5.out.size hb)
                  have HP6 := Aside0.mk (blk_below HP5.out hb)
                  have HX6 := Aside0.mk (blk_below HX5.out hb)
                  clear hb hn12
                  obtain ⟨n, hn⟩ : ∃ n, n = rdN L 14 2 := ⟨_, rfl⟩
                  obtain ⟨m, hm⟩ : ∃ m, m = rdN L 12 2 := ⟨_, rfl⟩
                  rw [← hn, ← hm]
                  have HN := Aside0.mk hn
                  have HM := Aside0.mk hm
                  clear hn hm
                  by_cases hmi : (m : Int) = id
                  · by_cases hn64 : n ≤ 64
                    · have e1 : ((m : Int) != id) = false := by simp [hmi]
                      have e2 : decide ((64 : Int) < (n : Int)) = false := by simp; omega
                      have HMI := Aside0.mk hmi
                      have HN64 := Aside0.mk hn64
                      clear hmi hn64
                      go_wp2_with fail
                      -- [C
                      go_loopg [11, 12, 13] n (fun gk v11 v12 v13 wr => ∃ (k : Nat) (v : Value), Aside0 (k + gk = n) ∧ v11 = .int .i64 k ∧ k ≤ n ∧ Aside0 (Below w.heap.size w wr) ∧ Aside0 (wr.heap[PB]? = some (.cells #[.int .i64 id, .int .u64 ((rdN L 4 8 : Nat) : Int), v] 33 (0, 0))) ∧ Aside0 (wr.heap[w.heap.size]? = some (.cells #[.int .i64 0, .int .u64 0, .slice none 0 0] 33 (0, 0))) ∧ Aside0 (Kd.R kGCell 46 wr w.heap.size (fun q => w.heap.size ≤ q ∧ q ≠ w.heap.size ∧ q ≠ PB) v (dec L k)) ∧ Aside0 (∀ i, i < k → SlotOk L i) ∧ Aside0 ((dec L k).Pairwise fun a b => a.f0 = true → b.f0 = true → a.f1 ≠ b.f1))
                      case atStart => exact ⟨0, .slice none 0 0, ⟨by omega⟩, rfl, by omega, HB6, HP6, HX6, ⟨Kd.R_nil _ _ _ _ _⟩, ⟨fun i h => by omega⟩, ⟨List.Pairwise.nil⟩⟩
                      case round =>
                        obtain ⟨k, v, HK, rfl, hkn, HBr, HPr, HXr, HRr, HOK, HPW⟩ := hrel
                        obtain ⟨A2, c2, rfl⟩ := Kd.R_slice HRr.out
                        by_cases hlt : k < n
                        · have hk64 : k < 64 := by have := HN64.out; omega
                          have hsl := fun W => rslot_calls W L k HLEN.out (by omega)
                          go_wp2_with fail
                          refine (hsl _).mono ?_
                          rintro e ws ⟨b, s1, s2, ok, rfl, hb, ht, hf⟩
                          have HBs := Aside0.mk (below_then HBr.out HBr.out.size hb)
                          have HPs := Aside0.mk (blk_below HPr.out hb)
                          have HXs := Aside0.mk (blk_below HXr.out hb)
                          have HRs := Aside0.mk (Kd.R_below HRr.out hb)
                          have HT := Aside0.mk ht
                          have HF := Aside0.mk hf
                          clear hb ht hf hsl
                          have hfr : ∀ q, ws.heap.size ≤ q → w.heap.size ≤ q ∧ q ≠ w.heap.size ∧ q ≠ PB := fun q hq => by
                            have h1 := HBs.out.size
                            have h2 := blk_lt HPs.out
                            have h3 := HPN.out
                            omega
                          have HFR := Aside0.mk hfr
                          clear hfr
                          cases ok with
                          | false =>
                            have HNO := Aside0.mk (show ¬ IsPage id L from fun h => HF.out rfl ((page_facts HID.out h).2.2.1 k (by rw [← HN.out]; exact hlt)))
                            have x0 := fun ob => blk_cell (blk_alloc HXs.out ob) 0
                            have x1 := fun ob => blk_cell (blk_alloc HXs.out ob) 1
                            have x2 := fun ob => blk_cell (blk_alloc HXs.out ob) 2
                            have g0 := fun ob => blk_frozen (blk_alloc HXs.out ob) 0
                            have g1 := fun ob => blk_frozen (blk_alloc HXs.out ob) 1
                            have g2 := fun ob => blk_frozen (blk_alloc HXs.out ob) 2
                            go_wp2_with fail
                            refine bodyPost_ret (results_ct rfl _ _ w.heap.size 33 #[.int .i64 0, .int .u64 0, .slice none 0 0] (0, 0) _ rfl (put3 (blk_alloc HXs.out _)) Try.underlying33 rfl (by kernel_rfl)) rfl ?_
                            exact ⟨_, 5, rfl, bel3 (below_then HBs.out HBs.out.size (below_alloc (Below.refl _ _) _)) (Nat.le_refl _), ⟨_, _, _, _, _, rfl⟩, fun h => absurd ⟨HID.out.1, HID.out.2, HLEN.out⟩ h, fun _ _ h => absurd (HZ.out.trans h) (by decide), fun _ _ _ h => absurd HS.out h, fun _ _ _ _ => .inr ⟨HNO.out, rfl⟩⟩
                          | true =>
                            obtain ⟨hso, hsa⟩ := HT.out rfl
                            have HSO := Aside0.mk hso
                            have HSA := Aside0.mk hsa
                            clear hso hsa
                            cases b with
                            | false =>
                              have HBq := Aside0.mk (below_then HBs.out HBs.out.size (below_alloc (Below.refl _ _) (.cells #[.bool false, .string s1, .string s2] 46)))
                              have HCq := Aside0.mk (heap_alloc_new ws (.cells #[.bool false, .string s1, .string s2] 46))
                              have HPq := Aside0.mk (blk_alloc HPs.out (.cells #[.bool false, .string s1, .string s2] 46))
                              have HXq := Aside0.mk (blk_alloc HXs.out (.cells #[.bool false, .string s1, .string s2] 46))
                              have HRq := Aside0.mk (Kd.R_below HRs.out (below_alloc (Below.refl _ _) (.cells #[.bool false, .string s1, .string s2] 46)))
                              have HSW := Aside0.mk (show ws.heap.size ≤ (ws.alloc (.cells #[.bool false, .string s1, .string s2] 46)).heap.size by rw [World.size_alloc]; omega)
                              have y2 := blk_cell HPq.out 2
                              have c0 := blk_cell HCq.out 0
                              have c1 := blk_cell HCq.out 1
                              have c2' := blk_cell HCq.out 2
                              have hszq := HBq.out.size
                              go_wp2_with (at_builtin; refine Kd.R_append kGCell (w0 := w) (W := (ws.alloc (.cells #[.bool false, .string s1, .string s2] 46))) w.heap.size (by rfl) (.tmp 98) (.tmp 100) 31 46 (.agg #[(.bool false), (.string ⟨#[]⟩), (.string ⟨#[]⟩)]) 40 (by rfl) Try.underlying31 Rf.info46 rfl (by decide) (by omega) (.slice A2 (dec L k).length c2) (dec L k) ⟨false, s1, s2⟩ [.bool false, .string s1, .string s2] (fun q => w.heap.size ≤ q ∧ q ≠ w.heap.size ∧ q ≠ PB) (fun _ => False) (by rfl) (by first | rfl | (go_simp; done) | (simp [Act.eval, World.alloc]; done)) (kGCell_mkM _ _ _ ⟨false, s1, s2⟩) (fun _ hk => hk.elim) (fun q hq => HFR.out q (Nat.le_trans HSW.out hq)) HRq.out HBq.out hszq (by rw [dec_length]; have := HN64.out; omega) ?_; intro v1 wz hqz hbz hgz hatz; obtain ⟨A3, c3, hv3⟩ := Kd.R_slice hqz; obtain ⟨n3, hn3⟩ : ∃ n, n = (dec L k ++ [(⟨false, s1, s2⟩ : SGCell)]).length := ⟨_, rfl⟩; rw [← hn3] at hv3; subst hv3; clear hn3; have HRz := Aside0.mk hqz; have HBz := Aside0.mk hbz; have HPz := Aside0.mk (blk_grown HPq.out hgz (fun e => (HRq.out.1 _ e.symm).2.2 rfl)); have HXz := Aside0.mk (blk_grown HXq.out hgz (fun e => (HRq.out.1 _ e.symm).2.1 rfl)); have z2 := blk_cell HPz.out 2; have zf2 := blk_frozen HPz.out 2; clear hqz hbz hgz hatz)
                              have HBy := Aside0.mk (below_set (g := PB) (j := 2) (v := .slice A3 n3 c3) HBz.out (Nat.le_of_lt HPN.out))
                              have HPy := Aside0.mk (show (wz.setCell ⟨PB, 2, none⟩ (.slice A3 n3 c3)).heap[PB]? = some (.cells #[.int .i64 id, .int .u64 ((rdN L 4 8 : Nat) : Int), .slice A3 n3 c3] 33 (0, 0)) from blk_put HPz.out 2 _ rfl)
                              have HXy := Aside0.mk (show (wz.setCell ⟨PB, 2, none⟩ (.slice A3 n3 c3)).heap[w.heap.size]? = some (.cells #[.int .i64 0, .int .u64 0, .slice none 0 0] 33 (0, 0)) from blk_far HXz.out (p := ⟨PB, 2, none⟩) (Nat.ne_of_lt HPN.out) _)
                              have HRy := Aside0.mk (Kd.R_far (p := ⟨PB, 2, none⟩) HRz.out (fun _ hk => hk.2.2) (.slice A3 n3 c3))
                              generalize wz.setCell ⟨PB, 2, none⟩ (.slice A3 n3 c3) = wy at HBy HPy HXy HRy ⊢
                              go_roundg (gk - 1)
                              case measure => have := HK.out; omega
                              case rel => exact ⟨k + 1, .slice A3 n3 c3, ⟨by have := HK.out; omega⟩, by go_num, by omega, HBy, HPy, HXy, ⟨by rw [dec_succ, HSA.out]; exact HRy.out⟩, ⟨fun i hi => (by
                                  rcases Nat.lt_or_eq_of_le (Nat.le_of_lt_succ hi) with h | rfl
                                  · exact HOK.out i h
                                  · exact HSO.out)⟩, ⟨by
                                  rw [dec_succ, List.pairwise_append]
                                  exact ⟨HPW.out, by simp, fun a ha b hb hu hu2 => by
                                    rw [List.mem_singleton.1 hb, HSA.out] at hu2 ⊢
                                    cases hu2⟩⟩⟩
                            | true =>
                              have HBq := Aside0.mk (below_then HBs.out HBs.out.size (below_alloc (Below.refl _ _) (.cells #[.bool true, .string s1, .string s2] 46)))
                              have HCq := Aside0.mk (heap_alloc_new ws (.cells #[.bool true, .string s1, .string s2] 46))
                              have HPq := Aside0.mk (blk_alloc HPs.out (.cells #[.bool true, .string s1, .string s2] 46))
                              have HXq := Aside0.mk (blk_alloc HXs.out (.cells #[.bool true, .string s1, .string s2] 46))
                              have HRq := Aside0.mk (Kd.R_below HRs.out (below_alloc (Below.refl _ _) (.cells #[.bool true, .string s1, .string s2] 46)))
                              have HSW := Aside0.mk (show ws.heap.size ≤ (ws.alloc (.cells #[.bool true, .string s1, .string s2] 46)).heap.size by rw [World.size_alloc]; omega)
                              have p0 := fun ob => blk_cell (blk_alloc HPs.out ob) 0
                              have p1 := fun ob => blk_cell (blk_alloc HPs.out ob) 1
                              have p2 := fun ob => blk_cell (blk_alloc HPs.out ob) 2
                              obtain ⟨_, hr1, hr2⟩ := Kd.R_reads' HRq.out
                              have hfi := rfind_calls (w := (ws.alloc (.cells #[.bool true, .string s1, .string s2] 46))) A2 c2 hr2 hr1 (by rw [dec_length]; have := HN64.out; omega) id ((rdN L 4 8 : Nat) : Int) s1
                              have HSE := Aside0.mk (show ws.heap.size < (ws.alloc (.cells #[.bool true, .string s1, .string s2] 46)).heap.size by rw [World.size_alloc]; omega)
                              clear hr1 hr2
                              go_wp2_with fail
                              refine hfi.mono ?_
                              rintro e wf ⟨rfl, hb⟩
                              have HSW := Aside0.mk (Nat.le_trans HSW.out hb.size)
                              have HBf := Aside0.mk (below_then HBq.out HBq.out.size hb)
                              have HCf := Aside0.mk (blk_below HCq.out hb)
                              have HPf := Aside0.mk (blk_below HPq.out hb)
                              have HXf := Aside0.mk (blk_below HXq.out hb)
                              have HRf := Aside0.mk (Kd.R_below HRq.out hb)
                              clear hb hfi p0 p1 p2
                              by_cases hge : 0 ≤ fnd (dec L k) s1
                              · have e1 : decide (0 ≤ fnd (dec L k) s1) = true := decide_eq_true hge
                                have HNO := Aside0.mk (show ¬ IsPage id L from fun h => twice_no L k n s1 s2 HN.out hlt HSA.out hge (page_facts HID.out h).2.2.2.1)
                                clear hge
                                have x0 := blk_cell HXf.out 0
                                have x1 := blk_cell HXf.out 1
                                have x2 := blk_cell HXf.out 2
                                have g0 := blk_frozen HXf.out 0
                                have g1 := blk_frozen HXf.out 1
                                have g2 := blk_frozen HXf.out 2
                                go_wp2_with fail
                                refine bodyPost_ret (results_ct rfl _ _ w.heap.size 33 #[.int .i64 0, .int .u64 0, .slice none 0 0] (0, 0) _ rfl (put3 HXf.out) Try.underlying33 rfl (by kernel_rfl)) rfl ?_
                                exact ⟨_, 5, rfl, bel3 HBf.out (Nat.le_refl _), ⟨_, _, _, _, _, rfl⟩, fun h => absurd ⟨HID.out.1, HID.out.2, HLEN.out⟩ h, fun _ _ h => absurd (HZ.out.trans h) (by decide), fun _ _ _ h => absurd HS.out h, fun _ _ _ _ => .inr ⟨HNO.out, rfl⟩⟩
                              · have e1 : decide (0 ≤ fnd (dec L k) s1) = false := decide_eq_false hge
                                have HNF := Aside0.mk (show fnd (dec L k) s1 < 0 by omega)
                                clear hge
                                have y2 := blk_cell HPf.out 2
                                have c0 := blk_cell HCf.out 0
                                have c1 := blk_cell HCf.out 1
                                have c2' := blk_cell HCf.out 2
                                have hszq := HBf.out.size
                                go_wp2_with (at_builtin; refine Kd.R_append kGCell (w0 := w) (W := wf) w.heap.size (by rfl) (.tmp 98) (.tmp 100) 31 46 (.agg #[(.bool false), (.string ⟨#[]⟩), (.string ⟨#[]⟩)]) 40 (by rfl) Try.underlying31 Rf.info46 rfl (by decide) (by omega) (.slice A2 (dec L k).length c2) (dec L k) ⟨true, s1, s2⟩ [.bool true, .string s1, .string s2] (fun q => w.heap.size ≤ q ∧ q ≠ w.heap.size ∧ q ≠ PB) (fun _ => False) (by rfl) (by first | rfl | (go_simp; done) | (simp [Act.eval, World.alloc]; done)) (kGCell_mkM _ _ _ ⟨true, s1, s2⟩) (fun _ hk => hk.elim) (fun q hq => HFR.out q (Nat.le_trans HSW.out hq)) HRf.out HBf.out hszq (by rw [dec_length]; have := HN64.out; omega) ?_; intro v1 wz hqz hbz hgz hatz; obtain ⟨A3, c3, hv3⟩ := Kd.R_slice hqz; obtain ⟨n3, hn3⟩ : ∃ n, n = (dec L k ++ [(⟨true, s1, s2⟩ : SGCell)]).length := ⟨_, rfl⟩; rw [← hn3] at hv3; subst hv3; clear hn3; have HRz := Aside0.mk hqz; have HBz := Aside0.mk hbz; have HPz := Aside0.mk (blk_grown HPf.out hgz (fun e => (HRf.out.1 _ e.symm).2.2 rfl)); have HXz := Aside0.mk (blk_grown HXf.out hgz (fun e => (HRf.out.1 _ e.symm).2.1 rfl)); have z2 := blk_cell HPz.out 2; have zf2 := blk_frozen HPz.out 2; clear hqz hbz hgz hatz)
                                have HBy := Aside0.mk (below_set (g := PB) (j := 2) (v := .slice A3 n3 c3) HBz.out (Nat.le_of_lt HPN.out))
                                have HPy := Aside0.mk (show (wz.setCell ⟨PB, 2, none⟩ (.slice A3 n3 c3)).heap[PB]? = some (.cells #[.int .i64 id, .int .u64 ((rdN L 4 8 : Nat) : Int), .slice A3 n3 c3] 33 (0, 0)) from blk_put HPz.out 2 _ rfl)
                                have HXy := Aside0.mk (show (wz.setCell ⟨PB, 2, none⟩ (.slice A3 n3 c3)).heap[w.heap.size]? = some (.cells #[.int .i64 0, .int .u64 0, .slice none 0 0] 33 (0, 0)) from blk_far HXz.out (p := ⟨PB, 2, none⟩) (Nat.ne_of_lt HPN.out) _)
                                have HRy := Aside0.mk (Kd.R_far (p := ⟨PB, 2, none⟩) HRz.out (fun _ hk => hk.2.2) (.slice A3 n3 c3))
                                generalize wz.setCell ⟨PB, 2, none⟩ (.slice A3 n3 c3) = wy at HBy HPy HXy HRy ⊢
                                go_roundg (gk - 1)
                                case measure => have := HK.out; omega
                                case rel => exact ⟨k + 1, .slice A3 n3 c3, ⟨by have := HK.out; omega⟩, by go_num, by omega, HBy, HPy, HXy, ⟨by rw [dec_succ, HSA.out]; exact HRy.out⟩, ⟨fun i hi => (by
                                    rcases Nat.lt_or_eq_of_le (Nat.le_of_lt_succ hi) with h | rfl
                                    · exact HOK.out i h
                                    · exact HSO.out)⟩, ⟨by
                                    rw [dec_succ, List.pairwise_append]
                                    exact ⟨HPW.out, by simp, fun a ha b hb hu hu2 => by
                                      rw [List.mem_singleton.1 hb, HSA.out] at hu2 ⊢
                                      exact fnd_none (dec L k) s1 HNF.out a ha hu⟩⟩⟩
                        · have hkn' : k = n := by omega
                          subst hkn'
                          have HMAY := Aside0.mk (show ∀ c ∈ dec L k, c.f0 = true → mayB c.f1 c.f2 = true from fun c hc hu => by
                            obtain ⟨i, hi, rfl⟩ := List.mem_map.1 hc
                            exact (HOK.out i (List.mem_range.1 hi)).2.2 hu)
                          have hfree := rfree_calls wr id ((rdN L 4 8 : Nat) : Int) A2 c2 (dec L k) (Kd.R_reads' HRr.out).2.2 (Kd.R_reads' HRr.out).2.1 (dec_small L k HLEN.out HN64.out)
                          rw [dec_length] at hfree
                          have q0 := blk_cell HPr.out 0
                          have q1 := blk_cell HPr.out 1
                          have q2 := blk_cell HPr.out 2
                          rw [dec_length] at q2
                          clear hkn
                          by_cases hz : k = 0
                          · have e0 : decide (0 < (k : Int)) = false := by simp; omega
                            have e0' : decide (0 < k) = false := by simp; omega
                            have HLAST := Aside0.mk (show ∀ c, (dec L k).getLast? = some c → c.f0 = true by subst hz; intro c h; simp [dec] at h)
                            clear hz
                            go_wp2_with fail
                            refine hfree.mono ?_
                            rintro e wf ⟨rfl, hb⟩
                            have HBf := Aside0.mk (below_then HBr.out HBr.out.size hb)
                            have HPf := Aside0.mk (blk_below HPr.out hb)
                            have HXf := Aside0.mk (blk_below HXr.out hb)
                            have HRf := Aside0.mk (Kd.R_below HRr.out hb)
                            clear hb hfree
                            have x0 := blk_cell HXf.out 0
                            have x1 := blk_cell HXf.out 1
                            have x2 := blk_cell HXf.out 2
                            have g0 := blk_frozen HXf.out 0
                            have g1 := blk_frozen HXf.out 1
                            have g2 := blk_frozen HXf.out 2
                            by_cases hr : 0 ≤ free (dec L k)
                            · have e2 : decide (free (dec L k) < 0) = false := by simp; omega
                              have HV := Aside0.mk (dec_valid L k HN64.out HMAY.out HPW.out HLAST.out hr)
                              have hby := rbytes_calls wf id.toNat (rdN L 4 8) A2 c2 (dec L k) (Kd.R_reads' HRf.out).2.2 HV.out.small HV.out.room4 (by have := HID.out; omega) (rdN_8 L 4 8 (by omega))
                              rw [dec_length, Int.toNat_of_nonneg HID.out.1] at hby
                              have p0 := blk_cell HPf.out 0
                              have p1 := blk_cell HPf.out 1
                              have p2 := blk_cell HPf.out 2
                              rw [dec_length] at p2
                              clear hr
                              go_wp2_with fail
                              clear x0 x1 x2 g0 g1 g2 p0 p1 p2
                              refine hby.mono ?_
                              rintro e wg ⟨rfl, hb⟩
                              have HBg := Aside0.mk (below_then HBf.out HBf.out.size hb)
                              have HXg := Aside0.mk (blk_below HXf.out hb)
                              have HRg := Aside0.mk (Kd.R_below HRf.out hb)
                              have hpg := blk_below HPf.out hb
                              have p0 := blk_cell hpg 0
                              have p1 := blk_cell hpg 1
                              have p2 := blk_cell hpg 2
                              rw [dec_length] at p2
                              clear hb hby hpg
                              have x0 := blk_cell HXg.out 0
                              have x1 := blk_cell HXg.out 1
                              have x2 := blk_cell HXg.out 2
                              have g0 := blk_frozen HXg.out 0
                              have g1 := blk_frozen HXg.out 1
                              have g2 := blk_frozen HXg.out 2
                              go_wp2_with fail
                              · rename_i hq
                                have HNO := Aside0.mk (show ¬ IsPage id L from fun h => cmp_no hq (by rw [HN.out]; exact (page_facts HID.out h).2.2.2.2))
                                refine bodyPost_ret (results_ct rfl _ _ w.heap.size 33 #[.int .i64 0, .int .u64 0, .slice none 0 0] (0, 0) _ rfl (put3 HXg.out) Try.underlying33 rfl (by kernel_rfl)) rfl ?_
                                exact ⟨_, 5, rfl, bel3 HBg.out (Nat.le_refl _), ⟨_, _, _, _, _, rfl⟩, fun h => absurd ⟨HID.out.1, HID.out.2, HLEN.out⟩ h, fun _ _ h => absurd (HZ.out.trans h) (by decide), fun _ _ _ h => absurd HS.out h, fun _ _ _ _ => .inr ⟨HNO.out, rfl⟩⟩
                              · rename_i hq
                                have heq := cmp_yes hq
                                refine bodyPost_ret (results_ct rfl _ _ w.heap.size 33 #[.int .i64 id, .int .u64 ((rdN L 4 8 : Nat) : Int), .slice A2 k c2] (0, 0) _ rfl (put3 HXg.out) Try.underlying33 rfl (by kernel_rfl)) rfl ?_
                                have hR := Kd.R_far (p := ⟨w.heap.size, 2, none⟩) (Kd.R_far (p := ⟨w.heap.size, 1, none⟩) (Kd.R_far (p := ⟨w.heap.size, 0, none⟩) HRg.out (fun _ hk => hk.2.1) (.int .i64 id)) (fun _ hk => hk.2.1) (.int .u64 ((rdN L 4 8 : Nat) : Int))) (fun _ hk => hk.2.1) (.slice A2 k c2)
                                obtain ⟨_, hr1, hr2⟩ := Kd.R_reads' hR
                                exact ⟨_, 0, rfl, bel3 HBg.out (Nat.le_refl _), ⟨_, _, _, _, _, rfl⟩, fun h => absurd ⟨HID.out.1, HID.out.2, HLEN.out⟩ h, fun _ _ h => absurd (HZ.out.trans h) (by decide), fun _ _ _ h => absurd HS.out h, fun _ _ _ _ => .inl ⟨rdN L 4 8, dec L k, rdN_8 L 4 8 (by omega), HV.out, heq, rfl, A2, c2, by rw [dec_length], hr1, hr2⟩⟩
                            · have e2 : decide (free (dec L k) < 0) = true := by simp; omega
                              have HNO := Aside0.mk (show ¬ IsPage id L from fun h => hr (by rw [HN.out]; exact (page_facts HID.out h).2.2.2.1.room))
                              clear hr
                              go_wp2_with fail
                              refine bodyPost_ret (results_ct rfl _ _ w.heap.size 33 #[.int .i64 0, .int .u64 0, .slice none 0 0] (0, 0) _ rfl (put3 HXf.out) Try.underlying33 rfl (by kernel_rfl)) rfl ?_
                              exact ⟨_, 5, rfl, bel3 HBf.out (Nat.le_refl _), ⟨_, _, _, _, _, rfl⟩, fun h => absurd ⟨HID.out.1, HID.out.2, HLEN.out⟩ h, fun _ _ h => absurd (HZ.out.trans h) (by decide), fun _ _ _ h => absurd HS.out h, fun _ _ _ _ => .inr ⟨HNO.out, rfl⟩⟩
                          · have e0 : decide (0 < (k : Int)) = true := by simp; omega
                            have e0' : decide (0 < k) = true := by simp; omega
                            obtain ⟨ad, rfl, hc0, _, _⟩ := cell_at (Kd.R_reads' HRr.out).2.2 (k - 1) (by rw [dec_length]; omega)
                            have hk1 : ((k : Int) - 1).toNat = k - 1 := by omega
                            have hkp : (0 : Int) < (k : Int) := by omega
                            have hk64 : k ≤ 64 := HN64.out
                            obtain ⟨u, hu⟩ : ∃ u, u = (rd_TGCell (dec L k) (k - 1 : Nat)).f0 := ⟨_, rfl⟩
                            rw [← hu] at hc0
                            have HU := Aside0.mk hu
                            clear hu
                            cases u with
                            | false =>
                              have HNO := Aside0.mk (show ¬ IsPage id L from fun h => last_no L k HN.out hz HU.out.symm (page_facts HID.out h).2.2.2.1)
                              clear hz
                              have x0 := blk_cell HXr.out 0
                              have x1 := blk_cell HXr.out 1
                              have x2 := blk_cell HXr.out 2
                              have g0 := blk_frozen HXr.out 0
                              have g1 := blk_frozen HXr.out 1
                              have g2 := blk_frozen HXr.out 2
                              go_wp2_with fail
                              refine bodyPost_ret (results_ct rfl _ _ w.heap.size 33 #[.int .i64 0, .int .u64 0, .slice none 0 0] (0, 0) _ rfl (put3 HXr.out) Try.underlying33 rfl (by kernel_rfl)) rfl ?_
                              exact ⟨_, 5, rfl, bel3 HBr.out (Nat.le_refl _), ⟨_, _, _, _, _, rfl⟩, fun h => absurd ⟨HID.out.1, HID.out.2, HLEN.out⟩ h, fun _ _ h => absurd (HZ.out.trans h) (by decide), fun _ _ _ h => absurd HS.out h, fun _ _ _ _ => .inr ⟨HNO.out, rfl⟩⟩
                            | true =>
                              have HLAST := Aside0.mk (last_is L k hz HU.out.symm)
                              clear hz
                              go_wp2_with fail
                              refine hfree.mono ?_
                              rintro e wf ⟨rfl, hb⟩
                              have HBf := Aside0.mk (below_then HBr.out HBr.out.size hb)
                              have HPf := Aside0.mk (blk_below HPr.out hb)
                              have HXf := Aside0.mk (blk_below HXr.out hb)
                              have HRf := Aside0.mk (Kd.R_below HRr.out hb)
                              clear hb hfree
                              have x0 := blk_cell HXf.out 0
                              have x1 := blk_cell HXf.out 1
                              have x2 := blk_cell HXf.out 2
                              have g0 := blk_frozen HXf.out 0
                              have g1 := blk_frozen HXf.out 1
                              have g2 := blk_frozen HXf.out 2
                              by_cases hr : 0 ≤ free (dec L k)
                              · have e2 : decide (free (dec L k) < 0) = false := by simp; omega
                                have HV := Aside0.mk (dec_valid L k HN64.out HMAY.out HPW.out HLAST.out hr)
                                have hby := rbytes_calls wf id.toNat (rdN L 4 8) (some ad) c2 (dec L k) (Kd.R_reads' HRf.out).2.2 HV.out.small HV.out.room4 (by have := HID.out; omega) (rdN_8 L 4 8 (by omega))
                                rw [dec_length, Int.toNat_of_nonneg HID.out.1] at hby
                                have p0 := blk_cell HPf.out 0
                                have p1 := blk_cell HPf.out 1
                                have p2 := blk_cell HPf.out 2
                                rw [dec_length] at p2
                                clear hr
                                go_wp2_with fail
                                clear x0 x1 x2 g0 g1 g2 p0 p1 p2
                                refine hby.mono ?_
                                rintro e wg ⟨rfl, hb⟩
                                have HBg := Aside0.mk (below_then HBf.out HBf.out.size hb)
                                have HXg := Aside0.mk (blk_below HXf.out hb)
                                have HRg := Aside0.mk (Kd.R_below HRf.out hb)
                                have hpg := blk_below HPf.out hb
                                have p0 := blk_cell hpg 0
                                have p1 := blk_cell hpg 1
                                have p2 := blk_cell hpg 2
                                rw [dec_length] at p2
                                clear hb hby hpg
                                have x0 := blk_cell HXg.out 0
                                have x1 := blk_cell HXg.out 1
                                have x2 := blk_cell HXg.out 2
                                have g0 := blk_frozen HXg.out 0
                                have g1 := blk_frozen HXg.out 1
                                have g2 := blk_frozen HXg.out 2
                                go_wp2_with fail
                                · rename_i hq
                                  have HNO := Aside0.mk (show ¬ IsPage id L from fun h => cmp_no hq (by rw [HN.out]; exact (page_facts HID.out h).2.2.2.2))
                                  refine bodyPost_ret (results_ct rfl _ _ w.heap.size 33 #[.int .i64 0, .int .u64 0, .slice none 0 0] (0, 0) _ rfl (put3 HXg.out) Try.underlying33 rfl (by kernel_rfl)) rfl ?_
                                  exact ⟨_, 5, rfl, bel3 HBg.out (Nat.le_refl _), ⟨_, _, _, _, _, rfl⟩, fun h => absurd ⟨HID.out.1, HID.out.2, HLEN.out⟩ h, fun _ _ h => absurd (HZ.out.trans h) (by decide), fun _ _ _ h => absurd HS.out h, fun _ _ _ _ => .inr ⟨HNO.out, rfl⟩⟩
                                · rename_i hq
                                  have heq := cmp_yes hq
                                  refine bodyPost_ret (results_ct rfl _ _ w.heap.size 33 #[.int .i64 id, .int .u64 ((rdN L 4 8 : Nat) : Int), .slice (some ad) k c2] (0, 0) _ rfl (put3 HXg.out) Try.underlying33 rfl (by kernel_rfl)) rfl ?_
                                  have hR := Kd.R_far (p := ⟨w.heap.size, 2, none⟩) (Kd.R_far (p := ⟨w.heap.size, 1, none⟩) (Kd.R_far (p := ⟨w.heap.size, 0, none⟩) HRg.out (fun _ hk => hk.2.1) (.int .i64 id)) (fun _ hk => hk.2.1) (.int .u64 ((rdN L 4 8 : Nat) : Int))) (fun _ hk => hk.2.1) (.slice (some ad) k c2)
                                  obtain ⟨_, hr1, hr2⟩ := Kd.R_reads' hR
                                  exact ⟨_, 0, rfl, bel3 HBg.out (Nat.le_refl _), ⟨_, _, _, _, _, rfl⟩, fun h => absurd ⟨HID.out.1, HID.out.2, HLEN.out⟩ h, fun _ _ h => absurd (HZ.out.trans h) (by decide), fun _ _ _ h => absurd HS.out h, fun _ _ _ _ => .inl ⟨rdN L 4 8, dec L k, rdN_8 L 4 8 (by omega), HV.out, heq, rfl, (some ad), c2, by rw [dec_length], hr1, hr2⟩⟩
                              · have e2 : decide (free (dec L k) < 0) = true := by simp; omega
                                have HNO := Aside0.mk (show ¬ IsPage id L from fun h => hr (by rw [HN.out]; exact (page_facts HID.out h).2.2.2.1.room))
                                clear hr
                                go_wp2_with fail
                                refine bodyPost_ret (results_ct rfl _ _ w.heap.size 33 #[.int .i64 0, .int .u64 0, .slice none 0 0] (0, 0) _ rfl (put3 HXf.out) Try.underlying33 rfl (by kernel_rfl)) rfl ?_
                                exact ⟨_, 5, rfl, bel3 HBf.out (Nat.le_refl _), ⟨_, _, _, _, _, rfl⟩, fun h => absurd ⟨HID.out.1, HID.out.2, HLEN.out⟩ h, fun _ _ h => absurd (HZ.out.trans h) (by decide), fun _ _ _ h => absurd HS.out h, fun _ _ _ _ => .inr ⟨HNO.out, rfl⟩⟩
                      -- C]
                    · have e1 : ((m : Int) != id) = false := by simp [hmi]
                      have e2 : decide ((64 : Int) < (n : Int)) = true := by simp; omega
                      have HNO := Aside0.mk (show ¬ IsPage id L from fun h => hn64 (by rw [HN.out]; exact (page_facts HID.out h).2.1))
                      clear hmi hn64
                      have x0 := blk_cell HX6.out 0
                      have x1 := blk_cell HX6.out 1
                      have x2 := blk_cell HX6.out 2
                      have g0 := blk_frozen HX6.out 0
                      have g1 := blk_frozen HX6.out 1
                      have g2 := blk_frozen HX6.out 2
                      go_wp2_with fail
                      refine bodyPost_ret (results_ct rfl _ _ w.heap.size 33 #[.int .i64 0, .int .u64 0, .slice none 0 0] (0, 0) _ rfl (put3 HX6.out) Try.underlying33 rfl (by kernel_rfl)) rfl ?_
                      exact ⟨_, 5, rfl, bel3 HB6.out (Nat.le_refl _), ⟨_, _, _, _, _, rfl⟩, fun h => absurd ⟨HID.out.1, HID.out.2, HLEN.out⟩ h, fun _ _ h => absurd (HZ.out.trans h) (by decide), fun _ _ _ h => absurd HS.out h, fun _ _ _ _ => .inr ⟨HNO.out, rfl⟩⟩
                  · have e1 : ((m : Int) != id) = true := by simpa using hmi
                    have HNO := Aside0.mk (show ¬ IsPage id L from fun h => hmi (by rw [HM.out]; exact (page_facts HID.out h).1))
                    clear hmi
                    have x0 := blk_cell HX6.out 0
                    have x1 := blk_cell HX6.out 1
                    have x2 := blk_cell HX6.out 2
                    have g0 := blk_frozen HX6.out 0
                    have g1 := blk_frozen HX6.out 1
                    have g2 := blk_frozen HX6.out 2
                    go_wp2_with fail
                    refine bodyPost_ret (results_ct rfl _ _ w.heap.size 33 #[.int .i64 0, .int .u64 0, .slice none 0 0] (0, 0) _ rfl (put3 HX6.out) Try.underlying33 rfl (by kernel_rfl)) rfl ?_
                    exact ⟨_, 5, rfl, bel3 HB6.out (Nat.le_refl _), ⟨_, _, _, _, _, rfl⟩, fun h => absurd ⟨HID.out.1, HID.out.2, HLEN.out⟩ h, fun _ _ h => absurd (HZ.out.trans h) (by decide), fun _ _ _ h => absurd HS.out h, fun _ _ _ _ => .inr ⟨HNO.out, rfl⟩⟩
            | true =>
              have hs : ¬ L.take 4 = le (Crc.sum (L.drop 4)) 4 := by simpa using HBS.out
              have HS := Aside0.mk hs
              have x0 := blk_cell HX3.out 0
              have x1 := blk_cell HX3.out 1
              have x2 := blk_cell HX3.out 2
              have g0 := blk_frozen HX3.out 0
              have g1 := blk_frozen HX3.out 1
              have g2 := blk_frozen HX3.out 2
              clear hs
              go_wp2_with fail
              refine bodyPost_ret (results_ct rfl _ _ w.heap.size 33 #[.int .i64 0, .int .u64 0, .slice none 0 0] (0, 0) _ rfl (put3 HX3.out) Try.underlying33 rfl (by kernel_rfl)) rfl ?_
              exact ⟨_, 6, rfl, bel3 HB3.out (Nat.le_refl _), ⟨_, _, _, _, _, rfl⟩, fun h => absurd ⟨HID.out.1, HID.out.2, HLEN.out⟩ h, fun _ _ h => absurd (HZ.out.trans h) (by decide), fun _ _ _ _ => rfl, fun _ _ _ h => absurd h HS.out⟩
    · have HLEN := Aside0.mk hlen
      have hne : ((L.length : Int) != 512) = true := by simp; omega
      clear hlen
      go_wp2_with fail
      refine bodyPost_ret (results_ct rfl _ _ w.heap.size 33 #[.int .i64 0, .int .u64 0, .slice none 0 0] (0, 0) _ rfl (put3 HX1.out) Try.underlying33 rfl (by kernel_rfl)) rfl ?_
      exact ⟨_, 1, rfl, bel3 HB1.out (Nat.le_refl _), ⟨_, _, _, _, _, rfl⟩, fun _ => rfl, fun _ h => absurd h HLEN.out, fun _ h => absurd h HLEN.out, fun _ h => absurd h HLEN.out⟩
  · have HID := Aside0.mk hid
    rw [decide_eq_false hid]
    clear hid
    go_wp2_with fail
    refine bodyPost_ret (results_ct rfl _ _ w.heap.size 33 #[.int .i64 0, .int .u64 0, .slice none 0 0] (0, 0) _ rfl (put3 HX1.out) Try.underlying33 rfl (by kernel_rfl)) rfl ?_
    exact ⟨_, 1, rfl, bel3 HB1.out (Nat.le_refl _), ⟨_, _, _, _, _, rfl⟩, fun _ => rfl, fun h => absurd h HID.out, fun h => absurd h HID.out, fun h => absurd h HID.out⟩
end Go.Proofs.Ytidkdbohkbfhbaa
end
section
namespace Go.Proofs.Ytidkdbohkbfhbaa
open Go.RowKit Go.Proofs.YtidkdbohkbfhbaaW.PrintWords Go.Proofs.YtidkdbohkbfhbaaW.PrintLast Go.Proofs.YtidkdbohkbfhbaaW.PrintMore
open Go.ChangeShapes Go.WideShapes Go.ChangeAt Go.Deep Go.Joins
open Rf
set_option linter.unusedVariables false
set_option linter.unusedSimpArgs false

abbrev RowsOf (w : World) (A : Option Addr) (l : List SGOp) : Prop := Kd.C kGOp w A l.length l
theorem list_of {α : Type} (P : Nat → α → Prop) (n : Nat) (h : ∀ i, i < n → ∃ o, P i o) : ∃ l : List α, l.length = n ∧ ∀ i o, l[i]? = some o → P i o := by
  induction n with
  | zero => exact ⟨[], rfl, by simp⟩
  | succ n ih =>
    obtain ⟨l, hl, hp⟩ := ih (fun i hi => h i (by omega))
    obtain ⟨o, ho⟩ := h n (by omega)
    refine ⟨l ++ [o], by simp [hl], fun i x hx => ?_⟩
    rcases Nat.lt_or_ge i l.length with hi | hi
    · rw [List.getElem?_append_left hi] at hx; exact hp i x hx
    · have : i = n := by
        have := (List.getElem?_eq_some_iff.1 hx).1
        simp at this; omega
      subst this
      rw [List.getElem?_append_right (by omega)] at hx
      simp [hl] at hx
      rw [← hx]; exact ho
theorem mem_weightsAll {H : Type} {P : Program} {e : TypeId} : ∀ {ds : List (DataW H)} {d : DataW H}, d ∈ ds → ∀ n ∈ d.weights P e, n ∈ DataW.weightsAll P e ds
  | [], _, h, _, _ => by simp at h
  | a :: r, d, h, n, hn => by
    simp only [DataW.weightsAll, List.mem_append]
    rcases List.mem_cons.1 h with rfl | h
    · exact .inl hn
    · exact .inr (mem_weightsAll h n hn)

/-- What an argument's Op is like. -/
structure OkOp (o : SGOp) : Prop where
  kind : (Lit.int .i64 o.f0).wf = true
  atw : (Lit.int .u64 o.f3).wf = true
  key : o.f1.size ≤ reachBytes
  val : o.f2.size ≤ reachBytes
theorem OkOp.u64 {o : SGOp} (h : OkOp o) : 0 ≤ o.f3 ∧ o.f3 < 18446744073709551616 := by
  have := h.atw
  have e0 : IntKind.u64.min = 0 := rfl
  have e1 : IntKind.u64.max = 18446744073709551615 := rfl
  simp only [Lit.wf, Bool.and_eq_true, decide_eq_true_eq, e0, e1] at this
  omega
section
variable {H : Type} {enc : TypeId × Value → H} {W : World}
/-- One Op out of its cells. -/
theorem op_cells {held : Bool} {n : Nat} {cs : List Value} {d : DataW H} {p : List MemPlace} (hl : cs.length = 4) (h : DataW.trod enc Try.prog W 0 (fun _ => true) held n 59 cs = some (d, p)) (hw : ∀ x ∈ d.weights Try.prog 59, x ≤ reachBytes) :
    ∃ o : SGOp, cs = [.int .i64 o.f0, .string o.f1, .string o.f2, .int .u64 o.f3] ∧ OkOp o := by
  obtain ⟨c0, c1, c2, c3, rfl⟩ : ∃ c0 c1 c2 c3, cs = [c0, c1, c2, c3] := by
    match cs, hl with
    | [c0, c1, c2, c3], _ => exact ⟨c0, c1, c2, c3, rfl⟩
  obtain ⟨ys, n', hn', hy, hlen, hyl, hf⟩ := DataW.trod_struct Try.underlying59 h
  have k3 : Try.prog.cellsOf 3 = 1 := by kernel_rfl
  have k9 : Try.prog.cellsOf 9 = 1 := by kernel_rfl
  have k29 : Try.prog.cellsOf 29 = 1 := by kernel_rfl
  have h0 := hf 0 ⟨"Kind", 3, 0, false, "", "", 0⟩ rfl
  have h1 := hf 1 ⟨"Key", 9, 1, false, "", "", 8⟩ rfl
  have h2 := hf 2 ⟨"Value", 9, 2, false, "", "", 24⟩ rfl
  have h3 := hf 3 ⟨"At", 29, 3, false, "", "", 40⟩ rfl
  simp only [k3, k9, k29, List.drop_zero, List.drop_succ_cons, List.take_succ_cons, List.take_zero] at h0 h1 h2 h3
  obtain ⟨y0, y1, y2, y3, rfl⟩ : ∃ a b c d, ys = [a, b, c, d] := by
    match ys, hyl with
    | [a, b, c, d], _ => exact ⟨a, b, c, d, rfl⟩
  obtain ⟨n0, e0, x0, w0⟩ := DataW.trod_int Try.underlying3 h0
  obtain ⟨s1, e1, x1, w1⟩ := DataW.trod_string Try.underlying9 h1
  obtain ⟨s2, e2, x2, w2⟩ := DataW.trod_string Try.underlying9 h2
  obtain ⟨n3, e3, x3, w3⟩ := DataW.trod_int Try.underlying29 h3
  cases e0; cases e1; cases e2; cases e3
  cases x0; cases x1; cases x2; cases x3
  obtain ⟨hd, _⟩ := Prod.mk.inj hy
  subst hd
  refine ⟨⟨n0, s1, s2, n3⟩, rfl, w0, w3, hw _ ?_, hw _ ?_⟩
  · rw [DataW.weights, Try.underlying59]
    simp [DataW.weightsEach, DataW.weights]
  · rw [DataW.weights, Try.underlying59]
    simp [DataW.weightsEach, DataW.weights]
set_option maxRecDepth 100000 in
/-- A slice of Op. -/
theorem open_ops {r : Reach} {b0 : Nat} {v : Value} {d : DataW H} {p : List MemPlace} (hv : Value.okWide Try.prog W r b0 34 v) (h : DataW.Trod enc Try.prog W 0 (fun _ => true) true 34 v d p)
    (hw : ∀ x ∈ d.weights Try.prog 34, x ≤ reachBytes) :
    ∃ A c, ∃ l : List SGOp, v = .slice A l.length c ∧ Kd.C kGOp W A l.length l ∧ l.length ≤ 140737488351232 ∧ ∀ o ∈ l, OkOp o := by
  obtain ⟨A, len, cap, rfl⟩ := okWide_slice Try.underlying34 hv
  obtain ⟨fuel, hf⟩ := h
  have hC : Try.prog.cellsOf 59 = 4 := by kernel_rfl
  rcases open_slice Try.underlying34 hf with ⟨hcs, _⟩ | ⟨a, len', cap', m, n, D, Pl, hcs, hb, hl, hm, hmm, hx, hi⟩
  · simp [Value.cells] at hcs
    obtain ⟨rfl, rfl, rfl⟩ := hcs
    exact ⟨none, 0, [], rfl, ⟨rfl, by simp, fun h => by simp at h⟩, by simp, by simp⟩
  · simp [Value.cells] at hcs
    obtain ⟨rfl, rfl, rfl⟩ := hcs
    obtain ⟨hd, _⟩ := Prod.mk.inj hx
    subst hd
    have hB : 1 ≤ Try.prog.bytesOf 59 := of_decide_eq_true (by kernel_rfl)
    have hlen : len ≤ reachBytes := by
      have := hw ((((List.range len).map D).length + ((List.range (m - len)).map fun j => D (len + j)).length) * Try.prog.bytesOf 59) (by rw [DataW.weights, Try.underlying34]; simp)
      rw [List.length_map, List.length_range] at this
      have h2 : (len + ((List.range (m - len)).map fun j => D (len + j)).length) * 1 ≤ (len + ((List.range (m - len)).map fun j => D (len + j)).length) * Try.prog.bytesOf 59 := Nat.mul_le_mul_left _ hB
      omega
    have hr : reachBytes = 140737488351232 := by kernel_rfl
    obtain ⟨l, hll, hp⟩ := list_of (fun i (o : SGOp) => OkOp o ∧ ∀ j u, ([.int .i64 o.f0, .string o.f1, .string o.f2, .int .u64 o.f3] : List Value)[j]? = some u → W.cell? (a.add (i * 4 + j)) = some u) len (fun i hil => by
      obtain ⟨cs', hc, ht'⟩ := hi i (by rw [hmm]; split <;> omega)
      rw [hC] at hc
      obtain ⟨_, hcl, hat⟩ := World.cells?_some hc
      obtain ⟨o, rfl, ho⟩ := op_cells hcl ht' (fun x hx => hw x (by
        rw [DataW.weights, Try.underlying34]
        simp only [List.mem_cons, List.mem_append]
        exact .inr (.inl (mem_weightsAll (List.mem_map.2 ⟨i, List.mem_range.2 hil, rfl⟩) x hx))))
      refine ⟨o, ho, fun j u hj => ?_⟩
      have hjl : j < 4 := by have := (List.getElem?_eq_some_iff.1 hj).1; simpa using this
      rw [← Go.Deep.add_add, hat j hjl, hj])
    refine ⟨some a, cap, l, by rw [hll], ⟨rfl, by omega, fun _ => ⟨a, rfl, fun j o hj => ⟨_, ?_, kGOp_mk W o, (hp j o hj).2⟩⟩⟩, by rw [hll]; omega, fun o ho => ?_⟩
    · rfl
    · obtain ⟨i, hi2⟩ := List.mem_iff_getElem?.1 ho
      exact (hp i o hi2).1
set_option maxRecDepth 100000 in
/-- A Pair by value. -/
theorem open_pair {r : Reach} {b0 : Nat} {v : Value} {d : DataW H} {p : List MemPlace} (hv : Value.okWide Try.prog W r b0 36 v) (h : DataW.Trod enc Try.prog W 0 (fun _ => true) true 36 v d p)
    (hw : ∀ x ∈ d.weights Try.prog 36, x ≤ reachBytes) :
    ∃ s t : ByteArray, v = .agg #[.string s, .string t] ∧ s.size ≤ reachBytes ∧ t.size ≤ reachBytes := by
  obtain ⟨v0, v1, y0, y1, n, rfl, rfl, rfl, h0, h1⟩ := open_agg2 Try.underlying36 (by kernel_rfl) (by kernel_rfl) hv h
  obtain ⟨s, e0, x0, w0⟩ := DataW.trod_string Try.underlying9 h0
  obtain ⟨t, e1, x1, w1⟩ := DataW.trod_string Try.underlying9 h1
  cases e0; cases e1; cases x0; cases x1
  refine ⟨s, t, rfl, hw _ ?_, hw _ ?_⟩
  · rw [DataW.weights, Try.underlying36]
    simp [DataW.weightsEach, DataW.weights]
  · rw [DataW.weights, Try.underlying36]
    simp [DataW.weightsEach, DataW.weights]
set_option maxRecDepth 100000 in
/-- An Op by value. -/
theorem open_op {r : Reach} {b0 : Nat} {v : Value} {d : DataW H} {p : List MemPlace} (hv : Value.okWide Try.prog W r b0 59 v) (h : DataW.Trod enc Try.prog W 0 (fun _ => true) true 59 v d p)
    (hw : ∀ x ∈ d.weights Try.prog 59, x ≤ reachBytes) :
    ∃ o : SGOp, v = .agg #[.int .i64 o.f0, .string o.f1, .string o.f2, .int .u64 o.f3] ∧ OkOp o := by
  obtain ⟨v0, v1, v2, v3, y0, y1, y2, y3, n, rfl, rfl, rfl, h0, h1, h2, h3⟩ := open_agg4 Try.underlying59 (by kernel_rfl) (by kernel_rfl) hv h
  obtain ⟨n0, e0, x0, w0⟩ := DataW.trod_int Try.underlying3 h0
  obtain ⟨s1, e1, x1, w1⟩ := DataW.trod_string Try.underlying9 h1
  obtain ⟨s2, e2, x2, w2⟩ := DataW.trod_string Try.underlying9 h2
  obtain ⟨n3, e3, x3, w3⟩ := DataW.trod_int Try.underlying29 h3
  cases e0; cases e1; cases e2; cases e3
  cases x0; cases x1; cases x2; cases x3
  refine ⟨⟨n0, s1, s2, n3⟩, rfl, w0, w3, hw _ ?_, hw _ ?_⟩
  · rw [DataW.weights, Try.underlying59]
    simp [DataW.weightsEach, DataW.weights]
  · rw [DataW.weights, Try.underlying59]
    simp [DataW.weightsEach, DataW.weights]
end
end Go.Proofs.Ytidkdbohkbfhbaa
end
