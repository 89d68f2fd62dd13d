/- rec's Encode and Size of a record that takes back. -/
import Derived.Test.YteaklmafjmnmiaaYMgBk1
import Derived.Test.YteaklmafjmnmiaaYMgBk2
section
namespace Go.Proofs.Yteaklmafjmnmiaa
open Go.RowKit Go.Proofs.YteaklmafjmnmiaaW.PrintWords Go.Proofs.YteaklmafjmnmiaaW.PrintLast Go.Proofs.YteaklmafjmnmiaaW.PrintMore
open Rf
set_option linter.unusedVariables false
set_option linter.unusedSimpArgs false
theorem undo_facts {ls tx pv un pg ak : Int} {a b c : ByteArray} {l : List SGTxn} {m : List SGDirty} (h : recOk 2 ls tx pv un pg ak a b c l m = true) :
    (16 ≤ ls ∧ ls ≤ 1152921504606846991) ∧ pv < ls ∧ un < ls ∧ (1 ≤ tx ∧ tx ≤ 1073741824) ∧ (0 ≤ pg ∧ pg < 16) ∧ (a.size ≤ 16 ∧ b.size ≤ 32 ∧ c.size ≤ 32) ∧ (1 ≤ ak ∧ ak ≤ 3) := by
  unfold recOk numB pageB txnB mayAB at h
  rw [if_pos (show (2 : Int) = 1 ∨ (2 : Int) = 2 from .inr rfl), if_neg (show ¬ ((2 : Int) = 7 ∨ (2 : Int) = 8) by omega)] at h
  simp only [Bool.and_eq_true, decide_eq_true_eq] at h
  obtain ⟨⟨⟨⟨⟨⟨⟨⟨⟨_, _⟩, h1⟩, h2⟩, h3⟩, ⟨h4, ⟨⟨⟨⟨_, h5⟩, h6⟩, h7⟩, h8⟩⟩⟩, h9⟩, _⟩, _⟩, _⟩ := h
  refine ⟨h1, h2, h3, h9, h4, ⟨h5, h6, h7⟩, ?_⟩
  by_cases k1 : ak = 1
  · omega
  · by_cases k2 : ak = 2
    · omega
    · by_cases k3 : ak = 3
      · omega
      · rw [if_neg k1, if_neg k2, if_neg k3] at h8
        exact absurd h8 (by decide)
set_option maxRecDepth 100000 in
set_option maxHeartbeats 8000000 in
theorem encode_undo (w : World) (ls tx pv un pg ak : Int) (a b c : ByteArray) (At : Option Addr) (ct : Nat) (l : List SGTxn) (Ad : Option Addr) (cd : Nat) (m : List SGDirty) (hT : Kd.C kGTxn w At l.length l) (hTc : l.length ≤ ct) (hD : Kd.C kGDirty w Ad m.length m) (hDc : m.length ≤ cd) (hpv : 0 ≤ pv) (hun : 0 ≤ un) (hok : recOk 2 ls tx pv un pg ak a b c l m = true) :
    Calls Try.prog 72 #[.agg #[.int .i64 2, .int .u64 ls, .int .i64 tx, .int .u64 pv, .int .u64 un, .int .i64 pg, .int .i64 ak, .string a, .string b, .string c, .slice At l.length ct, .slice Ad m.length cd]] w fun e w' => ∃ A c', e = .returned (.tuple #[.slice A (38 + a.size + b.size + c.size) c', .int .i64 0]) ∧ Below w.heap.size w w' := by
  obtain ⟨f1, f2, f3, f4, f5, f6, f7⟩ := undo_facts hok
  have hck := fun (W : World) (h : Below w.heap.size w W) => check_calls W 2 ls tx pv un pg ak a b c At ct l Ad cd m (Kd.C_below hT h) hTc (Kd.C_below hD h) hDc
  rw [hok] at hck
  have hw1 : IntKind.u32.wrap tx = tx := by simp [IntKind.wrap, IntKind.bits, IntKind.signed]; omega
  have hw2 : IntKind.u16.wrap pg = pg := by simp [IntKind.wrap, IntKind.bits, IntKind.signed]; omega
  have hw3 : IntKind.u8.wrap ak = ak := by simp [IntKind.wrap, IntKind.bits, IntKind.signed]; omega
  clear hT hD hok
  go_enter Try.func72, Try.ntmps72
  go_wp2_with fail
  have hba : Below w.heap.size w (w.alloc (.cells #[.int .i64 2, .int .u64 ls, .int .i64 tx, .int .u64 pv, .int .u64 un, .int .i64 pg, .int .i64 ak, .string a, .string b, .string c, .slice At l.length ct, .slice Ad m.length cd] 39)) := below_alloc (Below.refl _ _) _
  have hxa : (w.alloc (.cells #[.int .i64 2, .int .u64 ls, .int .i64 tx, .int .u64 pv, .int .u64 un, .int .i64 pg, .int .i64 ak, .string a, .string b, .string c, .slice At l.length ct, .slice Ad m.length cd] 39)).heap[w.heap.size]? = some (.cells #[.int .i64 2, .int .u64 ls, .int .i64 tx, .int .u64 pv, .int .u64 un, .int .i64 pg, .int .i64 ak, .string a, .string b, .string c, .slice At l.length ct, .slice Ad m.length cd] 39 (0, 0)) := heap_alloc_new w _
  generalize w.alloc (.cells #[.int .i64 2, .int .u64 ls, .int .i64 tx, .int .u64 pv, .int .u64 un, .int .i64 pg, .int .i64 ak, .string a, .string b, .string c, .slice At l.length ct, .slice Ad m.length cd] 39) = wa at hba hxa ⊢
  refine (hck wa hba).mono ?_
  rintro e wb ⟨rfl, hb⟩
  have HBB := Aside0.mk (below_then hba hba.size hb)
  have HXB := Aside0.mk (blk_below hxa hb)
  clear hb hba hxa hck
  go_wp2_with fail
  refine (encnew_calls wb).mono ?_
  rintro e w0 ⟨rfl, hh⟩
  have HX0 := Aside0.mk (blk_below HXB.out hh.bel)
  have HW0 := Aside0.mk hh
  clear hh
  have x0 := blk_cell HX0.out 0
  have xc := blk_cell HX0.out 0
  go_wp2_with fail
  refine (encbyte_calls wb w0 wb.heap.size _ 2 HW0.out (by omega) (by omega)).mono ?_
  rintro e w1 ⟨rfl, hh⟩
  have HX1 := Aside0.mk (blk_below HXB.out hh.bel)
  have HW1 := Aside0.mk hh
  clear hh x0 xc
  have x0 := blk_cell HX1.out 0
  have xc := blk_cell HX1.out 1
  go_wp2_with fail
  refine (enceight_calls wb w1 wb.heap.size _ ls HW1.out (by omega) (by omega)).mono ?_
  rintro e w2 ⟨rfl, hh⟩
  have HX2 := Aside0.mk (blk_below HXB.out hh.bel)
  have HW2 := Aside0.mk hh
  clear hh x0 xc
  have x0 := blk_cell HX2.out 0
  have xc := blk_cell HX2.out 2
  go_wp2_with fail
  refine (encfour_calls wb w2 wb.heap.size _ tx HW2.out (by omega) (by omega)).mono ?_
  rintro e w3 ⟨rfl, hh⟩
  have HX3 := Aside0.mk (blk_below HXB.out hh.bel)
  have HW3 := Aside0.mk hh
  clear hh x0 xc
  have x0 := blk_cell HX3.out 0
  have xc := blk_cell HX3.out 3
  go_wp2_with fail
  refine (enceight_calls wb w3 wb.heap.size _ pv HW3.out (by omega) (by omega)).mono ?_
  rintro e w4 ⟨rfl, hh⟩
  have HX4 := Aside0.mk (blk_below HXB.out hh.bel)
  have HW4 := Aside0.mk hh
  clear hh x0 xc
  have x0 := blk_cell HX4.out 0
  go_wp2_with fail
  refine (rec_changes.calls 2 true w4 (by rw [chg_f]; rfl)).mono ?_
  rintro e w5 ⟨rfl, hd⟩
  have HW5 := Aside0.mk (HW4.out.next hd.below)
  have HX5 := Aside0.mk (blk_below HX4.out hd.below)
  clear hd x0
  have x0 := blk_cell HX5.out 0
  have xc := blk_cell HX5.out 5
  go_wp2_with fail
  refine (enctwo_calls wb w5 wb.heap.size _ pg HW5.out (by omega) (by omega)).mono ?_
  rintro e w6 ⟨rfl, hh⟩
  have HX6 := Aside0.mk (blk_below HXB.out hh.bel)
  have HW6 := Aside0.mk hh
  clear hh x0 xc
  have x0 := blk_cell HX6.out 0
  have xc := blk_cell HX6.out 6
  go_wp2_with fail
  refine (encbyte_calls wb w6 wb.heap.size _ ak HW6.out (by omega) (by omega)).mono ?_
  rintro e w7 ⟨rfl, hh⟩
  have HX7 := Aside0.mk (blk_below HXB.out hh.bel)
  have HW7 := Aside0.mk hh
  clear hh x0 xc
  have x0 := blk_cell HX7.out 0
  have xc := blk_cell HX7.out 7
  go_wp2_with fail
  refine (enctext_calls wb w7 wb.heap.size _ a HW7.out (by omega) (by omega)).mono ?_
  rintro e w8 ⟨rfl, hh⟩
  have HX8 := Aside0.mk (blk_below HXB.out hh.bel)
  have HW8 := Aside0.mk hh
  clear hh x0 xc
  have x0 := blk_cell HX8.out 0
  have xc := blk_cell HX8.out 8
  go_wp2_with fail
  refine (enctext_calls wb w8 wb.heap.size _ b HW8.out (by omega) (by omega)).mono ?_
  rintro e w9 ⟨rfl, hh⟩
  have HX9 := Aside0.mk (blk_below HXB.out hh.bel)
  have HW9 := Aside0.mk hh
  clear hh x0 xc
  have x0 := blk_cell HX9.out 0
  have xc := blk_cell HX9.out 9
  go_wp2_with fail
  refine (enctext_calls wb w9 wb.heap.size _ c HW9.out (by omega) (by omega)).mono ?_
  rintro e w10 ⟨rfl, hh⟩
  have HX10 := Aside0.mk (blk_below HXB.out hh.bel)
  have HW10 := Aside0.mk hh
  clear hh x0 xc
  have x0 := blk_cell HX10.out 0
  have xc := blk_cell HX10.out 4
  go_wp2_with fail
  refine (enceight_calls wb w10 wb.heap.size _ un HW10.out (by omega) (by omega)).mono ?_
  rintro e w11 ⟨rfl, hh⟩
  have HX11 := Aside0.mk (blk_below HXB.out hh.bel)
  have HW11 := Aside0.mk hh
  clear hh x0 xc
  have x0 := blk_cell HX11.out 0
  go_wp2_with fail
  refine (encdone_calls wb w11 wb.heap.size _ HW11.out (by omega)).mono ?_
  rintro e wz ⟨A, c', rfl, hb⟩
  have HBZ := Aside0.mk (below_then HBB.out HBB.out.size hb)
  clear hb x0
  go_wp2_with fail
  go_ret2
  exact ⟨A, c', by rw [show 0 + 1 + 8 + 4 + 8 + 2 + 1 + 2 + a.size + 2 + b.size + 2 + c.size + 8 = 38 + a.size + b.size + c.size by omega]; rfl, HBZ.out⟩
/-- How long a record that takes back is. -/
def szU (a b c : ByteArray) : Nat := 44 + a.size + b.size + c.size
set_option maxRecDepth 100000 in
set_option maxHeartbeats 8000000 in
theorem size_undo (w : World) (ls tx pv un pg ak : Int) (a b c : ByteArray) (At : Option Addr) (ct : Nat) (l : List SGTxn) (Ad : Option Addr) (cd : Nat) (m : List SGDirty) (hT : Kd.C kGTxn w At l.length l) (hTc : l.length ≤ ct) (hD : Kd.C kGDirty w Ad m.length m) (hDc : m.length ≤ cd) (hpv : 0 ≤ pv) (hun : 0 ≤ un) (hok : recOk 2 ls tx pv un pg ak a b c l m = true) :
    Calls Try.prog 57 #[.agg #[.int .i64 2, .int .u64 ls, .int .i64 tx, .int .u64 pv, .int .u64 un, .int .i64 pg, .int .i64 ak, .string a, .string b, .string c, .slice At l.length ct, .slice Ad m.length cd]] w fun e w' => e = .returned (.int .i64 (szU a b c)) ∧ Below w.heap.size w w' := by
  obtain ⟨_, _, _, _, _, f6, _⟩ := undo_facts hok
  have hen := fun (W : World) (h : Below w.heap.size w W) => encode_undo W ls tx pv un pg ak a b c At ct l Ad cd m (Kd.C_below hT h) hTc (Kd.C_below hD h) hDc hpv hun hok
  clear hT hD hok
  go_enter Try.func57, Try.ntmps57
  go_wp2_with fail
  have hba : Below w.heap.size w (w.alloc (.cells #[.int .i64 2, .int .u64 ls, .int .i64 tx, .int .u64 pv, .int .u64 un, .int .i64 pg, .int .i64 ak, .string a, .string b, .string c, .slice At l.length ct, .slice Ad m.length cd] 39)) := below_alloc (Below.refl _ _) _
  generalize w.alloc (.cells #[.int .i64 2, .int .u64 ls, .int .i64 tx, .int .u64 pv, .int .u64 un, .int .i64 pg, .int .i64 ak, .string a, .string b, .string c, .slice At l.length ct, .slice Ad m.length cd] 39) = wa at hba ⊢
  refine (hen wa hba).mono ?_
  rintro e wb ⟨A, c', rfl, hb⟩
  have HBB := Aside0.mk (below_then hba hba.size hb)
  obtain ⟨n, hn⟩ : ∃ n, n = 38 + a.size + b.size + c.size := ⟨_, rfl⟩
  rw [← hn]
  have hn1 : n ≤ 1000 := by omega
  have HN := Aside0.mk (show szU a b c = n + 6 by unfold szU; omega)
  clear hb hba hen hn
  go_wp2_with fail
  go_ret
  exact ⟨by rw [HN.out]; rfl, HBB.out⟩
end Go.Proofs.Yteaklmafjmnmiaa
end
