/- enc's writer: how long what it lays is. -/
import Derived.Test.YteaklmafjmnmiaaYRfT
import Derived.Test.YteaklmafjmnmiaaYRa
import Derived.Deep.RegionLaw
section
namespace Go.Proofs.Yteaklmafjmnmiaa
open Go.RowKit Go.Proofs.YteaklmafjmnmiaaW.PrintWords Go.Proofs.YteaklmafjmnmiaaW.PrintLast Go.Proofs.YteaklmafjmnmiaaW.PrintMore
open Rf
set_option linter.unusedVariables false
set_option linter.unusedSimpArgs false
section
variable {P : Program} {ops : Array Oper} {o : Oper} {a : Act} {Q : Exit → Act → World → Prop} {Kc : Act → World → Prop} {α : Type}
/-- An append of one element in a region that draws its order. -/
theorem R_append_drew (d : Kd α) {w0 W : World} (base : Nat) (hw : Region.wanted o (yielded ops a.tmps) = true) (s x : Operand) (t e : TypeId) (z : Value) (bytes : Nat)
    (ho : o.op = .call { callee := .builtin .append, args := #[s, x], argTypes := #[t, t] })
    (ht : P.underlying t = some (.slice e)) (hinfo : (P.info? e).map (fun i => (i.zero, i.size, i.bytes)) = some (some z, d.sz, bytes)) (hz : z.cells.size = d.sz) (hs0 : 0 < d.sz) (hb0 : 0 < bytes)
    (v : Value) (xs : List α) (p : α) (cs : List Value) (ok okp : Nat → Prop) (hs : a.eval s = v) (hx : a.eval x = .slice (some ⟨W.heap.size, 0, none⟩) 1 1) (hp : d.M W base okp p cs) (hokp : ∀ k, okp k → ok k ∧ some k ≠ v.ownBlock) (hfresh : ∀ k, W.heap.size ≤ k → ok k)
    (HO : d.R e W base ok v xs) (HB : Below base w0 W) (hbase : base ≤ W.heap.size) (hl : (xs.length + 1) * bytes ≤ 140737488355328)
    (h : ∀ v1 w1, d.R e w1 base ok v1 (xs ++ [p]) → Below base w0 w1 → W.grownBy w1 v.ownBlock → (v1.ownBlock = v.ownBlock ∨ ∃ b, v1.ownBlock = some b ∧ W.heap.size ≤ b) → Kc (a.put o.dst v1) w1) :
    if Region.wanted o (yielded ops a.tmps) = true then Oper.wp P o a (W.alloc (.cells cs.toArray e)).drew Kc Q else Kc (a.put o.dst undef) (W.alloc (.cells cs.toArray e)).drew :=
  Kd.R_append_step (W := W.drew) d base hw s x t e z bytes ho ht hinfo hz hs0 hb0 v xs p cs ok okp hs hx (Kd.M_below hp (below_drew (Below.refl _ _))) hokp hfresh (Kd.R_drew (w := W) HO) (below_drew1 (W := W) HB) hbase hl (fun v1 w1 h1 h2 hg h4 => h v1 w1 h1 h2 ⟨hg.os, hg.tape, hg.output, hg.size, hg.block⟩ h4)
end
theorem infoU8 : (Try.prog.info? 5).map (fun i => (i.zero, i.size, i.bytes)) = some (some (.int .u8 0), 1, 1) := by kernel_rfl
/-- A writer of the call's own that has n bytes. -/
structure Wr (w0 w : World) (g n : Nat) : Prop where
  box : ∃ A c xs, w.heap[g]? = some (.cells #[.slice A n c] 150 (0, 0)) ∧ xs.length = n ∧ Kd.R (Kd.int .u8) 5 w w0.heap.size (fun k => w0.heap.size ≤ k ∧ k ≠ g) (.slice A n c) xs
  bel : Below w0.heap.size w0 w
  ge : w0.heap.size ≤ g
theorem Wr.next {w0 w w' : World} {g n : Nat} (h : Wr w0 w g n) (hb : Below w.heap.size w w') : Wr w0 w' g n := by
  obtain ⟨⟨A, c, xs, h1, h2, h3⟩, h4, h5⟩ := h
  exact ⟨⟨A, c, xs, blk_below h1 hb, h2, Kd.R_below h3 hb⟩, below_then h4 h4.size hb, h5⟩
theorem encnew_calls (w : World) : Calls Try.prog 81 #[] w fun e w' => e = .returned (.pointer (some ⟨w.heap.size, 0, none⟩)) ∧ Wr w w' w.heap.size 0 := by
  go_enter Try.func81, Try.ntmps81
  go_wp2_with fail
  go_ret
  exact ⟨rfl, ⟨none, 0, [], heap_alloc_new w _, rfl, Kd.R_nil _ _ _ _ _⟩, below_alloc (Below.refl _ _) _, Nat.le_refl _⟩
set_option maxRecDepth 100000 in
set_option maxHeartbeats 4000000 in
theorem encnum_calls (w0 w : World) (g n : Nat) (x : Int) (many : Nat) (h : Wr w0 w g n) (hm : many ≤ 8) (hn : n ≤ 1000000) (hx : 0 ≤ x ∧ x < 18446744073709551616) :
    Calls Try.prog 99 #[.pointer (some ⟨g, 0, none⟩), .int .u64 x, .int .i64 many] w fun e w' => e = .returned (.tuple #[]) ∧ Wr w0 w' g (n + many) := by
  have HW := Aside0.mk h
  clear h
  go_enter Try.func99, Try.ntmps99
  go_wp2_with fail
  go_loopg [6, 10] many (fun gk v6 v10 wr => ∃ k : Nat, Aside0 (k + gk = many) ∧ v10 = .int .i64 k ∧ k ≤ many ∧ Aside0 (Wr w0 wr g (n + k)))
  case atStart => exact ⟨0, ⟨by omega⟩, rfl, by omega, HW⟩
  case round =>
    obtain ⟨k, HK, rfl, hkm, HR⟩ := hrel
    by_cases hlt : k < many
    · obtain ⟨⟨A, c, xs, hb, hl, hR⟩, hB, hg⟩ := HR.out
      have HBX := Aside0.mk hb
      have HRR := Aside0.mk hR
      have HB := Aside0.mk hB
      have HG := Aside0.mk hg
      have HL := Aside0.mk hl
      have x0 := blk_cell hb 0
      have hsz := hB.size
      clear hb hl hR hB hg
      have x0a := fun ob => blk_cell (blk_alloc HBX.out ob) 0
      have hm8 : wrap64 (8 * (k : Int)) = 8 * (k : Int) := w64 (by omega) (by omega)
      have hm8' : IntKind.i64.wrap (8 * (k : Int)) = 8 * (k : Int) := i64w (by omega) (by omega)
      have h8n : (0 : Int) ≤ 8 * (k : Int) := by omega
      have h8t : (8 * (k : Int)).toNat = 8 * k := by omega
      go_wp2_with fail
      go_region_law (refine R_append_drew (Kd.int .u8) (w0 := w0) (W := wr) w0.heap.size (by rfl) (.tmp 18) (.tmp 24) 104 5 (.int .u8 0) 1 (by rfl) Try.underlying104 infoU8 rfl (by decide) (by omega) (.slice A (n + k) c) xs _ _ (fun q => w0.heap.size ≤ q ∧ q ≠ g) (fun _ => False) (by rfl) (by rfl) rfl (fun _ hk => hk.elim) ?hfr HRR.out HB.out hsz (by have := HL.out; omega) ?_; (case hfr => intro q hq; exact ⟨by omega, by have := blk_lt HBX.out; omega⟩); intro v1 w5 ho hb hg hat; obtain ⟨A1, c1, hv1⟩ := Kd.R_slice ho; rw [List.length_append, HL.out, List.length_singleton] at hv1; rw [hv1]; rw [hv1] at ho; have HX5 := Aside0.mk (blk_grown HBX.out hg (fun e => (HRR.out.1 _ e.symm).2 rfl)); have hg5 := blk_cell HX5.out 0; have hf5 := blk_frozen HX5.out 0; have HO := Aside0.mk ho; have HB5 := Aside0.mk hb; clear ho hat hv1 hg hb)
      all_goals
        go_wp2_with fail
        go_roundg (gk - 1)
        case measure => have := HK.out; omega
        case rel => exact ⟨k + 1, ⟨by have := HK.out; omega⟩, by go_num, by omega, ⟨⟨A1, c1, _, blk_put HX5.out 0 _ rfl, by rw [List.length_append, HL.out]; rfl, Kd.R_far (p := ⟨g, 0, none⟩) HO.out (fun _ hk => hk.2) _⟩, below_set (g := g) (j := 0) HB5.out HG.out, HG.out⟩⟩
    · obtain rfl : k = many := by omega
      go_wp2_with fail
      go_end0
      exact ⟨rfl, HR.out⟩
theorem encbyte_calls (w0 w : World) (g n : Nat) (x : Int) (h : Wr w0 w g n) (hn : n ≤ 1000000) (hx : 0 ≤ x ∧ x < 256) :
    Calls Try.prog 82 #[.pointer (some ⟨g, 0, none⟩), .int .u8 x] w fun e w' => e = .returned (.tuple #[]) ∧ Wr w0 w' g (n + 1) := by
  have HW := Aside0.mk h
  clear h
  go_enter Try.func82, Try.ntmps82
  go_wp2_with fail
  refine (encnum_calls w0 w g n x 1 HW.out (by omega) hn (by omega)).mono ?_
  rintro e w1 ⟨rfl, hh⟩
  have HH := Aside0.mk hh
  clear hh
  go_wp2_with fail
  go_end0
  exact ⟨rfl, HH.out⟩
theorem enctwo_calls (w0 w : World) (g n : Nat) (x : Int) (h : Wr w0 w g n) (hn : n ≤ 1000000) (hx : 0 ≤ x ∧ x < 65536) :
    Calls Try.prog 85 #[.pointer (some ⟨g, 0, none⟩), .int .u16 x] w fun e w' => e = .returned (.tuple #[]) ∧ Wr w0 w' g (n + 2) := by
  have HW := Aside0.mk h
  clear h
  go_enter Try.func85, Try.ntmps85
  go_wp2_with fail
  refine (encnum_calls w0 w g n x 2 HW.out (by omega) hn (by omega)).mono ?_
  rintro e w1 ⟨rfl, hh⟩
  have HH := Aside0.mk hh
  clear hh
  go_wp2_with fail
  go_end0
  exact ⟨rfl, HH.out⟩
theorem encfour_calls (w0 w : World) (g n : Nat) (x : Int) (h : Wr w0 w g n) (hn : n ≤ 1000000) (hx : 0 ≤ x ∧ x < 4294967296) :
    Calls Try.prog 84 #[.pointer (some ⟨g, 0, none⟩), .int .u32 x] w fun e w' => e = .returned (.tuple #[]) ∧ Wr w0 w' g (n + 4) := by
  have HW := Aside0.mk h
  clear h
  go_enter Try.func84, Try.ntmps84
  go_wp2_with fail
  refine (encnum_calls w0 w g n x 4 HW.out (by omega) hn (by omega)).mono ?_
  rintro e w1 ⟨rfl, hh⟩
  have HH := Aside0.mk hh
  clear hh
  go_wp2_with fail
  go_end0
  exact ⟨rfl, HH.out⟩
theorem enceight_calls (w0 w : World) (g n : Nat) (x : Int) (h : Wr w0 w g n) (hn : n ≤ 1000000) (hx : 0 ≤ x ∧ x < 18446744073709551616) :
    Calls Try.prog 83 #[.pointer (some ⟨g, 0, none⟩), .int .u64 x] w fun e w' => e = .returned (.tuple #[]) ∧ Wr w0 w' g (n + 8) := by
  have HW := Aside0.mk h
  clear h
  go_enter Try.func83, Try.ntmps83
  go_wp2_with fail
  refine (encnum_calls w0 w g n x 8 HW.out (by omega) hn (by omega)).mono ?_
  rintro e w1 ⟨rfl, hh⟩
  have HH := Aside0.mk hh
  clear hh
  go_wp2_with fail
  go_end0
  exact ⟨rfl, HH.out⟩
theorem R_str {w1 : World} {base g : Nat} {v1 : Value} {ys : List Int} {cells : Array Value} {t : Nat} (hown : w1.ownsRow base 5 1 v1 ys.length (nums .u8 ys)) (hb : w1.heap[g]? = some (.cells cells t (0, 0))) (ht : 5 ≠ t) :
    Kd.R (Kd.int .u8) 5 w1 base (fun k => base ≤ k ∧ k ≠ g) v1 ys :=
  Kd.R_of_own hown (fun k hk => ⟨own_base hown k hk, fun e => own_ne hown hb ht (by rw [hk, e])⟩)
set_option maxRecDepth 100000 in
set_option maxHeartbeats 4000000 in
theorem enctext_calls (w0 w : World) (g n : Nat) (s : ByteArray) (h : Wr w0 w g n) (hn : n ≤ 1000000) (hs : s.size ≤ 65535) :
    Calls Try.prog 86 #[.pointer (some ⟨g, 0, none⟩), .string s] w fun e w' => e = .returned (.tuple #[]) ∧ Wr w0 w' g (n + 2 + s.size) := by
  have HW := Aside0.mk h
  clear h
  have e1 : decide ((65535 : Int) < (s.size : Int)) = false := by simp; omega
  have e2 : IntKind.u64.wrap (s.size : Int) = (s.size : Int) := by simp [IntKind.wrap, IntKind.bits, IntKind.signed]; omega
  go_enter Try.func86, Try.ntmps86
  go_wp2_with fail
  refine (encnum_calls w0 w g n (s.size : Int) 2 HW.out (by omega) hn (by omega)).mono ?_
  rintro e w1 ⟨rfl, hh⟩
  obtain ⟨⟨A, c, xs, hb, hl, hR⟩, hB, hg⟩ := hh
  obtain ⟨n2, hn2⟩ : ∃ n2, n2 = n + 2 := ⟨_, rfl⟩
  rw [← hn2] at hb hl hR
  have HN2 := Aside0.mk hn2
  have HBX := Aside0.mk hb
  have HRR := Aside0.mk hR
  have HB := Aside0.mk hB
  have HG := Aside0.mk hg
  have HL := Aside0.mk hl
  have x0 := blk_cell hb 0
  have hsz := hB.size
  have HSS := Aside0.mk hs
  have HN := Aside0.mk (show n2 ≤ 1000002 by omega)
  clear hb hl hR hB hg e1 e2 hs hn2
  go_wp2_with (at_builtin; refine print_append_str (w0 := w0) w0.heap.size (by rfl) (.tmp 21) (.tmp 22) 104 9 5 (by rfl) Try.underlying104 Try.underlying9 infoU8 (.slice A n2 c) xs s (by rfl) (by rfl) (Kd.own_of_R HRR.out) HB.out hsz (by have := HL.out; have := HSS.out; have := HN.out; omega) ?_; intro v1 w5 hown hb hg; have hX5 := blk_grown HBX.out hg (fun e => (HRR.out.1 _ e.symm).2 rfl); have ho := R_str hown hX5 (by decide); obtain ⟨A1, c1, hv1⟩ := Kd.R_slice ho; rw [List.length_append, HL.out, bytesOf_length] at hv1; subst hv1; have HX5 := Aside0.mk hX5; have hg5 := blk_cell HX5.out 0; have hf5 := blk_frozen HX5.out 0; have HO := Aside0.mk ho; have HB5 := Aside0.mk hb; clear ho hown hX5 hg hb)
  go_end0
  rw [← HN2.out]
  exact ⟨rfl, ⟨A1, c1, _, blk_put HX5.out 0 _ rfl, by rw [List.length_append, HL.out, bytesOf_length], Kd.R_far (p := ⟨g, 0, none⟩) HO.out (fun _ hk => hk.2) _⟩, below_set (g := g) (j := 0) HB5.out HG.out, HG.out⟩
theorem R_empty (w : World) (base : Nat) (hb : base ≤ w.heap.size) (ok : Nat → Prop) (hok : ok w.heap.size) :
    Kd.R (Kd.int .u8) 5 (w.alloc (.cells #[] 5)) base ok (.slice (some ⟨w.heap.size, 0, none⟩) 0 0) [] :=
  Kd.R_of_own (World.ownsRow_lit (base := base) (e := 5) (size := 1) w #[] 0 hb (by simp [maxLen]) rfl) (fun k hk => by
    have : w.heap.size = k := by simpa [Value.ownBlock] using hk
    rw [← this]; exact hok)
set_option maxRecDepth 100000 in
set_option maxHeartbeats 4000000 in
theorem encdone_calls (w0 w : World) (g n : Nat) (h : Wr w0 w g n) (hn : n ≤ 1000000) :
    Calls Try.prog 87 #[.pointer (some ⟨g, 0, none⟩)] w fun e w' => ∃ A c, e = .returned (.slice A n c) ∧ Below w0.heap.size w0 w' := by
  obtain ⟨⟨A, c, xs, hb, hl, hR⟩, hB, hg⟩ := h
  have HRR := Aside0.mk (Kd.R_reads' hR)
  have HBX := Aside0.mk hb
  have HB := Aside0.mk hB
  have HL := Aside0.mk hl
  have x0 := blk_cell hb 0
  have x0a := fun ob => blk_cell (blk_alloc HBX.out ob) 0
  have hsz := hB.size
  clear hb hl hR hB hg
  go_enter Try.func87, Try.ntmps87
  go_wp2_with (at_builtin; refine Kd.R_append_rows (Kd.int .u8) (w0 := w) w.heap.size (by rfl) (.tmp 5) (.tmp 10) 104 5 (.int .u8 0) 1 (by rfl) Try.underlying104 infoU8 rfl (by decide) (by omega) (.slice (some ⟨w.heap.size, 0, none⟩) 0 0) [] xs A n c (fun k => w.heap.size ≤ k) (fun _ => False) (by rfl) (by rfl) (R_empty w _ (Nat.le_refl _) _ (Nat.le_refl _)) (Kd.C_below (by have := HRR.out.2.2; rw [HL.out] at this; exact this) (below_alloc (Below.refl _ _) _)) (fun x cs h => by exact h) (fun _ hk => hk.elim) (fun k hk => by simp at hk; omega) (below_alloc (Below.refl _ _) _) (by simp) (by simp; omega) ?_; intro v1 w1 ho hb hg hat; rw [List.nil_append] at ho; obtain ⟨A1, c1, hv1⟩ := Kd.R_slice ho; rw [HL.out] at hv1; subst hv1; have HB1 := Aside0.mk (below_then HB.out HB.out.size hb); clear ho hb hg hat)
  go_ret
  exact ⟨A1, c1, rfl, HB1.out⟩
end Go.Proofs.Yteaklmafjmnmiaa
end
