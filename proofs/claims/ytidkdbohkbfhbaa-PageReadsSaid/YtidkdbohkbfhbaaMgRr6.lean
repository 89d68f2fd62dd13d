/- Layer 6: PageReads: the bytes that came in, and the law's walk. 
THE ROW: PageReads: for every input it returns true, and each argument reads as it read before. No condition. -/
import Derived.Test.YtidkdbohkbfhbaaMgRr3
import Derived.Test.YtidkdbohkbfhbaaMgRr5
import Derived.Lib.ConvBytes
import Derived.ChangeSlices
import Derived.Test.YtidkdbohkbfhbaaRows
import Derived.WalkKit
import Derived.ProofKit
import Derived.OpenShut
import Derived.ShutString
import Derived.ChangeOld
import Derived.Below
import Derived.SizedLaws
section
namespace Go.Proofs.Ytidkdbohkbfhbaa
open Go.ChangeShapes Go.WideShapes Go.ChangeAt
open Go.RowKit Go.Proofs.YtidkdbohkbfhbaaW.PrintWords Go.Proofs.YtidkdbohkbfhbaaW.PrintLast Go.Proofs.YtidkdbohkbfhbaaW.PrintMore
open Rf
set_option linter.unusedVariables false
set_option linter.unusedSimpArgs false
theorem byte_of {n : Int} (h : (Lit.int .u8 n).wf = true) : ∃ x : UInt8, n = ((x.toNat : Nat) : Int) := by
  have h2 : IntKind.u8.min ≤ n ∧ n ≤ IntKind.u8.max := by simpa [Lit.wf] using h
  have h1 : 0 ≤ n ∧ n ≤ 255 := h2
  refine ⟨UInt8.ofNat n.toNat, ?_⟩
  rw [UInt8.toNat_ofNat', Nat.mod_eq_of_lt (by omega)]
  omega
theorem bytes_of {zs : List Int} (h : ∀ n ∈ zs, (Lit.int .u8 n).wf = true) : ∃ L : List UInt8, zs = ints L := by
  induction zs with
  | nil => exact ⟨[], rfl⟩
  | cons z r ih =>
    obtain ⟨L, rfl⟩ := ih (fun n hn => h n (List.mem_cons_of_mem _ hn))
    obtain ⟨x, rfl⟩ := byte_of (h z List.mem_cons_self)
    exact ⟨x :: L, rfl⟩
set_option maxRecDepth 100000 in
/-- A slice of bytes. -/
theorem open_bytes {W : World} {H : Type} {enc : TypeId × Value → H} {r : Reach} {b0 : Nat} {v : Value} {d : DataW H} {p : List MemPlace} (hv : Value.okWide Try.prog W r b0 38 v) (h : DataW.Trod enc Try.prog W 0 (fun _ => true) true 38 v d p)
    (hw : ∀ x ∈ d.weights Try.prog 38, x ≤ reachBytes) :
    ∃ A c, ∃ L : List UInt8, v = .slice A L.length c ∧ ReadsInt W .u8 A L.length (ints L) ∧ True := by
  obtain ⟨A, len, cap, rfl⟩ := okWide_slice Try.underlying38 hv
  obtain ⟨fuel, hf⟩ := h
  rcases open_ints Try.underlying38 Try.underlying5 (by kernel_rfl) hf with ⟨hcs, _⟩ | ⟨x, l, c, zs, hcs, _, hl, hm, hz, _, hcell, hwz⟩
  · simp [Value.cells] at hcs
    obtain ⟨rfl, rfl, rfl⟩ := hcs
    exact ⟨none, 0, [], rfl, ⟨rfl, by simp, fun h => absurd h (by simp)⟩, trivial⟩
  · simp [Value.cells] at hcs
    obtain ⟨rfl, rfl, rfl⟩ := hcs
    obtain ⟨L, rfl⟩ := bytes_of hwz
    have hLl : L.length = cap := by have := hz; simp [ints] at this; exact this
    have hlL : (L.take len).length = len := by rw [List.length_take]; omega
    refine ⟨some x, cap, L.take len, by rw [hlL], ⟨?_, ?_, fun hp => ⟨x, rfl, fun j hj => ?_⟩⟩, trivial⟩
    · rw [ints_length]
    · rw [hlL]; unfold maxLen at hm; omega
    · have hjl : j < len := by omega
      rw [hcell j (by rw [ints_length]; omega), ints_get _ j (by omega), ints_get (L.take len) j (by omega), List.getElem_take]
/-- The bytes of a text, in a row of the conversion's own. -/
theorem conv_below (w : World) (e : TypeId) (s : ByteArray) : Below w.heap.size w (Lib.bytesWorld w e s) :=
  ⟨rfl, rfl, rfl, by rw [Lib.bytesWorld_size]; omega, fun k hk => Lib.bytesWorld_at_old w e s k hk⟩
theorem conv_rd (w : World) (L : List UInt8) : RdAt (Lib.bytesWorld w 5 (mkS L)) w.heap.size L := by
  refine ⟨List.replicate (grownCap w L.length 0 5 - L.length) (.int .u8 0), ((Lib.bytesCells w 5 (mkS L)).size, (Lib.bytesCells w 5 (mkS L)).size + 1), ?_⟩
  rw [Lib.bytesWorld_at_new]
  congr 2
  apply Array.ext'
  simp [Lib.bytesCells, bv, mkS, mkS_size]
  rfl
/-- What the program's and the document's Parse come to. -/
theorem both_parsed {w w1 w2 w3 : World} {id : Int} {L : List UInt8} {v u : Value} {er f : Int} (h : Parsed w w1 id L v er) (h' : RParsed w2 w3 id L u f) :
    er = f ∧ (((er = 1 ∨ er = 5 ∨ er = 6) ∧ v = .pointer none) ∨ (er = 0 ∧ 0 ≤ id ∧ id < 16 ∧ ∃ lsn cs, lsn < 18446744073709551616 ∧ Valid cs ∧ Made w w1 id lsn cs v ∧ RMade w3 id lsn cs u)) := by
  by_cases ha : 0 ≤ id ∧ id < 16 ∧ L.length = 512
  · have hid : 0 ≤ id ∧ id < 16 := ⟨ha.1, ha.2.1⟩
    cases hz : L.all (· == 0) with
    | true =>
      obtain ⟨rfl, h1⟩ := h.nought hid ha.2.2 hz
      obtain ⟨rfl, h2⟩ := h'.nought hid ha.2.2 hz
      exact ⟨rfl, .inr ⟨rfl, hid.1, hid.2, 0, [], by decide, Valid.nil, h1, h2⟩⟩
    | false =>
      by_cases hs : L.take 4 = le (Crc.sum (L.drop 4)) 4
      · rcases h.page hid ha.2.2 hz hs with ⟨lsn, cs, h1, h2, h3, rfl, h5⟩ | ⟨h1, h2, rfl⟩
        · rcases h'.page hid ha.2.2 hz hs with ⟨lsn', cs', k1, k2, k3, rfl, k5⟩ | ⟨k1, _⟩
          · obtain ⟨_, rfl, rfl⟩ := pgB_inj h2 k2 (by omega) (by omega) h1 k1 (h3.trans k3.symm)
            exact ⟨rfl, .inr ⟨rfl, hid.1, hid.2, lsn, cs, h1, h2, h5, k5⟩⟩
          · exact absurd ⟨lsn, cs, h1, h2, h3⟩ k1
        · rcases h'.page hid ha.2.2 hz hs with ⟨lsn', cs', k1, k2, k3, rfl, k5⟩ | ⟨k1, rfl⟩
          · exact absurd ⟨lsn', cs', k1, k2, k3⟩ h1
          · exact ⟨rfl, .inl ⟨.inr (.inl rfl), h2⟩⟩
      · obtain ⟨h1, rfl⟩ := h.sum hid ha.2.2 hz hs
        obtain rfl := h'.sum hid ha.2.2 hz hs
        exact ⟨rfl, .inl ⟨.inr (.inr rfl), h1⟩⟩
  · obtain ⟨h1, rfl⟩ := h.arg ha
    obtain rfl := h'.arg ha
    exact ⟨rfl, .inl ⟨.inl rfl, h1⟩⟩
theorem made_here {w0 w w' : World} {id lsn : Nat} {cs : List SGCell} {v : Value} (h : Made w w' id lsn cs v) (hB : Below w0.heap.size w0 w) (hb : Below w.heap.size w w') (hv : Valid cs) (hi : id < 16) (hl : lsn < 18446744073709551616) :
    ∃ g ok, v = .pointer (some ⟨g, 0, none⟩) ∧ Here w0 w' ok g id lsn cs := by
  obtain ⟨g, rfl, hg, hp⟩ := h
  obtain ⟨h1, h2, v, h3, h4⟩ := hp
  exact ⟨g, _, rfl, ⟨Nat.le_trans hB.size hg, h2, v, h3, Kd.R_lower h4 hB.size⟩, below_then hB hB.size hb, hv, hi, hl⟩
set_option maxRecDepth 100000 in
set_option maxHeartbeats 2000000 in
theorem reads_walk (w : World) (id : Int) (L : List UInt8) (A : Option Addr) (c : Nat) (hid : (Lit.int .i64 id).wf = true) (hR : ReadsInt w .u8 A L.length (ints L)) :
    Calls Try.prog 5 #[.int .i64 id, .slice A L.length c] w fun e w' => e = .returned (.bool true) ∧ Below w.heap.size w w' := by
  have h64 : -9223372036854775808 ≤ id ∧ id ≤ 9223372036854775807 := by
    have h2 : IntKind.i64.min ≤ id ∧ id ≤ IntKind.i64.max := by simpa [Lit.wf] using hid
    exact h2
  have HLB := Aside0.mk hR.2.1
  by_cases hlen : L.length ≤ 5000
  · have e0 : decide ((5000 : Int) < (L.length : Int)) = false := by simp; omega
    have hcv : (convert 38 9 (.slice A L.length c)).run Try.prog w = .ok (.string (mkS L)) w := by rw [string_of_reads Try.underlying38 Try.underlying5 Try.underlying9 hR, mkS_ints]
    have hcb : ∀ W : World, (convert 9 38 (.string (mkS L))).run Try.prog W = .ok (.slice (some ⟨W.heap.size, 0, none⟩) L.length (grownCap W L.length 0 5)) (Lib.bytesWorld W 5 (mkS L)) := fun W => Lib.run_convert_string_bytes W 9 38 5 (mkS L) Try.underlying9 Try.underlying38 Try.underlying5
    have hb1 := conv_below w 5 (mkS L)
    have hr1 := conv_rd w L
    have hg1 := grownCap_ge w L.length 0 5
    obtain ⟨cp, hcp⟩ : ∃ x, x = grownCap w L.length 0 5 := ⟨_, rfl⟩
    obtain ⟨w1, hw1⟩ : ∃ x, x = Lib.bytesWorld w 5 (mkS L) := ⟨_, rfl⟩
    have hcb1 := hcb w
    rw [← hcp] at hg1 hcb1
    rw [← hw1] at hb1 hr1 hcb1
    have hpc := parse_rd w1 id w.heap.size cp L hr1 (by omega) hg1
    have HB1 := Aside0.mk hb1
    have HLE := Aside0.mk hlen
    have H64 := Aside0.mk h64
    clear hcp hw1 hcb hb1 hr1 hg1 hR hid h64 hlen
    go_enter Try.func5, Try.ntmps5
    go_wp2_with fail
    refine hpc.mono ?_
    rintro e w2 ⟨v, er, rfl, hp⟩
    have HP := Aside0.mk hp
    have HB2 := Aside0.mk (below_then HB1.out HB1.out.size hp.bel)
    clear hp hpc hcv hcb1
    go_wp2_with fail
    refine (rparse_calls w2 id L (by have := HLE.out; omega) H64.out).mono ?_
    rintro e w3 ⟨u, f, rfl, hp⟩
    have HB3 := Aside0.mk (below_then HB2.out HB2.out.size hp.bel)
    obtain ⟨hef, hc⟩ := both_parsed HP.out hp
    have HBL := Aside0.mk hp.bel
    have hsh := hp.shape
    clear hp
    subst hef
    rcases hc with ⟨her, rfl⟩ | ⟨rfl, hi0, hi1, lsn, cs, hl, hv, hm, hrm⟩
    · obtain ⟨da, db, dA, dn, dc, rfl⟩ := hsh
      rcases her with rfl | rfl | rfl
      all_goals
        go_wp2_with (go_at_call 12; refine (lives_calls _).mono ?_; rintro e w9 ⟨rfl, hb⟩; have HB9 := Aside0.mk (below_then (below_then HB3.out HB3.out.size (below_alloc (Below.refl _ _) _)) (Nat.le_trans HB3.out.size (by rw [World.size_alloc]; omega)) hb); clear hb)
        go_ret
        exact ⟨rfl, HB9.out⟩
    · clear hsh
      obtain ⟨i, rfl⟩ := Int.eq_ofNat_of_zero_le hi0
      obtain ⟨g, ok, rfl, hh⟩ := made_here (w0 := w) hm HB1.out HP.out.bel hv (by omega) hl
      obtain ⟨A3, c3, rfl, hc3, hC⟩ := hrm
      have hal := alike_calls w (w3.alloc (.cells #[.int .i64 (i : Int), .int .u64 (lsn : Int), .slice A3 cs.length c3] 33)) ok g i lsn cs A3 c3 ((hh.next HBL.out).next (below_alloc (Below.refl _ _) _)) (Kd.C_below hC (below_alloc (Below.refl _ _) _)) hc3
      clear hm hC hi0 hi1 hl hh
      go_wp2_with (first | (go_at_call 13; refine hal.mono ?_; rintro e w5 ⟨rfl, hh, hb⟩; have HH5 := Aside0.mk hh; clear hh hb hal) | (go_at_call 12; refine (lives_calls _).mono ?_; rintro e w9 ⟨rfl, hb⟩; have HH9 := Aside0.mk (HH5.out.next hb); clear hb))
      go_ret
      exact ⟨rfl, HH9.out.bel⟩
  · have e0 : decide ((5000 : Int) < (L.length : Int)) = true := by simp; omega
    have HR := Aside0.mk hR
    clear hR hid h64 hlen
    go_enter Try.func5, Try.ntmps5
    have hl64 : (L.length : Int) ≤ 9223372036854775807 := by have := HLB.out; omega
    go_wp2_with (go_at_call 12; refine (lives_calls _).mono ?_; rintro e w9 ⟨rfl, hb⟩; have HB9 := Aside0.mk hb; clear hb)
    go_ret
    exact ⟨rfl, HB9.out⟩
end Go.Proofs.Ytidkdbohkbfhbaa
end
section
namespace Go.Proofs.Ytidkdbohkbfhbaa.pageReads
open Go.ChangeShapes Go.WideShapes Go.ChangeAt Go.RowKit
open Go.ChangeMaps (open_string shut_string)
open Go.Proofs.YtidkdbohkbfhbaaW.PrintWords
set_option linter.unusedVariables false
theorem own : ownKnob Try.prog.godebug = none := by kernel_rfl
theorem laidOut : laidOutB Try.prog = true := by kernel_rfl
open Rf in
theorem reads_row (W : World) (a0 : Int) (w0 : (Lit.int .i64 a0).wf = true) (l : List UInt8) (A : Option Addr) (c : Nat) (hC : ReadsInt W .u8 A l.length (ints l)) (hl : True) :
    Calls Try.prog 5 #[.int .i64 a0, .slice A l.length c] W fun e w' => e = .returned (.bool true) ∧ Below W.heap.size W w' :=
  reads_walk W a0 l A c w0 hC
set_option maxRecDepth 100000 in
theorem lifted (os : Os) (started : os.Started) (H : Type) (enc : TypeId × Value → H) :
    ReturnsInHanded {} Try.checked os 5 .any (Rows.pageReadsSpec.pre6 enc Try.prog Try.f5 Rows.pageReadsRow.domain false) (Rows.pageReadsSpec.post enc Try.prog Try.f5 false true false false) := by
  refine returnsInHanded_of_change_sized (C := Try.checked) own started (by kernel_rfl) Try.func5
    (ChangeSpec.witness6 (enc := enc) (C := Try.checked) false ⟨#[], #[.int .i64 0, .slice none 0 0], []⟩ 8 (by kernel_rfl) (by kernel_rfl) (by kernel_rfl) (by kernel_rfl)) ?_
  intro W base args ds gs before hval0 hW hcnd hsz0 _
  have hsz : (DataW.weightsEach Try.prog (Try.f5.params.toList ++ Rows.pageReadsSpec.plain.varTypes Try.prog) (ds ++ gs)).all (· ≤ reachBytes) = true := hsz0
  have hval : ∀ (j : Nat) t v, Try.f5.params[j]? = some t → args[j]? = some v → Value.okWide Try.prog W .any base t v := hval0
  have hW' := hW
  obtain ⟨p, q, hA0, hV, rfl, hfz, hnd⟩ := hW
  have hA : DataW.TrodAll enc Try.prog W 0 (fun _ => true) true Try.f5.params.toList args.toList ds p := hA0
  rw [Try.params5] at hA hval hsz
  obtain ⟨v0, vs0, d0, ds0, p0, q0, hargs, rfl, rfl, h0, r0⟩ := trodAll_cons hA
  obtain ⟨v1, vs1, d1, ds1, p1, q1, rfl, rfl, rfl, h1, r1⟩ := trodAll_cons r0
  obtain ⟨rfl, rfl, rfl⟩ := trodAll_nil r1
  obtain rfl : args = #[v0, v1] := by cases args; simp_all
  obtain ⟨rfl, rfl⟩ := trodVars_none hV
  obtain ⟨a0, rfl, rfl, rfl, w0⟩ := open_int Try.underlying3 (hval 0 3 v0 rfl rfl) h0
  have k1 := h1
  have lt1 : ∀ x ∈ p1, x.block < W.heap.size := by obtain ⟨m, hm⟩ := k1; exact DataW.trod_lt m _ _ _ hm
  obtain ⟨A1, c1, l1, rfl, hC1, hl1⟩ := open_bytes (hval 1 38 v1 rfl rfl) h1 (fun x hx => by have := List.all_eq_true.1 hsz _ (DataW.weights_mem_each (j := 1) (t := 38) rfl rfl x hx); simpa using this)
  clear hA0 hval0 hsz0 hsz
  refine (reads_row W a0 w0 l1 A1 c1 hC1 hl1).mono fun e W' ⟨he, bel⟩ => ?_
  subst he
  exact ⟨_, rfl, _, _, _, [], _, [], hW', trodAll_mk1 (shut_bool Try.underlying4 _), (trodAll_cons_mk (shut_int Try.underlying3 w0) (trodAll_cons_mk (Below.trod laidOut (by kernel_rfl) (of_decide_eq_true (by kernel_rfl)) k1 bel lt1) trodAll_mk0)), rfl, bel.frame _, fun h => by cases h⟩
theorem over : Rows.pageReadsRow.holds Try.pinned (OpenSpec.ofChange Rows.pageReadsSpec) :=
  OpenClaim.holds_of_wide 5 Try.f5 rfl rfl rfl rfl rfl rfl rfl ⟨rfl, rfl, rfl, rfl, rfl⟩ rfl rfl rfl rfl rfl (by kernel_rfl) Try.func5 (by kernel_rfl)
    (of_decide_eq_true (by kernel_rfl)) (by unfold Func.isWrapper; first | (rw [if_pos (by decide +kernel)]; kernel_rfl) | (rw [if_neg (by decide +kernel)]; exact ⟨rfl, rfl⟩))
    (fun os started H enc _ => lifted os started H enc)
theorem proved : Rows.PageReadsSaid := over
end Go.Proofs.Ytidkdbohkbfhbaa.pageReads
namespace Go.Proofs.Ytidkdbohkbfhbaa
/-- The row, under a short name, for the claim. -/
theorem pageReads_holds : Rows.PageReadsSaid := pageReads.proved
#print axioms pageReads_holds
end Go.Proofs.Ytidkdbohkbfhbaa
end
