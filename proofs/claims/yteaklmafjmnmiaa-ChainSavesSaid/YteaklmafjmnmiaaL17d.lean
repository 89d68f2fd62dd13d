/- Layer 17: ChainNeeds' walk. -/
import Derived.Test.YteaklmafjmnmiaaRc
import Derived.Test.YteaklmafjmnmiaaCp
import Derived.Test.YteaklmafjmnmiaaRf3
import Derived.Test.YteaklmafjmnmiaaL17o
namespace Go.Proofs.Yteaklmafjmnmiaa
open Go.RowKit Go.Proofs.YteaklmafjmnmiaaW.PrintWords Go.Proofs.YteaklmafjmnmiaaW.PrintLast Go.Proofs.YteaklmafjmnmiaaW.PrintMore
open Rf MapL MapV
set_option linter.unusedVariables false
set_option linter.unusedSimpArgs false
theorem light_ex' (o : SOp) : ∃ r, flotillalaw17_light.f o.k o.ls o.tx o.pv o.un o.pg o.ak o.a o.b o.c o.l o.m = some r := by
  unfold flotillalaw17_light.f
  by_cases h1 : (o.l.length : Int) ≤ 100
  · rw [if_pos h1]
    by_cases h2 : (o.m.length : Int) ≤ 100
    · rw [if_pos h2]; exact ⟨_, rfl⟩
    · rw [if_neg h2]; exact ⟨_, rfl⟩
  · rw [if_neg h1]; exact ⟨_, rfl⟩
theorem op_at15 {w : World} {A : Option Addr} {n : Nat} {xs : List SOp} (h : Kd.C kOp w A n xs) (k : Nat) (h1 : k < n) : ∃ (ad : Addr) (o : SOp), A = some ad ∧ OkOp w o ∧ w.cell? (ad.add (k * 15)) = some (.int .i64 o.kd) ∧ w.cell? ⟨(ad.add (k * 15)).block, (ad.add (k * 15)).off + 1, none⟩ = some (.int .i64 o.tn) ∧ w.cell? ⟨(ad.add (k * 15)).block, (ad.add (k * 15)).off + 2, none⟩ = some (.int .i64 o.nn) ∧ w.cell? ⟨(ad.add (k * 15)).block, (ad.add (k * 15)).off + 3, none⟩ = some (.int .i64 o.k) ∧ w.cell? ⟨(ad.add (k * 15)).block, (ad.add (k * 15)).off + 4, none⟩ = some (.int .u64 o.ls) ∧ w.cell? ⟨(ad.add (k * 15)).block, (ad.add (k * 15)).off + 5, none⟩ = some (.int .i64 o.tx) ∧ w.cell? ⟨(ad.add (k * 15)).block, (ad.add (k * 15)).off + 6, none⟩ = some (.int .u64 o.pv) ∧ w.cell? ⟨(ad.add (k * 15)).block, (ad.add (k * 15)).off + 7, none⟩ = some (.int .u64 o.un) ∧ w.cell? ⟨(ad.add (k * 15)).block, (ad.add (k * 15)).off + 8, none⟩ = some (.int .i64 o.pg) ∧ w.cell? ⟨(ad.add (k * 15)).block, (ad.add (k * 15)).off + 9, none⟩ = some (.int .i64 o.ak) ∧ w.cell? ⟨(ad.add (k * 15)).block, (ad.add (k * 15)).off + 10, none⟩ = some (.string o.a) ∧ w.cell? ⟨(ad.add (k * 15)).block, (ad.add (k * 15)).off + 11, none⟩ = some (.string o.b) ∧ w.cell? ⟨(ad.add (k * 15)).block, (ad.add (k * 15)).off + 12, none⟩ = some (.string o.c) ∧ w.cell? ⟨(ad.add (k * 15)).block, (ad.add (k * 15)).off + 13, none⟩ = some (.slice o.At o.l.length o.ct) ∧ w.cell? ⟨(ad.add (k * 15)).block, (ad.add (k * 15)).off + 14, none⟩ = some (.slice o.Ad o.m.length o.cd) := by
  obtain ⟨ad, o, e, ho, hc⟩ := op_at h k h1
  exact ⟨ad, o, e, ho, hc 0 _ rfl, by rw [← add_field _ _ 1 (by omega)]; exact hc 1 _ rfl, by rw [← add_field _ _ 2 (by omega)]; exact hc 2 _ rfl, by rw [← add_field _ _ 3 (by omega)]; exact hc 3 _ rfl, by rw [← add_field _ _ 4 (by omega)]; exact hc 4 _ rfl, by rw [← add_field _ _ 5 (by omega)]; exact hc 5 _ rfl, by rw [← add_field _ _ 6 (by omega)]; exact hc 6 _ rfl, by rw [← add_field _ _ 7 (by omega)]; exact hc 7 _ rfl, by rw [← add_field _ _ 8 (by omega)]; exact hc 8 _ rfl, by rw [← add_field _ _ 9 (by omega)]; exact hc 9 _ rfl, by rw [← add_field _ _ 10 (by omega)]; exact hc 10 _ rfl, by rw [← add_field _ _ 11 (by omega)]; exact hc 11 _ rfl, by rw [← add_field _ _ 12 (by omega)]; exact hc 12 _ rfl, by rw [← add_field _ _ 13 (by omega)]; exact hc 13 _ rfl, by rw [← add_field _ _ 14 (by omega)]; exact hc 14 _ rfl⟩
section
variable {w0 : Wb} {w w' : World} {t mb : Nat} {bx bx' : Int → Nat} {ks ks' : List Int} {X X' : Int → TX}
theorem Tab.not_own (h : Tab w0 w t mb bx ks X) {q : Nat} (hq : w.heap.size ≤ q) : ¬ own t mb bx ks q := by
  rintro (rfl | rfl | ⟨id, hi, rfl⟩)
  · have := blk_lt h.box; omega
  · have := h.map.lt; omega
  · have := h.lt id hi; omega
/-- A block that is not the table's stays. -/
theorem Tab.keep (h : Tab ⟨w, own t mb bx ks⟩ w' t mb bx' ks' X') {q : Nat} {o : Obj} (hq : w.heap[q]? = some o) (hn : ¬ own t mb bx ks q) : w'.heap[q]? = some o :=
  (h.bel.block q (blk_lt hq) hn).trans hq
end
/-- What the rounds keep of the needs. -/
def NB (ks : List Int) (X : Int → TX) (k : Nat) : Prop := ∀ id ∈ ks, 0 ≤ (X id).need ∧ (X id).need ≤ 3000 * (k : Int) ∧ 0 ≤ (X id).last
theorem rowV_ex (ks : List Int) (X : Int → TX) (id : Int) : ∃ (i s la : Int) (th : Bool), rowV ks X id = .tuple #[.agg #[.int .i64 i, .int .i64 s, .int .u64 la], .bool th] ∧ th = decide (id ∈ ks) ∧ (id ∈ ks → la = (X id).last) ∧ (id ∉ ks → la = 0) := by
  unfold rowV
  by_cases h : id ∈ ks
  · rw [if_pos h]; exact ⟨_, _, _, _, rfl, by simp [h], fun _ => rfl, fun q => absurd h q⟩
  · rw [if_neg h]; exact ⟨_, _, _, _, rfl, by simp [h], fun q => absurd q h, fun _ => rfl⟩
theorem record_any (w : World) (o : SOp) (lst : Int) (at' : Nat) (hl : 0 ≤ lst) (hat : at' < 100) (hpv : 0 ≤ o.pv) (hun : 0 ≤ o.un) :
    Calls Try.prog 19 #[.agg #[.int .i64 o.kd, .int .i64 o.tn, .int .i64 o.nn, .int .i64 o.k, .int .u64 o.ls, .int .i64 o.tx, .int .u64 o.pv, .int .u64 o.un, .int .i64 o.pg, .int .i64 o.ak, .string o.a, .string o.b, .string o.c, .slice o.At o.l.length o.ct, .slice o.Ad o.m.length o.cd], .int .u64 lst, .int .i64 at'] w fun e w' => ∃ ls tx pv un, e = .returned (.agg #[.int .i64 o.k, .int .u64 ls, .int .i64 tx, .int .u64 pv, .int .u64 un, .int .i64 o.pg, .int .i64 o.ak, .string o.a, .string o.b, .string o.c, .slice o.At o.l.length o.ct, .slice o.Ad o.m.length o.cd]) ∧ 0 ≤ pv ∧ 0 ≤ un ∧ (o.kd = 2 → tx = o.tn) ∧ (o.kd ≠ 2 → tx = o.tx) ∧ Below w.heap.size w w' := by
  by_cases h2 : o.kd = 2
  · rw [h2]
    by_cases hu : o.k = 2 ∧ 16 * ((at' : Int) + 1) ≤ o.un
    · rw [hu.1]
      refine (record_un w o.tn o.nn o.ls o.tx o.pv o.un o.pg o.ak o.a o.b o.c o.At o.Ad o.l.length o.ct o.m.length o.cd lst at' hat hu.2).mono ?_
      rintro e w' ⟨rfl, hb⟩
      exact ⟨_, _, _, _, rfl, hl, Int.le_refl _, fun _ => rfl, fun h => absurd rfl h, hb⟩
    · refine (record_nx w o.tn o.nn o.k o.ls o.tx o.pv o.un o.pg o.ak o.a o.b o.c o.At o.Ad o.l.length o.ct o.m.length o.cd lst at' hat (by omega)).mono ?_
      rintro e w' ⟨rfl, hb⟩
      exact ⟨_, _, _, _, rfl, hl, hun, fun _ => rfl, fun h => absurd rfl h, hb⟩
  · refine (record_as w o.kd o.tn o.nn o.k o.ls o.tx o.pv o.un o.pg o.ak o.a o.b o.c o.At o.Ad o.l.length o.ct o.m.length o.cd lst at' h2).mono ?_
    rintro e w' ⟨rfl, hb⟩
    exact ⟨_, _, _, _, rfl, hpv, hun, fun h => absurd h h2, fun _ => rfl, hb⟩
theorem num_pos {k ls tx pv un pg ak : Int} {a b c : ByteArray} {l : List SGTxn} {m : List SGDirty} (h : recOk k ls tx pv un pg ak a b c l m = true) : 0 ≤ ls := by
  unfold recOk numB at h
  simp only [Bool.and_eq_true, decide_eq_true_eq] at h
  obtain ⟨⟨⟨⟨⟨⟨⟨⟨⟨_, _⟩, h1⟩, _⟩, _⟩, _⟩, _⟩, _⟩, _⟩, _⟩ := h
  omega
/-- What a note leaves. -/
theorem noted_sum {w0 : Wb} {w' : World} {t mb : Nat} {bx : Int → Nat} {ks : List Int} {X : Int → TX} {k ls tx pv un pg ak : Int} {a b c : ByteArray} {l : List SGTxn} {m : List SGDirty} {n : Int} {j : Nat} (h : Noted w0 w' t mb bx ks X k ls tx pv un pg ak a b c l m n) (hN : NB ks X j) :
    ∃ ks' X', Tab w0 w' t mb bx ks' X' ∧ NB ks' X' (j + 1) ∧ (n ≠ 0 → ks' = ks ∧ X' = X) ∧ (n = 0 → tx ∈ ks ∧ (tx ∈ ks' ↔ k ≠ 5) ∧ (tx ∈ ks' → (X' tx).last = ls)) ∧ (∀ id, id ≠ tx → (id ∈ ks' ↔ id ∈ ks) ∧ X' id = X id) := by
  have hup : NB ks X (j + 1) := fun id hi => by have := hN id hi; omega
  cases h with
  | arg hbad he h => exact ⟨ks, X, h, hup, fun _ => ⟨rfl, rfl⟩, fun h0 => by omega, fun _ _ => ⟨Iff.rfl, rfl⟩⟩
  | none hok hk hi he h => exact ⟨ks, X, h, hup, fun _ => ⟨rfl, rfl⟩, fun h0 => by omega, fun _ _ => ⟨Iff.rfl, rfl⟩⟩
  | state hok hk hi hs he h => exact ⟨ks, X, h, hup, fun _ => ⟨rfl, rfl⟩, fun h0 => by omega, fun _ _ => ⟨Iff.rfl, rfl⟩⟩
  | gone hok hk hi hpl hs he h =>
    refine ⟨_, X, h, fun id hid => hup id (List.mem_filter.1 hid).1, fun h0 => absurd he h0, fun _ => ⟨hi, ⟨fun q => absurd (List.mem_filter.1 q).2 (by simp), fun q => absurd hk q⟩, fun q => absurd (List.mem_filter.1 q).2 (by simp)⟩, fun id hne => ⟨⟨fun q => (List.mem_filter.1 q).1, fun q => List.mem_filter.2 ⟨q, by simpa using hne⟩⟩, rfl⟩⟩
  | ok hok hk hi hpl hs he h =>
    have hnl := need_le (ks := ks) (X := X) (k := k) (ls := ls) (tx := tx) (pv := pv) (un := un) (pg := pg) (ak := ak) (a := a) (b := b) (c := c) (l := l) (m := m)
    have hlp := num_pos hok
    have h0 := hN tx hi
    refine ⟨ks, _, h, fun id hid => ?_, fun h0 => absurd he h0, fun _ => ⟨hi, ⟨fun _ => hk.2.2, fun _ => hi⟩, fun _ => ?_⟩, fun id hne => ⟨Iff.rfl, by unfold updX; rw [if_neg hne]⟩⟩
    · by_cases e : id = tx
      · subst e
        rw [updX_at]
        unfold noteX
        have h27 : (0 : Int) ≤ 27 ∧ (27 : Int) ≤ 3000 * ((j + 1 : Nat) : Int) := by omega
        split
        · exact ⟨by show 0 ≤ (X id).need + _; omega, by show (X id).need + _ ≤ _; omega, hlp⟩
        · split
          · exact ⟨by show 0 ≤ max 0 _; omega, by show max 0 _ ≤ _; omega, hlp⟩
          · split
            · exact ⟨h27.1, h27.2, hlp⟩
            · split
              · exact ⟨by show 0 ≤ max 0 _; omega, by show max 0 _ ≤ _; omega, hlp⟩
              · exact ⟨by show 0 ≤ (X id).need + _; omega, by show (X id).need + _ ≤ _; omega, hlp⟩
      · unfold updX
        rw [if_neg e]
        exact hup id hid
    · rw [updX_at]
      unfold noteX
      split
      · rfl
      · split
        · rfl
        · split
          · rfl
          · split <;> rfl
set_option maxRecDepth 100000 in
set_option maxHeartbeats 16000000 in
theorem needs_row (w : World) (l : List SOp) (A : Option Addr) (c : Nat) (hC : Kd.C kOp w A l.length l) (hl : l.length ≤ 140737488351232) :
    Calls Try.prog 4 #[.slice A l.length c] w fun e w' => e = .returned (.bool true) ∧ Below w.heap.size w w' := by
  have HC := Aside0.mk hC
  clear hC
  go_enter Try.func4, Try.ntmps4
  go_wp2_with fail
  refine (tabnew w (fun _ => tx0) (fun _ => 0)).mono ?_
  rintro e w1 ⟨t, mb, rfl, h1⟩
  have H1 := Aside0.mk h1
  clear h1
  go_wp2_with fail
  go_loopg [4] 100 (fun gk v4 wr => ∃ (k : Nat) (bx : Int → Nat) (ks : List Int) (X : Int → TX), Aside0 (k + gk = 100) ∧ v4 = .int .i64 k ∧ k ≤ l.length ∧ k ≤ 100 ∧ Aside0 (Tab ⟨w, fun _ => False⟩ wr t mb bx ks X) ∧ Aside0 (NB ks X k))
  case atStart => exact ⟨0, _, [], _, ⟨rfl⟩, rfl, Nat.zero_le _, Nat.zero_le _, H1, ⟨fun id h => absurd h (by simp)⟩⟩
  case round =>
    obtain ⟨k, bx, ks, X, HK, rfl, hkl, hk100, HT, HN⟩ := hrel
    clear H1
    by_cases hend : k < l.length ∧ k < 100
    · obtain ⟨hlt, h100⟩ := hend
      have hd100 : decide ((k : Int) < 100) = true := by simp; omega
      obtain ⟨ad, o, rfl, hok, x0, x1, x2, x3, x4, x5, x6, x7, x8, x9, x10, x11, x12, x13, x14⟩ := op_at15 (Kd.C_below HC.out (HT.out.bel.below (fun _ h => h))) k hlt
      have HOK := Aside0.mk hok
      clear hok
      go_wp2_with fail
      have hb2 : Below wr.heap.size wr (wr.alloc (.cells #[.int .i64 o.kd, .int .i64 o.tn, .int .i64 o.nn, .int .i64 o.k, .int .u64 o.ls, .int .i64 o.tx, .int .u64 o.pv, .int .u64 o.un, .int .i64 o.pg, .int .i64 o.ak, .string o.a, .string o.b, .string o.c, .slice o.At o.l.length o.ct, .slice o.Ad o.m.length o.cd] 51)) := below_alloc (Below.refl _ _) _
      have ho2 := heap_alloc_new wr (.cells #[.int .i64 o.kd, .int .i64 o.tn, .int .i64 o.nn, .int .i64 o.k, .int .u64 o.ls, .int .i64 o.tx, .int .u64 o.pv, .int .u64 o.un, .int .i64 o.pg, .int .i64 o.ak, .string o.a, .string o.b, .string o.c, .slice o.At o.l.length o.ct, .slice o.Ad o.m.length o.cd] 51)
      obtain ⟨OB, hOB⟩ : ∃ x, x = wr.heap.size := ⟨_, rfl⟩
      generalize wr.alloc (.cells #[.int .i64 o.kd, .int .i64 o.tn, .int .i64 o.nn, .int .i64 o.k, .int .u64 o.ls, .int .i64 o.tx, .int .u64 o.pv, .int .u64 o.un, .int .i64 o.pg, .int .i64 o.ak, .string o.a, .string o.b, .string o.c, .slice o.At o.l.length o.ct, .slice o.Ad o.m.length o.cd] 51) = w2 at hb2 ho2 ⊢
      rw [← hOB] at ho2 ⊢
      have HS := Aside0.mk (Nat.le_of_eq hOB.symm)
      have HT2 := Aside0.mk (HT.out.next hb2)
      have HO2 := Aside0.mk ho2
      have HOK2 := Aside0.mk (HOK.out.below hb2)
      clear hb2 ho2 hOB x0 x1 x2 x3 x4 x5 x6 x7 x8 x9 x10 x11 x12 x13 x14
      obtain ⟨r, hr⟩ := light_ex' o
      refine (flotillalaw17_light.calls o.k o.ls o.tx o.pv o.un o.pg o.ak o.a o.b o.c o.At o.ct o.l o.Ad o.cd o.m r w2 HOK2.out.hT HOK2.out.hTc HOK2.out.hD HOK2.out.hDc hr).mono ?_
      rintro e w3 ⟨rfl, hb⟩
      have HT3 := Aside0.mk (HT2.out.next hb)
      have HO3 := Aside0.mk (blk_below HO2.out hb)
      have HOK3 := Aside0.mk (HOK2.out.below hb)
      clear hb hr HT2 HO2 HOK2
      cases r with
      | false =>
        have HBn := Aside0.mk (HT3.out.bel.below (fun _ h => h))
        clear HT3
        go_wp2_with fail
        refine (lives17 _).mono ?_
        rintro e wq ⟨rfl, hb⟩
        have HBq := Aside0.mk (below_then HBn.out HBn.out.size hb)
        clear hb
        go_wp2_with fail
        go_ret
        exact ⟨rfl, HBq.out⟩
      | true =>
        have y0 := blk_cell HO3.out 0
        have y1 := blk_cell HO3.out 1
        have y2 := blk_cell HO3.out 2
        have y3 := blk_cell HO3.out 3
        have y4 := blk_cell HO3.out 4
        have y5 := blk_cell HO3.out 5
        have y6 := blk_cell HO3.out 6
        have y7 := blk_cell HO3.out 7
        have y8 := blk_cell HO3.out 8
        have y9 := blk_cell HO3.out 9
        have y10 := blk_cell HO3.out 10
        have y11 := blk_cell HO3.out 11
        have y12 := blk_cell HO3.out 12
        have y13 := blk_cell HO3.out 13
        have y14 := blk_cell HO3.out 14
        by_cases k0 : o.kd = 0
        · have e0 : (o.kd == 0) = true := by simpa using k0
          clear k0
          go_wp2_with fail
          refine (tabopen _ w3 t mb bx ks X o.tn HT3.out).mono ?_
          rintro e w4 ho
          clear y0 y1 y2 y3 y4 y5 y6 y7 y8 y9 y10 y11 y12 y13 y14
          rcases ho with (⟨_, rfl, h4⟩ | ⟨_, _, rfl, h4⟩) | ⟨_, _, rfl, bx', h4⟩
          · have HT4 := Aside0.mk h4
            clear h4
            go_wp2_with fail
            go_roundg (gk - 1)
            case measure => have := HK.out; omega
            case rel => exact ⟨k + 1, bx, ks, X, ⟨by have := HK.out; omega⟩, (by go_num), by omega, by omega, HT4, ⟨fun id hi => by have := HN.out id hi; omega⟩⟩
          · have HT4 := Aside0.mk h4
            clear h4
            go_wp2_with fail
            go_roundg (gk - 1)
            case measure => have := HK.out; omega
            case rel => exact ⟨k + 1, bx, ks, X, ⟨by have := HK.out; omega⟩, (by go_num), by omega, by omega, HT4, ⟨fun id hi => by have := HN.out id hi; omega⟩⟩
          · have HT4 := Aside0.mk h4
            clear h4
            go_wp2_with fail
            go_roundg (gk - 1)
            case measure => have := HK.out; omega
            case rel => exact ⟨k + 1, bx', _, _, ⟨by have := HK.out; omega⟩, (by go_num), by omega, by omega, HT4, ⟨fun id hi => by
                            rcases List.mem_append.1 hi with hi | hi
                            · by_cases e : id = o.tn
                              · subst e; simp only [if_pos]; exact ⟨Int.le_refl _, (by show (0 : Int) ≤ _; omega), Int.le_refl _⟩
                              · simp only [if_neg e]; have := HN.out id hi; omega
                            · rw [List.mem_singleton.1 hi]; simp only [if_pos]; exact ⟨Int.le_refl _, (by show (0 : Int) ≤ _; omega), Int.le_refl _⟩⟩⟩
        · have e0 : (o.kd == 0) = false := by simpa using k0
          by_cases k12 : o.kd = 1 ∨ o.kd = 2
          · clear k0
            have hE : ((o.kd == 1) = true ∧ o.kd = 1) ∨ ((o.kd == 1) = false ∧ (o.kd == 2) = true ∧ o.kd = 2) := by
              rcases k12 with h | h
              · exact .inl ⟨by simp [h], h⟩
              · exact .inr ⟨by simp [h], by simp [h], h⟩
            clear k12
            rcases hE with ⟨e1, k12⟩ | ⟨e1, e2, k12⟩
            all_goals
              have HKD := Aside0.mk k12
              clear k12
              go_wp2_with fail
              refine (tabrow _ w3 t mb bx ks X o.tn HT3.out).mono ?_
              rintro e w4 ⟨rfl, hT, hb⟩
              have HT4 := Aside0.mk hT
              have HO4 := Aside0.mk (blk_below HO3.out hb)
              have HOK4 := Aside0.mk (HOK3.out.below hb)
              obtain ⟨i0, s0, la0, th0, hrv, hth, hla, hla'⟩ := rowV_ex ks X o.tn
              rw [hrv]
              have HLA := Aside0.mk (show 0 ≤ la0 from by
                by_cases h : o.tn ∈ ks
                · rw [hla h]; exact (HN.out _ h).2.2
                · rw [hla' h]; exact Int.le_refl _)
              clear hb hT hrv hth hla hla' y0 y1 y2 y3 y4 y5 y6 y7 y8 y9 y10 y11 y12 y13 y14 HT3
              have y0 : ∀ ob, (w4.alloc ob).cell? ⟨OB, 0, none⟩ = some (.int .i64 o.kd) := fun ob => blk_cell (blk_alloc HO4.out ob) 0
              have y1 : ∀ ob, (w4.alloc ob).cell? ⟨OB, 1, none⟩ = some (.int .i64 o.tn) := fun ob => blk_cell (blk_alloc HO4.out ob) 1
              have y2 : ∀ ob, (w4.alloc ob).cell? ⟨OB, 2, none⟩ = some (.int .i64 o.nn) := fun ob => blk_cell (blk_alloc HO4.out ob) 2
              have y3 : ∀ ob, (w4.alloc ob).cell? ⟨OB, 3, none⟩ = some (.int .i64 o.k) := fun ob => blk_cell (blk_alloc HO4.out ob) 3
              have y4 : ∀ ob, (w4.alloc ob).cell? ⟨OB, 4, none⟩ = some (.int .u64 o.ls) := fun ob => blk_cell (blk_alloc HO4.out ob) 4
              have y5 : ∀ ob, (w4.alloc ob).cell? ⟨OB, 5, none⟩ = some (.int .i64 o.tx) := fun ob => blk_cell (blk_alloc HO4.out ob) 5
              have y6 : ∀ ob, (w4.alloc ob).cell? ⟨OB, 6, none⟩ = some (.int .u64 o.pv) := fun ob => blk_cell (blk_alloc HO4.out ob) 6
              have y7 : ∀ ob, (w4.alloc ob).cell? ⟨OB, 7, none⟩ = some (.int .u64 o.un) := fun ob => blk_cell (blk_alloc HO4.out ob) 7
              have y8 : ∀ ob, (w4.alloc ob).cell? ⟨OB, 8, none⟩ = some (.int .i64 o.pg) := fun ob => blk_cell (blk_alloc HO4.out ob) 8
              have y9 : ∀ ob, (w4.alloc ob).cell? ⟨OB, 9, none⟩ = some (.int .i64 o.ak) := fun ob => blk_cell (blk_alloc HO4.out ob) 9
              have y10 : ∀ ob, (w4.alloc ob).cell? ⟨OB, 10, none⟩ = some (.string o.a) := fun ob => blk_cell (blk_alloc HO4.out ob) 10
              have y11 : ∀ ob, (w4.alloc ob).cell? ⟨OB, 11, none⟩ = some (.string o.b) := fun ob => blk_cell (blk_alloc HO4.out ob) 11
              have y12 : ∀ ob, (w4.alloc ob).cell? ⟨OB, 12, none⟩ = some (.string o.c) := fun ob => blk_cell (blk_alloc HO4.out ob) 12
              have y13 : ∀ ob, (w4.alloc ob).cell? ⟨OB, 13, none⟩ = some (.slice o.At o.l.length o.ct) := fun ob => blk_cell (blk_alloc HO4.out ob) 13
              have y14 : ∀ ob, (w4.alloc ob).cell? ⟨OB, 14, none⟩ = some (.slice o.Ad o.m.length o.cd) := fun ob => blk_cell (blk_alloc HO4.out ob) 14
              go_wp2_with fail
              have hb5 : Below w4.heap.size w4 (w4.alloc (.cells #[.int .i64 i0, .int .i64 s0, .int .u64 la0] 54)) := below_alloc (Below.refl _ _) _
              generalize w4.alloc (.cells #[.int .i64 i0, .int .i64 s0, .int .u64 la0] 54) = w5 at hb5 ⊢
              have HT5 := Aside0.mk (HT4.out.next hb5)
              have HOK5 := Aside0.mk (HOK4.out.below hb5)
              clear y0 y1 y2 y3 y4 y5 y6 y7 y8 y9 y10 y11 y12 y13 y14 hb5 HT4 HOK4 HO4
              refine (record_any w5 o la0 k HLA.out h100 HOK5.out.pv HOK5.out.un).mono ?_
              rintro e w6 ⟨ls, tx, pv, un, rfl, hpv, hun, htx1, htx2, hb⟩
              have HPV := Aside0.mk hpv
              have HUN := Aside0.mk hun
              have HT6 := Aside0.mk (HT5.out.next hb)
              have HOK6 := Aside0.mk (HOK5.out.below hb)
              clear hb hpv hun htx1 htx2 HT5 HOK5
              go_wp2_with fail
              have hb7 : Below w6.heap.size w6 (w6.alloc (.cells #[.int .i64 o.k, .int .u64 ls, .int .i64 tx, .int .u64 pv, .int .u64 un, .int .i64 o.pg, .int .i64 o.ak, .string o.a, .string o.b, .string o.c, .slice o.At o.l.length o.ct, .slice o.Ad o.m.length o.cd] 39)) := below_alloc (Below.refl _ _) _
              have hr7 := heap_alloc_new w6 (.cells #[.int .i64 o.k, .int .u64 ls, .int .i64 tx, .int .u64 pv, .int .u64 un, .int .i64 o.pg, .int .i64 o.ak, .string o.a, .string o.b, .string o.c, .slice o.At o.l.length o.ct, .slice o.Ad o.m.length o.cd] 39)
              obtain ⟨RB, hRB⟩ : ∃ x, x = w6.heap.size := ⟨_, rfl⟩
              generalize w6.alloc (.cells #[.int .i64 o.k, .int .u64 ls, .int .i64 tx, .int .u64 pv, .int .u64 un, .int .i64 o.pg, .int .i64 o.ak, .string o.a, .string o.b, .string o.c, .slice o.At o.l.length o.ct, .slice o.Ad o.m.length o.cd] 39) = w7 at hb7 hr7 ⊢
              rw [← hRB] at hr7 ⊢
              have HNR := Aside0.mk (HT6.out.not_own (Nat.le_of_eq hRB.symm))
              have HT7 := Aside0.mk (HT6.out.next hb7)
              have HOK7 := Aside0.mk (HOK6.out.below hb7)
              have HR7 := Aside0.mk hr7
              clear hb7 hr7 hRB HT6 HOK6
              refine (tabrow _ w7 t mb bx ks X tx HT7.out).mono ?_
              rintro e w8 ⟨rfl, hT, hb⟩
              have HT8 := Aside0.mk hT
              have HOK8 := Aside0.mk (HOK7.out.below hb)
              have HR8 := Aside0.mk (blk_below HR7.out hb)
              obtain ⟨i1, s1, la1, th1, hrv, hth1, hla1, hla1'⟩ := rowV_ex ks X tx
              rw [hrv]
              have HQ1V := Aside0.mk hrv
              have HTH1 := Aside0.mk hth1
              clear hb hT hrv hla1 hla1' hth1 HT7 HR7 HOK7
              have z0 : ∀ ob, (w8.alloc ob).cell? ⟨RB, 0, none⟩ = some (.int .i64 o.k) := fun ob => blk_cell (blk_alloc HR8.out ob) 0
              have z1 : ∀ ob, (w8.alloc ob).cell? ⟨RB, 1, none⟩ = some (.int .u64 ls) := fun ob => blk_cell (blk_alloc HR8.out ob) 1
              have z2 : ∀ ob, (w8.alloc ob).cell? ⟨RB, 2, none⟩ = some (.int .i64 tx) := fun ob => blk_cell (blk_alloc HR8.out ob) 2
              have z3 : ∀ ob, (w8.alloc ob).cell? ⟨RB, 3, none⟩ = some (.int .u64 pv) := fun ob => blk_cell (blk_alloc HR8.out ob) 3
              have z4 : ∀ ob, (w8.alloc ob).cell? ⟨RB, 4, none⟩ = some (.int .u64 un) := fun ob => blk_cell (blk_alloc HR8.out ob) 4
              have z5 : ∀ ob, (w8.alloc ob).cell? ⟨RB, 5, none⟩ = some (.int .i64 o.pg) := fun ob => blk_cell (blk_alloc HR8.out ob) 5
              have z6 : ∀ ob, (w8.alloc ob).cell? ⟨RB, 6, none⟩ = some (.int .i64 o.ak) := fun ob => blk_cell (blk_alloc HR8.out ob) 6
              have z7 : ∀ ob, (w8.alloc ob).cell? ⟨RB, 7, none⟩ = some (.string o.a) := fun ob => blk_cell (blk_alloc HR8.out ob) 7
              have z8 : ∀ ob, (w8.alloc ob).cell? ⟨RB, 8, none⟩ = some (.string o.b) := fun ob => blk_cell (blk_alloc HR8.out ob) 8
              have z9 : ∀ ob, (w8.alloc ob).cell? ⟨RB, 9, none⟩ = some (.string o.c) := fun ob => blk_cell (blk_alloc HR8.out ob) 9
              have z10 : ∀ ob, (w8.alloc ob).cell? ⟨RB, 10, none⟩ = some (.slice o.At o.l.length o.ct) := fun ob => blk_cell (blk_alloc HR8.out ob) 10
              have z11 : ∀ ob, (w8.alloc ob).cell? ⟨RB, 11, none⟩ = some (.slice o.Ad o.m.length o.cd) := fun ob => blk_cell (blk_alloc HR8.out ob) 11
              go_wp2_with fail
              have hb9 : Below w8.heap.size w8 (w8.alloc (.cells #[.int .i64 i1, .int .i64 s1, .int .u64 la1] 54)) := below_alloc (Below.refl _ _) _
              have hl9 := heap_alloc_new w8 (.cells #[.int .i64 i1, .int .i64 s1, .int .u64 la1] 54)
              obtain ⟨LB, hLB⟩ : ∃ x, x = w8.heap.size := ⟨_, rfl⟩
              generalize w8.alloc (.cells #[.int .i64 i1, .int .i64 s1, .int .u64 la1] 54) = w9 at hb9 hl9 ⊢
              rw [← hLB] at hl9 ⊢
              have HNL := Aside0.mk (HT8.out.not_own (Nat.le_of_eq hLB.symm))
              have HT9 := Aside0.mk (HT8.out.next hb9)
              have HOK9 := Aside0.mk (HOK8.out.below hb9)
              have HR9 := Aside0.mk (blk_below HR8.out hb9)
              have HL9 := Aside0.mk hl9
              clear hb9 hl9 hLB HT8 HR8 HOK8 z0 z1 z2 z3 z4 z5 z6 z7 z8 z9 z10 z11
              obtain ⟨kv, hkv⟩ : ∃ x, x = (if tx ∈ ks then (X tx).need else 0) := ⟨_, rfl⟩
              obtain ⟨nv, hnv⟩ : ∃ x, x = (if tx ∈ ks then (X tx).next else 0) := ⟨_, rfl⟩
              have HKC : Aside0 (∀ W, Tab ⟨w, fun _ => False⟩ W t mb bx ks X → Calls Try.prog 16 #[.pointer (some ⟨t, 0, none⟩), .int .i64 tx] W fun e w' => e = .returned (.int .i64 kv) ∧ W = w') := ⟨fun W hW => by rw [hkv]; exact tabkept _ W t mb bx ks X tx hW⟩
              have HNC : Aside0 (∀ W, Tab ⟨w, fun _ => False⟩ W t mb bx ks X → Calls Try.prog 13 #[.pointer (some ⟨t, 0, none⟩), .int .i64 tx] W fun e w' => e = .returned (.int .u64 nv) ∧ W = w') := ⟨fun W hW => by rw [hnv]; exact tabnext _ W t mb bx ks X tx hW⟩
              clear hkv hnv
              have HT9d := Aside0.mk (HT9.out.next (below_drew (Below.refl _ _)))
              have z2 := blk_cell (blk_drew HR9.out) 2
              refine start_ (n := 10) (S := fun wx => wx.cell? ⟨RB, 2, none⟩ = some (.int .i64 tx)) (ds := []) #[false, false, false, false, false, false, false, false, false, false] (by kernel_rfl) rfl rfl (z2) (fun hHeld => ?_)
              refine pure_ (i := 0) (N := some 70) (v := ?_) (a' := ?_) #[true, false, false, false, false, false, false, false, false, false] rfl rfl (by kernel_rfl) (fun _ _ _ h => h) (Or.inl ⟨by rfl, ?_⟩) ?_ ?_
              rotate_left
              · intro w'
                go_simp
                all_goals (with_reducible rfl)
              rotate_left
              · simp only [Act.put, List.setIfInBounds_toArray, List.set_cons_zero, List.set_cons_succ, i64_w, i32_w]
                rfl
              refine pure_ (i := 1) (N := some 71) (v := ?_) (a' := ?_) #[true, true, false, false, false, false, false, false, false, false] rfl rfl (by kernel_rfl) (fun _ _ _ h => h) (Or.inl ⟨by rfl, ?_⟩) ?_ ?_
              rotate_left
              · intro w'
                go_simp
                all_goals (with_reducible rfl)
              rotate_left
              · simp only [Act.put, List.setIfInBounds_toArray, List.set_cons_zero, List.set_cons_succ, i64_w, i32_w]
                rfl
              refine pure_ (i := 4) (N := some 74) (v := ?_) (a' := ?_) #[true, true, false, false, true, false, false, false, false, false] rfl rfl (by kernel_rfl) (fun _ _ _ h => h) (Or.inl ⟨by rfl, ?_⟩) ?_ ?_
              rotate_left
              · intro w'
                go_simp
                all_goals (with_reducible rfl)
              rotate_left
              · simp only [Act.put, List.setIfInBounds_toArray, List.set_cons_zero, List.set_cons_succ, i64_w, i32_w]
                rfl
              refine pure_ (i := 5) (N := some 75) (v := ?_) (a' := ?_) #[true, true, false, false, true, true, false, false, false, false] rfl rfl (by kernel_rfl) (fun _ _ _ h => h) (Or.inl ⟨by rfl, ?_⟩) ?_ ?_
              rotate_left
              · intro w'
                go_simp
                all_goals (with_reducible rfl)
              rotate_left
              · simp only [Act.put, List.setIfInBounds_toArray, List.set_cons_zero, List.set_cons_succ, i64_w, i32_w]
                rfl
              refine take_ (i := 2) (N := some 72) (v := ?_) (a' := ?_) #[true, true, true, false, true, true, false, false, false, false] rfl rfl (by kernel_rfl) (fun _ _ _ h => h) (Or.inl ⟨by rfl, ?_⟩) hHeld ?_ ?_
              rotate_left
              · intro w' hSw
                (try dsimp only at hSw)
                go_simp
                all_goals (with_reducible rfl)
              rotate_left
              · simp only [Act.put, List.setIfInBounds_toArray, List.set_cons_zero, List.set_cons_succ, i64_w, i32_w]
                rfl
              refine take_ (i := 6) (N := some 76) (v := ?_) (a' := ?_) #[true, true, true, false, true, true, true, false, false, false] rfl rfl (by kernel_rfl) (fun _ _ _ h => h) (Or.inl ⟨by rfl, ?_⟩) hHeld ?_ ?_
              rotate_left
              · intro w' hSw
                (try dsimp only at hSw)
                go_simp
                all_goals (with_reducible rfl)
              rotate_left
              · simp only [Act.put, List.setIfInBounds_toArray, List.set_cons_zero, List.set_cons_succ, i64_w, i32_w]
                rfl
              refine one_ (i := 3) (N := some 73) #[true, true, true, true, true, true, true, false, false, false] rfl rfl (by kernel_rfl) (by decide) (fun K hK => ?_)
              go_simp
              go_at_call 16
              refine (HKC.out _ HT9d.out).mono ?_
              rintro e wz ⟨rfl, rfl⟩
              (try go_wp2_with fail)
              refine hK.out _ _ (z2) (fun hHeld => ?_)
              clear hK K
              (try simp only [Act.put, List.setIfInBounds_toArray, List.set_cons_zero, List.set_cons_succ])
              refine one_ (i := 7) (N := some 77) #[true, true, true, true, true, true, true, true, false, false] rfl rfl (by kernel_rfl) (by decide) (fun K hK => ?_)
              go_simp
              go_at_call 13
              refine (HNC.out _ HT9d.out).mono ?_
              rintro e wz ⟨rfl, rfl⟩
              (try go_wp2_with fail)
              refine hK.out _ _ (z2) (fun hHeld => ?_)
              clear hK K
              (try simp only [Act.put, List.setIfInBounds_toArray, List.set_cons_zero, List.set_cons_succ])
              refine pure_ (i := 8) (N := some 11) (v := ?_) (a' := ?_) #[true, true, true, true, true, true, true, true, true, false] rfl rfl (by kernel_rfl) (fun _ _ _ h => h) (Or.inl ⟨by rfl, ?_⟩) ?_ ?_
              rotate_left
              · intro w'
                go_simp
                all_goals (with_reducible rfl)
              rotate_left
              · simp only [Act.put, List.setIfInBounds_toArray, List.set_cons_zero, List.set_cons_succ, i64_w, i32_w]
                rfl
              refine pure_ (i := 9) (N := some 12) (v := ?_) (a' := ?_) #[true, true, true, true, true, true, true, true, true, true] rfl rfl (by kernel_rfl) (fun _ _ _ h => h) (Or.inl ⟨by rfl, ?_⟩) ?_ ?_
              rotate_left
              · intro w'
                go_simp
                all_goals (with_reducible rfl)
              rotate_left
              · simp only [Act.put, List.setIfInBounds_toArray, List.set_cons_zero, List.set_cons_succ, i64_w, i32_w]
                rfl
              refine done_ (by kernel_rfl) ?_
              clear z2
              have HR10 := Aside0.mk (blk_drew HR9.out)
              have HL10 := Aside0.mk (blk_drew HL9.out)
              have HOK10 := Aside0.mk (HOK9.out.below (below_drew (Below.refl _ _)))
              generalize w9.drew = w10 at HT9d HR10 HL10 HOK10 ⊢
              clear HT9 HR9 HL9 HOK9
              have z0 := blk_cell HR10.out 0
              have z1 := blk_cell HR10.out 1
              have z2 := blk_cell HR10.out 2
              have z3 := blk_cell HR10.out 3
              have z4 := blk_cell HR10.out 4
              have z5 := blk_cell HR10.out 5
              have z6 := blk_cell HR10.out 6
              have z7 := blk_cell HR10.out 7
              have z8 := blk_cell HR10.out 8
              have z9 := blk_cell HR10.out 9
              have z10 := blk_cell HR10.out 10
              have z11 := blk_cell HR10.out 11
              go_wp2_with fail
              refine (note_calls ⟨w10, own t mb bx ks⟩ w10 t mb bx ks X o.k ls tx pv un o.pg o.ak o.a o.b o.c o.At o.ct o.l o.Ad o.cd o.m HT9d.out.here HOK10.out.hT HOK10.out.hTc HOK10.out.hD HOK10.out.hDc HPV.out HUN.out (fun hi => ⟨(HN.out tx hi).1, by have := (HN.out tx hi).2.1; omega⟩)).mono ?_
              rintro e w11 ⟨n, rfl, hnt⟩
              obtain ⟨ks', X', hT, hn', hne, heq, hot⟩ := noted_sum hnt HN.out
              have HT11 := Aside0.mk (HT9d.out.back hT)
              have HR11 := Aside0.mk (hT.keep HR10.out HNR.out)
              have HL11 := Aside0.mk (hT.keep HL10.out HNL.out)
              have HN11 := Aside0.mk hn'
              have HNE := Aside0.mk hne
              have HEQ := Aside0.mk heq
              have HNT := Aside0.mk hnt
              clear hT hn' hne heq hnt hot HT9d HR10 HL10 HOK10 z0 z1 z2 z3 z4 z5 z6 z7 z8 z9 z10 z11
              have z2 := blk_cell HR11.out 2
              go_wp2_with fail
              refine (tabrow _ w11 t mb bx ks' X' tx HT11.out).mono ?_
              rintro e w12 ⟨rfl, hT, hb⟩
              have HT12 := Aside0.mk hT
              have HR12 := Aside0.mk (blk_below HR11.out hb)
              have HL12 := Aside0.mk (blk_below HL11.out hb)
              obtain ⟨i2, s2, la2, th2, hrv2, hth2, hla2, hla2'⟩ := rowV_ex ks' X' tx
              rw [hrv2]
              have HRW2 := Aside0.mk hrv2
              have HTH2 := Aside0.mk hth2
              have HLA2 := Aside0.mk hla2
              clear hb hT hrv2 hla2 hla2' hth2 z2 HT11 HR11 HL11
              have HN12 := HN11
              by_cases n0 : n = 0
              · subst n0
                have hq := HEQ.out rfl
                obtain rfl : th1 = true := by rw [HTH1.out]; simp [hq.1]
                obtain ⟨kw, hkw⟩ : ∃ x, x = (if tx ∈ ks' then (X' tx).need else 0) := ⟨_, rfl⟩
                have hkw0 : 0 ≤ kw := by
                  rw [hkw]
                  split
                  · rename_i h; exact (HN12.out tx h).1
                  · exact Int.le_refl _
                have HKC2 : Aside0 (∀ W, Tab ⟨w, fun _ => False⟩ W t mb bx ks' X' → Calls Try.prog 16 #[.pointer (some ⟨t, 0, none⟩), .int .i64 tx] W fun e w' => e = .returned (.int .i64 kw) ∧ W = w') := ⟨fun W hW => by rw [hkw]; exact tabkept _ W t mb bx ks' X' tx hW⟩
                clear hkw
                have hd0 : decide (kw < 0) = false := by simp; omega
                have z0 : ∀ ob, (w12.alloc ob).cell? ⟨RB, 0, none⟩ = some (.int .i64 o.k) := fun ob => blk_cell (blk_alloc HR12.out ob) 0
                have z1 : ∀ ob, (w12.alloc ob).cell? ⟨RB, 1, none⟩ = some (.int .u64 ls) := fun ob => blk_cell (blk_alloc HR12.out ob) 1
                have z2 : ∀ ob, (w12.alloc ob).cell? ⟨RB, 2, none⟩ = some (.int .i64 tx) := fun ob => blk_cell (blk_alloc HR12.out ob) 2
                have q0 : ∀ ob, (w12.alloc ob).cell? ⟨LB, 0, none⟩ = some (.int .i64 i1) := fun ob => blk_cell (blk_alloc HL12.out ob) 0
                have q1 : ∀ ob, (w12.alloc ob).cell? ⟨LB, 1, none⟩ = some (.int .i64 s1) := fun ob => blk_cell (blk_alloc HL12.out ob) 1
                have q2 : ∀ ob, (w12.alloc ob).cell? ⟨LB, 2, none⟩ = some (.int .u64 la1) := fun ob => blk_cell (blk_alloc HL12.out ob) 2
                have HT13 := Aside0.mk (fun ob => HT12.out.next (below_alloc (Below.refl w12.heap.size w12) ob))
                by_cases k5 : o.k = 5
                · have e5 : (o.k == 5) = true := by simp [k5]
                  obtain rfl : th2 = false := by rw [HTH2.out]; simp [hq.2.1, k5]
                  clear hq k5
                  go_wp2_with fail
                  refine (HKC2.out _ (HT13.out _)).mono ?_
                  rintro e wz ⟨rfl, rfl⟩
                  go_wp2_with fail
                  go_roundg (gk - 1)
                  case measure => have := HK.out; omega
                  case rel => exact ⟨k + 1, bx, ks', X', ⟨by have := HK.out; omega⟩, (by go_num), by omega, by omega, ⟨HT13.out _⟩, HN12⟩
                · have e5 : (o.k == 5) = false := by simp [k5]
                  have h5 : tx ∈ ks' := hq.2.1.2 k5
                  obtain rfl : th2 = true := by rw [HTH2.out]; simp [h5]
                  obtain rfl : la2 = ls := (HLA2.out h5).trans (hq.2.2 h5)
                  clear hq k5 h5
                  go_wp2_with fail
                  refine (HKC2.out _ (HT13.out _)).mono ?_
                  rintro e wz ⟨rfl, rfl⟩
                  go_wp2_with fail
                  go_roundg (gk - 1)
                  case measure => have := HK.out; omega
                  case rel => exact ⟨k + 1, bx, ks', X', ⟨by have := HK.out; omega⟩, (by go_num), by omega, by omega, ⟨HT13.out _⟩, HN12⟩
              · have e0n : (n == 0) = false := by simpa using n0
                have e1n : (n != 0) = true := by simpa using n0
                obtain ⟨rfl, rfl⟩ := HNE.out n0
                have hr := HQ1V.out.symm.trans HRW2.out
                simp only [Value.tuple.injEq, Array.mk.injEq, List.cons.injEq, Value.agg.injEq, Value.int.injEq, Value.bool.injEq, and_true, true_and] at hr
                obtain ⟨⟨rfl, rfl, rfl⟩, rfl⟩ := hr
                clear HEQ HQ1V HRW2 HTH1 HTH2 HLA2 HNE n0
                have z0 : ∀ ob, (w12.alloc ob).cell? ⟨RB, 0, none⟩ = some (.int .i64 o.k) := fun ob => blk_cell (blk_alloc HR12.out ob) 0
                have z1 : ∀ ob, (w12.alloc ob).cell? ⟨RB, 1, none⟩ = some (.int .u64 ls) := fun ob => blk_cell (blk_alloc HR12.out ob) 1
                have z2 : ∀ ob, (w12.alloc ob).cell? ⟨RB, 2, none⟩ = some (.int .i64 tx) := fun ob => blk_cell (blk_alloc HR12.out ob) 2
                have q0 : ∀ ob, (w12.alloc ob).cell? ⟨LB, 0, none⟩ = some (.int .i64 i1) := fun ob => blk_cell (blk_alloc HL12.out ob) 0
                have q1 : ∀ ob, (w12.alloc ob).cell? ⟨LB, 1, none⟩ = some (.int .i64 s1) := fun ob => blk_cell (blk_alloc HL12.out ob) 1
                have q2 : ∀ ob, (w12.alloc ob).cell? ⟨LB, 2, none⟩ = some (.int .u64 la1) := fun ob => blk_cell (blk_alloc HL12.out ob) 2
                have HT13 := Aside0.mk (fun ob => HT12.out.next (below_alloc (Below.refl w12.heap.size w12) ob))
                go_wp2_with fail
                refine (HKC.out _ (HT13.out _)).mono ?_
                rintro e wz ⟨rfl, rfl⟩
                go_wp2_with fail
                refine (HNC.out _ (HT13.out _)).mono ?_
                rintro e wz ⟨rfl, rfl⟩
                go_wp2_with fail
                go_roundg (gk - 1)
                case measure => have := HK.out; omega
                case rel => exact ⟨k + 1, bx, _, _, ⟨by have := HK.out; omega⟩, (by go_num), by omega, by omega, ⟨HT13.out _⟩, HN12⟩
          · have e1 : (o.kd == 1) = false := by simp; omega
            have e2 : (o.kd == 2) = false := by simp; omega
            clear k0 k12
            go_wp2_with fail
            clear y0 y1 y2 y3 y4 y5 y6 y7 y8 y9 y10 y11 y12 y13 y14
            go_roundg (gk - 1)
            case measure => have := HK.out; omega
            case rel => exact ⟨k + 1, bx, ks, X, ⟨by have := HK.out; omega⟩, (by go_num), by omega, by omega, HT3, ⟨fun id hi => by have := HN.out id hi; omega⟩⟩
    · have hd : (decide ((k : Int) < l.length) && decide ((k : Int) < 100)) = false := by
        simp only [Bool.and_eq_false_iff, decide_eq_false_iff_not]
        omega
      by_cases h100 : k < 100
      · have hd1 : decide ((k : Int) < l.length) = false := by simp; omega
        have HBn := Aside0.mk (HT.out.bel.below (fun _ h => h))
        clear HT
        go_wp2_with fail
        refine (lives17 _).mono ?_
        rintro e wq ⟨rfl, hb⟩
        have HBq := Aside0.mk (below_then HBn.out HBn.out.size hb)
        clear hb
        go_wp2_with fail
        go_ret
        exact ⟨rfl, HBq.out⟩
      · have hd1 : decide ((k : Int) < 100) = false := by simp; omega
        by_cases hlt : k < l.length
        · have HBn := Aside0.mk (HT.out.bel.below (fun _ h => h))
          clear HT
          go_wp2_with fail
          refine (lives17 _).mono ?_
          rintro e wq ⟨rfl, hb⟩
          have HBq := Aside0.mk (below_then HBn.out HBn.out.size hb)
          clear hb
          go_wp2_with fail
          go_ret
          exact ⟨rfl, HBq.out⟩
        · have HBn := Aside0.mk (HT.out.bel.below (fun _ h => h))
          clear HT
          go_wp2_with fail
          refine (lives17 _).mono ?_
          rintro e wq ⟨rfl, hb⟩
          have HBq := Aside0.mk (below_then HBn.out HBn.out.size hb)
          clear hb
          go_wp2_with fail
          go_ret
          exact ⟨rfl, HBq.out⟩
end Go.Proofs.Yteaklmafjmnmiaa
