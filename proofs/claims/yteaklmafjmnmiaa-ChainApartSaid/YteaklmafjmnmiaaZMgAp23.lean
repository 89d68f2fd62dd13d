/- Layer 17: ChainApart's walk. -/
import Derived.Test.YteaklmafjmnmiaaZMgAp22
import Derived.Test.YteaklmafjmnmiaaZMgApd
import Derived.BigQuiet
section
namespace Go.Proofs.Yteaklmafjmnmiaa
open Go.RowKit Go.Proofs.YteaklmafjmnmiaaW.PrintWords Go.Proofs.YteaklmafjmnmiaaW.PrintLast Go.Proofs.YteaklmafjmnmiaaW.PrintMore
open Rf MapL MapV
set_option linter.unusedVariables false
set_option linter.unusedSimpArgs false
/-- What the rounds keep of the keys and the savepoints. -/
structure KS (ks : List Int) (S : Int → List Int) (k : Nat) : Prop where
  key : ∀ x ∈ ks, 1 ≤ x ∧ x ≤ 1073741824
  len : ks.length ≤ k
  sav : ∀ x ∈ ks, (S x).length ≤ 4
theorem KS.up {ks : List Int} {S : Int → List Int} {k : Nat} (h : KS ks S k) : KS ks S (k + 1) := ⟨h.key, by have := h.len; omega, h.sav⟩
theorem KS.filter {ks : List Int} {S : Int → List Int} {k : Nat} (h : KS ks S k) (p : Int → Bool) : KS (ks.filter p) S k :=
  ⟨fun x hx => h.key x (List.mem_filter.1 hx).1, Nat.le_trans (List.length_filter_le _ _) h.len, fun x hx => h.sav x (List.mem_filter.1 hx).1⟩
/-- One transaction stands as it did. -/
structure Same (id : Int) (ks ks' : List Int) (X X' : Int → TX) : Prop where
  mem : id ∈ ks' ↔ id ∈ ks
  st : (X' id).st = (X id).st
  last : (X' id).last = (X id).last
  next : (X' id).next = (X id).next
  need : (X' id).need = (X id).need
theorem Same.refl (id : Int) (ks : List Int) (X : Int → TX) : Same id ks ks X X := ⟨Iff.rfl, rfl, rfl, rfl, rfl⟩
theorem Same.of {id : Int} {ks ks' : List Int} {X X' : Int → TX} (h : (id ∈ ks' ↔ id ∈ ks) ∧ X' id = X id) : Same id ks ks' X X' := by
  obtain ⟨h1, h2⟩ := h
  exact ⟨h1, by rw [h2], by rw [h2], by rw [h2], by rw [h2]⟩
theorem Same.row {id : Int} {ks ks' : List Int} {X X' : Int → TX} (h : Same id ks ks' X X') : rowV ks' X' id = rowV ks X id := by
  unfold rowV
  by_cases hi : id ∈ ks
  · rw [if_pos hi, if_pos (h.mem.2 hi), h.st, h.last]
  · rw [if_neg hi, if_neg (fun q => hi (h.mem.1 q))]
theorem NB.sv {ks : List Int} {X : Int → TX} {k : Nat} (h : NB ks X k) (id : Int) (v : Value) (hi : id ∈ ks) : NB ks (updX X id ⟨(X id).st, (X id).last, (X id).next, (X id).need, v⟩) k := fun y hy => by
  unfold updX
  by_cases e : y = id
  · rw [if_pos e]; exact h id hi
  · rw [if_neg e]; exact h y hy
theorem Same.sv {ks : List Int} {X : Int → TX} (id x : Int) (v : Value) : Same id ks ks X (updX X x ⟨(X x).st, (X x).last, (X x).next, (X x).need, v⟩) := by
  unfold updX
  by_cases e : id = x
  · subst e; exact ⟨Iff.rfl, by rw [if_pos rfl], by rw [if_pos rfl], by rw [if_pos rfl], by rw [if_pos rfl]⟩
  · exact ⟨Iff.rfl, by rw [if_neg e], by rw [if_neg e], by rw [if_neg e], by rw [if_neg e]⟩
theorem KS.add {ks : List Int} {S : Int → List Int} {k : Nat} (h : KS ks S k) (id x : Int) (hl : (S id).length < 4) : KS ks (addS S id x) k :=
  ⟨h.key, h.len, fun y hy => by
    unfold addS
    by_cases e : y = id
    · rw [if_pos e, List.length_append]; exact hl
    · rw [if_neg e]; exact h.sav y hy⟩
theorem KS.take {ks : List Int} {S : Int → List Int} {k : Nat} (h : KS ks S k) (id n : Int) (hi : id ∈ ks) : KS ks (takeS S id n) k :=
  ⟨h.key, h.len, fun y hy => by
    unfold takeS
    by_cases e : y = id
    · rw [if_pos e, List.length_take]; have := h.sav id hi; omega
    · rw [if_neg e]; exact h.sav y hy⟩
theorem rtxn_at {w : World} {A : Option Addr} {n : Nat} {l : List SGTxn} (h : Kd.C kGTxn w A n l) (k : Nat) (h1 : k < n) (h2 : k < l.length) : ∃ ad : Addr, A = some ad ∧ w.cell? (ad.add (k * 3)) = some (.int .i64 l[k].f0) ∧ w.cell? ⟨(ad.add (k * 3)).block, (ad.add (k * 3)).off + 2, none⟩ = some (.int .u64 l[k].f2) := by
  obtain ⟨ad, c, e, _, hK, hc0⟩ := Kd.C_get h zGTxn (k : Int) (by omega) (by omega)
  obtain rfl := kGTxn_open hK
  rw [Int.toNat_natCast] at hc0
  rw [List.getD_eq_getElem?_getD, List.getElem?_eq_getElem h2] at hc0
  have hc : ∀ j u, [Value.int .i64 l[k].f0, .int .i64 l[k].f1, .int .u64 l[k].f2][j]? = some u → w.cell? (ad.add (k * 3 + j)) = some u := hc0
  exact ⟨ad, e, hc 0 _ rfl, by rw [← add_field _ _ 2 (by omega)]; exact hc 2 _ rfl⟩
set_option maxRecDepth 100000 in
set_option maxHeartbeats 16000000 in
theorem apart_row (w : World) (l : List SOp) (A : Option Addr) (c : Nat) (id : Int) (hC : Kd.C kOp w A l.length l) (hl : l.length ≤ 140737488351232) :
    Calls Try.prog 7 #[.slice A l.length c, .int .i64 id] w fun e w' => e = .returned (.bool true) ∧ Below w.heap.size w w' := by
  have HC := Aside0.mk hC
  clear hC
  go_enter Try.func7, Try.ntmps7
  go_wp2_with fail
  refine (tabnew w (fun _ => tx0) (fun _ => 0)).mono ?_
  rintro e w1 ⟨t, mb, rfl, h1⟩
  have H1 : Aside0 (TabS ⟨w, fun _ => False⟩ w1 t mb (fun _ => 0) [] (fun _ => tx0) (fun _ => [])) := ⟨⟨h1, fun id hi => absurd hi (by simp), fun id hi => absurd hi (by simp)⟩⟩
  clear h1
  go_wp2_with fail
  go_loopg [6] 100 (fun gk v6 wr => ∃ (k : Nat) (bx : Int → Nat) (ks : List Int) (X : Int → TX) (S : Int → List Int), Aside0 (k + gk = 100) ∧ v6 = .int .i64 k ∧ k ≤ l.length ∧ k ≤ 100 ∧ Aside0 (TabS ⟨w, fun _ => False⟩ wr t mb bx ks X S) ∧ Aside0 (NB ks X k) ∧ Aside0 (KS ks S k))
  case atStart => exact ⟨0, _, [], _, _, ⟨rfl⟩, rfl, Nat.zero_le _, Nat.zero_le _, H1, ⟨fun id h => absurd h (by simp)⟩, ⟨⟨fun id h => absurd h (by simp), Nat.zero_le _, fun id h => absurd h (by simp)⟩⟩⟩
  case round =>
    obtain ⟨k, bx, ks, X, S, HK, rfl, hkl, hk100, HT, HN, HS⟩ := hrel
    clear H1
    by_cases hend : k < l.length ∧ k < 100
    · obtain ⟨hlt, h100⟩ := hend
      have hd100 : decide ((k : Int) < 100) = true := by simp; omega
      obtain ⟨ad, o, rfl, ho, x0, x1, x2, x3, x4, x5, x6, x7, x8, x9, x10, x11, x12, x13, x14⟩ := op_at15g (Kd.C_below HC.out (HT.out.tab.bel.below (fun _ h => h))) k hlt
      have HOK := Aside0.mk (show OkOp w o from by rw [ho]; exact op_ok HC.out k hlt)
      clear ho
      go_wp2_with fail
      have hb2 : Below wr.heap.size wr (wr.alloc (.cells #[.int .i64 o.kd, .int .i64 o.tn, .int .i64 o.nn, .int .i64 o.k, .int .u64 o.ls, .int .i64 o.tx, .int .u64 o.pv, .int .u64 o.un, .int .i64 o.pg, .int .i64 o.ak, .string o.a, .string o.b, .string o.c, .slice o.At o.l.length o.ct, .slice o.Ad o.m.length o.cd] 51)) := below_alloc (Below.refl _ _) _
      have ho2 := heap_alloc_new wr (.cells #[.int .i64 o.kd, .int .i64 o.tn, .int .i64 o.nn, .int .i64 o.k, .int .u64 o.ls, .int .i64 o.tx, .int .u64 o.pv, .int .u64 o.un, .int .i64 o.pg, .int .i64 o.ak, .string o.a, .string o.b, .string o.c, .slice o.At o.l.length o.ct, .slice o.Ad o.m.length o.cd] 51)
      obtain ⟨OB, hOB⟩ : ∃ x, x = wr.heap.size := ⟨_, rfl⟩
      generalize wr.alloc (.cells #[.int .i64 o.kd, .int .i64 o.tn, .int .i64 o.nn, .int .i64 o.k, .int .u64 o.ls, .int .i64 o.tx, .int .u64 o.pv, .int .u64 o.un, .int .i64 o.pg, .int .i64 o.ak, .string o.a, .string o.b, .string o.c, .slice o.At o.l.length o.ct, .slice o.Ad o.m.length o.cd] 51) = w2 at hb2 ho2 ⊢
      rw [← hOB] at ho2 ⊢
      have HT2 := Aside0.mk (HT.out.next hb2)
      have HO2 := Aside0.mk ho2
      clear hb2 ho2 hOB x0 x1 x2 x3 x4 x5 x6 x7 x8 x9 x10 x11 x12 x13 x14
      obtain ⟨r, hr⟩ := light_ex' o
      refine (flotillalaw17_light.calls o.k o.ls o.tx o.pv o.un o.pg o.ak o.a o.b o.c o.At o.ct o.l o.Ad o.cd o.m r w2 (HOK.out.below (HT2.out.tab.bel.below (fun _ h => h))).hT HOK.out.hTc (HOK.out.below (HT2.out.tab.bel.below (fun _ h => h))).hD HOK.out.hDc hr).mono ?_
      rintro e w3 ⟨rfl, hb⟩
      have HT3 := Aside0.mk (HT2.out.next hb)
      have HO3 := Aside0.mk (blk_below HO2.out hb)
      clear hb hr HT2 HO2
      cases r with
      | false =>
        have HBn := Aside0.mk (HT3.out.tab.bel.below (fun _ h => h))
        go_wp2_with fail
        refine (lives17 _).mono ?_
        rintro e wq ⟨rfl, hb⟩
        have HBq := Aside0.mk (below_then HBn.out HBn.out.size hb)
        clear hb
        go_wp2_with fail
        go_ret
        exact ⟨rfl, HBq.out⟩
      | true =>
        go_wp2_with fail
        refine (tabrow _ w3 t mb bx ks X id HT3.out.tab).mono ?_
        rintro e w4 ⟨rfl, _, hb⟩
        have HT4 := Aside0.mk (HT3.out.next hb)
        have HO4 := Aside0.mk (blk_below HO3.out hb)
        obtain ⟨i1, s1, la1, th1, hrv, hth1, hla1, hla1'⟩ := rowV_ex ks X id
        rw [hrv]
        have HR1 := Aside0.mk hrv
        clear hb hrv hth1 hla1 hla1' HT3 HO3
        obtain ⟨kv, hkv⟩ : ∃ x, x = (if id ∈ ks then (X id).need else 0) := ⟨_, rfl⟩
        obtain ⟨nv, hnv⟩ : ∃ x, x = (if id ∈ ks then (X id).next else 0) := ⟨_, rfl⟩
        have HKV := Aside0.mk hkv
        have HNV := Aside0.mk hnv
        clear hkv hnv
        go_wp2_with fail
        have hb5 : Below w4.heap.size w4 (w4.alloc (.cells #[.int .i64 i1, .int .i64 s1, .int .u64 la1] 54)) := below_alloc (Below.refl _ _) _
        have hq5 := heap_alloc_new w4 (.cells #[.int .i64 i1, .int .i64 s1, .int .u64 la1] 54)
        obtain ⟨QB, hQB⟩ : ∃ x, x = w4.heap.size := ⟨_, rfl⟩
        generalize w4.alloc (.cells #[.int .i64 i1, .int .i64 s1, .int .u64 la1] 54) = w5 at hb5 hq5 ⊢
        rw [← hQB] at hq5 ⊢
        have HNQ := Aside0.mk (HT4.out.not_own (Nat.le_of_eq hQB.symm))
        have HT5 := Aside0.mk (HT4.out.next hb5)
        have HO5 := Aside0.mk (blk_below HO4.out hb5)
        have HQ5 := Aside0.mk hq5
        clear hb5 hq5 hQB HT4 HO4
        have hnx := tabnext _ w5 t mb bx ks X id HT5.out.tab
        have hkp := tabkept _ w5 t mb bx ks X id HT5.out.tab
        rw [← HNV.out] at hnx
        rw [← HKV.out] at hkp
        have y0 : w5.cell? ⟨OB, 0, none⟩ = some (.int .i64 o.kd) := blk_cell HO5.out 0
        have y1 : w5.cell? ⟨OB, 1, none⟩ = some (.int .i64 o.tn) := blk_cell HO5.out 1
        have y2 : w5.cell? ⟨OB, 2, none⟩ = some (.int .i64 o.nn) := blk_cell HO5.out 2
        refine hnx.mono ?_
        rintro e wz ⟨rfl, rfl⟩
        clear hnx
        go_wp2_with fail
        refine hkp.mono ?_
        rintro e wz ⟨rfl, rfl⟩
        clear hkp
        go_upto_block 2 with fail
        go_cut [12] (fun v12 wx => ∃ (who : Int) (bx' : Int → Nat) (ks' : List Int) (X' : Int → TX) (S' : Int → List Int), v12 = .int .i64 who ∧ Aside0 (TabS ⟨w, fun _ => False⟩ wx t mb bx' ks' X' S') ∧ Aside0 (NB ks' X' (k + 1)) ∧ Aside0 (KS ks' S' (k + 1)) ∧ Aside0 (who ≠ id → Same id ks ks' X X') ∧ Aside0 (wx.heap[QB]? = some (.cells #[.int .i64 i1, .int .i64 s1, .int .u64 la1] 54 (0, 0))))
        case first =>
          have hup : NB ks X (k + 1) := fun id hi => by have := HN.out id hi; omega
          have HUP := Aside0.mk hup
          clear hup
          by_cases k0 : o.kd = 0
          · have e0 : (o.kd == 0) = true := by simpa using k0
            clear k0
            as_aux_lemma =>
              go_wp2_with fail
              refine (tabopen ⟨w5, own t mb bx ks⟩ w5 t mb bx ks X o.tn HT5.out.tab.here).mono ?_
              rintro e w6 ho
              clear y0 y1 y2
              rcases ho with (⟨_, rfl, g⟩ | ⟨_, _, rfl, g⟩) | ⟨hr, hni, rfl, bx', g⟩
              · have HT6 := Aside0.mk (HT5.out.of_tab (S' := S) g (fun y hy => .inl ⟨hy, rfl, rfl⟩))
                have HQ6 := Aside0.mk (g.keep HQ5.out (fun h => HNQ.out (.inl h)))
                clear g
                go_wp2_with fail
                go_meet
                case rel => exact ⟨_, bx, ks, X, S, rfl, HT6, HUP, ⟨HS.out.up⟩, ⟨fun _ => .refl _ _ _⟩, HQ6⟩
              · have HT6 := Aside0.mk (HT5.out.of_tab (S' := S) g (fun y hy => .inl ⟨hy, rfl, rfl⟩))
                have HQ6 := Aside0.mk (g.keep HQ5.out (fun h => HNQ.out (.inl h)))
                clear g
                go_wp2_with fail
                go_meet
                case rel => exact ⟨_, bx, ks, X, S, rfl, HT6, HUP, ⟨HS.out.up⟩, ⟨fun _ => .refl _ _ _⟩, HQ6⟩
              · have hne : ∀ y ∈ ks, y ≠ o.tn := fun y hy e => hni (e ▸ hy)
                have HT6 := Aside0.mk (HT5.out.of_tab (S' := fun y => if y = o.tn then [] else S y) g (fun y hy => by
                  rcases List.mem_append.1 hy with hy | hy
                  · exact .inl ⟨hy, by simp only [if_neg (hne y hy)], by simp only [if_neg (hne y hy)]⟩
                  · have e := List.mem_singleton.1 hy
                    exact .inr ⟨by rw [e]; exact hni, by simp only [if_pos e]; rfl, by simp only [if_pos e]⟩))
                have HQ6 := Aside0.mk (g.keep HQ5.out (fun h => HNQ.out (.inl h)))
                have HN6 : Aside0 (NB (ks ++ [o.tn]) (fun y => if y = o.tn then tx0 else X y) (k + 1)) := ⟨fun y hy => by
                  rcases List.mem_append.1 hy with hy | hy
                  · simp only [if_neg (hne y hy)]; exact HUP.out y hy
                  · simp only [if_pos (List.mem_singleton.1 hy)]
                    exact ⟨Int.le_refl _, (by show (0 : Int) ≤ _; omega), Int.le_refl _⟩⟩
                have HS6 : Aside0 (KS (ks ++ [o.tn]) (fun y => if y = o.tn then [] else S y) (k + 1)) := ⟨⟨fun y hy => by
                  rcases List.mem_append.1 hy with hy | hy
                  · exact HS.out.key y hy
                  · rw [List.mem_singleton.1 hy]; exact hr, by rw [List.length_append]; have := HS.out.len; simp; omega, fun y hy => by
                  rcases List.mem_append.1 hy with hy | hy
                  · simp only [if_neg (hne y hy)]; exact HS.out.sav y hy
                  · simp only [if_pos (List.mem_singleton.1 hy)]; exact Nat.zero_le _⟩⟩
                have HSA : Aside0 (o.tn ≠ id → Same id ks (ks ++ [o.tn]) X (fun y => if y = o.tn then tx0 else X y)) := ⟨fun hw => .of ⟨⟨fun q => (List.mem_append.1 q).elim (fun h => h) (fun h => absurd (List.mem_singleton.1 h).symm hw), fun q => List.mem_append_left _ q⟩, by simp only [if_neg (fun e => hw e.symm : ¬ id = o.tn)]⟩⟩
                clear g hne hr hni
                go_wp2_with fail
                go_meet
                case rel => exact ⟨_, bx', _, _, _, rfl, HT6, HN6, HS6, HSA, HQ6⟩
          · have e0 : (o.kd == 0) = false := by simpa using k0
            clear k0
            by_cases k12 : o.kd = 1 ∨ o.kd = 2
            · go_upto_if 66 with fail
              go_cut [66] (fun v66 wx => v66 = .bool true ∧ w5 = wx)
              case first =>
                by_cases k1 : o.kd = 1
                · have e1 : (o.kd == 1) = true := by simp [k1]
                  clear k12 k1
                  go_wp2_with fail
                  go_meet
                  case rel => exact ⟨by first | rfl | (rw [e1]), rfl⟩
                · have e1 : (o.kd == 1) = false := by simp [k1]
                  have e2 : (o.kd == 2) = true := by simp; omega
                  clear k12 k1
                  go_wp2_with fail
                  go_meet
                  case rel => exact ⟨rfl, rfl⟩
              case rest =>
                obtain ⟨rfl, rfl⟩ := hcut
                clear k12
                as_aux_lemma =>
                  go_wp2_with fail
                  refine (tabrow _ w5 t mb bx ks X o.tn HT5.out.tab).mono ?_
                  rintro e w6 ⟨rfl, _, hb⟩
                  have HT6 := Aside0.mk (HT5.out.next hb)
                  have HO6 := Aside0.mk (blk_below HO5.out hb)
                  have HQ6 := Aside0.mk (blk_below HQ5.out hb)
                  obtain ⟨i0, s0, la0, th0, hrv, hth, hla, hla'⟩ := rowV_ex ks X o.tn
                  rw [hrv]
                  have HLA := Aside0.mk (show 0 ≤ la0 from by
                    by_cases h : o.tn ∈ ks
                    · rw [hla h]; exact (HN.out _ h).2.2
                    · rw [hla' h]; exact Int.le_refl _)
                  clear hb hrv hth hla hla' y0 y1 y2 HT5 HO5 HQ5
                  go_upto_region 17 with fail
                  have hb7 : Below w6.heap.size w6 (w6.alloc (.cells #[.int .i64 i0, .int .i64 s0, .int .u64 la0] 54)) := below_alloc (Below.refl _ _) _
                  have hw7 := heap_alloc_new w6 (.cells #[.int .i64 i0, .int .i64 s0, .int .u64 la0] 54)
                  obtain ⟨WB, hWB⟩ : ∃ x, x = w6.heap.size := ⟨_, rfl⟩
                  generalize w6.alloc (.cells #[.int .i64 i0, .int .i64 s0, .int .u64 la0] 54) = w7 at hb7 hw7 ⊢
                  rw [← hWB] at hw7 ⊢
                  have HT7 := Aside0.mk (HT6.out.next hb7)
                  have HQ7 := Aside0.mk (blk_below HQ6.out hb7)
                  have p0 : w7.cell? ⟨OB, 0, none⟩ = some (.int .i64 o.kd) := blk_cell (blk_below HO6.out hb7) 0
                  have p1 : w7.cell? ⟨OB, 1, none⟩ = some (.int .i64 o.tn) := blk_cell (blk_below HO6.out hb7) 1
                  have p2 : w7.cell? ⟨OB, 2, none⟩ = some (.int .i64 o.nn) := blk_cell (blk_below HO6.out hb7) 2
                  have p3 : w7.cell? ⟨OB, 3, none⟩ = some (.int .i64 o.k) := blk_cell (blk_below HO6.out hb7) 3
                  have p4 : w7.cell? ⟨OB, 4, none⟩ = some (.int .u64 o.ls) := blk_cell (blk_below HO6.out hb7) 4
                  have p5 : w7.cell? ⟨OB, 5, none⟩ = some (.int .i64 o.tx) := blk_cell (blk_below HO6.out hb7) 5
                  have p6 : w7.cell? ⟨OB, 6, none⟩ = some (.int .u64 o.pv) := blk_cell (blk_below HO6.out hb7) 6
                  have p7 : w7.cell? ⟨OB, 7, none⟩ = some (.int .u64 o.un) := blk_cell (blk_below HO6.out hb7) 7
                  have p8 : w7.cell? ⟨OB, 8, none⟩ = some (.int .i64 o.pg) := blk_cell (blk_below HO6.out hb7) 8
                  have p9 : w7.cell? ⟨OB, 9, none⟩ = some (.int .i64 o.ak) := blk_cell (blk_below HO6.out hb7) 9
                  have p10 : w7.cell? ⟨OB, 10, none⟩ = some (.string o.a) := blk_cell (blk_below HO6.out hb7) 10
                  have p11 : w7.cell? ⟨OB, 11, none⟩ = some (.string o.b) := blk_cell (blk_below HO6.out hb7) 11
                  have p12 : w7.cell? ⟨OB, 12, none⟩ = some (.string o.c) := blk_cell (blk_below HO6.out hb7) 12
                  have p13 : w7.cell? ⟨OB, 13, none⟩ = some (.slice o.At o.l.length o.ct) := blk_cell (blk_below HO6.out hb7) 13
                  have p14 : w7.cell? ⟨OB, 14, none⟩ = some (.slice o.Ad o.m.length o.cd) := blk_cell (blk_below HO6.out hb7) 14
                  have q2 : w7.cell? ⟨WB, 2, none⟩ = some (.int .u64 la0) := blk_cell hw7 2
                  clear hb7 hw7 hWB HT6 HO6 HQ6
                  go_wp2_with fail
                  refine (record_any w7 o la0 k HLA.out h100 HOK.out.pv HOK.out.un).mono ?_
                  rintro e w8 ⟨ls, tx, pv, un, rfl, hpv, hun, htx1, htx2, hb⟩
                  have HPV := Aside0.mk hpv
                  have HUN := Aside0.mk hun
                  have HT8 := Aside0.mk (HT7.out.next hb)
                  have HQ8 := Aside0.mk (blk_below HQ7.out hb)
                  clear hb hpv hun htx1 htx2 q2 HT7 HQ7 p0 p1 p2 p3 p4 p5 p6 p7 p8 p9 p10 p11 p12 p13 p14
                  go_upto_region 18 with fail
                  have hb9 : Below w8.heap.size w8 (w8.alloc (.cells #[.int .i64 o.k, .int .u64 ls, .int .i64 tx, .int .u64 pv, .int .u64 un, .int .i64 o.pg, .int .i64 o.ak, .string o.a, .string o.b, .string o.c, .slice o.At o.l.length o.ct, .slice o.Ad o.m.length o.cd] 39)) := below_alloc (Below.refl _ _) _
                  have hr9 := heap_alloc_new w8 (.cells #[.int .i64 o.k, .int .u64 ls, .int .i64 tx, .int .u64 pv, .int .u64 un, .int .i64 o.pg, .int .i64 o.ak, .string o.a, .string o.b, .string o.c, .slice o.At o.l.length o.ct, .slice o.Ad o.m.length o.cd] 39)
                  obtain ⟨RB, hRB⟩ : ∃ x, x = w8.heap.size := ⟨_, rfl⟩
                  generalize w8.alloc (.cells #[.int .i64 o.k, .int .u64 ls, .int .i64 tx, .int .u64 pv, .int .u64 un, .int .i64 o.pg, .int .i64 o.ak, .string o.a, .string o.b, .string o.c, .slice o.At o.l.length o.ct, .slice o.Ad o.m.length o.cd] 39) = w9 at hb9 hr9 ⊢
                  rw [← hRB] at hr9 ⊢
                  have HT9 := Aside0.mk (HT8.out.next hb9)
                  have HQ9 := Aside0.mk (blk_below HQ8.out hb9)
                  have z0 : w9.cell? ⟨RB, 0, none⟩ = some (.int .i64 o.k) := blk_cell hr9 0
                  have z1 : w9.cell? ⟨RB, 1, none⟩ = some (.int .u64 ls) := blk_cell hr9 1
                  have z2 : w9.cell? ⟨RB, 2, none⟩ = some (.int .i64 tx) := blk_cell hr9 2
                  have z3 : w9.cell? ⟨RB, 3, none⟩ = some (.int .u64 pv) := blk_cell hr9 3
                  have z4 : w9.cell? ⟨RB, 4, none⟩ = some (.int .u64 un) := blk_cell hr9 4
                  have z5 : w9.cell? ⟨RB, 5, none⟩ = some (.int .i64 o.pg) := blk_cell hr9 5
                  have z6 : w9.cell? ⟨RB, 6, none⟩ = some (.int .i64 o.ak) := blk_cell hr9 6
                  have z7 : w9.cell? ⟨RB, 7, none⟩ = some (.string o.a) := blk_cell hr9 7
                  have z8 : w9.cell? ⟨RB, 8, none⟩ = some (.string o.b) := blk_cell hr9 8
                  have z9 : w9.cell? ⟨RB, 9, none⟩ = some (.string o.c) := blk_cell hr9 9
                  have z10 : w9.cell? ⟨RB, 10, none⟩ = some (.slice o.At o.l.length o.ct) := blk_cell hr9 10
                  have z11 : w9.cell? ⟨RB, 11, none⟩ = some (.slice o.Ad o.m.length o.cd) := blk_cell hr9 11
                  clear hb9 hr9 hRB HT8 HQ8
                  go_wp2_with fail
                  have HOK9 := Aside0.mk (HOK.out.below (HT9.out.tab.bel.below (fun _ h => h)))
                  refine (note_calls ⟨w9, own t mb bx ks⟩ w9 t mb bx ks X o.k ls tx pv un o.pg o.ak o.a o.b o.c o.At o.ct o.l o.Ad o.cd o.m HT9.out.tab.here HOK9.out.hT HOK9.out.hTc HOK9.out.hD HOK9.out.hDc HPV.out HUN.out (fun hi => ⟨(HN.out tx hi).1, by have := (HN.out tx hi).2.1; omega⟩)).mono ?_
                  rintro e w10 ⟨n, rfl, hnt⟩
                  obtain ⟨ks', X', g, hn', hks, hsv, hot⟩ := noted_full hnt HN.out
                  have HT10 := Aside0.mk (HT9.out.of_tab (S' := S) g (fun y hy => .inl ⟨by rcases hks with rfl | rfl; exact hy; exact (List.mem_filter.1 hy).1, hsv y, rfl⟩))
                  have HQ10 := Aside0.mk (g.keep HQ9.out (fun h => HNQ.out (.inl h)))
                  have HN10 := Aside0.mk hn'
                  have HS10 : Aside0 (KS ks' S (k + 1)) := ⟨by rcases hks with rfl | rfl; exact HS.out.up; exact (HS.out.filter _).up⟩
                  have HSA : Aside0 (tx ≠ id → Same id ks ks' X X') := ⟨fun hw => .of (hot id (fun e => hw e.symm))⟩
                  clear g hn' hks hsv hot hnt HT9 HQ9 HOK9 z0 z1 z2 z3 z4 z5 z6 z7 z8 z9 z10 z11
                  go_wp2_with fail
                  go_meet
                  case rel => exact ⟨_, bx, ks', X', S, rfl, HT10, HN10, HS10, HSA, HQ10⟩
            · have e1 : (o.kd == 1) = false := by simp; omega
              have e2 : (o.kd == 2) = false := by simp; omega
              clear k12
              by_cases k3 : o.kd = 3
              · have e3 : (o.kd == 3) = true := by simpa using k3
                clear k3
                as_aux_lemma =>
                  go_wp2_with fail
                  refine (tabsave ⟨w5, ownS t mb bx ks X⟩ w5 t mb bx ks X S o.tn HT5.out.here (fun hi => HS.out.sav _ hi)).mono ?_
                  rintro e w6 ⟨n, q, rfl, hsv⟩
                  clear y0 y1 y2
                  cases hsv with
                  | no hn he hw g =>
                    have HT6 := Aside0.mk (HT5.out.back g)
                    have HQ6 := Aside0.mk (g.keep HQ5.out HNQ.out)
                    clear g hn he hw
                    go_wp2_with fail
                    go_meet
                    case rel => exact ⟨_, bx, ks, X, S, rfl, HT6, HUP, ⟨HS.out.up⟩, ⟨fun _ => .refl _ _ _⟩, HQ6⟩
                  | ok hi hst hl4 hn he g =>
                    obtain ⟨v, g⟩ := g
                    have HT6 := Aside0.mk (HT5.out.back g)
                    have HQ6 := Aside0.mk (g.keep HQ5.out HNQ.out)
                    have HN6 := Aside0.mk (HUP.out.sv o.tn v hi)
                    have HS6 := Aside0.mk ((HS.out.add o.tn (X o.tn).next hl4).up)
                    clear g hn he hst hl4 hi
                    go_wp2_with fail
                    go_meet
                    case rel => exact ⟨_, bx, ks, _, _, rfl, HT6, HN6, HS6, ⟨fun _ => .sv _ _ _⟩, HQ6⟩
              · have e3 : (o.kd == 3) = false := by simpa using k3
                clear k3
                by_cases k5 : o.kd = 5
                · have e5 : (o.kd == 5) = true := by simpa using k5
                  clear k5
                  as_aux_lemma =>
                    go_wp2_with fail
                    refine (tabdrop ⟨w5, ownS t mb bx ks X⟩ w5 t mb bx ks X S o.tn o.nn HT5.out.here (fun hi => by have := HS.out.sav _ hi; omega)).mono ?_
                    rintro e w6 hd
                    clear y0 y1 y2
                    rcases hd with ⟨_, rfl, rfl⟩ | ⟨hi, hn0, hnl, rfl, v, g⟩
                    · go_wp2_with fail
                      go_meet
                      case rel => exact ⟨_, bx, ks, X, S, rfl, HT5, HUP, ⟨HS.out.up⟩, ⟨fun _ => .refl _ _ _⟩, HQ5⟩
                    · have HT6 := Aside0.mk (HT5.out.back g)
                      have HQ6 := Aside0.mk (g.keep HQ5.out HNQ.out)
                      have HN6 := Aside0.mk (HUP.out.sv o.tn v hi)
                      have HS6 := Aside0.mk ((HS.out.take o.tn o.nn hi).up)
                      clear g hn0 hnl hi
                      go_wp2_with fail
                      go_meet
                      case rel => exact ⟨_, bx, ks, _, _, rfl, HT6, HN6, HS6, ⟨fun _ => .sv _ _ _⟩, HQ6⟩
                · have e5 : (o.kd == 5) = false := by simpa using k5
                  clear k5
                  by_cases k6 : o.kd = 6
                  · have e6 : (o.kd == 6) = true := by simpa using k6
                    clear k6
                    as_aux_lemma =>
                      go_wp2_with fail
                      refine (tabgone ⟨w5, own t mb bx ks⟩ w5 t mb bx ks X o.tn HT5.out.tab.here).mono ?_
                      rintro e w6 ⟨rfl, g⟩
                      clear y0 y1 y2
                      have HT6 := Aside0.mk (HT5.out.of_tab (S' := S) g (fun y hy => .inl ⟨(List.mem_filter.1 hy).1, rfl, rfl⟩))
                      have HQ6 := Aside0.mk (g.keep HQ5.out (fun h => HNQ.out (.inl h)))
                      have HN6 : Aside0 (NB (ks.filter fun y => decide (y ≠ o.tn)) X (k + 1)) := ⟨fun y hy => HUP.out y (List.mem_filter.1 hy).1⟩
                      have HSA : Aside0 (o.tn ≠ id → Same id ks (ks.filter fun y => decide (y ≠ o.tn)) X X) := ⟨fun hw => .of ⟨⟨fun q => (List.mem_filter.1 q).1, fun q => List.mem_filter.2 ⟨q, by simpa using fun e => hw e.symm⟩⟩, rfl⟩⟩
                      clear g
                      go_wp2_with fail
                      go_meet
                      case rel => exact ⟨_, bx, _, X, S, rfl, HT6, HN6, ⟨(HS.out.filter _).up⟩, HSA, HQ6⟩
                  · have e6 : (o.kd == 6) = false := by simpa using k6
                    clear k6
                    go_wp2_with fail
                    go_meet
                    case rel => exact ⟨_, bx, ks, X, S, rfl, HT5, HUP, ⟨HS.out.up⟩, ⟨fun _ => .refl _ _ _⟩, HQ5⟩
        case rest =>
          as_aux_lemma =>
            obtain ⟨gk0, hgk0⟩ : ∃ x, x = gk := ⟨_, rfl⟩
            have HG0 := Aside0.mk hgk0
            clear hgk0 y0 y1 y2
            clear HT5 HO5 HQ5 HN HT HS
            obtain ⟨who, bx', ks', X', S', rfl, HT6, HN6, HS6, HSA, HQ6⟩ := hcut
            go_wp2_with fail
            refine (tabrow _ wc t mb bx' ks' X' id HT6.out.tab).mono ?_
            rintro e w7 ⟨rfl, _, hb⟩
            have HT7 := Aside0.mk (HT6.out.next hb)
            have HQ7 := Aside0.mk (blk_below HQ6.out hb)
            obtain ⟨i2, s2, la2, th2, hrv, hth2, hla2, hla2'⟩ := rowV_ex ks' X' id
            rw [hrv]
            have HR2 := Aside0.mk hrv
            clear hb hrv hth2 hla2 hla2' HT6 HQ6
            go_upto_region 27 with fail
            have hb8 : Below w7.heap.size w7 (w7.alloc (.cells #[.int .i64 i2, .int .i64 s2, .int .u64 la2] 54)) := below_alloc (Below.refl _ _) _
            have hr8 := heap_alloc_new w7 (.cells #[.int .i64 i2, .int .i64 s2, .int .u64 la2] 54)
            obtain ⟨NBX, hNBX⟩ : ∃ x, x = w7.heap.size := ⟨_, rfl⟩
            generalize w7.alloc (.cells #[.int .i64 i2, .int .i64 s2, .int .u64 la2] 54) = w8 at hb8 hr8 ⊢
            rw [← hNBX] at hr8 ⊢
            have HT8 := Aside0.mk (HT7.out.next hb8)
            have HQ8 := Aside0.mk (blk_below HQ7.out hb8)
            have HX8 := Aside0.mk hr8
            clear hb8 hr8 hNBX HT7 HQ7
            go_cut [138] (fun v138 wx => v138 = .bool false ∧ w8 = wx)
            case first =>
              by_cases hw : who = id
              · have ew : (who != id) = false := by simp [hw]
                clear hw
                go_wp2_with fail
                go_meet
                case rel => exact ⟨rfl, rfl⟩
              · have ew : (who != id) = true := by simp [hw]
                have hsm := HSA.out hw
                have hr := (HR2.out.symm.trans hsm.row).trans HR1.out
                simp only [Value.tuple.injEq, Array.mk.injEq, List.cons.injEq, Value.agg.injEq, Value.int.injEq, Value.bool.injEq, and_true, true_and] at hr
                obtain ⟨⟨rfl, rfl, rfl⟩, rfl⟩ := hr
                have hnx := tabnext _ w8 t mb bx' ks' X' id HT8.out.tab
                have hkp := tabkept _ w8 t mb bx' ks' X' id HT8.out.tab
                have hnv : (if id ∈ ks' then (X' id).next else 0) = nv := by
                  rw [HNV.out]
                  by_cases hi : id ∈ ks
                  · rw [if_pos hi, if_pos (hsm.mem.2 hi), hsm.next]
                  · rw [if_neg hi, if_neg (fun q => hi (hsm.mem.1 q))]
                have hkv : (if id ∈ ks' then (X' id).need else 0) = kv := by
                  rw [HKV.out]
                  by_cases hi : id ∈ ks
                  · rw [if_pos hi, if_pos (hsm.mem.2 hi), hsm.need]
                  · rw [if_neg hi, if_neg (fun q => hi (hsm.mem.1 q))]
                rw [hnv] at hnx
                rw [hkv] at hkp
                have q0 : w8.cell? ⟨QB, 0, none⟩ = some (.int .i64 i2) := blk_cell HQ8.out 0
                have q1 : w8.cell? ⟨QB, 1, none⟩ = some (.int .i64 s2) := blk_cell HQ8.out 1
                have q2 : w8.cell? ⟨QB, 2, none⟩ = some (.int .u64 la2) := blk_cell HQ8.out 2
                have r0 : w8.cell? ⟨NBX, 0, none⟩ = some (.int .i64 i2) := blk_cell HX8.out 0
                have r1 : w8.cell? ⟨NBX, 1, none⟩ = some (.int .i64 s2) := blk_cell HX8.out 1
                have r2 : w8.cell? ⟨NBX, 2, none⟩ = some (.int .u64 la2) := blk_cell HX8.out 2
                clear hw hsm hnv hkv
                go_wp2_with fail
                refine hnx.mono ?_
                rintro e wz ⟨rfl, rfl⟩
                clear hnx
                go_wp2_with fail
                refine hkp.mono ?_
                rintro e wz ⟨rfl, rfl⟩
                clear hkp
                go_wp2_with fail
                go_meet
                case rel => exact ⟨rfl, rfl⟩
            case rest =>
              obtain ⟨rfl, rfl⟩ := hcut
              clear HQ8 HX8 HR1 HR2 HSA HKV HNV
              go_wp2_with fail
              refine (tabrows _ w8 t mb bx' ks' X' HT8.out.tab HS6.out.key (by have := HS6.out.len; omega)).mono ?_
              rintro e w9 ⟨v, L, rfl, hp, hL, hR, hb⟩
              obtain ⟨VA, VC, rfl, hvc, hVC⟩ := Kd.R_reads hR
              have hrise := rowsOf_rise X' L hL
              have hnz := rowsOf_mem X' L
              have HT9 := Aside0.mk (HT8.out.next hb)
              have HRISE := Aside0.mk (List.pairwise_iff_getElem.1 hrise)
              have HNZ := Aside0.mk hnz
              have HVC := Aside0.mk hVC
              have HLEN := Aside0.mk (show (rowsOf X' L).length ≤ 1000 from by have h1 := rowsOf_len X' L; have h2 := hp.length_eq; have := HS6.out.len; omega)
              clear hp hL hR hb hrise hnz hVC HT8 hvc
              generalize rowsOf X' L = rs at HRISE HNZ HVC HLEN ⊢
              go_wp2_with fail
              go_loopg [19] rs.length (fun gj v19 wz => ∃ j : Nat, Aside0 (j + gj = rs.length) ∧ v19 = .int .i64 j ∧ j ≤ rs.length ∧ Aside0 (Below w9.heap.size w9 wz))
              case atStart => exact ⟨0, ⟨by omega⟩, rfl, Nat.zero_le _, ⟨Below.refl _ _⟩⟩
              case round =>
                obtain ⟨j, HJ, rfl, hj, HBz⟩ := hrel
                by_cases hjn : j < rs.length
                · have hlen := HLEN.out
                  obtain ⟨adr, he, c0, c2⟩ := rtxn_at (Kd.C_below HVC.out HBz.out) j hjn hjn
                  have h2 : ((rs[j].f2) == 0) = false := by simpa using (HNZ.out _ (List.getElem_mem hjn)).1
                  subst he
                  by_cases hj0 : 0 < j
                  · have d0 : decide ((0 : Int) < (j : Int)) = true := by simp; omega
                    obtain ⟨i, hij⟩ : ∃ i, j = i + 1 := ⟨j - 1, by omega⟩
                    have hi1 : i < rs.length := by omega
                    obtain ⟨adr', he', b0, b2⟩ := rtxn_at (Kd.C_below HVC.out HBz.out) i hi1 hi1
                    cases he'
                    have hlt' : rs[i].f0 < rs[j].f0 := HRISE.out i j hi1 hjn (by omega)
                    have d1 : decide (rs[j].f0 ≤ rs[i].f0) = false := by simp; omega
                    have hw1 : IntKind.i64.wrap ((j : Int) - 1) = (i : Int) := by rw [i64w (by omega) (by omega)]; omega
                    have hw2 : wrap64 ((j : Int) - 1) = (i : Int) := by rw [w64 (by omega) (by omega)]; omega
                    have hw3 : (j : Int) - 1 = (i : Int) := by omega
                    have HIJ := Aside0.mk hij
                    clear hij
                    go_wp2_with fail
                    refine start_ (n := 24) (S := fun wx => wx.cell? (adr.add (j * 3)) = some (.int .i64 rs[j].f0) ∧ wx.cell? ⟨(adr.add (j * 3)).block, (adr.add (j * 3)).off + 2, none⟩ = some (.int .u64 rs[j].f2) ∧ wx.cell? (adr.add (i * 3)) = some (.int .i64 rs[i].f0)) (ds := []) #[false, false, false, false, false, false, false, false, false, false, false, false, false, false, false, false, false, false, false, false, false, false, false, false] (by kernel_rfl) rfl rfl (⟨c0, c2, b0⟩) (fun hHeld => ?_)
                    refine pure_ (i := 0) (N := some 147) (v := ?_) (a' := ?_) #[true, false, false, false, false, false, false, false, false, false, false, false, false, false, false, false, false, false, false, false, false, false, false, false] rfl rfl (by kernel_rfl) (fun _ _ _ h => h) (Or.inl ⟨by rfl, ?_⟩) ?_ ?_
                    rotate_left
                    · intro w'
                      go_simp
                      all_goals (with_reducible rfl)
                    rotate_left
                    · simp only [Act.put, List.setIfInBounds_toArray, List.set_cons_zero, List.set_cons_succ, i64_w, i32_w]
                      rfl
                    refine pure_ (i := 1) (N := some 148) (v := .bool true) (a' := ?_) #[true, true, false, false, false, false, false, false, false, false, false, false, false, false, false, false, false, false, false, false, false, false, false, false] rfl rfl (by kernel_rfl) (fun _ _ _ h => h) (Or.inl ⟨by rfl, ?_⟩) ?_ ?_
                    · intro w'
                      go_simp
                      all_goals (first | rfl | (simp; done) | (simp [d0]; done) | (simp; omega) | omega)
                    rotate_left
                    · simp only [Act.put, List.setIfInBounds_toArray, List.set_cons_zero, List.set_cons_succ, i64_w, i32_w]
                      rfl
                    refine pure_ (i := 2) (N := some 149) (v := ?_) (a' := ?_) #[true, true, true, false, false, false, false, false, false, false, false, false, false, false, false, false, false, false, false, false, false, false, false, false] rfl rfl (by kernel_rfl) (fun _ _ _ h => h) (Or.inl ⟨by rfl, ?_⟩) ?_ ?_
                    rotate_left
                    · intro w'
                      go_simp
                      all_goals (with_reducible rfl)
                    rotate_left
                    · simp only [Act.put, List.setIfInBounds_toArray, List.set_cons_zero, List.set_cons_succ, i64_w, i32_w]
                      rfl
                    refine pure_ (i := 3) (N := some 150) (v := ?_) (a' := ?_) #[true, true, true, true, false, false, false, false, false, false, false, false, false, false, false, false, false, false, false, false, false, false, false, false] rfl rfl (by kernel_rfl) (fun _ _ _ h => h) (Or.inl ⟨by rfl, ?_⟩) ?_ ?_
                    rotate_left
                    · intro w'
                      go_simp
                      all_goals (with_reducible rfl)
                    rotate_left
                    · simp only [Act.put, List.setIfInBounds_toArray, List.set_cons_zero, List.set_cons_succ, i64_w, i32_w]
                      rfl
                    refine pure_ (i := 4) (N := some 151) (v := ?_) (a' := ?_) #[true, true, true, true, true, false, false, false, false, false, false, false, false, false, false, false, false, false, false, false, false, false, false, false] rfl rfl (by kernel_rfl) (fun _ _ _ h => h) (Or.inl ⟨by rfl, ?_⟩) ?_ ?_
                    rotate_left
                    · intro w'
                      go_simp
                      all_goals (with_reducible rfl)
                    rotate_left
                    · simp only [Act.put, List.setIfInBounds_toArray, List.set_cons_zero, List.set_cons_succ, i64_w, i32_w]
                      rfl
                    refine pure_ (i := 5) (N := some 152) (v := .int .i64 (i : Int)) (a' := ?_) #[true, true, true, true, true, true, false, false, false, false, false, false, false, false, false, false, false, false, false, false, false, false, false, false] rfl rfl (by kernel_rfl) (fun _ _ _ h => h) (Or.inl ⟨by rfl, ?_⟩) ?_ ?_
                    · intro w'
                      go_simp
                      all_goals (first | (simp [hw1]; done) | (simp [hw2]; done) | (simp [hw3]; done) | rfl | (rw [hw1]; done) | (rw [hw1]; rfl) | (rw [hw2]; rfl) | (rw [hw3]; rfl) | omega | exact i64w (by omega) (by omega))
                    rotate_left
                    · simp only [Act.put, List.setIfInBounds_toArray, List.set_cons_zero, List.set_cons_succ, i64_w, i32_w]
                      rfl
                    refine pure_ (i := 6) (N := some 153) (v := .pointer (some (adr.add (i * 3)))) (a' := ?_) #[true, true, true, true, true, true, true, false, false, false, false, false, false, false, false, false, false, false, false, false, false, false, false, false] rfl rfl (by kernel_rfl) (fun _ _ _ h => h) (Or.inl ⟨by rfl, ?_⟩) ?_ ?_
                    · intro w'
                      go_simp
                      all_goals (first | rfl | (rw [if_pos (by omega)]; done) | (rw [if_pos (by omega)]; rfl) | (simp; done))
                    rotate_left
                    · simp only [Act.put, List.setIfInBounds_toArray, List.set_cons_zero, List.set_cons_succ, i64_w, i32_w]
                      rfl
                    refine pure_ (i := 7) (N := some 154) (v := ?_) (a' := ?_) #[true, true, true, true, true, true, true, true, false, false, false, false, false, false, false, false, false, false, false, false, false, false, false, false] rfl rfl (by kernel_rfl) (fun _ _ _ h => h) (Or.inl ⟨by rfl, ?_⟩) ?_ ?_
                    rotate_left
                    · intro w'
                      go_simp
                      all_goals (with_reducible rfl)
                    rotate_left
                    · simp only [Act.put, List.setIfInBounds_toArray, List.set_cons_zero, List.set_cons_succ, i64_w, i32_w]
                      rfl
                    refine pure_ (i := 9) (N := some 156) (v := ?_) (a' := ?_) #[true, true, true, true, true, true, true, true, false, true, false, false, false, false, false, false, false, false, false, false, false, false, false, false] rfl rfl (by kernel_rfl) (fun _ _ _ h => h) (Or.inl ⟨by rfl, ?_⟩) ?_ ?_
                    rotate_left
                    · intro w'
                      go_simp
                      all_goals (with_reducible rfl)
                    rotate_left
                    · simp only [Act.put, List.setIfInBounds_toArray, List.set_cons_zero, List.set_cons_succ, i64_w, i32_w]
                      rfl
                    refine pure_ (i := 10) (N := some 157) (v := ?_) (a' := ?_) #[true, true, true, true, true, true, true, true, false, true, true, false, false, false, false, false, false, false, false, false, false, false, false, false] rfl rfl (by kernel_rfl) (fun _ _ _ h => h) (Or.inl ⟨by rfl, ?_⟩) ?_ ?_
                    rotate_left
                    · intro w'
                      go_simp
                      all_goals (with_reducible rfl)
                    rotate_left
                    · simp only [Act.put, List.setIfInBounds_toArray, List.set_cons_zero, List.set_cons_succ, i64_w, i32_w]
                      rfl
                    refine pure_ (i := 11) (N := some 158) (v := .pointer (some (adr.add (j * 3)))) (a' := ?_) #[true, true, true, true, true, true, true, true, false, true, true, true, false, false, false, false, false, false, false, false, false, false, false, false] rfl rfl (by kernel_rfl) (fun _ _ _ h => h) (Or.inl ⟨by rfl, ?_⟩) ?_ ?_
                    · intro w'
                      go_simp
                      all_goals (first | rfl | (rw [if_pos (by omega)]; done) | (rw [if_pos (by omega)]; rfl) | (simp; done))
                    rotate_left
                    · simp only [Act.put, List.setIfInBounds_toArray, List.set_cons_zero, List.set_cons_succ, i64_w, i32_w]
                      rfl
                    refine pure_ (i := 12) (N := some 159) (v := ?_) (a' := ?_) #[true, true, true, true, true, true, true, true, false, true, true, true, true, false, false, false, false, false, false, false, false, false, false, false] rfl rfl (by kernel_rfl) (fun _ _ _ h => h) (Or.inl ⟨by rfl, ?_⟩) ?_ ?_
                    rotate_left
                    · intro w'
                      go_simp
                      all_goals (with_reducible rfl)
                    rotate_left
                    · simp only [Act.put, List.setIfInBounds_toArray, List.set_cons_zero, List.set_cons_succ, i64_w, i32_w]
                      rfl
                    refine take_ (i := 8) (N := some 155) (v := ?_) (a' := ?_) #[true, true, true, true, true, true, true, true, true, true, true, true, true, false, false, false, false, false, false, false, false, false, false, false] rfl rfl (by kernel_rfl) (fun _ _ _ h => h) (Or.inl ⟨by rfl, ?_⟩) hHeld ?_ ?_
                    rotate_left
                    · intro w' hSw
                      (try dsimp only at hSw)
                      go_simp
                      all_goals (with_reducible rfl)
                    rotate_left
                    · simp only [Act.put, List.setIfInBounds_toArray, List.set_cons_zero, List.set_cons_succ, i64_w, i32_w]
                      rfl
                    refine take_ (i := 13) (N := some 160) (v := ?_) (a' := ?_) #[true, true, true, true, true, true, true, true, true, true, true, true, true, true, false, false, false, false, false, false, false, false, false, false] rfl rfl (by kernel_rfl) (fun _ _ _ h => h) (Or.inl ⟨by rfl, ?_⟩) hHeld ?_ ?_
                    rotate_left
                    · intro w' hSw
                      (try dsimp only at hSw)
                      go_simp
                      all_goals (with_reducible rfl)
                    rotate_left
                    · simp only [Act.put, List.setIfInBounds_toArray, List.set_cons_zero, List.set_cons_succ, i64_w, i32_w]
                      rfl
                    refine pure_ (i := 14) (N := some 161) (v := .bool false) (a' := ?_) #[true, true, true, true, true, true, true, true, true, true, true, true, true, true, true, false, false, false, false, false, false, false, false, false] rfl rfl (by kernel_rfl) (fun _ _ _ h => h) (Or.inl ⟨by rfl, ?_⟩) ?_ ?_
                    · intro w'
                      go_simp
                      all_goals (first | (simp [d1]; done) | rfl | (simp; omega))
                    rotate_left
                    · simp only [Act.put, List.setIfInBounds_toArray, List.set_cons_zero, List.set_cons_succ, i64_w, i32_w]
                      rfl
                    refine pure_ (i := 15) (N := some 162) (v := ?_) (a' := ?_) #[true, true, true, true, true, true, true, true, true, true, true, true, true, true, true, true, false, false, false, false, false, false, false, false] rfl rfl (by kernel_rfl) (fun _ _ _ h => h) (Or.inl ⟨by rfl, ?_⟩) ?_ ?_
                    rotate_left
                    · intro w'
                      go_simp
                      all_goals (with_reducible rfl)
                    rotate_left
                    · simp only [Act.put, List.setIfInBounds_toArray, List.set_cons_zero, List.set_cons_succ, i64_w, i32_w]
                      rfl
                    refine pure_ (i := 16) (N := some 163) (v := ?_) (a' := ?_) #[true, true, true, true, true, true, true, true, true, true, true, true, true, true, true, true, true, false, false, false, false, false, false, false] rfl rfl (by kernel_rfl) (fun _ _ _ h => h) (Or.inl ⟨by rfl, ?_⟩) ?_ ?_
                    rotate_left
                    · intro w'
                      go_simp
                      all_goals (with_reducible rfl)
                    rotate_left
                    · simp only [Act.put, List.setIfInBounds_toArray, List.set_cons_zero, List.set_cons_succ, i64_w, i32_w]
                      rfl
                    refine pure_ (i := 17) (N := some 164) (v := ?_) (a' := ?_) #[true, true, true, true, true, true, true, true, true, true, true, true, true, true, true, true, true, true, false, false, false, false, false, false] rfl rfl (by kernel_rfl) (fun _ _ _ h => h) (Or.inl ⟨by rfl, ?_⟩) ?_ ?_
                    rotate_left
                    · intro w'
                      go_simp
                      all_goals (with_reducible rfl)
                    rotate_left
                    · simp only [Act.put, List.setIfInBounds_toArray, List.set_cons_zero, List.set_cons_succ, i64_w, i32_w]
                      rfl
                    refine pure_ (i := 18) (N := some 165) (v := ?_) (a' := ?_) #[true, true, true, true, true, true, true, true, true, true, true, true, true, true, true, true, true, true, true, false, false, false, false, false] rfl rfl (by kernel_rfl) (fun _ _ _ h => h) (Or.inl ⟨by rfl, ?_⟩) ?_ ?_
                    rotate_left
                    · intro w'
                      go_simp
                      all_goals (with_reducible rfl)
                    rotate_left
                    · simp only [Act.put, List.setIfInBounds_toArray, List.set_cons_zero, List.set_cons_succ, i64_w, i32_w]
                      rfl
                    refine pure_ (i := 19) (N := some 166) (v := .pointer (some (adr.add (j * 3)))) (a' := ?_) #[true, true, true, true, true, true, true, true, true, true, true, true, true, true, true, true, true, true, true, true, false, false, false, false] rfl rfl (by kernel_rfl) (fun _ _ _ h => h) (Or.inl ⟨by rfl, ?_⟩) ?_ ?_
                    · intro w'
                      go_simp
                      all_goals (first | rfl | (rw [if_pos (by omega)]; done) | (rw [if_pos (by omega)]; rfl) | (simp; done))
                    rotate_left
                    · simp only [Act.put, List.setIfInBounds_toArray, List.set_cons_zero, List.set_cons_succ, i64_w, i32_w]
                      rfl
                    refine pure_ (i := 20) (N := some 167) (v := ?_) (a' := ?_) #[true, true, true, true, true, true, true, true, true, true, true, true, true, true, true, true, true, true, true, true, true, false, false, false] rfl rfl (by kernel_rfl) (fun _ _ _ h => h) (Or.inl ⟨by rfl, ?_⟩) ?_ ?_
                    rotate_left
                    · intro w'
                      go_simp
                      all_goals (with_reducible rfl)
                    rotate_left
                    · simp only [Act.put, List.setIfInBounds_toArray, List.set_cons_zero, List.set_cons_succ, i64_w, i32_w]
                      rfl
                    refine take_ (i := 21) (N := some 168) (v := ?_) (a' := ?_) #[true, true, true, true, true, true, true, true, true, true, true, true, true, true, true, true, true, true, true, true, true, true, false, false] rfl rfl (by kernel_rfl) (fun _ _ _ h => h) (Or.inl ⟨by rfl, ?_⟩) hHeld ?_ ?_
                    rotate_left
                    · intro w' hSw
                      (try dsimp only at hSw)
                      go_simp
                      all_goals (with_reducible rfl)
                    rotate_left
                    · simp only [Act.put, List.setIfInBounds_toArray, List.set_cons_zero, List.set_cons_succ, i64_w, i32_w]
                      rfl
                    refine pure_ (i := 22) (N := some 169) (v := .bool false) (a' := ?_) #[true, true, true, true, true, true, true, true, true, true, true, true, true, true, true, true, true, true, true, true, true, true, true, false] rfl rfl (by kernel_rfl) (fun _ _ _ h => h) (Or.inl ⟨by rfl, ?_⟩) ?_ ?_
                    · intro w'
                      go_simp
                      all_goals (first | (simp [h2]; done) | rfl)
                    rotate_left
                    · simp only [Act.put, List.setIfInBounds_toArray, List.set_cons_zero, List.set_cons_succ, i64_w, i32_w]
                      rfl
                    refine pure_ (i := 23) (N := some 170) (v := ?_) (a' := ?_) #[true, true, true, true, true, true, true, true, true, true, true, true, true, true, true, true, true, true, true, true, true, true, true, true] rfl rfl (by kernel_rfl) (fun _ _ _ h => h) (Or.inl ⟨by rfl, ?_⟩) ?_ ?_
                    rotate_left
                    · intro w'
                      go_simp
                      all_goals (with_reducible rfl)
                    rotate_left
                    · simp only [Act.put, List.setIfInBounds_toArray, List.set_cons_zero, List.set_cons_succ, i64_w, i32_w]
                      rfl
                    refine done_ (by kernel_rfl) ?_
                    clear hw1 hw2 hw3
                    go_wp2_with fail
                    go_roundg (gk - 1)
                    case measure => have := HJ.out; omega
                    case rel => exact ⟨j + 1, ⟨by have := HJ.out; omega⟩, (by go_num), by omega, ⟨HBz.out.trans ⟨rfl, rfl, rfl, Nat.le_refl _, fun _ _ => rfl⟩⟩⟩
                  · have d0 : decide ((0 : Int) < (j : Int)) = false := by simp; omega
                    go_wp2_with fail
                    refine start_ (n := 24) (S := fun wx => wx.cell? ⟨(adr.add (j * 3)).block, (adr.add (j * 3)).off + 2, none⟩ = some (.int .u64 rs[j].f2)) (ds := []) #[false, false, false, false, false, false, false, false, false, false, false, false, false, false, false, false, false, false, false, false, false, false, false, false] (by kernel_rfl) rfl rfl (c2) (fun hHeld => ?_)
                    refine pure_ (i := 0) (N := some 147) (v := ?_) (a' := ?_) #[true, false, false, false, false, false, false, false, false, false, false, false, false, false, false, false, false, false, false, false, false, false, false, false] rfl rfl (by kernel_rfl) (fun _ _ _ h => h) (Or.inl ⟨by rfl, ?_⟩) ?_ ?_
                    rotate_left
                    · intro w'
                      go_simp
                      all_goals (with_reducible rfl)
                    rotate_left
                    · simp only [Act.put, List.setIfInBounds_toArray, List.set_cons_zero, List.set_cons_succ, i64_w, i32_w]
                      rfl
                    refine pure_ (i := 1) (N := some 148) (v := .bool false) (a' := ?_) #[true, true, false, false, false, false, false, false, false, false, false, false, false, false, false, false, false, false, false, false, false, false, false, false] rfl rfl (by kernel_rfl) (fun _ _ _ h => h) (Or.inl ⟨by rfl, ?_⟩) ?_ ?_
                    · intro w'
                      go_simp
                      all_goals (first | rfl | (simp; done) | (simp [d0]; done) | (simp; omega) | omega)
                    rotate_left
                    · simp only [Act.put, List.setIfInBounds_toArray, List.set_cons_zero, List.set_cons_succ, i64_w, i32_w]
                      rfl
                    refine pure_ (i := 2) (N := some 149) (v := ?_) (a' := ?_) #[true, true, true, false, false, false, false, false, false, false, false, false, false, false, false, false, false, false, false, false, false, false, false, false] rfl rfl (by kernel_rfl) (fun _ _ _ h => h) (Or.inl ⟨by rfl, ?_⟩) ?_ ?_
                    rotate_left
                    · intro w'
                      go_simp
                      all_goals (with_reducible rfl)
                    rotate_left
                    · simp only [Act.put, List.setIfInBounds_toArray, List.set_cons_zero, List.set_cons_succ, i64_w, i32_w]
                      rfl
                    refine pure_ (i := 3) (N := some 150) (v := undef) (a' := ?_) #[true, true, true, true, false, false, false, false, false, false, false, false, false, false, false, false, false, false, false, false, false, false, false, false] rfl rfl (by kernel_rfl) (fun _ _ _ h => h) (Or.inr ⟨by rfl, rfl⟩) ?_ ?_
                    rotate_left
                    · simp only [Act.put, List.setIfInBounds_toArray, List.set_cons_zero, List.set_cons_succ, i64_w, i32_w]
                      rfl
                    refine pure_ (i := 4) (N := some 151) (v := undef) (a' := ?_) #[true, true, true, true, true, false, false, false, false, false, false, false, false, false, false, false, false, false, false, false, false, false, false, false] rfl rfl (by kernel_rfl) (fun _ _ _ h => h) (Or.inr ⟨by rfl, rfl⟩) ?_ ?_
                    rotate_left
                    · simp only [Act.put, List.setIfInBounds_toArray, List.set_cons_zero, List.set_cons_succ, i64_w, i32_w]
                      rfl
                    refine pure_ (i := 5) (N := some 152) (v := undef) (a' := ?_) #[true, true, true, true, true, true, false, false, false, false, false, false, false, false, false, false, false, false, false, false, false, false, false, false] rfl rfl (by kernel_rfl) (fun _ _ _ h => h) (Or.inr ⟨by rfl, rfl⟩) ?_ ?_
                    rotate_left
                    · simp only [Act.put, List.setIfInBounds_toArray, List.set_cons_zero, List.set_cons_succ, i64_w, i32_w]
                      rfl
                    refine pure_ (i := 6) (N := some 153) (v := undef) (a' := ?_) #[true, true, true, true, true, true, true, false, false, false, false, false, false, false, false, false, false, false, false, false, false, false, false, false] rfl rfl (by kernel_rfl) (fun _ _ _ h => h) (Or.inr ⟨by rfl, rfl⟩) ?_ ?_
                    rotate_left
                    · simp only [Act.put, List.setIfInBounds_toArray, List.set_cons_zero, List.set_cons_succ, i64_w, i32_w]
                      rfl
                    refine pure_ (i := 7) (N := some 154) (v := undef) (a' := ?_) #[true, true, true, true, true, true, true, true, false, false, false, false, false, false, false, false, false, false, false, false, false, false, false, false] rfl rfl (by kernel_rfl) (fun _ _ _ h => h) (Or.inr ⟨by rfl, rfl⟩) ?_ ?_
                    rotate_left
                    · simp only [Act.put, List.setIfInBounds_toArray, List.set_cons_zero, List.set_cons_succ, i64_w, i32_w]
                      rfl
                    refine pure_ (i := 9) (N := some 156) (v := undef) (a' := ?_) #[true, true, true, true, true, true, true, true, false, true, false, false, false, false, false, false, false, false, false, false, false, false, false, false] rfl rfl (by kernel_rfl) (fun _ _ _ h => h) (Or.inr ⟨by rfl, rfl⟩) ?_ ?_
                    rotate_left
                    · simp only [Act.put, List.setIfInBounds_toArray, List.set_cons_zero, List.set_cons_succ, i64_w, i32_w]
                      rfl
                    refine pure_ (i := 10) (N := some 157) (v := undef) (a' := ?_) #[true, true, true, true, true, true, true, true, false, true, true, false, false, false, false, false, false, false, false, false, false, false, false, false] rfl rfl (by kernel_rfl) (fun _ _ _ h => h) (Or.inr ⟨by rfl, rfl⟩) ?_ ?_
                    rotate_left
                    · simp only [Act.put, List.setIfInBounds_toArray, List.set_cons_zero, List.set_cons_succ, i64_w, i32_w]
                      rfl
                    refine pure_ (i := 11) (N := some 158) (v := undef) (a' := ?_) #[true, true, true, true, true, true, true, true, false, true, true, true, false, false, false, false, false, false, false, false, false, false, false, false] rfl rfl (by kernel_rfl) (fun _ _ _ h => h) (Or.inr ⟨by rfl, rfl⟩) ?_ ?_
                    rotate_left
                    · simp only [Act.put, List.setIfInBounds_toArray, List.set_cons_zero, List.set_cons_succ, i64_w, i32_w]
                      rfl
                    refine pure_ (i := 12) (N := some 159) (v := undef) (a' := ?_) #[true, true, true, true, true, true, true, true, false, true, true, true, true, false, false, false, false, false, false, false, false, false, false, false] rfl rfl (by kernel_rfl) (fun _ _ _ h => h) (Or.inr ⟨by rfl, rfl⟩) ?_ ?_
                    rotate_left
                    · simp only [Act.put, List.setIfInBounds_toArray, List.set_cons_zero, List.set_cons_succ, i64_w, i32_w]
                      rfl
                    refine pure_ (i := 8) (N := some 155) (v := undef) (a' := ?_) #[true, true, true, true, true, true, true, true, true, true, true, true, true, false, false, false, false, false, false, false, false, false, false, false] rfl rfl (by kernel_rfl) (fun _ _ _ h => h) (Or.inr ⟨by rfl, rfl⟩) ?_ ?_
                    rotate_left
                    · simp only [Act.put, List.setIfInBounds_toArray, List.set_cons_zero, List.set_cons_succ, i64_w, i32_w]
                      rfl
                    refine pure_ (i := 13) (N := some 160) (v := undef) (a' := ?_) #[true, true, true, true, true, true, true, true, true, true, true, true, true, true, false, false, false, false, false, false, false, false, false, false] rfl rfl (by kernel_rfl) (fun _ _ _ h => h) (Or.inr ⟨by rfl, rfl⟩) ?_ ?_
                    rotate_left
                    · simp only [Act.put, List.setIfInBounds_toArray, List.set_cons_zero, List.set_cons_succ, i64_w, i32_w]
                      rfl
                    refine pure_ (i := 14) (N := some 161) (v := undef) (a' := ?_) #[true, true, true, true, true, true, true, true, true, true, true, true, true, true, true, false, false, false, false, false, false, false, false, false] rfl rfl (by kernel_rfl) (fun _ _ _ h => h) (Or.inr ⟨by rfl, rfl⟩) ?_ ?_
                    rotate_left
                    · simp only [Act.put, List.setIfInBounds_toArray, List.set_cons_zero, List.set_cons_succ, i64_w, i32_w]
                      rfl
                    refine pure_ (i := 15) (N := some 162) (v := ?_) (a' := ?_) #[true, true, true, true, true, true, true, true, true, true, true, true, true, true, true, true, false, false, false, false, false, false, false, false] rfl rfl (by kernel_rfl) (fun _ _ _ h => h) (Or.inl ⟨by rfl, ?_⟩) ?_ ?_
                    rotate_left
                    · intro w'
                      go_simp
                      all_goals (with_reducible rfl)
                    rotate_left
                    · simp only [Act.put, List.setIfInBounds_toArray, List.set_cons_zero, List.set_cons_succ, i64_w, i32_w]
                      rfl
                    refine pure_ (i := 16) (N := some 163) (v := ?_) (a' := ?_) #[true, true, true, true, true, true, true, true, true, true, true, true, true, true, true, true, true, false, false, false, false, false, false, false] rfl rfl (by kernel_rfl) (fun _ _ _ h => h) (Or.inl ⟨by rfl, ?_⟩) ?_ ?_
                    rotate_left
                    · intro w'
                      go_simp
                      all_goals (with_reducible rfl)
                    rotate_left
                    · simp only [Act.put, List.setIfInBounds_toArray, List.set_cons_zero, List.set_cons_succ, i64_w, i32_w]
                      rfl
                    refine pure_ (i := 17) (N := some 164) (v := ?_) (a' := ?_) #[true, true, true, true, true, true, true, true, true, true, true, true, true, true, true, true, true, true, false, false, false, false, false, false] rfl rfl (by kernel_rfl) (fun _ _ _ h => h) (Or.inl ⟨by rfl, ?_⟩) ?_ ?_
                    rotate_left
                    · intro w'
                      go_simp
                      all_goals (with_reducible rfl)
                    rotate_left
                    · simp only [Act.put, List.setIfInBounds_toArray, List.set_cons_zero, List.set_cons_succ, i64_w, i32_w]
                      rfl
                    refine pure_ (i := 18) (N := some 165) (v := ?_) (a' := ?_) #[true, true, true, true, true, true, true, true, true, true, true, true, true, true, true, true, true, true, true, false, false, false, false, false] rfl rfl (by kernel_rfl) (fun _ _ _ h => h) (Or.inl ⟨by rfl, ?_⟩) ?_ ?_
                    rotate_left
                    · intro w'
                      go_simp
                      all_goals (with_reducible rfl)
                    rotate_left
                    · simp only [Act.put, List.setIfInBounds_toArray, List.set_cons_zero, List.set_cons_succ, i64_w, i32_w]
                      rfl
                    refine pure_ (i := 19) (N := some 166) (v := .pointer (some (adr.add (j * 3)))) (a' := ?_) #[true, true, true, true, true, true, true, true, true, true, true, true, true, true, true, true, true, true, true, true, false, false, false, false] rfl rfl (by kernel_rfl) (fun _ _ _ h => h) (Or.inl ⟨by rfl, ?_⟩) ?_ ?_
                    · intro w'
                      go_simp
                      all_goals (first | rfl | (rw [if_pos (by omega)]; done) | (rw [if_pos (by omega)]; rfl) | (simp; done))
                    rotate_left
                    · simp only [Act.put, List.setIfInBounds_toArray, List.set_cons_zero, List.set_cons_succ, i64_w, i32_w]
                      rfl
                    refine pure_ (i := 20) (N := some 167) (v := ?_) (a' := ?_) #[true, true, true, true, true, true, true, true, true, true, true, true, true, true, true, true, true, true, true, true, true, false, false, false] rfl rfl (by kernel_rfl) (fun _ _ _ h => h) (Or.inl ⟨by rfl, ?_⟩) ?_ ?_
                    rotate_left
                    · intro w'
                      go_simp
                      all_goals (with_reducible rfl)
                    rotate_left
                    · simp only [Act.put, List.setIfInBounds_toArray, List.set_cons_zero, List.set_cons_succ, i64_w, i32_w]
                      rfl
                    refine take_ (i := 21) (N := some 168) (v := ?_) (a' := ?_) #[true, true, true, true, true, true, true, true, true, true, true, true, true, true, true, true, true, true, true, true, true, true, false, false] rfl rfl (by kernel_rfl) (fun _ _ _ h => h) (Or.inl ⟨by rfl, ?_⟩) hHeld ?_ ?_
                    rotate_left
                    · intro w' hSw
                      (try dsimp only at hSw)
                      go_simp
                      all_goals (with_reducible rfl)
                    rotate_left
                    · simp only [Act.put, List.setIfInBounds_toArray, List.set_cons_zero, List.set_cons_succ, i64_w, i32_w]
                      rfl
                    refine pure_ (i := 22) (N := some 169) (v := .bool false) (a' := ?_) #[true, true, true, true, true, true, true, true, true, true, true, true, true, true, true, true, true, true, true, true, true, true, true, false] rfl rfl (by kernel_rfl) (fun _ _ _ h => h) (Or.inl ⟨by rfl, ?_⟩) ?_ ?_
                    · intro w'
                      go_simp
                      all_goals (first | (simp [h2]; done) | rfl)
                    rotate_left
                    · simp only [Act.put, List.setIfInBounds_toArray, List.set_cons_zero, List.set_cons_succ, i64_w, i32_w]
                      rfl
                    refine pure_ (i := 23) (N := some 170) (v := ?_) (a' := ?_) #[true, true, true, true, true, true, true, true, true, true, true, true, true, true, true, true, true, true, true, true, true, true, true, true] rfl rfl (by kernel_rfl) (fun _ _ _ h => h) (Or.inl ⟨by rfl, ?_⟩) ?_ ?_
                    rotate_left
                    · intro w'
                      go_simp
                      all_goals (with_reducible rfl)
                    rotate_left
                    · simp only [Act.put, List.setIfInBounds_toArray, List.set_cons_zero, List.set_cons_succ, i64_w, i32_w]
                      rfl
                    refine done_ (by kernel_rfl) ?_
                    go_wp2_with fail
                    go_roundg (gk - 1)
                    case measure => have := HJ.out; omega
                    case rel => exact ⟨j + 1, ⟨by have := HJ.out; omega⟩, (by go_num), by omega, ⟨HBz.out.trans ⟨rfl, rfl, rfl, Nat.le_refl _, fun _ _ => rfl⟩⟩⟩
                · obtain rfl : j = rs.length := by omega
                  go_wp2_with fail
                  go_roundg (gk0 - 1)
                  case measure => have := HK.out; have := HG0.out; omega
                  case rel => exact ⟨k + 1, bx', ks', X', S', ⟨by have := HK.out; have := HG0.out; omega⟩, (by go_num), by omega, by omega, ⟨HT9.out.next HBz.out⟩, HN6, HS6⟩
    · by_cases h100 : k < 100
      · have hd1 : decide ((k : Int) < l.length) = false := by simp; omega
        have HBn := Aside0.mk (HT.out.tab.bel.below (fun _ h => h))
        go_wp2_with fail
        refine (lives17 _).mono ?_
        rintro e wq ⟨rfl, hb⟩
        have HBq := Aside0.mk (below_then HBn.out HBn.out.size hb)
        clear hb
        go_wp2_with fail
        go_ret
        exact ⟨rfl, HBq.out⟩
      · have hd1 : decide ((k : Int) < 100) = false := by simp; omega
        by_cases hlt : k < l.length
        ·
          have HBn := Aside0.mk (HT.out.tab.bel.below (fun _ h => h))
          go_wp2_with fail
          refine (lives17 _).mono ?_
          rintro e wq ⟨rfl, hb⟩
          have HBq := Aside0.mk (below_then HBn.out HBn.out.size hb)
          clear hb
          go_wp2_with fail
          go_ret
          exact ⟨rfl, HBq.out⟩
        ·
          have HBn := Aside0.mk (HT.out.tab.bel.below (fun _ h => h))
          go_wp2_with fail
          refine (lives17 _).mono ?_
          rintro e wq ⟨rfl, hb⟩
          have HBq := Aside0.mk (below_then HBn.out HBn.out.size hb)
          clear hb
          go_wp2_with fail
          go_ret
          exact ⟨rfl, HBq.out⟩
end Go.Proofs.Yteaklmafjmnmiaa
end
