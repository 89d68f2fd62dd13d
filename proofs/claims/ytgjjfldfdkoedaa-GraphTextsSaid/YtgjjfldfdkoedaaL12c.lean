/- Layer 12: GraphOrder's walk. -/
import Derived.Test.YtgjjfldfdkoedaaL12b
namespace Go.Proofs.Ytgjjfldfdkoedaa
open Go.RowKit Go.Proofs.YtgjjfldfdkoedaaW.PrintWords Go.Proofs.YtgjjfldfdkoedaaW.PrintLast Go.Proofs.YtgjjfldfdkoedaaW.PrintMore
open Rf MapL Graph
set_option linter.unusedVariables false
set_option linter.unusedSimpArgs false
theorem edgesOf_nodup (l : List SGEdge) : (edgesOf l).Nodup := by
  have h : ∀ (l : List SGEdge) (ks : List (Int × Int)), ks.Nodup → (l.foldl (fun ks e => addK ks (pr e)) ks).Nodup := by
    intro l
    induction l with
    | nil => intro ks h; exact h
    | cons e l ih =>
      intro ks h
      rw [List.foldl_cons]
      refine ih _ ?_
      unfold addK
      split
      · exact h
      · rename_i hx; exact nodup_snoc h hx
  exact h l [] List.nodup_nil
theorem same_length {α : Type} [DecidableEq α] {l m : List α} (hl : l.Nodup) (hm : m.Nodup) (h : ∀ x, x ∈ l ↔ x ∈ m) : l.length = m.length :=
  Nat.le_antisymm (nodup_le hl (fun x hx => (h x).1 hx)) (nodup_le hm (fun x hx => (h x).2 hx))
theorem sub_ring {E E' : List (Int × Int)} {a : Int} {L L' : List Int} (h : RingL (· < ·) E a L) (h' : RingL (· < ·) E' a L') (hs : ∀ e ∈ E, e ∈ E') {x : Int} (hx : x ∈ L) : x ∈ L' :=
  (h'.mem x).2 ⟨((h.mem x).1 hx).1.mono hs, ((h.mem x).1 hx).2.mono hs⟩
set_option maxRecDepth 100000 in
set_option maxHeartbeats 4000000 in
theorem order_walk (w : World) (A : Option Addr) (c : Nat) (l : List SGEdge) (a ex ey : Int) (hC : Kd.C kGEdge w A l.length l) (hl : l.length ≤ 140737488351232) :
    Calls Try.prog 5 #[.slice A l.length c, .int .i64 a, .agg #[.int .i64 ex, .int .i64 ey]] w fun e w' => e = .returned (.bool true) ∧ Below w.heap.size w w' := by
  have HC := Aside0.mk hC
  clear hC
  go_enter Try.func5, Try.ntmps5
  have hb0 : Below w.heap.size w (w.alloc (.cells #[.int .i64 ex, .int .i64 ey] 28)) := below_alloc (Below.refl _ _) _
  have hx0 := heap_alloc_new w (.cells #[.int .i64 ex, .int .i64 ey] 28)
  obtain ⟨n, hn⟩ : ∃ n : Nat, n = min 60 l.length := ⟨_, rfl⟩
  have hnl : n ≤ l.length := by omega
  have hn60 : n ≤ 60 := by omega
  have HNE := Aside0.mk (show l.take n = l.take 60 from by
    rw [hn]
    by_cases h : 60 ≤ l.length
    · rw [Nat.min_eq_left h]
    · rw [Nat.min_eq_right (by omega), List.take_of_length_le (Nat.le_refl _), List.take_of_length_le (by omega)])
  by_cases hbig : 60 < l.length
  all_goals
    have e1 : (n : Int) = if 60 < l.length then 60 else (l.length : Int) := by split <;> omega
    first
      | rw [if_pos hbig] at e1
      | rw [if_neg hbig] at e1
    have HN := Aside0.mk e1
    have HBIG := Aside0.mk hbig
    clear hn e1
    go_wp2_with fail
    clear hbig
    have HB0 := Aside0.mk hb0
    have HX0 := Aside0.mk hx0
    generalize w.alloc (.cells #[.int .i64 ex, .int .i64 ey] 28) = w0 at HB0 HX0 ⊢
    clear hb0 hx0
    first
      | rw [show decide ((60 : Int) < (l.length : Int)) = true from by have := HBIG.out; simp; omega]
      | rw [show decide ((60 : Int) < (l.length : Int)) = false from by have := HBIG.out; simp; omega]
      | skip
    go_loopg [7, 9] n (fun gk v7 v9 wr => ∃ k : Nat, Aside0 (k ≤ gk) ∧ v9 = .int .i64 ((k : Int) - 1) ∧ k ≤ n ∧ Aside0 (Below w.heap.size w wr) ∧ Aside0 (wr.heap[w.heap.size]? = some (.cells #[.int .i64 ex, .int .i64 ey] 28 (0, 0))) ∧
      Aside0 (Kd.R kGEdge 28 wr w.heap.size (fun q => w.heap.size < q) v7 ((l.take n).drop k).reverse))
    case atStart => exact ⟨n, ⟨Nat.le_refl _⟩, (by rw [HN.out]; try rfl), Nat.le_refl _, HB0, HX0, ⟨by rw [List.drop_of_length_le (by rw [List.length_take]; omega)]; exact Kd.R_nil _ _ _ _ _⟩⟩
    case round =>
      obtain ⟨k, HK, rfl, hkn, HB, HX, HR⟩ := hrel
      clear HB0 HX0
      obtain ⟨A7, c7, rfl⟩ := Kd.R_slice HR.out
      by_cases hk0 : k = 0
      · obtain rfl := hk0
        go_wp2_with fail
        -- [T
        obtain ⟨bl, hbl⟩ : ∃ bl, bl = ((l.take n).drop 0).reverse := ⟨_, rfl⟩
        have hR := HR.out
        rw [← hbl] at hR ⊢
        have HBL := Aside0.mk (show bl = (l.take 60).reverse from by rw [hbl, List.drop_zero, HNE.out])
        have hbl60 : bl.length ≤ 60 := by rw [hbl, List.length_reverse, List.length_drop, List.length_take]; omega
        clear hbl HR
        refine (made_calls wr A c l (Kd.C_below HC.out HB.out) hl).mono ?_
        rintro e w1 ⟨g, b, rfl, hg, hb, hG, hB⟩
        have HB1 := Aside0.mk (below_then HB.out HB.out.size hB)
        have HR1 := Aside0.mk (Kd.R_reads' (Kd.R_below hR hB))
        have HX1 := Aside0.mk (blk_below HX.out hB)
        have hlo : w.heap.size ≤ b := Nat.le_trans HB.out.size hb
        have hks := edges_small l
        obtain ⟨ks, hke⟩ : ∃ ks, ks = edgesOf (l.take 60) := ⟨_, rfl⟩
        rw [← hke] at hG hks
        have HKE := Aside0.mk hke
        have HG1 := Aside0.mk hG
        clear hR hg hb hG hB hke HX
        go_wp2_with fail
        refine (made_calls w1 A7 c7 bl HR1.out.2.2 (by omega)).mono ?_
        rintro e w2 ⟨hh, d, rfl, hg, hb, hG, hB⟩
        have HB2 := Aside0.mk (below_then HB1.out HB1.out.size hB)
        have HX2 := Aside0.mk (blk_below HX1.out hB)
        have HG2 := Aside0.mk (HG1.out.below hB)
        have HNB := Aside0.mk (show hh ≠ b ∧ d ≠ b ∧ w.heap.size ≤ b from ⟨by have := HG1.out.map.lt; omega, by have := HG1.out.map.lt; omega, hlo⟩)
        have HLO := Aside0.mk (show w.heap.size ≤ d from Nat.le_trans HB1.out.size hb)
        have hks2 := edges_small bl
        obtain ⟨ks2, hke⟩ : ∃ ks, ks = edgesOf (bl.take 60) := ⟨_, rfl⟩
        rw [← hke] at hG hks2
        have HSAME := Aside0.mk (show ∀ e, e ∈ ks ↔ e ∈ ks2 from fun e => by
          rw [HKE.out, hke, mem_edgesOf, mem_edgesOf, List.take_of_length_le hbl60, HBL.out]; simp)
        have hlen : ks2.length = ks.length := same_length (by rw [hke]; exact edgesOf_nodup _) (by rw [HKE.out]; exact edgesOf_nodup _) (fun e => (HSAME.out e).symm)
        have HH2 := Aside0.mk hG
        have HLEN := Aside0.mk hlen
        clear hg hb hG hB hke hlo hlen
        go_wp2_with fail
        refine (lenI w2 g b ks HG2.out).mono ?_
        rintro e w3 ⟨rfl, rfl⟩
        go_wp2_with fail
        refine (lenI w2 hh d ks2 HH2.out).mono ?_
        rintro e w3 ⟨rfl, rfl⟩
        rw [HLEN.out]
        go_wp2_with fail
        refine (ringI w2 g b ks a HG2.out (by omega)).mono ?_
        rintro e w3 ⟨v3, L, rfl, hR3, hL3, hB⟩
        obtain ⟨A3, c3, rfl⟩ := Kd.R_slice hR3
        have HB3 := Aside0.mk (below_then HB2.out HB2.out.size hB)
        have HX3 := Aside0.mk (blk_below HX2.out hB)
        have HG3 := Aside0.mk (HG2.out.below hB)
        have HH3 := Aside0.mk (HH2.out.below hB)
        have HL := Aside0.mk hL3
        have hll := hL3.le ordI
        have HR3 := Aside0.mk (Kd.R_reads' hR3)
        clear hR3 hL3 hB
        go_wp2_with fail
        refine (ringI w3 hh d ks2 a HH3.out (by omega)).mono ?_
        rintro e w4 ⟨v4, L4, rfl, hR4, hL4, hB⟩
        obtain ⟨A4, c4, rfl⟩ := Kd.R_slice hR4
        obtain rfl := hL4.unique ordI (HL.out.congr HSAME.out)
        have HB4 := Aside0.mk (below_then HB3.out HB3.out.size hB)
        have HX4 := Aside0.mk (blk_below HX3.out hB)
        have HG4 := Aside0.mk (HG3.out.below hB)
        have HH4 := Aside0.mk (HH3.out.below hB)
        have HC3 := Aside0.mk (Kd.C_below HR3.out.2.2 hB)
        have HR4 := Aside0.mk (Kd.R_reads' hR4)
        clear hR4 hL4 hB
        go_wp2_with fail
        have hsm := same_calls w4 A3 A4 c3 c4 L4 L4 HC3.out HR3.out.2.1 HR4.out.2.2 HR4.out.2.1 (by omega)
        rw [show decide (L4 = L4) = true by simp] at hsm
        refine hsm.mono ?_
        rintro e w5 ⟨rfl, hB⟩
        have HB5 := Aside0.mk (below_then HB4.out HB4.out.size hB)
        have HX5 := Aside0.mk (blk_below HX4.out hB)
        have HG5 := Aside0.mk (HG4.out.below hB)
        have HH5 := Aside0.mk (HH4.out.below hB)
        clear hB hsm
        go_wp2_with fail
        refine (ringI w5 g b ks a HG5.out (by omega)).mono ?_
        rintro e w6 ⟨v6, L, rfl, hR6, hL6, hB⟩
        obtain ⟨AW, cW, rfl⟩ := Kd.R_slice hR6
        obtain rfl := hL6.unique ordI HL.out
        have HB6 := Aside0.mk (below_then HB5.out HB5.out.size hB)
        have HX6 := Aside0.mk (blk_below HX5.out hB)
        have HG6 := Aside0.mk (HG5.out.below hB)
        have HH6 := Aside0.mk (HH5.out.below hB)
        have HRW6 := Aside0.mk (Kd.R_lower hR6 (Nat.zero_le _))
        have y0 := blk_cell HX6.out 0
        have y1 := blk_cell HX6.out 1
        clear hR6 hL6 hB
        go_wp2_with fail
        refine (addI w6 g b ks ex ey HG6.out).mono ?_
        rintro e w7 ⟨rfl, hG, hg⟩
        have HG7 := Aside0.mk hG
        have HH7 := Aside0.mk (HH6.out.other hg HNB.out.1 HNB.out.2.1)
        have HB7 := Aside0.mk (HB6.out.grown hg HB6.out.size (fun q hq => by injection hq with hq; rw [← hq]; exact HNB.out.2.2))
        have HX7 := Aside0.mk (blk_grown HX6.out hg (fun e => by
          obtain ⟨es, clock, hb⟩ := HG6.out.map.block
          have h2 := HX6.out
          rw [Option.some.inj e] at h2
          rw [h2] at hb; cases hb))
        have HRW7 := Aside0.mk (Kd.R_grown1 HRW6.out rfl hg (Q_notM (Kd.Q_of_R HRW6.out) HG6.out.map))
        have hal := addK_length ks (ex, ey)
        clear hG hg y0 y1
        go_wp2_with fail
        refine (ringI w7 g b _ a HG7.out (by omega)).mono ?_
        rintro e w9 ⟨v8, L8, rfl, hR8, hL8, hB⟩
        obtain ⟨A8, c8, rfl⟩ := Kd.R_slice hR8
        have HB9 := Aside0.mk (below_then HB7.out HB7.out.size hB)
        have HX9 := Aside0.mk (blk_below HX7.out hB)
        have HH9 := Aside0.mk (HH7.out.below hB)
        have HRW9 := Aside0.mk (Kd.R_below HRW7.out hB)
        have HCW := Aside0.mk (Kd.R_reads' HRW9.out).2.2
        have HR8 := Aside0.mk (Kd.R_reads' hR8)
        have HL8 := Aside0.mk hL8
        have hl8 := hL8.le ordI
        clear hR8 hL8 hB
        go_wp2_with fail
        go_loopg [14] L.length (fun gk v14 wi => ∃ k : Nat, Aside0 (k + gk = L.length) ∧ v14 = .int .i64 k ∧ k ≤ L.length ∧ Aside0 (Below w9.heap.size w9 wi))
        case atStart => exact ⟨0, ⟨by omega⟩, rfl, Nat.zero_le _, ⟨Below.refl _ _⟩⟩
        case round =>
          obtain ⟨k, HK, rfl, hkl, HBi⟩ := hrel
          by_cases hlt : k < L.length
          · obtain ⟨ad, rfl, hx⟩ := int_at (Kd.C_below HCW.out HBi.out) rfl k hlt
            have hin : L[k] ∈ L8 := sub_ring HL.out HL8.out (fun e he => mem_addK.2 (.inl he)) (List.getElem_mem hlt)
            obtain ⟨x, hxe⟩ : ∃ x, x = L[k] := ⟨_, rfl⟩
            rw [← hxe] at hx hin
            have HIN := Aside0.mk hin
            have hkl2 : (k : Int) < (L.length : Int) := by omega
            clear hxe hin
            go_wp2_with fail
            refine (has_calls wr _ c8 L8 x (Kd.C_below HR8.out.2.2 HBi.out) HR8.out.2.1 (by omega)).mono ?_
            rintro e wh ⟨rfl, hb⟩
            rw [isK_in HIN.out]
            have HBh := Aside0.mk (below_then HBi.out HBi.out.size hb)
            clear hb hx
            go_wp2_with fail
            go_roundg (gk - 1)
            case measure => have := HK.out; omega
            case rel => exact ⟨k + 1, ⟨by have := HK.out; omega⟩, by go_num, by omega, HBh⟩
          · have HBa := Aside0.mk (below_then HB9.out HB9.out.size HBi.out)
            have HHa := Aside0.mk (HH9.out.below HBi.out)
            have HXa := Aside0.mk (blk_below HX9.out HBi.out)
            have HRWa := Aside0.mk (Kd.R_below HRW9.out HBi.out)
            have y0 := blk_cell HXa.out 0
            have y1 := blk_cell HXa.out 1
            go_wp2_with fail
            refine (dropI wr hh d ks2 ex ey HHa.out).mono ?_
            rintro e wd ⟨rfl, hH, hg⟩
            have HHd := Aside0.mk hH
            have HBd := Aside0.mk (HBa.out.grown hg HBa.out.size (fun q hq => by injection hq with hq; rw [← hq]; exact HLO.out))
            have HRWd := Aside0.mk (Kd.R_grown1 HRWa.out rfl hg (Q_notM (Kd.Q_of_R HRWa.out) HHa.out.map))
            have hdl : (delK ks2 (ex, ey)).length ≤ 60 := Nat.le_trans (List.length_filter_le _ _) (by omega)
            clear hH hg y0 y1
            go_wp2_with fail
            refine (ringI wd hh d _ a HHd.out (by omega)).mono ?_
            rintro e w9 ⟨v5, L5, rfl, hR5, hL5, hB⟩
            obtain ⟨A5, c5, rfl⟩ := Kd.R_slice hR5
            have HB9 := Aside0.mk (below_then HBd.out HBd.out.size hB)
            have HRW := Aside0.mk (Kd.R_reads' (Kd.R_below HRWd.out hB))
            have HR5 := Aside0.mk (Kd.R_reads' hR5)
            have HC5 := Aside0.mk (Kd.R_reads' hR5).2.2
            have HL5 := Aside0.mk hL5
            have hl5 := hL5.le ordI
            clear hR5 hL5 hB
            go_wp2_with fail
            go_loopg [16] L5.length (fun gk v16 wi => ∃ k : Nat, Aside0 (k + gk = L5.length) ∧ v16 = .int .i64 k ∧ k ≤ L5.length ∧ Aside0 (Below w9.heap.size w9 wi))
            case atStart => exact ⟨0, ⟨by omega⟩, rfl, Nat.zero_le _, ⟨Below.refl _ _⟩⟩
            case round =>
              obtain ⟨k, HK, rfl, hkl, HBi⟩ := hrel
              by_cases hlt : k < L5.length
              · obtain ⟨ad, rfl, hx⟩ := int_at (Kd.C_below HC5.out HBi.out) rfl k hlt
                have hin : L5[k] ∈ L := sub_ring HL5.out HL.out (fun e he => (HSAME.out e).2 (List.mem_filter.1 he).1) (List.getElem_mem hlt)
                obtain ⟨x, hxe⟩ : ∃ x, x = L5[k] := ⟨_, rfl⟩
                rw [← hxe] at hx hin
                have HIN := Aside0.mk hin
                have hkl2 : (k : Int) < (L5.length : Int) := by omega
                clear hxe hin
                go_wp2_with fail
                refine (has_calls wr _ cW L x (Kd.C_below HRW.out.2.2 HBi.out) HRW.out.2.1 (by omega)).mono ?_
                rintro e wh ⟨rfl, hb⟩
                rw [isK_in HIN.out]
                have HBh := Aside0.mk (below_then HBi.out HBi.out.size hb)
                clear hb hx
                go_wp2_with fail
                go_roundg (gk - 1)
                case measure => have := HK.out; omega
                case rel => exact ⟨k + 1, ⟨by have := HK.out; omega⟩, by go_num, by omega, HBh⟩
              · go_wp2_with fail
                refine (lives_calls _).mono ?_
                rintro e wl ⟨rfl, hb⟩
                have HBl := Aside0.mk (below_then HB9.out HB9.out.size (below_then HBi.out HBi.out.size hb))
                clear hb
                go_wp2_with fail
                go_ret
                exact ⟨rfl, HBl.out⟩
        -- T]
      · obtain ⟨j, rfl⟩ : ∃ j, k = j + 1 := ⟨k - 1, by omega⟩
        have hj : j < l.length := by omega
        obtain ⟨ad, rfl, hy0, hy1⟩ := edge_at (Kd.C_below HC.out HB.out) j hj
        have hsz := HB.out.size
        have hszb : w.heap.size < wr.heap.size := blk_lt HX.out
        have hrl : ((l.take n).drop (j + 1)).reverse.length ≤ 60 := by rw [List.length_reverse, List.length_drop, List.length_take]; omega
        have ej : ((j + 1 : Nat) : Int) - 1 = (j : Int) := by omega
        have hj0 : (0 : Int) ≤ (j : Int) := by omega
        have hjl : (j : Int) < (l.length : Int) := by omega
        rw [ej]
        go_wp2_with (at_builtin; refine Kd.R_append kGEdge (w0 := w) (W := wr) w.heap.size (by rfl) (.tmp 27) (.tmp 32) 22 28 (.agg #[(.int .i64 0), (.int .i64 0)]) 16 (by rfl) Try.underlying22 Rf.info28 rfl (by decide) (by omega) (.slice A7 ((l.take n).drop (j + 1)).reverse.length c7) ((l.take n).drop (j + 1)).reverse (rd_TGEdge l j) [.int .i64 (rd_TGEdge l j).f0, .int .i64 (rd_TGEdge l j).f1] (fun q => w.heap.size < q) (fun _ => False) (by rfl) (by rfl) (kGEdge_mkM _ _ _ _) (fun _ hk => hk.elim) (fun q hq => Nat.lt_of_lt_of_le hszb hq) HR.out HB.out hsz (by omega) ?_; intro v1 w3 hq3 hb3 hg3 hat3; have HR3 := Aside0.mk hq3; have HB3 := Aside0.mk hb3; have HX3 := Aside0.mk (blk_grown HX.out hg3 (fun e => Nat.lt_irrefl _ (HR.out.1 _ e.symm))); clear hq3 hb3 hg3 hat3)
        go_roundg (gk - 1)
        case measure => have := HK.out; omega
        case rel =>
          refine ⟨j, ⟨by have := HK.out; omega⟩, by go_num, by omega, HB3, HX3, ⟨?_⟩⟩
          have e5 : (l.take n).drop j = rd_TGEdge l j :: (l.take n).drop (j + 1) := by
            rw [List.drop_eq_getElem_cons (by rw [List.length_take]; omega), List.getElem_take, edge_get l j hj]
          rw [e5, List.reverse_cons]
          exact HR3.out
end Go.Proofs.Ytgjjfldfdkoedaa
