/- Layer 12: GraphBreaks' walk. -/
import Derived.Test.YtgjjfldfdkoedaaL12b
import Derived.Test.YtgjjfldfdkoedaaGg
namespace Go.Proofs.Ytgjjfldfdkoedaa
open Go.RowKit Go.Proofs.YtgjjfldfdkoedaaW.PrintWords Go.Proofs.YtgjjfldfdkoedaaW.PrintLast Go.Proofs.YtgjjfldfdkoedaaW.PrintMore
open Rf MapL Graph
set_option linter.unusedVariables false
set_option linter.unusedSimpArgs false
def outK (gn : List Int) (e : Int × Int) : Bool := decide (e.1 ∉ gn) && decide (e.2 ∉ gn)
/-- The edges whose ends are not gone. -/
def restK (E : List (Int × Int)) (gn : List Int) : List (Int × Int) := E.filter (outK gn)
theorem restK_nil (E : List (Int × Int)) : restK E [] = E := List.filter_eq_self.2 (fun e he => by simp [outK])
theorem restK_snoc (E : List (Int × Int)) (gn : List Int) (v : Int) : restK E (gn ++ [v]) = goneK (restK E gn) v := by
  unfold restK goneK
  rw [List.filter_filter]
  apply List.filter_congr
  intro e _
  by_cases h1 : e.1 ∈ gn <;> by_cases h2 : e.2 ∈ gn <;> by_cases h3 : e.1 = v <;> by_cases h4 : e.2 = v <;> simp [outK, keepK, h1, h2, h3, h4]
theorem mem_restK {E : List (Int × Int)} {gn : List Int} {e : Int × Int} : e ∈ restK E gn ↔ e ∈ E ∧ e.1 ∉ gn ∧ e.2 ∉ gn := by
  unfold restK outK
  rw [List.mem_filter]; simp
/-- Who is gone: each once, and each an edge's beginning. -/
structure GoodG (E : List (Int × Int)) (gn : List Int) : Prop where
  nodup : gn.Nodup
  sub : ∀ v ∈ gn, v ∈ E.map (·.1)
theorem GoodG.le {E : List (Int × Int)} {gn : List Int} (h : GoodG E gn) : gn.length ≤ E.length := by
  have := nodup_le h.nodup h.sub
  simpa using this
theorem last_mem {L : List Int} (h : L ≠ []) : L.getLastD 0 ∈ L := by
  rw [List.getLastD_eq_getLast?, List.getLast?_eq_some_getLast h]
  exact List.getLast_mem h
theorem GoodG.snoc {E : List (Int × Int)} {gn : List Int} (h : GoodG E gn) {v : Int} (hv : Graph.Reach (restK E gn) v v) : GoodG E (gn ++ [v]) := by
  obtain ⟨c, hc⟩ := hv.first
  obtain ⟨h1, h2, _⟩ := mem_restK.1 hc
  refine ⟨nodup_snoc h.nodup h2, fun x hx => ?_⟩
  rcases List.mem_append.1 hx with hx | hx
  · exact h.sub x hx
  · rw [List.mem_singleton.1 hx]; exact List.mem_map.2 ⟨_, h1, rfl⟩
theorem ring_self {E : List (Int × Int)} {a : Int} {L : List Int} (h : RingL (· < ·) E a L) {v : Int} (hv : v ∈ L) : Graph.Reach E v v := (((h.mem v).1 hv).2).trans ((h.mem v).1 hv).1
/-- Where no edge's beginning leads to itself nothing does. -/
theorem no_rings {l : List SGEdge} {gn : List Int} {k : Nat} (hk : l.take k = l.take 60) (hkl : k ≤ l.length) (h : ∀ j : Nat, j < k → ¬ Graph.Reach (restK (edgesOf (l.take 60)) gn) (rd_TGEdge l j).f0 (rd_TGEdge l j).f0) (x : Int) : ¬ Graph.Reach (restK (edgesOf (l.take 60)) gn) x x := fun hr => by
  obtain ⟨c, hc⟩ := hr.first
  have h1 := (mem_edgesOf _ _).1 (mem_restK.1 hc).1
  rw [← hk] at h1
  obtain ⟨e, he, hp⟩ := List.mem_map.1 h1
  obtain ⟨j, hj, rfl⟩ := List.mem_iff_getElem.1 he
  rw [List.length_take] at hj
  rw [List.getElem_take] at hp
  have h2 := h j (by omega)
  rw [edge_get l j (by omega)] at h2
  have h3 : (l[j]'(by omega)).f0 = x := (Prod.mk.inj hp).1
  rw [h3] at h2
  exact h2 hr
theorem cnt_old {l : List SGEdge} {gn : List Int} {k : Nat} (hk : k < l.length) (h : ((rd_TGEdge l k).f0, (rd_TGEdge l k).f1) ∈ (l.take k).map pr) : restK (edgesOf (l.take (k + 1))) gn = restK (edgesOf (l.take k)) gn := by
  rw [List.take_succ_eq_append_getElem hk, edgesOf_snoc, addK_in]
  rw [mem_edgesOf, ← edge_get l k hk]; exact h
theorem cnt_new {l : List SGEdge} {gn : List Int} {k : Nat} (hk : k < l.length) (h : ((rd_TGEdge l k).f0, (rd_TGEdge l k).f1) ∉ (l.take k).map pr) : restK (edgesOf (l.take (k + 1))) gn = restK (edgesOf (l.take k)) gn ++ (if outK gn ((rd_TGEdge l k).f0, (rd_TGEdge l k).f1) = true then [((rd_TGEdge l k).f0, (rd_TGEdge l k).f1)] else []) := by
  rw [List.take_succ_eq_append_getElem hk, edgesOf_snoc, addK_new (by rw [mem_edgesOf, ← edge_get l k hk]; exact h)]
  unfold restK
  rw [List.filter_append, ← edge_get l k hk, show pr (rd_TGEdge l k) = ((rd_TGEdge l k).f0, (rd_TGEdge l k).f1) from rfl]
  congr 1
  by_cases h1 : outK gn ((rd_TGEdge l k).f0, (rd_TGEdge l k).f1) = true
  · rw [if_pos h1, List.filter_cons, if_pos h1]; rfl
  · rw [if_neg h1, List.filter_cons, if_neg h1]; rfl
theorem cnt_le (l : List SGEdge) (gn : List Int) (k : Nat) (hk : k ≤ 60) : (restK (edgesOf (l.take k)) gn).length ≤ 60 := by
  have h1 : (restK (edgesOf (l.take k)) gn).length ≤ (edgesOf (l.take k)).length := List.length_filter_le _ _
  have h2 := edgesOf_length (l.take k)
  have h3 : (l.take k).length ≤ k := List.length_take_le _ _
  omega
set_option maxRecDepth 100000 in
set_option maxHeartbeats 8000000 in
theorem breaks_walk (w : World) (A : Option Addr) (c : Nat) (l : List SGEdge) (hC : Kd.C kGEdge w A l.length l) (hl : l.length ≤ 140737488351232) :
    Calls Try.prog 6 #[.slice A l.length c] w fun e w' => e = .returned (.bool true) ∧ Below w.heap.size w w' := by
  have HC := Aside0.mk hC
  clear hC
  go_enter Try.func6, Try.ntmps6
  go_wp2_with fail
  refine (made_calls w A c l HC.out hl).mono ?_
  rintro e w1 ⟨g, b, rfl, hg, hb, hG, hB⟩
  have hKL := edges_small l
  have HKL := Aside0.mk hKL
  rw [← restK_nil (edgesOf (l.take 60))] at hG
  have HLO := Aside0.mk hb
  have HG1 := Aside0.mk hG
  have HB1 := Aside0.mk hB
  clear hg hb hG hB hKL
  go_wp2_with fail
  go_loopg [4, 5] 131 (fun gk v4 v5 wr => ∃ gn : List Int, Aside0 (gn.length + gk = 131) ∧ v5 = .int .i64 (gn.length : Int) ∧ Aside0 (GoodG (edgesOf (l.take 60)) gn) ∧ Aside0 (GrI wr g b (restK (edgesOf (l.take 60)) gn)) ∧ Aside0 (Below w.heap.size w wr) ∧
    Aside0 (Kd.R (Kd.int .i64) 3 wr w.heap.size (fun q => w.heap.size ≤ q) v4 gn))
  case atStart => exact ⟨[], ⟨rfl⟩, rfl, ⟨List.nodup_nil, by simp⟩, HG1, HB1, ⟨Kd.R_nil _ _ _ _ _⟩⟩
  case round =>
    obtain ⟨gn0, HT, rfl, HGO, HG, HB, HR⟩ := hrel
    clear HG1 HB1
    have hgn : gn0.length ≤ 60 := by have := HGO.out.le; have := HKL.out; omega
    obtain ⟨A4, c4, rfl⟩ := Kd.R_slice HR.out
    obtain ⟨go, rfl⟩ : ∃ go, go = gk := ⟨_, rfl⟩
    obtain ⟨wo, rfl⟩ : ∃ wo, wo = wr := ⟨_, rfl⟩
    go_wp2_with fail
    rw [show decide ((gn0.length : Int) ≤ 130) = true by simp; omega]
    go_loopg [4, 6, 7] 60 (fun gk v4 v6 v7 wr => ∃ (k : Nat) (fd : Bool) (gn : List Int), Aside0 (k + gk = 60) ∧ v6 = .bool fd ∧ v7 = .int .i64 k ∧ k ≤ l.length ∧ k ≤ 60 ∧ Aside0 (fd = false → gn = gn0 ∧ ∀ j : Nat, j < k → ¬ Graph.Reach (restK (edgesOf (l.take 60)) gn0) (rd_TGEdge l j).f0 (rd_TGEdge l j).f0) ∧
      Aside0 (fd = true → gn.length = gn0.length + 1) ∧ Aside0 (GoodG (edgesOf (l.take 60)) gn) ∧ Aside0 (GrI wr g b (restK (edgesOf (l.take 60)) gn)) ∧ Aside0 (Below w.heap.size w wr) ∧ Aside0 (Kd.R (Kd.int .i64) 3 wr w.heap.size (fun q => w.heap.size ≤ q) v4 gn))
    case atStart => exact ⟨0, false, gn0, ⟨rfl⟩, rfl, rfl, Nat.zero_le _, Nat.zero_le _, ⟨fun _ => ⟨rfl, fun j hj => absurd hj (Nat.not_lt_zero _)⟩⟩, ⟨fun h => absurd h (by decide)⟩, HGO, HG, HB, HR⟩
    case round =>
      obtain ⟨k, fd, gn, HK, rfl, rfl, hkl, hk60, HF, HD, HGn, HGr, HBr, HRr⟩ := hrel
      clear HG HB HR HGO
      obtain ⟨A5, c5, rfl⟩ := Kd.R_slice HRr.out
      cases fd with
      | true =>
        have HLN := Aside0.mk (HD.out rfl)
        clear HF HD
        have hend : (k < l.length ∧ k < 60) ∨ (k < l.length ∧ ¬ k < 60) ∨ ¬ k < l.length := by omega
        rcases hend with ⟨h1, h2⟩ | ⟨h1, h2⟩ | h1
        all_goals
          go_wp2_with fail
          go_roundg (go - 1)
          case measure => have := HT.out; omega
          case rel => exact ⟨gn, ⟨by have := HT.out; have := HLN.out; omega⟩, (by rw [HLN.out]; go_num), HGn, HGr, HBr, HRr⟩
      | false =>
        obtain ⟨rfl, hno⟩ := HF.out rfl
        have HNO := Aside0.mk hno
        clear HF HD hno
        by_cases hlt : k < l.length ∧ k < 60
        · obtain ⟨h1, h2⟩ := hlt
          obtain ⟨ad, rfl, hx0, hx1⟩ := edge_at (Kd.C_below HC.out HBr.out) k h1
          go_wp2_with fail
          -- [V
          have hrl := cnt_le l gn 60 (Nat.le_refl _)
          refine (victimI wr g b _ _ HGr.out (by omega)).mono ?_
          rintro e wv ⟨L, rfl, hL, hB⟩
          have HGv := Aside0.mk (HGr.out.below hB)
          have HBv := Aside0.mk (below_then HBr.out HBr.out.size hB)
          have HRv := Aside0.mk (Kd.R_below HRr.out hB)
          have HL := Aside0.mk hL
          clear hL hB hx0 hx1
          by_cases h0 : L = []
          · subst h0
            rw [show (([] : List Int).getLastD 0) = 0 from rfl, show (!([] : List Int).isEmpty) = false from rfl]
            go_wp2_with fail
            go_roundg (gk - 1)
            case measure => have := HK.out; omega
            case rel =>
              refine ⟨k + 1, false, _, ⟨by have := HK.out; omega⟩, rfl, by go_num, by omega, by omega, ⟨fun _ => ⟨rfl, fun j hj => ?_⟩⟩, ⟨fun h => absurd h (by decide)⟩, HGn, HGv, HBv, HRv⟩
              rcases Nat.lt_or_eq_of_le (Nat.le_of_lt_succ hj) with h | rfl
              · exact HNO.out j h
              · exact fun hr => (HL.out.self_iff.2 hr) rfl
          · have HLV := Aside0.mk (ring_self HL.out (last_mem h0))
            rw [show (!L.isEmpty) = true by simpa using h0]
            obtain ⟨lv, hlv⟩ : ∃ v, v = L.getLastD 0 := ⟨_, rfl⟩
            rw [← hlv] at HLV ⊢
            clear hlv h0
            go_wp2_with fail
            refine (goneI wv g b _ lv HGv.out (by omega)).mono ?_
            rintro e wd ⟨rfl, hG, hg⟩
            rw [← restK_snoc] at hG
            have HGd := Aside0.mk hG
            have HBd := Aside0.mk (HBv.out.grown hg HBv.out.size (fun q hq => by injection hq with hq; rw [← hq]; exact HLO.out))
            have HRd := Aside0.mk (Kd.R_grown1 HRv.out rfl hg (Q_notM (Kd.Q_of_R HRv.out) HGv.out.map))
            have hszd := HBd.out.size
            clear hG hg
            go_wp2_with (at_builtin; refine Kd.R_append (Kd.int .i64) (w0 := w) (W := wd) w.heap.size (by rfl) (.tmp 49) (.tmp 51) 31 3 (.int .i64 0) 8 (by rfl) Try.underlying31 Rf.info3 rfl (by decide) (by omega) (.slice A5 gn.length c5) gn lv [.int .i64 lv] (fun q => w.heap.size ≤ q) (fun _ => False) (by rfl) (by rfl) rfl (fun _ hk => hk.elim) (fun q hq => Nat.le_trans hszd hq) HRd.out HBd.out hszd (by omega) ?_; intro v1 w3 hq3 hb3 hg3 hat3; have HR3 := Aside0.mk hq3; have HB3 := Aside0.mk hb3; have HG3 := Aside0.mk (show GrI w3 g b _ from ⟨blk_grown HGd.out.box hg3 (Kd.R_ne HRd.out HGd.out.box (by decide)), HGd.out.map.grown hg3 (Q_notM (Kd.Q_of_R HRd.out) HGd.out.map)⟩); clear hq3 hb3 hg3 hat3)
            go_roundg (gk - 1)
            case measure => have := HK.out; omega
            case rel => exact ⟨k + 1, true, _, ⟨by have := HK.out; omega⟩, rfl, by go_num, by omega, by omega, ⟨fun h => absurd h (by decide)⟩, ⟨fun _ => by simp⟩, HGn.out.snoc HLV.out |> Aside0.mk, HG3, HB3, HR3⟩
          -- V]
        · have hend : (k < l.length ∧ ¬ k < 60) ∨ ¬ k < l.length := by omega
          have hek : l.take k = l.take 60 := by
            by_cases h : k < l.length
            · rw [show k = 60 by omega]
            · rw [List.take_of_length_le (by omega), List.take_of_length_le (by omega)]
          have HNR := Aside0.mk (no_rings hek hkl HNO.out)
          clear hlt hek
          rcases hend with ⟨h1, h2⟩ | h1
          all_goals
            go_wp2_with fail
            clear h1
            -- [W
            have hrl := cnt_le l gn 60 (Nat.le_refl _)
            obtain ⟨wS, rfl⟩ : ∃ wS, wS = wr := ⟨_, rfl⟩
            have HCG := Aside0.mk (Kd.R_reads' HRr.out)
            go_loopg [10, 11, 12] 60 (fun gk v10 v11 v12 wr => ∃ i : Nat, Aside0 (i + gk = 60) ∧ v12 = .int .i64 i ∧ v10 = .int .i64 ((restK (edgesOf (l.take i)) gn).length : Int) ∧ i ≤ l.length ∧ i ≤ 60 ∧ Aside0 (Below wS.heap.size wS wr) ∧
              Aside0 (Kd.R kGEdge 28 wr wS.heap.size (fun q => wS.heap.size ≤ q) v11 (l.take i)))
            case atStart => exact ⟨0, ⟨rfl⟩, rfl, rfl, Nat.zero_le _, Nat.zero_le _, ⟨Below.refl _ _⟩, ⟨by rw [List.take_zero]; exact Kd.R_nil _ _ _ _ _⟩⟩
            case round =>
              obtain ⟨i, HI, rfl, rfl, hil, hi60, HBi, HRi⟩ := hrel
              obtain ⟨A11, c11, rfl⟩ := Kd.R_slice HRi.out
              have hti : (l.take i).length = i := by rw [List.length_take]; omega
              have hRi := HRi.out
              rw [hti] at hRi ⊢
              have HTI := Aside0.mk hti
              have HRi := Aside0.mk hRi
              clear hti hRi
              have HBw := Aside0.mk (below_then HBr.out HBr.out.size HBi.out)
              have HGi := Aside0.mk (HGr.out.below HBi.out)
              have hcl := cnt_le l gn i hi60
              by_cases hlt : i < l.length ∧ i < 60
              · obtain ⟨h1, h2⟩ := hlt
                obtain ⟨ad, rfl, hx0, hx1⟩ := edge_at (Kd.C_below HC.out HBw.out) i h1
                go_wp2_with fail
                refine start_ (n := 26) (S := fun wx => wx.cell? (ad.add (i * 2)) = some (.int .i64 (rd_TGEdge l i).f0) ∧ wx.cell? ⟨(ad.add (i * 2)).block, (ad.add (i * 2)).off + 1, none⟩ = some (.int .i64 (rd_TGEdge l i).f1)) (ds := []) #[false, false, false, false, false, false, false, false, false, false, false, false, false, false, false, false, false, false, false, false, false, false, false, false, false, false] (by kernel_rfl) rfl rfl (⟨hx0, hx1⟩) (fun hHeld => ?_)
                refine pure_ (i := 0) (N := some 65) (v := ?_) (a' := ?_) #[true, false, false, false, false, false, false, false, false, false, false, false, false, false, false, false, false, false, false, false, false, false, false, false, false, false] rfl rfl (by kernel_rfl) (fun _ _ _ h => h) (Or.inl ⟨by rfl, ?_⟩) ?_ ?_
                rotate_left
                · intro w'
                  go_simp
                  all_goals (with_reducible rfl)
                rotate_left
                · simp only [Act.put, List.setIfInBounds_toArray, List.set_cons_zero, List.set_cons_succ, i64_w, i32_w]
                  rfl
                refine pure_ (i := 1) (N := some 66) (v := ?_) (a' := ?_) #[true, true, false, false, false, false, false, false, false, false, false, false, false, false, false, false, false, false, false, false, false, false, false, false, false, false] rfl rfl (by kernel_rfl) (fun _ _ _ h => h) (Or.inl ⟨by rfl, ?_⟩) ?_ ?_
                rotate_left
                · intro w'
                  go_simp
                  all_goals (with_reducible rfl)
                rotate_left
                · simp only [Act.put, List.setIfInBounds_toArray, List.set_cons_zero, List.set_cons_succ, i64_w, i32_w]
                  rfl
                refine pure_ (i := 2) (N := some 67) (v := ?_) (a' := ?_) #[true, true, true, false, false, false, false, false, false, false, false, false, false, false, false, false, false, false, false, false, false, false, false, false, false, false] rfl rfl (by kernel_rfl) (fun _ _ _ h => h) (Or.inl ⟨by rfl, ?_⟩) ?_ ?_
                rotate_left
                · intro w'
                  go_simp
                  all_goals (with_reducible rfl)
                rotate_left
                · simp only [Act.put, List.setIfInBounds_toArray, List.set_cons_zero, List.set_cons_succ, i64_w, i32_w]
                  rfl
                refine pure_ (i := 3) (N := some 68) (v := ?_) (a' := ?_) #[true, true, true, true, false, false, false, false, false, false, false, false, false, false, false, false, false, false, false, false, false, false, false, false, false, false] rfl rfl (by kernel_rfl) (fun _ _ _ h => h) (Or.inl ⟨by rfl, ?_⟩) ?_ ?_
                rotate_left
                · intro w'
                  go_simp
                  all_goals (with_reducible rfl)
                rotate_left
                · simp only [Act.put, List.setIfInBounds_toArray, List.set_cons_zero, List.set_cons_succ, i64_w, i32_w]
                  rfl
                refine pure_ (i := 4) (N := some 69) (v := ?_) (a' := ?_) #[true, true, true, true, true, false, false, false, false, false, false, false, false, false, false, false, false, false, false, false, false, false, false, false, false, false] rfl rfl (by kernel_rfl) (fun _ _ _ h => h) (Or.inl ⟨by rfl, ?_⟩) ?_ ?_
                rotate_left
                · intro w'
                  go_simp
                  all_goals (with_reducible rfl)
                rotate_left
                · simp only [Act.put, List.setIfInBounds_toArray, List.set_cons_zero, List.set_cons_succ, i64_w, i32_w]
                  rfl
                refine pure_ (i := 6) (N := some 71) (v := ?_) (a' := ?_) #[true, true, true, true, true, false, true, false, false, false, false, false, false, false, false, false, false, false, false, false, false, false, false, false, false, false] rfl rfl (by kernel_rfl) (fun _ _ _ h => h) (Or.inl ⟨by rfl, ?_⟩) ?_ ?_
                rotate_left
                · intro w'
                  go_simp
                  all_goals (with_reducible rfl)
                rotate_left
                · simp only [Act.put, List.setIfInBounds_toArray, List.set_cons_zero, List.set_cons_succ, i64_w, i32_w]
                  rfl
                refine pure_ (i := 7) (N := some 72) (v := ?_) (a' := ?_) #[true, true, true, true, true, false, true, true, false, false, false, false, false, false, false, false, false, false, false, false, false, false, false, false, false, false] rfl rfl (by kernel_rfl) (fun _ _ _ h => h) (Or.inl ⟨by rfl, ?_⟩) ?_ ?_
                rotate_left
                · intro w'
                  go_simp
                  all_goals (with_reducible rfl)
                rotate_left
                · simp only [Act.put, List.setIfInBounds_toArray, List.set_cons_zero, List.set_cons_succ, i64_w, i32_w]
                  rfl
                refine pure_ (i := 8) (N := some 73) (v := ?_) (a' := ?_) #[true, true, true, true, true, false, true, true, true, false, false, false, false, false, false, false, false, false, false, false, false, false, false, false, false, false] rfl rfl (by kernel_rfl) (fun _ _ _ h => h) (Or.inl ⟨by rfl, ?_⟩) ?_ ?_
                rotate_left
                · intro w'
                  go_simp
                  all_goals (with_reducible rfl)
                rotate_left
                · simp only [Act.put, List.setIfInBounds_toArray, List.set_cons_zero, List.set_cons_succ, i64_w, i32_w]
                  rfl
                refine pure_ (i := 9) (N := some 74) (v := ?_) (a' := ?_) #[true, true, true, true, true, false, true, true, true, true, false, false, false, false, false, false, false, false, false, false, false, false, false, false, false, false] rfl rfl (by kernel_rfl) (fun _ _ _ h => h) (Or.inl ⟨by rfl, ?_⟩) ?_ ?_
                rotate_left
                · intro w'
                  go_simp
                  all_goals (with_reducible rfl)
                rotate_left
                · simp only [Act.put, List.setIfInBounds_toArray, List.set_cons_zero, List.set_cons_succ, i64_w, i32_w]
                  rfl
                refine take_ (i := 5) (N := some 70) (v := ?_) (a' := ?_) #[true, true, true, true, true, true, true, true, true, true, false, false, false, false, false, false, false, false, false, false, false, false, false, false, false, false] rfl rfl (by kernel_rfl) (fun _ _ _ h => h) (Or.inl ⟨by rfl, ?_⟩) hHeld ?_ ?_
                rotate_left
                · intro w' hSw
                  (try dsimp only at hSw)
                  go_simp
                  all_goals (with_reducible rfl)
                rotate_left
                · simp only [Act.put, List.setIfInBounds_toArray, List.set_cons_zero, List.set_cons_succ, i64_w, i32_w]
                  rfl
                refine take_ (i := 10) (N := some 75) (v := ?_) (a' := ?_) #[true, true, true, true, true, true, true, true, true, true, true, false, false, false, false, false, false, false, false, false, false, false, false, false, false, false] rfl rfl (by kernel_rfl) (fun _ _ _ h => h) (Or.inl ⟨by rfl, ?_⟩) hHeld ?_ ?_
                rotate_left
                · intro w' hSw
                  (try dsimp only at hSw)
                  go_simp
                  all_goals (with_reducible rfl)
                rotate_left
                · simp only [Act.put, List.setIfInBounds_toArray, List.set_cons_zero, List.set_cons_succ, i64_w, i32_w]
                  rfl
                refine one_ (i := 11) (N := some 76) #[true, true, true, true, true, true, true, true, true, true, true, true, false, false, false, false, false, false, false, false, false, false, false, false, false, false] rfl rfl (by kernel_rfl) (by decide) (fun K hK => ?_)
                go_simp
                go_at_call 10
                refine (leadsI _ g b _ _ _ (HGi.out.below (below_drew (Below.refl _ _))) (by omega)).mono ?_
                rintro e wa ⟨r, rfl, hr, hb⟩
                obtain rfl : r = false := by cases r with | false => rfl | true => exact absurd (hr.1 rfl) (HNR.out _)
                have HBa := Aside0.mk (below_then (below_drew HBi.out) HBi.out.size hb)
                have HGa := Aside0.mk (HGi.out.below (below_then (below_drew (Below.refl wr.heap.size wr)) (Nat.le_refl _) hb))
                have HRa := Aside0.mk (Kd.R_below HRi.out (below_then (below_drew (Below.refl wr.heap.size wr)) (Nat.le_refl _) hb))
                clear hr hb
                obtain ⟨ad', hae, y0, y1⟩ := edge_at (Kd.C_below HC.out (below_then HBr.out HBr.out.size HBa.out)) i h1
                obtain rfl := Option.some.inj hae
                (try go_wp2_with fail)
                refine hK.out _ _ (⟨y0, y1⟩) (fun hHeld => ?_)
                clear hK K
                (try simp only [Act.put, List.setIfInBounds_toArray, List.set_cons_zero, List.set_cons_succ])
                refine pure_ (i := 12) (N := some 77) (v := ?_) (a' := ?_) #[true, true, true, true, true, true, true, true, true, true, true, true, true, false, false, false, false, false, false, false, false, false, false, false, false, false] rfl rfl (by kernel_rfl) (fun _ _ _ h => h) (Or.inl ⟨by rfl, ?_⟩) ?_ ?_
                rotate_left
                · intro w'
                  go_simp
                  all_goals (with_reducible rfl)
                rotate_left
                · simp only [Act.put, List.setIfInBounds_toArray, List.set_cons_zero, List.set_cons_succ, i64_w, i32_w]
                  rfl
                refine pure_ (i := 13) (N := some 78) (v := ?_) (a' := ?_) #[true, true, true, true, true, true, true, true, true, true, true, true, true, true, false, false, false, false, false, false, false, false, false, false, false, false] rfl rfl (by kernel_rfl) (fun _ _ _ h => h) (Or.inl ⟨by rfl, ?_⟩) ?_ ?_
                rotate_left
                · intro w'
                  go_simp
                  all_goals (with_reducible rfl)
                rotate_left
                · simp only [Act.put, List.setIfInBounds_toArray, List.set_cons_zero, List.set_cons_succ, i64_w, i32_w]
                  rfl
                refine pure_ (i := 14) (N := some 79) (v := ?_) (a' := ?_) #[true, true, true, true, true, true, true, true, true, true, true, true, true, true, true, false, false, false, false, false, false, false, false, false, false, false] rfl rfl (by kernel_rfl) (fun _ _ _ h => h) (Or.inl ⟨by rfl, ?_⟩) ?_ ?_
                rotate_left
                · intro w'
                  go_simp
                  all_goals (with_reducible rfl)
                rotate_left
                · simp only [Act.put, List.setIfInBounds_toArray, List.set_cons_zero, List.set_cons_succ, i64_w, i32_w]
                  rfl
                refine pure_ (i := 15) (N := some 80) (v := ?_) (a' := ?_) #[true, true, true, true, true, true, true, true, true, true, true, true, true, true, true, true, false, false, false, false, false, false, false, false, false, false] rfl rfl (by kernel_rfl) (fun _ _ _ h => h) (Or.inl ⟨by rfl, ?_⟩) ?_ ?_
                rotate_left
                · intro w'
                  go_simp
                  all_goals (with_reducible rfl)
                rotate_left
                · simp only [Act.put, List.setIfInBounds_toArray, List.set_cons_zero, List.set_cons_succ, i64_w, i32_w]
                  rfl
                refine pure_ (i := 16) (N := some 81) (v := ?_) (a' := ?_) #[true, true, true, true, true, true, true, true, true, true, true, true, true, true, true, true, true, false, false, false, false, false, false, false, false, false] rfl rfl (by kernel_rfl) (fun _ _ _ h => h) (Or.inl ⟨by rfl, ?_⟩) ?_ ?_
                rotate_left
                · intro w'
                  go_simp
                  all_goals (with_reducible rfl)
                rotate_left
                · simp only [Act.put, List.setIfInBounds_toArray, List.set_cons_zero, List.set_cons_succ, i64_w, i32_w]
                  rfl
                refine pure_ (i := 17) (N := some 82) (v := ?_) (a' := ?_) #[true, true, true, true, true, true, true, true, true, true, true, true, true, true, true, true, true, true, false, false, false, false, false, false, false, false] rfl rfl (by kernel_rfl) (fun _ _ _ h => h) (Or.inl ⟨by rfl, ?_⟩) ?_ ?_
                rotate_left
                · intro w'
                  go_simp
                  all_goals (with_reducible rfl)
                rotate_left
                · simp only [Act.put, List.setIfInBounds_toArray, List.set_cons_zero, List.set_cons_succ, i64_w, i32_w]
                  rfl
                refine pure_ (i := 19) (N := some 84) (v := ?_) (a' := ?_) #[true, true, true, true, true, true, true, true, true, true, true, true, true, true, true, true, true, true, false, true, false, false, false, false, false, false] rfl rfl (by kernel_rfl) (fun _ _ _ h => h) (Or.inl ⟨by rfl, ?_⟩) ?_ ?_
                rotate_left
                · intro w'
                  go_simp
                  all_goals (with_reducible rfl)
                rotate_left
                · simp only [Act.put, List.setIfInBounds_toArray, List.set_cons_zero, List.set_cons_succ, i64_w, i32_w]
                  rfl
                refine pure_ (i := 20) (N := some 85) (v := ?_) (a' := ?_) #[true, true, true, true, true, true, true, true, true, true, true, true, true, true, true, true, true, true, false, true, true, false, false, false, false, false] rfl rfl (by kernel_rfl) (fun _ _ _ h => h) (Or.inl ⟨by rfl, ?_⟩) ?_ ?_
                rotate_left
                · intro w'
                  go_simp
                  all_goals (with_reducible rfl)
                rotate_left
                · simp only [Act.put, List.setIfInBounds_toArray, List.set_cons_zero, List.set_cons_succ, i64_w, i32_w]
                  rfl
                refine pure_ (i := 21) (N := some 86) (v := ?_) (a' := ?_) #[true, true, true, true, true, true, true, true, true, true, true, true, true, true, true, true, true, true, false, true, true, true, false, false, false, false] rfl rfl (by kernel_rfl) (fun _ _ _ h => h) (Or.inl ⟨by rfl, ?_⟩) ?_ ?_
                rotate_left
                · intro w'
                  go_simp
                  all_goals (with_reducible rfl)
                rotate_left
                · simp only [Act.put, List.setIfInBounds_toArray, List.set_cons_zero, List.set_cons_succ, i64_w, i32_w]
                  rfl
                refine pure_ (i := 22) (N := some 87) (v := ?_) (a' := ?_) #[true, true, true, true, true, true, true, true, true, true, true, true, true, true, true, true, true, true, false, true, true, true, true, false, false, false] rfl rfl (by kernel_rfl) (fun _ _ _ h => h) (Or.inl ⟨by rfl, ?_⟩) ?_ ?_
                rotate_left
                · intro w'
                  go_simp
                  all_goals (with_reducible rfl)
                rotate_left
                · simp only [Act.put, List.setIfInBounds_toArray, List.set_cons_zero, List.set_cons_succ, i64_w, i32_w]
                  rfl
                refine take_ (i := 18) (N := some 83) (v := ?_) (a' := ?_) #[true, true, true, true, true, true, true, true, true, true, true, true, true, true, true, true, true, true, true, true, true, true, true, false, false, false] rfl rfl (by kernel_rfl) (fun _ _ _ h => h) (Or.inl ⟨by rfl, ?_⟩) hHeld ?_ ?_
                rotate_left
                · intro w' hSw
                  (try dsimp only at hSw)
                  go_simp
                  all_goals (with_reducible rfl)
                rotate_left
                · simp only [Act.put, List.setIfInBounds_toArray, List.set_cons_zero, List.set_cons_succ, i64_w, i32_w]
                  rfl
                refine take_ (i := 23) (N := some 88) (v := ?_) (a' := ?_) #[true, true, true, true, true, true, true, true, true, true, true, true, true, true, true, true, true, true, true, true, true, true, true, true, false, false] rfl rfl (by kernel_rfl) (fun _ _ _ h => h) (Or.inl ⟨by rfl, ?_⟩) hHeld ?_ ?_
                rotate_left
                · intro w' hSw
                  (try dsimp only at hSw)
                  go_simp
                  all_goals (with_reducible rfl)
                rotate_left
                · simp only [Act.put, List.setIfInBounds_toArray, List.set_cons_zero, List.set_cons_succ, i64_w, i32_w]
                  rfl
                refine one_ (i := 24) (N := some 89) #[true, true, true, true, true, true, true, true, true, true, true, true, true, true, true, true, true, true, true, true, true, true, true, true, true, false] rfl rfl (by kernel_rfl) (by decide) (fun K hK => ?_)
                go_simp
                go_at_call 10
                refine (leadsI _ g b _ _ _ (HGa.out) (by omega)).mono ?_
                rintro e wb ⟨r, rfl, hr, hb⟩
                obtain rfl : r = false := by cases r with | false => rfl | true => exact absurd (hr.1 rfl) (HNR.out _)
                have HBb := Aside0.mk (below_then HBa.out HBa.out.size hb)
                have HGb := Aside0.mk (HGa.out.below hb)
                have HRb := Aside0.mk (Kd.R_below HRa.out hb)
                clear hr hb
                clear y0 y1
                obtain ⟨ad', hae, y0, y1⟩ := edge_at (Kd.C_below HC.out (below_then HBr.out HBr.out.size HBb.out)) i h1
                obtain rfl := Option.some.inj hae
                (try go_wp2_with fail)
                refine hK.out _ _ (⟨y0, y1⟩) (fun hHeld => ?_)
                clear hK K
                (try simp only [Act.put, List.setIfInBounds_toArray, List.set_cons_zero, List.set_cons_succ])
                refine pure_ (i := 25) (N := some 90) (v := ?_) (a' := ?_) #[true, true, true, true, true, true, true, true, true, true, true, true, true, true, true, true, true, true, true, true, true, true, true, true, true, true] rfl rfl (by kernel_rfl) (fun _ _ _ h => h) (Or.inl ⟨by rfl, ?_⟩) ?_ ?_
                rotate_left
                · intro w'
                  go_simp
                  all_goals (with_reducible rfl)
                rotate_left
                · simp only [Act.put, List.setIfInBounds_toArray, List.set_cons_zero, List.set_cons_succ, i64_w, i32_w]
                  rfl
                refine done_ (by kernel_rfl) ?_
                clear hx0 hx1
                go_wp2_with fail
                have hat := at_calls wb A11 c11 (l.take i) (rd_TGEdge l i).f0 (rd_TGEdge l i).f1 (Kd.R_reads' HRb.out).2.2 (by rw [HTI.out]; exact (Kd.R_reads' HRb.out).2.1) (by rw [HTI.out]; omega)
                rw [HTI.out] at hat
                refine hat.mono ?_
                clear hat
                rintro e wc ⟨r, rfl, hr, hb⟩
                have HBc := Aside0.mk (below_then HBb.out HBb.out.size hb)
                have HGc := Aside0.mk (HGb.out.below hb)
                have HRc := Aside0.mk (Kd.R_below HRb.out hb)
                clear hb y0 y1
                obtain ⟨ad', hae, y0, y1⟩ := edge_at (Kd.C_below HC.out (below_then HBr.out HBr.out.size HBc.out)) i h1
                obtain rfl := Option.some.inj hae
                by_cases hs : ((rd_TGEdge l i).f0, (rd_TGEdge l i).f1) ∈ (l.take i).map pr
                · have hr0 : decide (r < 0) = false := by
                    rw [decide_eq_false_iff_not]
                    exact fun q => (hr.1 q) hs
                  have HS := Aside0.mk hs
                  clear hr hs
                  have hszc := HBc.out.size
                  have hil60 : (l.take i).length ≤ 60 := by rw [List.length_take]; omega
                  go_wp2_with (at_builtin; refine Kd.R_append kGEdge (w0 := wS) (W := wc) wS.heap.size (by rfl) (.tmp 133) (.tmp 138) 22 28 (.agg #[(.int .i64 0), (.int .i64 0)]) 16 (by rfl) Try.underlying22 Rf.info28 rfl (by decide) (by omega) (.slice A11 i c11) (l.take i) (rd_TGEdge l i) [.int .i64 (rd_TGEdge l i).f0, .int .i64 (rd_TGEdge l i).f1] (fun q => wS.heap.size ≤ q) (fun _ => False) (by rfl) (by rfl) (kGEdge_mkM _ _ _ _) (fun _ hk => hk.elim) (fun q hq => Nat.le_trans hszc hq) HRc.out HBc.out hszc (by omega) ?_; intro v1 w3 hq3 hb3 hg3 hat3; have HR3 := Aside0.mk hq3; have HB3 := Aside0.mk hb3; clear hq3 hb3 hg3 hat3)
                  go_roundg (gk - 1)
                  case measure => have := HI.out; omega
                  case rel => exact ⟨i + 1, ⟨by have := HI.out; omega⟩, by go_num, (by rw [cnt_old h1 HS.out]), by omega, by omega, HB3, ⟨by rw [List.take_succ_eq_append_getElem h1, ← edge_get l i h1]; exact HR3.out⟩⟩
                · have hr0 : decide (r < 0) = true := decide_eq_true (hr.2 hs)
                  have HS := Aside0.mk hs
                  clear hr hs
                  go_wp2_with fail
                  refine (has_calls wc A5 c5 gn (rd_TGEdge l i).f0 (Kd.C_below HCG.out.2.2 HBc.out) HCG.out.2.1 (by omega)).mono ?_
                  rintro e wd ⟨rfl, hb⟩
                  have HBd := Aside0.mk (below_then HBc.out HBc.out.size hb)
                  have HGd := Aside0.mk (HGc.out.below hb)
                  have HRd := Aside0.mk (Kd.R_below HRc.out hb)
                  clear hb y0 y1
                  obtain ⟨ad', hae, y0, y1⟩ := edge_at (Kd.C_below HC.out (below_then HBr.out HBr.out.size HBd.out)) i h1
                  obtain rfl := Option.some.inj hae
                  by_cases hm0 : (rd_TGEdge l i).f0 ∈ gn
                  · rw [isK_in hm0]
                    have HM0 := Aside0.mk hm0
                    clear hm0
                    have hszc := HBd.out.size
                    have hil60 : (l.take i).length ≤ 60 := by rw [List.length_take]; omega
                    go_wp2_with (at_builtin; refine Kd.R_append kGEdge (w0 := wS) (W := wd) wS.heap.size (by rfl) (.tmp 133) (.tmp 138) 22 28 (.agg #[(.int .i64 0), (.int .i64 0)]) 16 (by rfl) Try.underlying22 Rf.info28 rfl (by decide) (by omega) (.slice A11 i c11) (l.take i) (rd_TGEdge l i) [.int .i64 (rd_TGEdge l i).f0, .int .i64 (rd_TGEdge l i).f1] (fun q => wS.heap.size ≤ q) (fun _ => False) (by rfl) (by rfl) (kGEdge_mkM _ _ _ _) (fun _ hk => hk.elim) (fun q hq => Nat.le_trans hszc hq) HRd.out HBd.out hszc (by omega) ?_; intro v1 w3 hq3 hb3 hg3 hat3; have HR3 := Aside0.mk hq3; have HB3 := Aside0.mk hb3; clear hq3 hb3 hg3 hat3)
                    go_roundg (gk - 1)
                    case measure => have := HI.out; omega
                    case rel => exact ⟨i + 1, ⟨by have := HI.out; omega⟩, by go_num, (by rw [cnt_new h1 HS.out, if_neg (by simp [outK, HM0.out]), List.append_nil]), by omega, by omega, HB3, ⟨by rw [List.take_succ_eq_append_getElem h1, ← edge_get l i h1]; exact HR3.out⟩⟩
                  · rw [isK_no hm0]
                    have HM0 := Aside0.mk hm0
                    clear hm0
                    go_wp2_with fail
                    refine (has_calls wd A5 c5 gn (rd_TGEdge l i).f1 (Kd.C_below HCG.out.2.2 HBd.out) HCG.out.2.1 (by omega)).mono ?_
                    rintro e we ⟨rfl, hb⟩
                    have HBe := Aside0.mk (below_then HBd.out HBd.out.size hb)
                    have HGe := Aside0.mk (HGd.out.below hb)
                    have HRe := Aside0.mk (Kd.R_below HRd.out hb)
                    clear hb y0 y1
                    obtain ⟨ad', hae, y0, y1⟩ := edge_at (Kd.C_below HC.out (below_then HBr.out HBr.out.size HBe.out)) i h1
                    obtain rfl := Option.some.inj hae
                    by_cases hm1 : (rd_TGEdge l i).f1 ∈ gn
                    · rw [isK_in hm1]
                      have HM1 := Aside0.mk hm1
                      clear hm1
                      have hszc := HBe.out.size
                      have hil60 : (l.take i).length ≤ 60 := by rw [List.length_take]; omega
                      go_wp2_with (at_builtin; refine Kd.R_append kGEdge (w0 := wS) (W := we) wS.heap.size (by rfl) (.tmp 133) (.tmp 138) 22 28 (.agg #[(.int .i64 0), (.int .i64 0)]) 16 (by rfl) Try.underlying22 Rf.info28 rfl (by decide) (by omega) (.slice A11 i c11) (l.take i) (rd_TGEdge l i) [.int .i64 (rd_TGEdge l i).f0, .int .i64 (rd_TGEdge l i).f1] (fun q => wS.heap.size ≤ q) (fun _ => False) (by rfl) (by rfl) (kGEdge_mkM _ _ _ _) (fun _ hk => hk.elim) (fun q hq => Nat.le_trans hszc hq) HRe.out HBe.out hszc (by omega) ?_; intro v1 w3 hq3 hb3 hg3 hat3; have HR3 := Aside0.mk hq3; have HB3 := Aside0.mk hb3; clear hq3 hb3 hg3 hat3)
                      go_roundg (gk - 1)
                      case measure => have := HI.out; omega
                      case rel => exact ⟨i + 1, ⟨by have := HI.out; omega⟩, by go_num, (by rw [cnt_new h1 HS.out, if_neg (by simp [outK, HM1.out]), List.append_nil]), by omega, by omega, HB3, ⟨by rw [List.take_succ_eq_append_getElem h1, ← edge_get l i h1]; exact HR3.out⟩⟩
                    · rw [isK_no hm1]
                      have HM1 := Aside0.mk hm1
                      clear hm1
                      go_wp2_with fail
                      refine start_ (n := 13) (S := fun wx => wx.cell? (ad.add (i * 2)) = some (.int .i64 (rd_TGEdge l i).f0) ∧ wx.cell? ⟨(ad.add (i * 2)).block, (ad.add (i * 2)).off + 1, none⟩ = some (.int .i64 (rd_TGEdge l i).f1)) (ds := []) #[false, false, false, false, false, false, false, false, false, false, false, false, false] (by kernel_rfl) rfl rfl (⟨y0, y1⟩) (fun hHeld => ?_)
                      refine pure_ (i := 0) (N := some 120) (v := ?_) (a' := ?_) #[true, false, false, false, false, false, false, false, false, false, false, false, false] rfl rfl (by kernel_rfl) (fun _ _ _ h => h) (Or.inl ⟨by rfl, ?_⟩) ?_ ?_
                      rotate_left
                      · intro w'
                        go_simp
                        all_goals (with_reducible rfl)
                      rotate_left
                      · simp only [Act.put, List.setIfInBounds_toArray, List.set_cons_zero, List.set_cons_succ, i64_w, i32_w]
                        rfl
                      refine pure_ (i := 1) (N := some 121) (v := ?_) (a' := ?_) #[true, true, false, false, false, false, false, false, false, false, false, false, false] rfl rfl (by kernel_rfl) (fun _ _ _ h => h) (Or.inl ⟨by rfl, ?_⟩) ?_ ?_
                      rotate_left
                      · intro w'
                        go_simp
                        all_goals (with_reducible rfl)
                      rotate_left
                      · simp only [Act.put, List.setIfInBounds_toArray, List.set_cons_zero, List.set_cons_succ, i64_w, i32_w]
                        rfl
                      refine pure_ (i := 2) (N := some 122) (v := ?_) (a' := ?_) #[true, true, true, false, false, false, false, false, false, false, false, false, false] rfl rfl (by kernel_rfl) (fun _ _ _ h => h) (Or.inl ⟨by rfl, ?_⟩) ?_ ?_
                      rotate_left
                      · intro w'
                        go_simp
                        all_goals (with_reducible rfl)
                      rotate_left
                      · simp only [Act.put, List.setIfInBounds_toArray, List.set_cons_zero, List.set_cons_succ, i64_w, i32_w]
                        rfl
                      refine pure_ (i := 3) (N := some 123) (v := ?_) (a' := ?_) #[true, true, true, true, false, false, false, false, false, false, false, false, false] rfl rfl (by kernel_rfl) (fun _ _ _ h => h) (Or.inl ⟨by rfl, ?_⟩) ?_ ?_
                      rotate_left
                      · intro w'
                        go_simp
                        all_goals (with_reducible rfl)
                      rotate_left
                      · simp only [Act.put, List.setIfInBounds_toArray, List.set_cons_zero, List.set_cons_succ, i64_w, i32_w]
                        rfl
                      refine pure_ (i := 4) (N := some 124) (v := ?_) (a' := ?_) #[true, true, true, true, true, false, false, false, false, false, false, false, false] rfl rfl (by kernel_rfl) (fun _ _ _ h => h) (Or.inl ⟨by rfl, ?_⟩) ?_ ?_
                      rotate_left
                      · intro w'
                        go_simp
                        all_goals (with_reducible rfl)
                      rotate_left
                      · simp only [Act.put, List.setIfInBounds_toArray, List.set_cons_zero, List.set_cons_succ, i64_w, i32_w]
                        rfl
                      refine pure_ (i := 6) (N := some 126) (v := ?_) (a' := ?_) #[true, true, true, true, true, false, true, false, false, false, false, false, false] rfl rfl (by kernel_rfl) (fun _ _ _ h => h) (Or.inl ⟨by rfl, ?_⟩) ?_ ?_
                      rotate_left
                      · intro w'
                        go_simp
                        all_goals (with_reducible rfl)
                      rotate_left
                      · simp only [Act.put, List.setIfInBounds_toArray, List.set_cons_zero, List.set_cons_succ, i64_w, i32_w]
                        rfl
                      refine pure_ (i := 7) (N := some 127) (v := ?_) (a' := ?_) #[true, true, true, true, true, false, true, true, false, false, false, false, false] rfl rfl (by kernel_rfl) (fun _ _ _ h => h) (Or.inl ⟨by rfl, ?_⟩) ?_ ?_
                      rotate_left
                      · intro w'
                        go_simp
                        all_goals (with_reducible rfl)
                      rotate_left
                      · simp only [Act.put, List.setIfInBounds_toArray, List.set_cons_zero, List.set_cons_succ, i64_w, i32_w]
                        rfl
                      refine pure_ (i := 8) (N := some 128) (v := ?_) (a' := ?_) #[true, true, true, true, true, false, true, true, true, false, false, false, false] rfl rfl (by kernel_rfl) (fun _ _ _ h => h) (Or.inl ⟨by rfl, ?_⟩) ?_ ?_
                      rotate_left
                      · intro w'
                        go_simp
                        all_goals (with_reducible rfl)
                      rotate_left
                      · simp only [Act.put, List.setIfInBounds_toArray, List.set_cons_zero, List.set_cons_succ, i64_w, i32_w]
                        rfl
                      refine pure_ (i := 9) (N := some 129) (v := ?_) (a' := ?_) #[true, true, true, true, true, false, true, true, true, true, false, false, false] rfl rfl (by kernel_rfl) (fun _ _ _ h => h) (Or.inl ⟨by rfl, ?_⟩) ?_ ?_
                      rotate_left
                      · intro w'
                        go_simp
                        all_goals (with_reducible rfl)
                      rotate_left
                      · simp only [Act.put, List.setIfInBounds_toArray, List.set_cons_zero, List.set_cons_succ, i64_w, i32_w]
                        rfl
                      refine take_ (i := 5) (N := some 125) (v := ?_) (a' := ?_) #[true, true, true, true, true, true, true, true, true, true, false, false, false] rfl rfl (by kernel_rfl) (fun _ _ _ h => h) (Or.inl ⟨by rfl, ?_⟩) hHeld ?_ ?_
                      rotate_left
                      · intro w' hSw
                        (try dsimp only at hSw)
                        go_simp
                        all_goals (with_reducible rfl)
                      rotate_left
                      · simp only [Act.put, List.setIfInBounds_toArray, List.set_cons_zero, List.set_cons_succ, i64_w, i32_w]
                        rfl
                      refine take_ (i := 10) (N := some 130) (v := ?_) (a' := ?_) #[true, true, true, true, true, true, true, true, true, true, true, false, false] rfl rfl (by kernel_rfl) (fun _ _ _ h => h) (Or.inl ⟨by rfl, ?_⟩) hHeld ?_ ?_
                      rotate_left
                      · intro w' hSw
                        (try dsimp only at hSw)
                        go_simp
                        all_goals (with_reducible rfl)
                      rotate_left
                      · simp only [Act.put, List.setIfInBounds_toArray, List.set_cons_zero, List.set_cons_succ, i64_w, i32_w]
                        rfl
                      refine one_ (i := 11) (N := some 131) #[true, true, true, true, true, true, true, true, true, true, true, true, false] rfl rfl (by kernel_rfl) (by decide) (fun K hK => ?_)
                      go_simp
                      go_at_call 10
                      refine (leadsI _ g b _ _ _ (HGe.out.below (below_drew (Below.refl _ _))) (by omega)).mono ?_
                      rintro e wf ⟨r, rfl, hr, hb⟩
                      obtain rfl : r = true := hr.2 (.edge (mem_restK.2 ⟨edges_mem l i h1 h2, HM0.out, HM1.out⟩))
                      have HBf := Aside0.mk (below_then (below_drew HBe.out) HBe.out.size hb)
                      have HRf := Aside0.mk (Kd.R_below HRe.out (below_then (below_drew (Below.refl we.heap.size we)) (Nat.le_refl _) hb))
                      clear hr hb y0 y1
                      obtain ⟨ad', hae, y0, y1⟩ := edge_at (Kd.C_below HC.out (below_then HBr.out HBr.out.size HBf.out)) i h1
                      obtain rfl := Option.some.inj hae
                      (try go_wp2_with fail)
                      refine hK.out _ _ (⟨y0, y1⟩) (fun hHeld => ?_)
                      clear hK K
                      (try simp only [Act.put, List.setIfInBounds_toArray, List.set_cons_zero, List.set_cons_succ])
                      refine pure_ (i := 12) (N := some 132) (v := ?_) (a' := ?_) #[true, true, true, true, true, true, true, true, true, true, true, true, true] rfl rfl (by kernel_rfl) (fun _ _ _ h => h) (Or.inl ⟨by rfl, ?_⟩) ?_ ?_
                      rotate_left
                      · intro w'
                        go_simp
                        all_goals (with_reducible rfl)
                      rotate_left
                      · simp only [Act.put, List.setIfInBounds_toArray, List.set_cons_zero, List.set_cons_succ, i64_w, i32_w]
                        rfl
                      refine done_ (by kernel_rfl) ?_
                      have hszc := HBf.out.size
                      have hil60 : (l.take i).length ≤ 60 := by rw [List.length_take]; omega
                      go_wp2_with (at_builtin; refine Kd.R_append kGEdge (w0 := wS) (W := wf) wS.heap.size (by rfl) (.tmp 133) (.tmp 138) 22 28 (.agg #[(.int .i64 0), (.int .i64 0)]) 16 (by rfl) Try.underlying22 Rf.info28 rfl (by decide) (by omega) (.slice A11 i c11) (l.take i) (rd_TGEdge l i) [.int .i64 (rd_TGEdge l i).f0, .int .i64 (rd_TGEdge l i).f1] (fun q => wS.heap.size ≤ q) (fun _ => False) (by rfl) (by rfl) (kGEdge_mkM _ _ _ _) (fun _ hk => hk.elim) (fun q hq => Nat.le_trans hszc hq) HRf.out HBf.out hszc (by omega) ?_; intro v1 w3 hq3 hb3 hg3 hat3; have HR3 := Aside0.mk hq3; have HB3 := Aside0.mk hb3; clear hq3 hb3 hg3 hat3)
                      go_roundg (gk - 1)
                      case measure => have := HI.out; omega
                      case rel => exact ⟨i + 1, ⟨by have := HI.out; omega⟩, by go_num, (by rw [cnt_new h1 HS.out, if_pos (by simp [outK, HM0.out, HM1.out]), List.length_append]; go_num), by omega, by omega, HB3, ⟨by rw [List.take_succ_eq_append_getElem h1, ← edge_get l i h1]; exact HR3.out⟩⟩
              · have hend : (i < l.length ∧ ¬ i < 60) ∨ ¬ i < l.length := by omega
                have hei : l.take i = l.take 60 := by
                  by_cases h : i < l.length
                  · rw [show i = 60 by omega]
                  · rw [List.take_of_length_le (by omega), List.take_of_length_le (by omega)]
                rw [hei]
                clear hlt hei
                rcases hend with ⟨h1, h2⟩ | h1
                all_goals
                  go_wp2_with fail
                  refine (lenI wr g b _ HGi.out).mono ?_
                  rintro e we ⟨rfl, rfl⟩
                  go_wp2_with fail
                  refine (lives_calls _).mono ?_
                  rintro e wl ⟨rfl, hb⟩
                  have HBl := Aside0.mk (below_then HBw.out HBw.out.size hb)
                  clear hb
                  go_wp2_with fail
                  go_ret
                  exact ⟨rfl, HBl.out⟩
            -- W]
end Go.Proofs.Ytgjjfldfdkoedaa
