/- find's found and All. -/
import Derived.Test.YtaahfokdgfopcaaZFc
import Derived.Test.YtaahfokdgfopcaaZFs
import Derived.Test.YtaahfokdgfopcaaZFg
import Derived.Test.YtaahfokdgfopcaaZFl
namespace Go.Proofs.Ytaahfokdgfopcaa
open Go.RowKit Go.Proofs.YtaahfokdgfopcaaW.PrintWords Go.Proofs.YtaahfokdgfopcaaW.PrintLast Go.Proofs.YtaahfokdgfopcaaW.PrintMore
open Rf MapL MapV
set_option linter.unusedVariables false
set_option linter.unusedSimpArgs false
theorem rg_at12 {w : World} {A : Option Addr} {n : Nat} {xs : List SGRecord} (h : Kd.C kGRecord w A n xs) (k : Nat) (h1 : k < n) : ∃ (ad : Addr) (o : SGRecord) (A10 : Option Addr) (c10 : Nat) (A11 : Option Addr) (c11 : Nat), A = some ad ∧ o = rcd xs k ∧ w.cell? (ad.add (k * 12)) = some (.int .i64 o.f0) ∧ w.cell? ⟨(ad.add (k * 12)).block, (ad.add (k * 12)).off + 1, none⟩ = some (.int .u64 o.f1) ∧ w.cell? ⟨(ad.add (k * 12)).block, (ad.add (k * 12)).off + 2, none⟩ = some (.int .i64 o.f2) ∧ w.cell? ⟨(ad.add (k * 12)).block, (ad.add (k * 12)).off + 3, none⟩ = some (.int .u64 o.f3) ∧ w.cell? ⟨(ad.add (k * 12)).block, (ad.add (k * 12)).off + 4, none⟩ = some (.int .u64 o.f4) ∧ w.cell? ⟨(ad.add (k * 12)).block, (ad.add (k * 12)).off + 5, none⟩ = some (.int .i64 o.f5) ∧ w.cell? ⟨(ad.add (k * 12)).block, (ad.add (k * 12)).off + 6, none⟩ = some (.int .i64 o.f6.f0) ∧ w.cell? ⟨(ad.add (k * 12)).block, (ad.add (k * 12)).off + 7, none⟩ = some (.string o.f6.f1) ∧ w.cell? ⟨(ad.add (k * 12)).block, (ad.add (k * 12)).off + 8, none⟩ = some (.string o.f6.f2) ∧ w.cell? ⟨(ad.add (k * 12)).block, (ad.add (k * 12)).off + 9, none⟩ = some (.string o.f6.f3) ∧ w.cell? ⟨(ad.add (k * 12)).block, (ad.add (k * 12)).off + 10, none⟩ = some (.slice A10 o.f7.length c10) ∧ w.cell? ⟨(ad.add (k * 12)).block, (ad.add (k * 12)).off + 11, none⟩ = some (.slice A11 o.f8.length c11) := by
  obtain ⟨ad, c, e, _, hK, hc0⟩ := Kd.C_get h zGRecord (k : Int) (by omega) (by omega)
  rw [Int.toNat_natCast] at hK
  obtain ⟨A10, c10, A11, c11, rfl, _, _, _, _⟩ := kGRecord_open hK
  have hc : ∀ j u, _ → w.cell? (ad.add (k * 12 + j)) = some u := hc0
  exact ⟨ad, _, A10, c10, A11, c11, e, rfl, hc 0 _ rfl, by rw [← add_field _ _ 1 (by omega)]; exact hc 1 _ rfl, by rw [← add_field _ _ 2 (by omega)]; exact hc 2 _ rfl, by rw [← add_field _ _ 3 (by omega)]; exact hc 3 _ rfl, by rw [← add_field _ _ 4 (by omega)]; exact hc 4 _ rfl, by rw [← add_field _ _ 5 (by omega)]; exact hc 5 _ rfl, by rw [← add_field _ _ 6 (by omega)]; exact hc 6 _ rfl, by rw [← add_field _ _ 7 (by omega)]; exact hc 7 _ rfl, by rw [← add_field _ _ 8 (by omega)]; exact hc 8 _ rfl, by rw [← add_field _ _ 9 (by omega)]; exact hc 9 _ rfl, by rw [← add_field _ _ 10 (by omega)]; exact hc 10 _ rfl, by rw [← add_field _ _ 11 (by omega)]; exact hc 11 _ rfl⟩
theorem rec_facts {k ls tx pv un pg ak : Int} {a b c : ByteArray} {l : List SGTxn} {m : List SGDirty} (h : recOk k ls tx pv un pg ak a b c l m = true) :
    (0 < k ∧ k < 9) ∧ (16 ≤ ls ∧ ls ≤ 1152921504606846991) ∧ (0 ≤ tx ∧ tx ≤ 1073741824) ∧ ((k = 1 ∨ k = 2) → 0 ≤ pg ∧ pg < 16) ∧ (¬ (k = 7 ∨ k = 8) → 1 ≤ tx) := by
  unfold recOk numB at h
  simp only [Bool.and_eq_true, decide_eq_true_eq] at h
  obtain ⟨⟨⟨⟨⟨⟨⟨⟨⟨h1, h2⟩, h3⟩, _⟩, _⟩, h4⟩, h5⟩, _⟩, _⟩, _⟩ := h
  refine ⟨⟨h1, h2⟩, h3, ?_, fun hk => ?_, fun hk => ?_⟩
  · by_cases hk : k = 7 ∨ k = 8
    · rw [if_pos hk] at h5
      simp only [Bool.and_eq_true, decide_eq_true_eq] at h5
      omega
    · rw [if_neg hk] at h5
      unfold txnB at h5
      simp only [decide_eq_true_eq] at h5
      omega
  · rw [if_pos hk] at h4
    unfold pageB at h4
    simp only [Bool.and_eq_true, decide_eq_true_eq] at h4
    exact h4.1
  · rw [if_neg hk] at h5
    unfold txnB at h5
    simp only [decide_eq_true_eq] at h5
    omega
/-- What a log leaves. -/
def foldW (l : List SGRecord) : Wst := l.foldl stepW wst0
theorem foldW_snoc (l : List SGRecord) (r : SGRecord) : foldW (l ++ [r]) = stepW (foldW l) r := by unfold foldW; rw [List.foldl_append]; rfl
theorem foldW_take (l : List SGRecord) (k : Nat) (h : k < l.length) : foldW (l.take (k + 1)) = stepW (foldW (l.take k)) (rcd l k) := by
  rw [List.take_succ_eq_append_getElem h, foldW_snoc]
  unfold rcd
  rw [List.getD_eq_getElem?_getD, List.getElem?_eq_getElem h]
  rfl
/-- Bounds of what a walk holds. -/
structure Bnd (s : Wst) (n : Nat) : Prop where
  ks : ∀ x ∈ s.ks, 0 ≤ x ∧ x ≤ 1073741824
  ds : ∀ x ∈ s.ds, 0 ≤ x ∧ x ≤ 15
  nk : s.ks.length ≤ n
  nd : s.ds.length ≤ n
theorem Bnd.putT {s : Wst} {n : Nat} (h : Bnd s n) (id : Int) (g : Goi) (hi : 0 ≤ id ∧ id ≤ 1073741824) : Bnd (putT s id g) (n + 1) := by
  unfold Go.Proofs.Ytaahfokdgfopcaa.putT
  refine ⟨fun x hx => ?_, h.ds, ?_, Nat.le_succ_of_le h.nd⟩
  · simp only at hx
    split at hx
    · exact h.ks x hx
    · rcases List.mem_append.1 hx with hx | hx
      · exact h.ks x hx
      · rw [List.mem_singleton.1 hx]; exact hi
  · simp only
    split
    · exact Nat.le_succ_of_le h.nk
    · rw [List.length_append]; exact Nat.succ_le_succ h.nk
theorem Bnd.stepW {s : Wst} {n : Nat} {r : SGRecord} (h : Bnd s n) (hr : okR r = true) : Bnd (stepW s r) (n + 1) := by
  obtain ⟨_, _, h3, h4, _⟩ := rec_facts hr
  unfold Go.Proofs.Ytaahfokdgfopcaa.stepW
  split
  · exact ⟨h.ks, h.ds, Nat.le_succ_of_le h.nk, Nat.le_succ_of_le h.nd⟩
  · split
    · exact ⟨fun x hx => h.ks x (List.mem_filter.1 hx).1, h.ds, Nat.le_succ_of_le (Nat.le_trans (List.length_filter_le _ _) h.nk), Nat.le_succ_of_le h.nd⟩
    · split
      · rename_i hk
        by_cases hp : r.f5 ∈ s.ds
        · have e : putD s r.f5 r.f1 = s := by unfold putD; rw [if_pos hp]
          rw [e]; exact h.putT _ _ h3
        · have hb := h.putT r.f2 (newG (wasG s r.f2) r) h3
          have hpg := h4 hk
          refine ⟨?_, ?_, ?_, ?_⟩
          · have := hb.ks; unfold putD; rw [if_neg hp]; exact this
          · unfold putD; rw [if_neg hp]
            intro x hx
            have hx : x ∈ s.ds ++ [r.f5] := hx
            rcases List.mem_append.1 hx with hx | hx
            · exact h.ds x hx
            · rw [List.mem_singleton.1 hx]; omega
          · have := hb.nk; unfold putD; rw [if_neg hp]; exact this
          · unfold putD; rw [if_neg hp]
            show (s.ds ++ [r.f5]).length ≤ _
            rw [List.length_append]; exact Nat.succ_le_succ h.nd
      · exact h.putT _ _ h3
theorem fold_bnd (l : List SGRecord) (h : ∀ r ∈ l, okR r = true) : ∀ k, k ≤ l.length → Bnd (foldW (l.take k)) k
  | 0, _ => ⟨fun x hx => by simp [foldW, wst0] at hx, fun x hx => by simp [foldW, wst0] at hx, by simp [foldW, wst0], by simp [foldW, wst0]⟩
  | k + 1, hk => by
    rw [foldW_take l k (by omega)]
    exact (fold_bnd l h k (by omega)).stepW (h _ (rcd_mem l k (by omega)))
/-- What All answers. -/
def Alled (w w' : World) (l : List SGRecord) (e : Ending) : Prop :=
  ((¬ LogP l ∧ e = .returned (.tuple #[.agg #[.slice none 0 0, .slice none 0 0, .slice none 0 0, .int .u64 0], .int .i64 1])) ∨ (LogP l ∧ ∃ (v1 v2 v3 : Value) (L M : List Int), e = .returned (.tuple #[.agg #[v1, v2, v3, .int .u64 (redoOf (foldW l).D M)], .int .i64 0]) ∧ L.Perm (foldW l).ks ∧ L.Pairwise (· < ·) ∧ M.Perm (foldW l).ds ∧ M.Pairwise (· < ·) ∧
      Kd.R kGTxn 46 w' w.heap.size (fun _ => True) v1 (L.map (txnOf (foldW l).F)) ∧ Kd.R kU 26 w' w.heap.size (fun _ => True) v2 (L.map fun id => ((foldW l).F id).next) ∧ Kd.R kGDirty 49 w' w.heap.size (fun _ => True) v3 (M.map (dirOf (foldW l).D)))) ∧ Below w.heap.size w w'
set_option maxRecDepth 100000 in
set_option maxHeartbeats 8000000 in
theorem found_calls (w : World) (l : List SGRecord) (A : Option Addr) (c : Nat) (hC : Kd.C kGRecord w A l.length l) (hc : l.length ≤ c) (hl : l.length ≤ 300) :
    Calls Try.prog 29 #[.slice A l.length c, .bool false] w fun e w' => Alled w w' l e := by
  have HC := Aside0.mk hC
  clear hC
  go_enter Try.func29, Try.ntmps29
  have hba := below_alloc (Below.refl w.heap.size w) (.cells #[.slice none 0 0, .slice none 0 0, .slice none 0 0, .int .u64 0] 34)
  have hb1 := heap_alloc_new w (.cells #[.slice none 0 0, .slice none 0 0, .slice none 0 0, .int .u64 0] 34)
  go_upto_region 1 with fail
  have HBa := Aside0.mk hba
  have H1a := Aside0.mk hb1
  obtain ⟨Z, hZ⟩ : ∃ x, x = w.heap.size := ⟨_, rfl⟩
  generalize w.alloc (.cells #[.slice none 0 0, .slice none 0 0, .slice none 0 0, .int .u64 0] 34) = wa at HBa H1a ⊢
  rw [← hZ] at H1a ⊢
  have HZ := Aside0.mk hZ
  clear hba hb1 hZ
  go_wp2_with fail
  refine (fcheck_calls wa l A c (Kd.C_below HC.out HBa.out) hc (by omega)).mono ?_
  rintro e wb ⟨n, rfl, hn, hb⟩
  have HBb := Aside0.mk (below_then HBa.out HBa.out.size hb)
  have H1b := Aside0.mk (blk_below H1a.out hb)
  clear hb HBa H1a
  rcases hn with ⟨rfl, hlog⟩ | ⟨rfl, hlog⟩
  rotate_left
  · have HLOG := Aside0.mk hlog
    clear hlog
    go_wp2_with (first | ((with_reducible refine gate_ (.store 34 (.tmp 4) (.tmp 15)) rfl ?_); refine store_box_l (t := 34) (new := #[.slice none 0 0, .slice none 0 0, .slice none 0 0, .int .u64 0]) rfl rfl rfl (by rfl) (by rfl) H1b.out (Nat.le_refl _) (Nat.le_refl _) rfl (by kernel_rfl) (by intro q hq; simp only [List.mem_cons, List.not_mem_nil, or_false] at hq; rcases hq with rfl | rfl | rfl | rfl <;> rfl) ?_; intro w9 h9 g9; have H9 := Aside0.mk h9; have G9 := Aside0.mk g9; clear h9 g9))
    refine bodyPost_ret (results_ct rfl _ _ Z 34 #[.slice none 0 0, .slice none 0 0, .slice none 0 0, .int .u64 0] (0, 0) _ rfl H9.out Try.underlying34 rfl (by kernel_rfl)) rfl ?_
    exact ⟨.inl ⟨HLOG.out, rfl⟩, HBb.out.grown G9.out HBb.out.size (fun q hq => by injection hq with hq; have := HZ.out; omega)⟩
  · have HLOG := Aside0.mk hlog
    clear hlog
    go_wp2_with fail
    refine (begun_calls wb A l.length c).mono ?_
    rintro e w1 ⟨m1, m2, rfl, hW⟩
    have hb := hW.bel.below (fun _ h => h)
    have HB1 := Aside0.mk (below_then HBb.out HBb.out.size hb)
    have H11 := Aside0.mk (blk_below H1b.out hb)
    have HM := Aside0.mk (show Z < wb.heap.size ∧ wb.heap.size ≤ m1 ∧ wb.heap.size ≤ m2 from ⟨blk_lt H1b.out, hW.t1.elim id (fun h => h.elim), hW.t2.elim id (fun h => h.elim)⟩)
    have HW1 := Aside0.mk (show Walks ⟨w, fun _ => False⟩ w1 m1 m2 wst0 from ⟨hW.tx, hW.di, hW.ne, ⟨⟨HB1.out.os, HB1.out.tape, HB1.out.output, HB1.out.size, fun k hk => absurd hk (Nat.not_lt_zero _)⟩, fun q hq _ => HB1.out.block q hq⟩, .inl (by have := HM.out; have := HBb.out.size; show w.heap.size ≤ m1; omega), .inl (by have := HM.out; have := HBb.out.size; show w.heap.size ≤ m2; omega)⟩)
    clear hb hW HBb H1b
    go_upto_region 5 with fail
    have hbf := below_alloc (Below.refl w1.heap.size w1) (.cells #[.map (some m1), .map (some m2), .slice A l.length c] 81)
    have hff := heap_alloc_new w1 (.cells #[.map (some m1), .map (some m2), .slice A l.length c] 81)
    have HW2 := Aside0.mk (HW1.out.next hbf)
    have H12 := Aside0.mk (blk_below H11.out hbf)
    have HF2 := Aside0.mk hff
    have HMF := Aside0.mk (show m1 < w1.heap.size ∧ m2 < w1.heap.size ∧ Z < w1.heap.size ∧ w.heap.size ≤ w1.heap.size from ⟨HW1.out.tx.lt, HW1.out.di.lt, blk_lt H11.out, HB1.out.size⟩)
    obtain ⟨Y, hY⟩ : ∃ x, x = w1.heap.size := ⟨_, rfl⟩
    generalize w1.alloc (.cells #[.map (some m1), .map (some m2), .slice A l.length c] 81) = w2 at HW2 H12 HF2 ⊢
    rw [← hY] at HF2 HMF ⊢
    clear hbf hff hY HW1 H11 HB1
    go_wp2_with fail
    go_loopg [7, 20] l.length (fun gk v7 v20 wr => ∃ k : Nat, Aside0 (k + gk = l.length) ∧ v7 = .int .i64 0 ∧ v20 = .int .i64 k ∧ k ≤ l.length ∧ Aside0 (Walks ⟨w, fun _ => False⟩ wr m1 m2 wst0) ∧ Aside0 (wr.heap[Z]? = some (.cells #[.slice none 0 0, .slice none 0 0, .slice none 0 0, .int .u64 0] 34 (0, 0))) ∧ Aside0 (wr.heap[Y]? = some (.cells #[.map (some m1), .map (some m2), .slice A l.length c] 81 (0, 0))))
    case atStart => exact ⟨0, ⟨by omega⟩, rfl, rfl, Nat.zero_le _, HW2, H12, HF2⟩
    case round =>
      obtain ⟨k, HK, rfl, rfl, hk, HWr, H1r, HFr⟩ := hrel
      clear HW2 H12 HF2
      by_cases hlt : k < l.length
      · obtain ⟨ad, o, A10, c10, A11, c11, rfl, ho, x0, x1, x2, x3, x4, x5, x6, x7, x8, x9, x10, x11⟩ := rg_at12 (Kd.C_below HC.out (HWr.out.bel.below (fun _ h => h))) k hlt
        clear ho
        go_wp2_with fail
        have hbo := below_alloc (Below.refl wr.heap.size wr) (.cells #[.int .i64 o.f0, .int .u64 o.f1, .int .i64 o.f2, .int .u64 o.f3, .int .u64 o.f4, .int .i64 o.f5, .int .i64 o.f6.f0, .string o.f6.f1, .string o.f6.f2, .string o.f6.f3, .slice A10 o.f7.length c10, .slice A11 o.f8.length c11] 43)
        go_roundg (gk - 1)
        case measure => have := HK.out; omega
        case rel => exact ⟨k + 1, ⟨by have := HK.out; omega⟩, rfl, (by go_num), by omega, ⟨HWr.out.next hbo⟩, ⟨blk_below H1r.out hbo⟩, ⟨blk_below HFr.out hbo⟩⟩
      · obtain rfl : k = l.length := by omega
        clear hlt
        go_wp2_with fail
        have HW0 := Aside0.mk (show Walks ⟨w, fun _ => False⟩ wr m1 m2 (foldW (l.take 0)) from HWr.out)
        go_loopg [54] l.length (fun gj v54 wz => ∃ k : Nat, Aside0 (k + gj = l.length) ∧ v54 = .int .i64 k ∧ k ≤ l.length ∧ Aside0 (Walks ⟨w, fun _ => False⟩ wz m1 m2 (foldW (l.take k))) ∧ Aside0 (wz.heap[Z]? = some (.cells #[.slice none 0 0, .slice none 0 0, .slice none 0 0, .int .u64 0] 34 (0, 0))) ∧ Aside0 (wz.heap[Y]? = some (.cells #[.map (some m1), .map (some m2), .slice A l.length c] 81 (0, 0))))
        case atStart => exact ⟨0, ⟨by omega⟩, rfl, Nat.zero_le _, HW0, H1r, HFr⟩
        case round =>
          obtain ⟨k, HK, rfl, hk, HW3, H13, HF3⟩ := hrel
          clear HW0 HWr H1r HFr
          by_cases hlt : k < l.length
          ·
            obtain ⟨ad, o, A10, c10, A11, c11, rfl, ho, x0, x1, x2, x3, x4, x5, x6, x7, x8, x9, x10, x11⟩ := rg_at12 (Kd.C_below HC.out (HW3.out.bel.below (fun _ h => h))) k hlt
            have HO := Aside0.mk ho
            clear ho
            go_upto_region 16 with fail
            have hbo := below_alloc (Below.refl wr.heap.size wr) (.cells #[.int .i64 o.f0, .int .u64 o.f1, .int .i64 o.f2, .int .u64 o.f3, .int .u64 o.f4, .int .i64 o.f5, .int .i64 o.f6.f0, .string o.f6.f1, .string o.f6.f2, .string o.f6.f3, .slice A10 o.f7.length c10, .slice A11 o.f8.length c11] 43)
            have hro := heap_alloc_new wr (.cells #[.int .i64 o.f0, .int .u64 o.f1, .int .i64 o.f2, .int .u64 o.f3, .int .u64 o.f4, .int .i64 o.f5, .int .i64 o.f6.f0, .string o.f6.f1, .string o.f6.f2, .string o.f6.f3, .slice A10 o.f7.length c10, .slice A11 o.f8.length c11] 43)
            have HW4 := Aside0.mk (HW3.out.next hbo)
            have H14 := Aside0.mk (blk_below H13.out hbo)
            have HF4 := Aside0.mk (blk_below HF3.out hbo)
            obtain ⟨RB, hRB⟩ : ∃ x, x = wr.heap.size := ⟨_, rfl⟩
            generalize wr.alloc (.cells #[.int .i64 o.f0, .int .u64 o.f1, .int .i64 o.f2, .int .u64 o.f3, .int .u64 o.f4, .int .i64 o.f5, .int .i64 o.f6.f0, .string o.f6.f1, .string o.f6.f2, .string o.f6.f3, .slice A10 o.f7.length c10, .slice A11 o.f8.length c11] 43) = w4 at HW4 H14 HF4 hro ⊢
            rw [← hRB] at hro ⊢
            clear hbo hRB x0 x1 x2 x3 x4 x5 x6 x7 x8 x9 x10 x11 HW3 H13 HF3
            have x0 := blk_cell hro 0
            have x1 := blk_cell hro 1
            have x2 := blk_cell hro 2
            have x3 := blk_cell hro 3
            have x4 := blk_cell hro 4
            have x5 := blk_cell hro 5
            have x6 := blk_cell hro 6
            have x7 := blk_cell hro 7
            have x8 := blk_cell hro 8
            have x9 := blk_cell hro 9
            have x10 := blk_cell hro 10
            have x11 := blk_cell hro 11
            have y0 := blk_cell HF4.out 0
            have y1 := blk_cell HF4.out 1
            clear hro
            go_wp2_with fail
            refine (step_calls ⟨w4, ownW m1 m2⟩ w4 m1 m2 (foldW (l.take k)) o A10 o.f7.length c10 A11 o.f8.length c11 HW4.out.here).mono ?_
            rintro e w5 ⟨rfl, g⟩
            have HW5 := Aside0.mk (show Walks ⟨w, fun _ => False⟩ w5 m1 m2 (foldW (l.take (k + 1))) from by rw [foldW_take l k hlt, ← HO.out]; exact HW4.out.back g)
            have H15 := Aside0.mk (g.keep H14.out (by have := HM.out; omega) (by have := HM.out; omega))
            have HF5 := Aside0.mk (g.keep HF4.out (by have := HMF.out; omega) (by have := HMF.out; omega))
            clear g HW4 H14 HF4 x0 x1 x2 x3 x4 x5 x6 x7 x8 x9 x10 x11 y0 y1
            go_wp2_with fail
            go_roundg (gk - 1)
            case measure => have := HK.out; omega
            case rel => exact ⟨k + 1, ⟨by have := HK.out; omega⟩, (by go_num), by omega, HW5, H15, HF5⟩
          · obtain rfl : k = l.length := by omega
            have hbn := fold_bnd l HLOG.out.2 l.length (Nat.le_refl _)
            have hw3 := HW3.out
            rw [List.take_length] at hbn hw3
            have HW3 := Aside0.mk hw3
            have HBN := Aside0.mk hbn
            clear hbn hw3 hlt
            have y0 := blk_cell HF3.out 0
            have y1 := blk_cell HF3.out 1
            have y2 := blk_cell HF3.out 2
            go_wp2_with fail
            refine (left_calls ⟨w, fun _ => False⟩ wr m1 m2 (foldW l) A l.length c HW3.out HBN.out.ks (fun x hx => by have := HBN.out.ds x hx; omega) (by have := HBN.out.nk; omega) (by have := HBN.out.nd; omega)).mono ?_
            rintro e w5 ⟨v1, v2, v3, L, M, rfl, p1, p2, p3, p4, p5, p6, p7, hb⟩
            obtain ⟨A1, C1, hv1⟩ := Kd.R_slice p5
            obtain ⟨A2, C2, hv2⟩ := Kd.R_slice p6
            obtain ⟨A3, C3, hv3⟩ := Kd.R_slice p7
            rw [List.length_map] at hv1 hv2 hv3
            subst hv1
            subst hv2
            subst hv3
            have H15 := Aside0.mk (blk_below H13.out hb)
            have HB5 := Aside0.mk (below_then (HW3.out.bel.below (fun _ h => h)) HW3.out.bel.size hb)
            have HSZ := Aside0.mk (show w.heap.size ≤ wr.heap.size from HW3.out.bel.size)
            have P1 := Aside0.mk p1
            have P2 := Aside0.mk p2
            have P3 := Aside0.mk p3
            have P4 := Aside0.mk p4
            have P5 := Aside0.mk p5
            have P6 := Aside0.mk p6
            have P7 := Aside0.mk p7
            obtain ⟨rd, hrd⟩ : ∃ x, x = redoOf (foldW l).D M := ⟨_, rfl⟩
            have HRD := Aside0.mk hrd
            rw [← hrd]
            obtain ⟨n1, hn1⟩ : ∃ n, n = L.length := ⟨_, rfl⟩
            obtain ⟨n2, hn2⟩ : ∃ n, n = M.length := ⟨_, rfl⟩
            rw [← hn1] at P5 P6 ⊢
            rw [← hn2] at P7 ⊢
            clear p1 p2 p3 p4 p5 p6 p7 hb hrd hn1 hn2 y0 y1 y2 HF3 HW3 H13
            go_wp2_with (first | ((with_reducible refine gate_ (.store 34 (.tmp 4) (.tmp 64)) rfl ?_); refine store_box_l (t := 34) (new := #[.slice A1 n1 C1, .slice A2 n1 C2, .slice A3 n2 C3, .int .u64 rd]) rfl rfl rfl (by rfl) (by rfl) H15.out (Nat.le_refl _) (Nat.le_refl _) rfl (by kernel_rfl) (by intro q hq; simp only [List.mem_cons, List.not_mem_nil, or_false] at hq; rcases hq with rfl | rfl | rfl | rfl <;> rfl) ?_; intro w9 h9 g9; have H9 := Aside0.mk h9; have G9 := Aside0.mk g9; clear h9 g9))
            have far : ∀ {α : Type} {K : Kd α} {e : TypeId} {base : Nat} {v : Value} {xs : List α}, K.E = [] → e ≠ 34 → Kd.R K e w5 base (fun _ => True) v xs → Kd.R K e w9 base (fun _ => True) v xs := fun hE hne hr => Kd.R_grown2 hr hE G9.out (fun q hq e => by
              injection hq with hq
              subst hq
              exact Kd.R_ne hr H15.out hne e)
            refine bodyPost_ret (results_ct rfl _ _ Z 34 #[.slice A1 n1 C1, .slice A2 n1 C2, .slice A3 n2 C3, .int .u64 rd] (0, 0) _ rfl H9.out Try.underlying34 rfl (by kernel_rfl)) rfl ?_
            exact ⟨.inr ⟨HLOG.out, _, _, _, L, M, by rw [← HRD.out]; rfl, P1.out, P2.out, P3.out, P4.out, Kd.R_lower (far rfl (by decide) P5.out) HSZ.out, Kd.R_lower (far rfl (by decide) P6.out) HSZ.out, Kd.R_lower (far rfl (by decide) P7.out) HSZ.out⟩, HB5.out.grown G9.out HB5.out.size (fun q hq => by injection hq with hq; have := HZ.out; omega)⟩
set_option maxRecDepth 100000 in
set_option maxHeartbeats 8000000 in
theorem all_calls (w : World) (l : List SGRecord) (A : Option Addr) (c : Nat) (hC : Kd.C kGRecord w A l.length l) (hc : l.length ≤ c) (hl : l.length ≤ 300) :
    Calls Try.prog 13 #[.slice A l.length c] w fun e w' => Alled w w' l e := by
  have HC := Aside0.mk hC
  clear hC
  go_enter Try.func13, Try.ntmps13
  have hba := below_alloc (Below.refl w.heap.size w) (.cells #[.slice none 0 0, .slice none 0 0, .slice none 0 0, .int .u64 0] 34)
  have hb1 := heap_alloc_new w (.cells #[.slice none 0 0, .slice none 0 0, .slice none 0 0, .int .u64 0] 34)
  go_upto_region 1 with fail
  have HBa := Aside0.mk hba
  have H1a := Aside0.mk hb1
  obtain ⟨Z, hZ⟩ : ∃ x, x = w.heap.size := ⟨_, rfl⟩
  generalize w.alloc (.cells #[.slice none 0 0, .slice none 0 0, .slice none 0 0, .int .u64 0] 34) = wa at HBa H1a ⊢
  rw [← hZ] at H1a ⊢
  have HZ := Aside0.mk hZ
  clear hba hb1 hZ
  go_wp2_with fail
  refine (found_calls wa l A c (Kd.C_below HC.out HBa.out) hc hl).mono ?_
  rintro e w5 ⟨hcase, hb⟩
  have H15 := Aside0.mk (blk_below H1a.out hb)
  have HB5 := Aside0.mk (below_then HBa.out HBa.out.size hb)
  have HSZ := Aside0.mk (show w.heap.size ≤ wa.heap.size from HBa.out.size)
  clear hb
  rcases hcase with ⟨hlog, rfl⟩ | ⟨hlog, v1, v2, v3, L, M, rfl, p1, p2, p3, p4, p5, p6, p7⟩
  · have HLOG := Aside0.mk hlog
    clear hlog
    go_wp2_with (first | ((with_reducible refine gate_ (.store 34 (.tmp 2) (.tmp 6)) rfl ?_); refine store_box_l (t := 34) (new := #[.slice none 0 0, .slice none 0 0, .slice none 0 0, .int .u64 0]) rfl rfl rfl (by rfl) (by rfl) H15.out (Nat.le_refl _) (Nat.le_refl _) rfl (by kernel_rfl) (by intro q hq; simp only [List.mem_cons, List.not_mem_nil, or_false] at hq; rcases hq with rfl | rfl | rfl | rfl <;> rfl) ?_; intro w9 h9 g9; have H9 := Aside0.mk h9; have G9 := Aside0.mk g9; clear h9 g9))
    refine bodyPost_ret (results_ct rfl _ _ Z 34 #[.slice none 0 0, .slice none 0 0, .slice none 0 0, .int .u64 0] (0, 0) _ rfl H9.out Try.underlying34 rfl (by kernel_rfl)) rfl ?_
    exact ⟨.inl ⟨HLOG.out, rfl⟩, HB5.out.grown G9.out HB5.out.size (fun q hq => by injection hq with hq; have := HZ.out; omega)⟩
  · obtain ⟨A1, C1, hv1⟩ := Kd.R_slice p5
    obtain ⟨A2, C2, hv2⟩ := Kd.R_slice p6
    obtain ⟨A3, C3, hv3⟩ := Kd.R_slice p7
    rw [List.length_map] at hv1 hv2 hv3
    subst hv1
    subst hv2
    subst hv3
    have P1 := Aside0.mk p1
    have P2 := Aside0.mk p2
    have P3 := Aside0.mk p3
    have P4 := Aside0.mk p4
    have P5 := Aside0.mk p5
    have P6 := Aside0.mk p6
    have P7 := Aside0.mk p7
    obtain ⟨rd, hrd⟩ : ∃ x, x = redoOf (foldW l).D M := ⟨_, rfl⟩
    have HRD := Aside0.mk hrd
    rw [← hrd]
    obtain ⟨n1, hn1⟩ : ∃ n, n = L.length := ⟨_, rfl⟩
    obtain ⟨n2, hn2⟩ : ∃ n, n = M.length := ⟨_, rfl⟩
    rw [← hn1] at P5 P6 ⊢
    rw [← hn2] at P7 ⊢
    have HLOG := Aside0.mk hlog
    clear p1 p2 p3 p4 p5 p6 p7 hrd hn1 hn2 hlog
    go_wp2_with (first | ((with_reducible refine gate_ (.store 34 (.tmp 2) (.tmp 6)) rfl ?_); refine store_box_l (t := 34) (new := #[.slice A1 n1 C1, .slice A2 n1 C2, .slice A3 n2 C3, .int .u64 rd]) rfl rfl rfl (by rfl) (by rfl) H15.out (Nat.le_refl _) (Nat.le_refl _) rfl (by kernel_rfl) (by intro q hq; simp only [List.mem_cons, List.not_mem_nil, or_false] at hq; rcases hq with rfl | rfl | rfl | rfl <;> rfl) ?_; intro w9 h9 g9; have H9 := Aside0.mk h9; have G9 := Aside0.mk g9; clear h9 g9))
    have far : ∀ {α : Type} {K : Kd α} {e : TypeId} {base : Nat} {v : Value} {xs : List α}, K.E = [] → e ≠ 34 → Kd.R K e w5 base (fun _ => True) v xs → Kd.R K e w9 base (fun _ => True) v xs := fun hE hne hr => Kd.R_grown2 hr hE G9.out (fun q hq e => by
      injection hq with hq
      subst hq
      exact Kd.R_ne hr H15.out hne e)
    refine bodyPost_ret (results_ct rfl _ _ Z 34 #[.slice A1 n1 C1, .slice A2 n1 C2, .slice A3 n2 C3, .int .u64 rd] (0, 0) _ rfl H9.out Try.underlying34 rfl (by kernel_rfl)) rfl ?_
    exact ⟨.inr ⟨HLOG.out, _, _, _, L, M, by rw [← HRD.out]; rfl, P1.out, P2.out, P3.out, P4.out, Kd.R_lower (far rfl (by decide) P5.out) HSZ.out, Kd.R_lower (far rfl (by decide) P6.out) HSZ.out, Kd.R_lower (far rfl (by decide) P7.out) HSZ.out⟩, HB5.out.grown G9.out HB5.out.size (fun q hq => by injection hq with hq; have := HZ.out; omega)⟩
end Go.Proofs.Ytaahfokdgfopcaa
