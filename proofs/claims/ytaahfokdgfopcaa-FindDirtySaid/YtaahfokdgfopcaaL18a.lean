/- Layer 18: FindDirty's walk. -/
import Derived.Test.YtaahfokdgfopcaaFv
import Derived.Deep.DeepCutAuto
import Derived.Deep.CutBlock
namespace Go.Proofs.Ytaahfokdgfopcaa
open Go.RowKit Go.Proofs.YtaahfokdgfopcaaW.PrintWords Go.Proofs.YtaahfokdgfopcaaW.PrintLast Go.Proofs.YtaahfokdgfopcaaW.PrintMore
open Rf MapL MapV
set_option linter.unusedVariables false
set_option linter.unusedSimpArgs false
attribute [local go_sem high] eqAGDirty
/-- The first record that changes a page. -/
def firstC (p : Int) : List SGRecord → Int
  | [] => 0
  | r :: t => if (r.f0 = 1 ∨ r.f0 = 2) ∧ r.f5 = p then r.f1 else firstC p t
theorem stepW_d (s : Wst) (r : SGRecord) : (stepW s r).ds = (if r.f0 = 1 ∨ r.f0 = 2 then (putD s r.f5 r.f1).ds else s.ds) ∧ (stepW s r).D = (if r.f0 = 1 ∨ r.f0 = 2 then (putD s r.f5 r.f1).D else s.D) := by
  unfold stepW
  split
  · rename_i h
    rw [if_neg (by omega), if_neg (by omega)]; exact ⟨rfl, rfl⟩
  · split
    · rw [if_neg (by omega), if_neg (by omega)]; exact ⟨rfl, rfl⟩
    · split
      · rename_i h
        exact ⟨rfl, rfl⟩
      · rename_i h
        exact ⟨rfl, rfl⟩
theorem fold_dirty : ∀ (l : List SGRecord), (∀ r ∈ l, okR r = true) → ∀ (s : Wst) (p : Int),
    (p ∈ (l.foldl stepW s).ds ↔ p ∈ s.ds ∨ firstC p l ≠ 0) ∧ (p ∈ s.ds → (l.foldl stepW s).D p = s.D p) ∧ (p ∉ s.ds → firstC p l ≠ 0 → (l.foldl stepW s).D p = firstC p l)
  | [], _, s, p => ⟨by simp [firstC], fun _ => rfl, fun _ h => absurd rfl h⟩
  | r :: t, hr, s, p => by
    obtain ⟨h1, h2, h3⟩ := fold_dirty t (fun x hx => hr x (List.mem_cons_of_mem _ hx)) (stepW s r) p
    obtain ⟨_, hls, _⟩ := rec_facts (hr r List.mem_cons_self)
    obtain ⟨e1, e2⟩ := stepW_d s r
    show (p ∈ (t.foldl stepW (stepW s r)).ds ↔ _) ∧ (_ → (t.foldl stepW (stepW s r)).D p = _) ∧ (_ → _ → (t.foldl stepW (stepW s r)).D p = _)
    unfold firstC
    by_cases hk : r.f0 = 1 ∨ r.f0 = 2
    · rw [if_pos hk] at e1 e2
      by_cases hd : r.f5 ∈ s.ds
      · have ep : putD s r.f5 r.f1 = s := by unfold putD; rw [if_pos hd]
        rw [ep] at e1 e2
        rw [e1] at h1 h2 h3
        rw [e2] at h2
        by_cases he : r.f5 = p
        · subst he
          rw [if_pos ⟨hk, rfl⟩]
          exact ⟨⟨fun _ => .inl hd, fun _ => h1.2 (.inl hd)⟩, h2, fun h => absurd hd h⟩
        · rw [if_neg (fun q => he q.2)]
          exact ⟨h1, h2, h3⟩
      · have ep : putD s r.f5 r.f1 = ⟨s.ks, s.F, s.ds ++ [r.f5], fun y => if y = r.f5 then r.f1 else s.D y⟩ := by unfold putD; rw [if_neg hd]
        rw [ep] at e1 e2
        have e1 : (stepW s r).ds = s.ds ++ [r.f5] := e1
        have e2 : (stepW s r).D = fun y => if y = r.f5 then r.f1 else s.D y := e2
        by_cases he : r.f5 = p
        · subst he
          rw [if_pos ⟨hk, rfl⟩]
          have hin : r.f5 ∈ (stepW s r).ds := by rw [e1]; simp
          refine ⟨⟨fun _ => .inr (by omega), fun _ => h1.2 (.inl hin)⟩, fun h => absurd h hd, fun _ _ => ?_⟩
          rw [h2 hin, e2]
          simp
        · rw [if_neg (fun q => he q.2)]
          have hiff : p ∈ (stepW s r).ds ↔ p ∈ s.ds := by
            rw [e1, List.mem_append, List.mem_singleton]
            exact ⟨fun q => q.elim id (fun q => absurd q.symm he), fun q => .inl q⟩
          have hDp : (stepW s r).D p = s.D p := by rw [e2]; simp only; rw [if_neg (fun q => he q.symm)]
          refine ⟨by rw [h1, hiff], fun h => (h2 (hiff.2 h)).trans hDp, fun h hn => h3 (fun q => h (hiff.1 q)) hn⟩
    · rw [if_neg hk] at e1 e2
      rw [if_neg (fun q => hk q.1)]
      rw [e1] at h1 h2 h3
      rw [e2] at h2
      exact ⟨h1, h2, h3⟩
theorem dirty_log {l : List SGRecord} (h : LogP l) {M : List Int} (hM : M.Perm (foldW l).ds) (p : Int) : (p ∈ M ↔ firstC p l ≠ 0) ∧ (firstC p l ≠ 0 → (foldW l).D p = firstC p l) := by
  obtain ⟨h1, h2, h3⟩ := fold_dirty l h.2 wst0 p
  refine ⟨?_, h3 (by simp [wst0])⟩
  rw [hM.mem_iff]
  exact h1.trans ⟨fun q => q.elim (fun q => by simp [wst0] at q) id, .inr⟩
theorem head_split {M1 M2 : List Int} {p : Int} (hs : (M1 ++ M2).Pairwise (· < ·)) (h1 : ∀ x ∈ M1, x < p) (h2 : ∀ x ∈ M2, p ≤ x) (hp : p ∈ M1 ++ M2) : ∃ T, M2 = p :: T ∧ ∀ x ∈ T, p + 1 ≤ x := by
  have hp2 : p ∈ M2 := by
    rcases List.mem_append.1 hp with h | h
    · have := h1 p h; omega
    · exact h
  have hs2 := (List.pairwise_append.1 hs).2.1
  cases M2 with
  | nil => cases hp2
  | cons y T =>
    rw [List.pairwise_cons] at hs2
    have hy := h2 y List.mem_cons_self
    have e : y = p := by
      rcases List.mem_cons.1 hp2 with h | h
      · exact h.symm
      · have := hs2.1 p h; omega
    subst e
    exact ⟨T, rfl, fun x hx => by have := hs2.1 x hx; omega⟩
theorem firstC_drop (p : Int) (l : List SGRecord) (j : Nat) (h : j < l.length) : firstC p (l.drop j) = if ((rcd l j).f0 = 1 ∨ (rcd l j).f0 = 2) ∧ (rcd l j).f5 = p then (rcd l j).f1 else firstC p (l.drop (j + 1)) := by
  have e : rcd l j = l[j] := by unfold rcd; rw [List.getD_eq_getElem?_getD, List.getElem?_eq_getElem h]; rfl
  rw [List.drop_eq_getElem_cons h, e]
  rfl
set_option maxRecDepth 100000 in
set_option maxHeartbeats 8000000 in
theorem dirty_row (w : World) (l : List SGRecord) (A : Option Addr) (c : Nat) (hC : Kd.C kGRecord w A l.length l) (hc : l.length ≤ c) (hl : l.length ≤ 140737488351232) (hx : ∀ r ∈ l, Okx r) :
    Calls Try.prog 5 #[.slice A l.length c] w fun e w' => e = .returned (.bool true) ∧ Below w.heap.size w w' := by
  have HC := Aside0.mk hC
  clear hC
  go_enter Try.func5, Try.ntmps5
  go_wp2_with fail
  refine (small_calls w l A c HC.out hc hl hx).mono ?_
  rintro e wa ⟨b, rfl, hb300, hb⟩
  have HBa := Aside0.mk hb
  clear hb hx
  cases b with
  | false =>
    go_wp2_with fail
    refine (lives18 wa).mono ?_
    rintro e wq ⟨rfl, hb⟩
    have HBq := Aside0.mk (below_then HBa.out HBa.out.size hb)
    clear hb
    go_wp2_with fail
    go_ret
    exact ⟨rfl, HBq.out⟩
  | true =>
    have h300 := hb300 rfl
    clear hb300 hl
    go_wp2_with fail
    refine (all_calls wa l A c (Kd.C_below HC.out HBa.out) hc h300).mono ?_
    rintro e wb ⟨hcase, hb⟩
    have HBb := Aside0.mk (below_then HBa.out HBa.out.size hb)
    clear hb HBa
    rcases hcase with ⟨hlog, rfl⟩ | ⟨hlog, v1, v2, v3, L, M, rfl, p1, p2, p3, p4, p5, p6, p7⟩
    · clear hlog
      have HBc := Aside0.mk (below_alloc HBb.out (.cells #[.slice none 0 0, .slice none 0 0, .slice none 0 0, .int .u64 0] 34))
      go_wp2_with fail
      refine (lives18 _).mono ?_
      rintro e wq ⟨rfl, hb⟩
      have HBq := Aside0.mk (below_then HBc.out HBc.out.size hb)
      clear hb
      go_wp2_with fail
      go_ret
      exact ⟨rfl, HBq.out⟩
    · have HDL := Aside0.mk (dirty_log hlog p3)
      have HM16 := Aside0.mk (show ∀ x ∈ M, 0 ≤ x ∧ x ≤ 15 from fun x hx => by
        have h1 := (fold_bnd l hlog.2 l.length (Nat.le_refl _)).ds
        rw [List.take_length] at h1
        exact h1 x (p3.mem_iff.1 hx))
      have hm300 : M.length ≤ 300 := by
        have h1 := (fold_bnd l hlog.2 l.length (Nat.le_refl _)).nd
        rw [List.take_length] at h1
        rw [p3.length_eq]
        omega
      have HMR := Aside0.mk p4
      have HLOG := Aside0.mk hlog
      obtain ⟨A1, C1, hv1⟩ := Kd.R_slice p5
      obtain ⟨A2, C2, hv2⟩ := Kd.R_slice p6
      obtain ⟨A3, C3, hv3, hlc3, hC3⟩ := Kd.R_reads p7
      have HC3 := Aside0.mk hC3
      rw [List.length_map] at hv1 hv2 hv3
      obtain ⟨n1, hn1⟩ : ∃ n, n = L.length := ⟨_, rfl⟩
      obtain ⟨n2, hn2⟩ : ∃ n, n = M.length := ⟨_, rfl⟩
      rw [← hn1] at hv1 hv2
      rw [← hn2] at hv3
      subst hv1
      subst hv2
      subst hv3
      obtain ⟨rd, hrd⟩ : ∃ x, x = redoOf (foldW l).D M := ⟨_, rfl⟩
      rw [← hrd]
      have HRD := Aside0.mk hrd
      have HN2 := Aside0.mk hn2
      have hn300 : n2 ≤ 300 := by omega
      clear p1 p2 p3 p4 p5 p6 p7 hlog hn1 hn2 hrd hlc3 hC3
      go_upto_region 4 with fail
      have hbx := below_alloc (Below.refl wb.heap.size wb) (.cells #[.slice A1 n1 C1, .slice A2 n1 C2, .slice A3 n2 C3, .int .u64 rd] 34)
      have hxx := heap_alloc_new wb (.cells #[.slice A1 n1 C1, .slice A2 n1 C2, .slice A3 n2 C3, .int .u64 rd] 34)
      have HBc := Aside0.mk (below_then HBb.out HBb.out.size hbx)
      have HDC := Aside0.mk (Kd.C_below HC3.out hbx)
      obtain ⟨X, hX⟩ : ∃ x, x = wb.heap.size := ⟨_, rfl⟩
      generalize wb.alloc (.cells #[.slice A1 n1 C1, .slice A2 n1 C2, .slice A3 n2 C3, .int .u64 rd] 34) = wc at HBc HDC hxx ⊢
      rw [← hX] at hxx ⊢
      have z2 := blk_cell hxx 2
      have z3 := blk_cell hxx 3
      have HLC := Aside0.mk (Kd.C_below HC.out HBc.out)
      clear hbx hxx hX HC HC3 HBb
      go_wp2_with fail
      go_loopg [5, 6, 7] 16 (fun gk v5 v6 v7 wr => ∃ (p k : Nat) (ls : Int) (M1 M2 : List Int), Aside0 (p + gk = 16) ∧ v7 = .int .i64 p ∧ p ≤ 16 ∧ v6 = .int .i64 k ∧ k ≤ n2 ∧ v5 = .int .u64 ls ∧ Aside0 (k = M1.length) ∧ Aside0 (M = M1 ++ M2) ∧ Aside0 (∀ x ∈ M1, x < (p : Int)) ∧ Aside0 (∀ x ∈ M2, (p : Int) ≤ x) ∧ Aside0 (ls = M1.foldl (redoF (foldW l).D) 0) ∧ wc = wr)
      case atStart => exact ⟨0, 0, 0, [], M, ⟨rfl⟩, rfl, by omega, rfl, Nat.zero_le _, rfl, ⟨rfl⟩, ⟨rfl⟩, ⟨by simp⟩, ⟨fun x hx => (HM16.out x hx).1⟩, ⟨rfl⟩, rfl⟩
      case round =>
        obtain ⟨p, k, ls, M1, M2, HK, rfl, hp16, rfl, hkn, rfl, HKM, HMM, HM1, HM2, HLS, rfl⟩ := hrel
        by_cases hp : p < 16
        · have d0 : decide ((p : Int) < 16) = true := by simp; omega
          obtain ⟨gk0, hgk0⟩ : ∃ x, x = gk := ⟨_, rfl⟩
          have HG0 := Aside0.mk hgk0
          clear hgk0
          go_wp2_with fail
          go_loopg [8, 9] l.length (fun gj v8 v9 wz => ∃ (i : Nat) (fc : Int), Aside0 (i = gj) ∧ v9 = .int .i64 ((i : Int) - 1) ∧ i ≤ l.length ∧ v8 = .int .u64 fc ∧ Aside0 (fc = firstC p (l.drop i)) ∧ wc = wz)
          case atStart => exact ⟨l.length, 0, ⟨rfl⟩, (by go_num), Nat.le_refl _, rfl, ⟨by rw [List.drop_length]; rfl⟩, rfl⟩
          case round =>
            obtain ⟨i, fc, HI, rfl, hi, rfl, HFC, rfl⟩ := hrel
            by_cases hi0 : i = 0
            · subst hi0
              rw [show (((0 : Nat) : Int) - 1) = -1 from rfl]
              have HFZ := Aside0.mk (show fc = firstC p l from by have := HFC.out; rwa [List.drop_zero] at this)
              clear HFC
              by_cases hf : fc = 0
              · have e0 : (fc == 0) = true := by simpa using hf
                have HNM := Aside0.mk (show (p : Int) ∉ M from fun q => by have := (HDL.out p).1.1 q; rw [← HFZ.out] at this; exact this hf)
                clear hf
                go_wp2_with fail
                go_roundg (gk0 - 1)
                case measure => have := HK.out; have := HG0.out; omega
                case rel => exact ⟨p + 1, k, ls, M1, M2, ⟨by have := HK.out; have := HG0.out; omega⟩, (by go_num), by omega, rfl, hkn, rfl, HKM, HMM, ⟨fun x hx => by have := HM1.out x hx; omega⟩, ⟨fun x hx => by
                  have h1 := HM2.out x hx
                  have h2 : x ≠ (p : Int) := fun e => HNM.out (by rw [HMM.out, ← e]; exact List.mem_append_right _ hx)
                  omega⟩, HLS, rfl⟩
              · have e0 : (fc == 0) = false := by simpa using hf
                have HPM := (HDL.out p).1.2 (by rw [← HFZ.out]; exact hf)
                have HDP := Aside0.mk (show (foldW l).D p = fc from by rw [HFZ.out]; exact (HDL.out p).2 (by rw [← HFZ.out]; exact hf))
                obtain ⟨T, rfl, hT⟩ := head_split (by rw [← HMM.out]; exact HMR.out) HM1.out HM2.out (by rw [← HMM.out]; exact HPM)
                have HT := Aside0.mk hT
                have hkl : k < n2 := by rw [HN2.out, HMM.out, HKM.out]; simp
                have dk : decide ((n2 : Int) ≤ (k : Int)) = false := by simp; omega
                obtain ⟨ad, rfl, h0, h1⟩ := dir_at HDC.out k (by rw [List.length_map, ← HN2.out]; exact hkl)
                have hel : (M.map (dirOf (foldW l).D)).getD k zGDirty = ⟨p, fc⟩ := by
                  rw [List.getD_eq_getElem?_getD, List.getElem?_map, HMM.out, List.getElem?_append_right (by rw [HKM.out]; exact Nat.le_refl _), HKM.out, Nat.sub_self]
                  show dirOf _ _ = _
                  unfold dirOf
                  rw [HDP.out]
                rw [hel] at h0 h1
                clear hel hT HPM
                have HLN := Aside0.mk (show redoF (foldW l).D ls p = (M1 ++ [(p : Int)]).foldl (redoF (foldW l).D) 0 from by rw [List.foldl_append, ← HLS.out]; rfl)
                by_cases hz : ls = 0 ∨ fc < ls
                · have HLF := Aside0.mk (show fc = (M1 ++ [(p : Int)]).foldl (redoF (foldW l).D) 0 from by rw [← HLN.out]; unfold redoF; rw [HDP.out, if_pos hz])
                  by_cases hz0 : ls = 0
                  · have e1 : (ls == 0) = true := by simpa using hz0
                    clear hz hz0
                    go_wp2_with fail
                    go_roundg (gk0 - 1)
                    case measure => have := HK.out; have := HG0.out; omega
                    case rel => exact ⟨p + 1, k + 1, fc, M1 ++ [(p : Int)], T, ⟨by have := HK.out; have := HG0.out; omega⟩, (by go_num), by omega, (by go_num), by omega, rfl, ⟨by rw [List.length_append, HKM.out]; rfl⟩, ⟨by rw [HMM.out, List.append_assoc]; rfl⟩, ⟨fun x hx => by
                      rcases List.mem_append.1 hx with hx | hx
                      · have := HM1.out x hx; omega
                      · rw [List.mem_singleton.1 hx]; omega⟩, ⟨fun x hx => by have := HT.out x hx; omega⟩, HLF, rfl⟩
                  · have e1 : (ls == 0) = false := by simpa using hz0
                    have e2 : decide (fc < ls) = true := by simp; omega
                    clear hz hz0
                    go_wp2_with fail
                    go_roundg (gk0 - 1)
                    case measure => have := HK.out; have := HG0.out; omega
                    case rel => exact ⟨p + 1, k + 1, fc, M1 ++ [(p : Int)], T, ⟨by have := HK.out; have := HG0.out; omega⟩, (by go_num), by omega, (by go_num), by omega, rfl, ⟨by rw [List.length_append, HKM.out]; rfl⟩, ⟨by rw [HMM.out, List.append_assoc]; rfl⟩, ⟨fun x hx => by
                      rcases List.mem_append.1 hx with hx | hx
                      · have := HM1.out x hx; omega
                      · rw [List.mem_singleton.1 hx]; omega⟩, ⟨fun x hx => by have := HT.out x hx; omega⟩, HLF, rfl⟩
                · have HLF := Aside0.mk (show ls = (M1 ++ [(p : Int)]).foldl (redoF (foldW l).D) 0 from by rw [← HLN.out]; unfold redoF; rw [HDP.out, if_neg hz])
                  have e1 : (ls == 0) = false := by simp; omega
                  have e2 : decide (fc < ls) = false := by simp; omega
                  clear hz
                  go_wp2_with fail
                  go_roundg (gk0 - 1)
                  case measure => have := HK.out; have := HG0.out; omega
                  case rel => exact ⟨p + 1, k + 1, ls, M1 ++ [(p : Int)], T, ⟨by have := HK.out; have := HG0.out; omega⟩, (by go_num), by omega, (by go_num), by omega, rfl, ⟨by rw [List.length_append, HKM.out]; rfl⟩, ⟨by rw [HMM.out, List.append_assoc]; rfl⟩, ⟨fun x hx => by
                      rcases List.mem_append.1 hx with hx | hx
                      · have := HM1.out x hx; omega
                      · rw [List.mem_singleton.1 hx]; omega⟩, ⟨fun x hx => by have := HT.out x hx; omega⟩, HLF, rfl⟩
            · obtain ⟨j, rfl⟩ : ∃ j, i = j + 1 := ⟨i - 1, by omega⟩
              clear hi0
              rw [show (((j + 1 : Nat) : Int) - 1) = (j : Int) by omega]
              have hjl : j < l.length := by omega
              obtain ⟨ad, o, A10, c10, A11, c11, rfl, ho, x0, x1, x2, x3, x4, x5, x6, x7, x8, x9, x10, x11⟩ := rg_at12 HLC.out j hjl
              have HFD := Aside0.mk (firstC_drop p l j hjl)
              rw [← ho] at HFD
              clear x2 x3 x4 x6 x7 x8 x9 x10 x11 ho
              by_cases hm : (o.f0 = 1 ∨ o.f0 = 2) ∧ o.f5 = p
              · have HFN := Aside0.mk (show o.f1 = firstC p (l.drop j) from by rw [HFD.out, if_pos hm])
                obtain ⟨hm1, hm2⟩ := hm
                have e5 : (o.f5 == (p : Int)) = true := by simpa using hm2
                by_cases h1 : o.f0 = 1
                · have e1 : (o.f0 == 1) = true := by simpa using h1
                  clear hm1 hm2 h1
                  go_wp2_with fail
                  go_roundg (gk - 1)
                  case measure => have := HI.out; omega
                  case rel => exact ⟨j, o.f1, ⟨by have := HI.out; omega⟩, (by go_num), by omega, rfl, HFN, rfl⟩
                · have e1 : (o.f0 == 1) = false := by simpa using h1
                  have e2 : (o.f0 == 2) = true := by simp; omega
                  clear hm1 hm2 h1
                  go_wp2_with fail
                  go_roundg (gk - 1)
                  case measure => have := HI.out; omega
                  case rel => exact ⟨j, o.f1, ⟨by have := HI.out; omega⟩, (by go_num), by omega, rfl, HFN, rfl⟩
              · have HFN := Aside0.mk (show fc = firstC p (l.drop j) from by rw [HFD.out, if_neg hm, HFC.out])
                by_cases h1 : o.f0 = 1
                · have e1 : (o.f0 == 1) = true := by simpa using h1
                  have e5 : (o.f5 == (p : Int)) = false := by simp; intro q; exact hm ⟨.inl h1, q⟩
                  clear hm h1
                  go_wp2_with fail
                  go_roundg (gk - 1)
                  case measure => have := HI.out; omega
                  case rel => exact ⟨j, fc, ⟨by have := HI.out; omega⟩, (by go_num), by omega, rfl, HFN, rfl⟩
                · have e1 : (o.f0 == 1) = false := by simpa using h1
                  by_cases h2 : o.f0 = 2
                  · have e2 : (o.f0 == 2) = true := by simpa using h2
                    have e5 : (o.f5 == (p : Int)) = false := by simp; intro q; exact hm ⟨.inr h2, q⟩
                    clear hm h1 h2
                    go_wp2_with fail
                    go_roundg (gk - 1)
                    case measure => have := HI.out; omega
                    case rel => exact ⟨j, fc, ⟨by have := HI.out; omega⟩, (by go_num), by omega, rfl, HFN, rfl⟩
                  · have e2 : (o.f0 == 2) = false := by simpa using h2
                    clear hm h1 h2
                    go_wp2_with fail
                    go_roundg (gk - 1)
                    case measure => have := HI.out; omega
                    case rel => exact ⟨j, fc, ⟨by have := HI.out; omega⟩, (by go_num), by omega, rfl, HFN, rfl⟩
        · obtain rfl : p = 16 := by omega
          have hM2 : M2 = [] := by
            cases M2 with
            | nil => rfl
            | cons y T =>
              have h1 := HM2.out y List.mem_cons_self
              have h2 := HM16.out y (by rw [HMM.out]; simp)
              omega
          subst hM2
          have hk : k = n2 := by rw [HN2.out, HMM.out, HKM.out]; simp
          have hls : ls = rd := by rw [HRD.out, HLS.out]; unfold redoOf; rw [HMM.out, List.append_nil]
          subst hk
          subst hls
          clear hp
          go_wp2_with fail
          refine (lives18 wc).mono ?_
          rintro e wq ⟨rfl, hb⟩
          have HBq := Aside0.mk (below_then HBc.out HBc.out.size hb)
          clear hb
          go_wp2_with fail
          go_ret
          exact ⟨rfl, HBq.out⟩
end Go.Proofs.Ytaahfokdgfopcaa
