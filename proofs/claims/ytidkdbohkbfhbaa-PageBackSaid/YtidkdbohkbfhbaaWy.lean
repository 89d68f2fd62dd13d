/- The call of page's right. -/
import Derived.Test.YtidkdbohkbfhbaaMs
import Derived.Test.YtidkdbohkbfhbaaWb
import Derived.Test.YtidkdbohkbfhbaaPv
namespace Go.Proofs.Ytidkdbohkbfhbaa
open Go.RowKit Go.Proofs.YtidkdbohkbfhbaaW.PrintWords Go.Proofs.YtidkdbohkbfhbaaW.PrintLast Go.Proofs.YtidkdbohkbfhbaaW.PrintMore
open Rf Go.ChangeMaps
set_option linter.unusedVariables false
set_option linter.unusedSimpArgs false
theorem below_block {w0 w : World} {base b : Nat} {es : Array MapEntry} {clock : Nat} (h : Below base w0 w) (hb : w.heap[b]? = some (.map es clock)) (hl : base ≤ b) (o : Obj) : Below base w0 (setBlock w b o) :=
  h.grown (row := some b) ⟨rfl, rfl, rfl, by simp [setBlock], fun k _ hk => heap_setBlock_other hb o (fun e => hk (by rw [e]))⟩ (Nat.le_trans hl (Nat.le_of_lt (Array.getElem?_eq_some_iff.1 hb).1)) (fun g hg => by injection hg with hg; omega)
theorem good_snoc {l : List SGCell} {c : SGCell} (h1 : ∀ d ∈ l, d.f0 = true → mayB d.f1 d.f2 = true) (h2 : l.Pairwise fun a b => a.f0 = true → b.f0 = true → a.f1 ≠ b.f1) (h3 : c.f0 = true → mayB c.f1 c.f2 = true) (h4 : ∀ d ∈ l, d.f0 = true → d.f1 ≠ c.f1) :
    (∀ d ∈ l ++ [c], d.f0 = true → mayB d.f1 d.f2 = true) ∧ (l ++ [c]).Pairwise fun a b => a.f0 = true → b.f0 = true → a.f1 ≠ b.f1 := by
  refine ⟨fun d hd hu => ?_, ?_⟩
  · rcases List.mem_append.1 hd with hd | hd
    · exact h1 d hd hu
    · rw [List.mem_singleton.1 hd] at hu ⊢
      exact h3 hu
  · rw [List.pairwise_append]
    exact ⟨h2, by simp, fun a ha b hb hu _ => by rw [List.mem_singleton.1 hb]; exact h4 a ha hu⟩
theorem blk_alloc' {w : World} {b : Nat} {x : Obj} (h : w.heap[b]? = some x) (o : Obj) : (w.alloc o).heap[b]? = some x := by
  have := (MapKept.heap_alloc w o).2 b (Array.getElem?_eq_some_iff.1 h).1
  rw [this]; exact h
set_option maxRecDepth 100000 in
set_option maxHeartbeats 2000000 in
theorem right_calls (w : World) (g : Nat) (id lsn : Int) (A : Option Addr) (c : Nat) (cs : List SGCell) (hp : PgAt w g id lsn (.slice A cs.length c)) (hC : Kd.C kGCell w A cs.length cs) (hs : Small cs) (hz : ∀ c ∈ cs, c.f0 = false → c = zGCell) :
    Calls Try.prog 43 #[.pointer (some ⟨g, 0, none⟩)] w fun e w' => ∃ r : Bool, e = .returned (.bool r) ∧ (r = true ↔ ((∀ c ∈ cs, c.f0 = true → mayB c.f1 c.f2 = true) ∧ (cs.Pairwise fun a b => a.f0 = true → b.f0 = true → a.f1 ≠ b.f1) ∧ (∀ c, cs.getLast? = some c → c.f0 = true) ∧ 0 ≤ free cs)) ∧ Below w.heap.size w w' := by
  have HP := Aside0.mk hp
  have HC := Aside0.mk hC
  have HS := Aside0.mk hs
  have HZ := Aside0.mk hz
  have hzb : (zeroValue 4).run Try.prog = fun w => .ok (.bool false) w := by rfl
  have p2 : ∀ o, (w.alloc o).cell? ⟨g, 2, none⟩ = some (.slice A cs.length c) := fun o => blk_cell (blk_alloc hp o) 2
  have hmk : (Instr.makeMap 95 none).run Try.prog w = .ok (.map (some w.heap.size)) (w.alloc (.map #[] 0)) := rfl
  clear hp hC hs hz
  go_enter Try.func43, Try.ntmps43
  go_wp2_with fail
  have hb0 : Below w.heap.size w (w.alloc (.map #[] 0)) := below_alloc (Below.refl _ _) _
  have hm0 : (w.alloc (.map #[] 0)).heap[w.heap.size]? = some (.map #[] 0) := heap_alloc_new w _
  obtain ⟨MB, hMB⟩ : ∃ x, x = w.heap.size := ⟨_, rfl⟩
  generalize w.alloc (.map #[] 0) = w1 at hb0 hm0 ⊢
  rw [← hMB] at hm0 ⊢
  have HMB := Aside0.mk hMB
  have HB0 := Aside0.mk hb0
  have HM0 := Aside0.mk hm0
  clear p2 hmk hb0 hm0 hMB
  go_loopg [13] cs.length (fun gk v13 wr => ∃ (k : Nat) (es : Array MapEntry) (clock : Nat), Aside0 (k + gk = cs.length) ∧ v13 = .int .i64 k ∧ k ≤ cs.length ∧ Aside0 (wr.heap[MB]? = some (.map es clock)) ∧ Aside0 (SeenM es (cs.take k)) ∧ Aside0 (Below w.heap.size w wr) ∧
    Aside0 ((∀ c ∈ cs.take k, c.f0 = true → mayB c.f1 c.f2 = true) ∧ (cs.take k).Pairwise fun a b => a.f0 = true → b.f0 = true → a.f1 ≠ b.f1))
  case atStart => exact ⟨0, #[], 0, ⟨by omega⟩, rfl, by omega, HM0, ⟨by simpa using SeenM.nil⟩, HB0, ⟨by simp⟩⟩
  case round =>
    obtain ⟨k, es, clock, Hk, rfl, hkl, HM, HE, HB, HG⟩ := hrel
    clear HM0 HB0
    have hk100 : cs.length ≤ 100 := HS.out.1
    by_cases hlt : k < cs.length
    · obtain ⟨ad, rfl, _⟩ := cell_at (Kd.C_below HC.out HB.out) k hlt
      have hx0 : ∀ o, (wr.alloc o).cell? (ad.add (k * 3)) = some (.bool (rd_TGCell cs k).f0) := fun o => by
        obtain ⟨ad', ea, y0, y1, y2⟩ := cell_at (Kd.C_below HC.out (below_alloc HB.out o)) k hlt
        cases ea; exact y0
      have hx1 : ∀ o, (wr.alloc o).cell? ⟨(ad.add (k * 3)).block, (ad.add (k * 3)).off + 1, none⟩ = some (.string (rd_TGCell cs k).f1) := fun o => by
        obtain ⟨ad', ea, y0, y1, y2⟩ := cell_at (Kd.C_below HC.out (below_alloc HB.out o)) k hlt
        cases ea; exact y1
      have hx2 : ∀ o, (wr.alloc o).cell? ⟨(ad.add (k * 3)).block, (ad.add (k * 3)).off + 2, none⟩ = some (.string (rd_TGCell cs k).f2) := fun o => by
        obtain ⟨ad', ea, y0, y1, y2⟩ := cell_at (Kd.C_below HC.out (below_alloc HB.out o)) k hlt
        cases ea; exact y2
      have HT := Aside0.mk (List.take_succ_eq_append_getElem hlt)
      have HRD := Aside0.mk (rd_get cs k hlt)
      have HCM := Aside0.mk (rd_mem cs k hlt)
      cases hu : (rd_TGCell cs k).f0 with
      | false =>
        simp only [hu] at hx0
        have HNW := Aside0.mk (show ∀ d ∈ cs.take k, d.f0 = true → d.f1 ≠ (rd_TGCell cs k).f1 from fun d hd hdu he => by
          have h1 := (mayB_iff _ _).1 (HG.out.1 d hd hdu)
          rw [HZ.out _ HCM.out hu] at he
          rw [he] at h1
          exact absurd h1.1 (by decide))
        go_wp2_with fail
        obtain ⟨es2, cl2, hput, hseen⟩ := SeenM.put HE.out Try.underlying95 Try.underlying9 (blk_alloc' HM.out (.cells #[.bool false, .string (rd_TGCell cs k).f1, .string (rd_TGCell cs k).f2] 46)) (rd_TGCell cs k) HNW.out
        rw [hu] at hput
        rw [hput]
        have hm5 := heap_setBlock_same (blk_alloc' HM.out (.cells #[.bool false, .string (rd_TGCell cs k).f1, .string (rd_TGCell cs k).f2] 46)) (.map es2 cl2)
        have hb5 := below_block (below_alloc HB.out (.cells #[.bool false, .string (rd_TGCell cs k).f1, .string (rd_TGCell cs k).f2] 46)) (blk_alloc' HM.out (.cells #[.bool false, .string (rd_TGCell cs k).f1, .string (rd_TGCell cs k).f2] 46)) (Nat.le_of_eq HMB.out.symm) (.map es2 cl2)
        generalize setBlock _ MB (.map es2 cl2) = w5 at hm5 hb5 ⊢
        have HM5 := Aside0.mk hm5
        have HB5 := Aside0.mk hb5
        have HE5 := Aside0.mk hseen
        have HG5 := Aside0.mk (good_snoc HG.out.1 HG.out.2 (c := rd_TGCell cs k) (fun h => by rw [hu] at h; exact absurd h (by decide)) HNW.out)
        clear hput hseen hm5 hb5
        go_wp2_with fail
        go_roundg (gk - 1)
        case measure => have := Hk.out; omega
        case rel => exact ⟨k + 1, es2, cl2, ⟨by have := Hk.out; omega⟩, by go_num, by omega, HM5, ⟨by rw [HT.out, ← HRD.out]; exact HE5.out⟩, HB5, ⟨by rw [HT.out, ← HRD.out]; exact HG5.out⟩⟩
      | true =>
        simp only [hu] at hx0
        go_wp2_with fail
        have hbx := heap_alloc_new wr (.cells #[.bool true, .string (rd_TGCell cs k).f1, .string (rd_TGCell cs k).f2] 46)
        have hma := blk_alloc' HM.out (.cells #[.bool true, .string (rd_TGCell cs k).f1, .string (rd_TGCell cs k).f2] 46)
        have hba := below_alloc HB.out (.cells #[.bool true, .string (rd_TGCell cs k).f1, .string (rd_TGCell cs k).f2] 46)
        obtain ⟨CB, hCB⟩ : ∃ x, x = wr.heap.size := ⟨_, rfl⟩
        generalize wr.alloc (.cells #[.bool true, .string (rd_TGCell cs k).f1, .string (rd_TGCell cs k).f2] 46) = wa at hbx hma hba ⊢
        rw [← hCB] at hbx ⊢
        clear hCB hx0 hx1 hx2
        refine (may_calls _ _ wa).mono ?_
        rintro e w3 ⟨rfl, hd3⟩
        have hb3 := hd3.below
        have HX3 := Aside0.mk (blk_below hbx hb3)
        have HM3 := Aside0.mk ((hb3.block MB (Array.getElem?_eq_some_iff.1 hma).1).trans hma)
        have HB3 := Aside0.mk (below_then hba hba.size hb3)
        have x0 := blk_cell HX3.out 0
        have x1 := blk_cell HX3.out 1
        have x2 := blk_cell HX3.out 2
        clear hbx hma hba hd3 hb3
        cases hmay : mayB (rd_TGCell cs k).f1 (rd_TGCell cs k).f2 with
        | false =>
          have HY := Aside0.mk (And.intro hu hmay)
          clear hu hmay
          go_wp2_with fail
          go_ret
          refine ⟨false, rfl, ⟨fun h => absurd h (by decide), fun h => ?_⟩, HB3.out⟩
          have := h.1 _ HCM.out HY.out.1
          rw [HY.out.2] at this
          exact absurd this (by decide)
        | true =>
          go_wp2_with fail
          obtain ⟨v, hlk, hv⟩ := HE.out.look Try.underlying95 Try.underlying9 HM3.out (congrFun hzb w3) (rd_TGCell cs k).f1
          rw [hlk]
          clear hlk
          cases v with
          | true =>
            have HY := Aside0.mk (And.intro hu (hv.1 rfl))
            clear hu hv hmay
            go_wp2_with fail
            go_ret
            refine ⟨false, rfl, ⟨fun h => absurd h (by decide), fun h => ?_⟩, HB3.out⟩
            obtain ⟨hu, d, hd, hdu, hde⟩ := HY.out
            obtain ⟨i, hi, rfl⟩ := List.mem_iff_getElem.1 hd
            rw [List.length_take] at hi
            have hne := pw_get h.2.1 i k (by omega) hlt (by omega) (by rw [← List.getElem_take (h := by rw [List.length_take]; omega)]; exact hdu) (by rw [← HRD.out]; exact hu)
            rw [List.getElem_take, HRD.out] at hde
            exact absurd hde hne
          | false =>
            have HNW := Aside0.mk (show ∀ d ∈ cs.take k, d.f0 = true → d.f1 ≠ (rd_TGCell cs k).f1 from fun d hd hdu he => absurd (hv.2 ⟨d, hd, hdu, he⟩) (by decide))
            have HMY := Aside0.mk hmay
            clear hv hmay
            go_wp2_with fail
            obtain ⟨es2, cl2, hput, hseen⟩ := SeenM.put HE.out Try.underlying95 Try.underlying9 HM3.out (rd_TGCell cs k) HNW.out
            rw [hu] at hput
            rw [hput]
            have hm5 := heap_setBlock_same HM3.out (.map es2 cl2)
            have hb5 := below_block HB3.out HM3.out (Nat.le_of_eq HMB.out.symm) (.map es2 cl2)
            generalize setBlock _ MB (.map es2 cl2) = w5 at hm5 hb5 ⊢
            have HM5 := Aside0.mk hm5
            have HB5 := Aside0.mk hb5
            have HE5 := Aside0.mk hseen
            have HG5 := Aside0.mk (good_snoc HG.out.1 HG.out.2 (c := rd_TGCell cs k) (fun _ => HMY.out) HNW.out)
            clear hput hseen hm5 hb5
            go_wp2_with fail
            go_roundg (gk - 1)
            case measure => have := Hk.out; omega
            case rel => exact ⟨k + 1, es2, cl2, ⟨by have := Hk.out; omega⟩, by go_num, by omega, HM5, ⟨by rw [HT.out, ← HRD.out]; exact HE5.out⟩, HB5, ⟨by rw [HT.out, ← HRD.out]; exact HG5.out⟩⟩
    · have hke : k = cs.length := by omega
      have HKE := Aside0.mk hke
      have hpw := HP.out.below HB.out
      have p2 := blk_cell hpw 2
      have HPW := Aside0.mk hpw
      have HGG := Aside0.mk (show (∀ c ∈ cs, c.f0 = true → mayB c.f1 c.f2 = true) ∧ cs.Pairwise fun a b => a.f0 = true → b.f0 = true → a.f1 ≠ b.f1 from by have h := HG.out; rw [hke, List.take_of_length_le (Nat.le_refl _)] at h; exact h)
      clear hpw hke
      go_wp2_with fail
      refine (free_calls wr g id lsn A c cs HPW.out (Kd.C_below HC.out HB.out) HS.out).mono ?_
      rintro e w3 ⟨rfl, hb3⟩
      have HB3 := Aside0.mk (below_then HB.out HB.out.size hb3)
      have hp3 := HPW.out.below hb3
      have p2 := blk_cell hp3 2
      clear hp3 hb3
      by_cases hf : free cs < 0
      · have e1 : decide (0 ≤ free cs) = false := by simp; omega
        have HF := Aside0.mk hf
        clear hf
        go_wp2_with fail
        go_ret
        exact ⟨false, rfl, ⟨fun h => absurd h (by decide), fun h => absurd HF.out (Int.not_lt.2 h.2.2.2)⟩, HB3.out⟩
      · have e1 : decide (0 ≤ free cs) = true := by simp; omega
        have HF := Aside0.mk hf
        clear hf
        by_cases h0 : cs.length = 0
        · have e2 : ((cs.length : Int) == 0) = true := by simp [h0]
          have H0 := Aside0.mk h0
          clear h0
          go_wp2_with fail
          go_ret
          refine ⟨true, rfl, ⟨fun _ => ⟨HGG.out.1, HGG.out.2, fun c hc => ?_, (by have := HF.out; first | exact this | omega)⟩, fun _ => rfl⟩, HB3.out⟩
          rw [List.length_eq_zero_iff.1 H0.out] at hc
          simp at hc
        · have e2 : ((cs.length : Int) == 0) = false := by rw [beq_eq_false_iff_ne]; omega
          have hlt : cs.length - 1 < cs.length := by omega
          obtain ⟨ad, rfl, y0, _, _⟩ := cell_at (Kd.C_below HC.out HB3.out) (cs.length - 1) hlt
          have hwr : IntKind.i64.wrap ((cs.length : Int) - 1) = ((cs.length - 1 : Nat) : Int) := by rw [i64w (by omega) (by omega)]; omega
          have HLAST := Aside0.mk (show ∀ c, cs.getLast? = some c → c = rd_TGCell cs ((cs.length - 1 : Nat) : Int) from fun c hc => by
            rw [List.getLast?_eq_getElem?, List.getElem?_eq_getElem hlt] at hc
            rw [rd_get cs _ hlt]
            exact (Option.some.inj hc).symm)
          have HEX := Aside0.mk (show cs.getLast? = some (rd_TGCell cs ((cs.length - 1 : Nat) : Int)) from by rw [List.getLast?_eq_getElem?, List.getElem?_eq_getElem hlt, rd_get cs _ hlt])
          have hl1 : (cs.length - 1) < cs.length := hlt
          generalize (rd_TGCell cs ((cs.length - 1 : Nat) : Int)) = lc at y0 HLAST HEX
          have HN := Aside0.mk (show ((cs.length - 1 : Nat) : Int) < (cs.length : Int) from by omega)
          go_wp2_with fail
          go_ret
          exact ⟨lc.f0, rfl, ⟨fun hl => ⟨HGG.out.1, HGG.out.2, fun c hc => by rw [HLAST.out c hc]; exact hl, (by have := HF.out; first | exact this | omega)⟩, fun h => h.2.2.1 _ HEX.out⟩, HB3.out⟩
end Go.Proofs.Ytidkdbohkbfhbaa
