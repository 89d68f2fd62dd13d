/- Layer 12: GraphPlays. -/
import Derived.Test.YtgjjfldfdkoedaaGj
import Derived.Test.YtgjjfldfdkoedaaGf
import Derived.Test.YtgjjfldfdkoedaaL12u
import Derived.WalkKit
namespace Go.Proofs.Ytgjjfldfdkoedaa
open Go.RowKit Go.Proofs.YtgjjfldfdkoedaaW.PrintWords Go.Proofs.YtgjjfldfdkoedaaW.PrintLast Go.Proofs.YtgjjfldfdkoedaaW.PrintMore
open Rf MapL Graph
set_option linter.unusedVariables false
set_option linter.unusedSimpArgs false
theorem GrI.kept {w w' : World} {g b : Nat} {ks : List (Int × Int)} {S : Nat → Prop} (h : GrI w g b ks) (hk : Kept w w' S) (h1 : ¬ S g) (h2 : ¬ S b) : GrI w' g b ks :=
  ⟨blk_kept h.box hk h1, h.map.of_block (hk.2 b h.map.lt h2)⟩
theorem box_not {α : Type} {d : Kd α} {e : Nat} {w : World} {base : Nat} {ok : Nat → Prop} {v : Value} {xs : List α} (h : Kd.R d e w base ok v xs) {g b : Nat} {ks : List (Int × Int)} (hG : GrI w g b ks) (he : e ≠ 63) : some g ≠ v.ownBlock :=
  Q_not (Kd.Q_of_R h) hG.box (fun cells q => he (by injection q with _ q _; exact q.symm))
set_option maxRecDepth 100000 in
set_option maxHeartbeats 1000000 in
theorem plays_walk (w : World) (A : Option Addr) (c : Nat) (ops : List SOpG) (hC : Kd.C kOpG w A ops.length ops) (hl : ops.length ≤ 140737488351232) :
    Calls Try.prog 7 #[.slice A ops.length c] w fun e w' => e = .returned (.bool true) ∧ Below w.heap.size w w' := by
  have HC := Aside0.mk hC
  clear hC
  go_enter Try.func7, Try.ntmps7
  go_wp2_with fail
  refine (newI w).mono ?_
  rintro e w1 ⟨g, b, rfl, hg, hb, hG, hB⟩
  have HLO := Aside0.mk hb
  have HG1 := Aside0.mk hG
  have HB1 := Aside0.mk hB
  clear hg hb hG hB
  go_wp2_with fail
  go_loopg [4, 5] 60 (fun gk v4 v5 wr => ∃ (k : Nat) (dl : List SGEdge), Aside0 (k + gk = 60) ∧ v5 = .int .i64 k ∧ k ≤ ops.length ∧ k ≤ 60 ∧ dl.length ≤ k ∧ Aside0 (GrI wr g b (dl.map pr)) ∧ Aside0 (Below w.heap.size w wr) ∧
    Aside0 (Kd.R kGEdge 28 wr w.heap.size (fun _ => True) v4 dl))
  case atStart => exact ⟨0, [], ⟨rfl⟩, rfl, Nat.zero_le _, Nat.zero_le _, Nat.le_refl _, HG1, HB1, ⟨Kd.R_nil _ _ _ _ _⟩⟩
  case round =>
    obtain ⟨k, dl, HK, rfl, hkl, hk60, hdk, HG, HB, HR⟩ := hrel
    clear HG1 HB1
    obtain ⟨A4, c4, rfl⟩ := Kd.R_slice HR.out
    by_cases hlt : k < ops.length ∧ k < 60
    · obtain ⟨h1, h2⟩ := hlt
      obtain ⟨ad, o, rfl, hx0, hx1, hx2⟩ := opG_at (Kd.C_below HC.out HB.out) k h1
      -- [B
      by_cases q0 : o.f0 = 0
      · rw [q0] at hx0
        go_wp2_with fail
        have hb0 : Below wr.heap.size wr (wr.alloc (.cells #[.int .i64 0, .int .i64 o.f1, .int .i64 o.f2] 46)) := below_alloc (Below.refl _ _) _
        have hx := heap_alloc_new wr (.cells #[.int .i64 0, .int .i64 o.f1, .int .i64 o.f2] 46)
        have HB0 := Aside0.mk (below_then HB.out HB.out.size hb0)
        have HG0 := Aside0.mk (HG.out.below hb0)
        have HR0 := Aside0.mk (Kd.R_below HR.out hb0)
        have HX0 := Aside0.mk hx
        obtain ⟨n, hn⟩ : ∃ n, n = wr.heap.size := ⟨_, rfl⟩
        rw [← hn] at HX0 ⊢
        generalize wr.alloc (.cells #[.int .i64 0, .int .i64 o.f1, .int .i64 o.f2] 46) = w0 at HB0 HG0 HR0 HX0 ⊢
        clear hb0 hx hn HB HG HR
        obtain ⟨⟨l1, is⟩, hE, hm, hi⟩ := add_f dl o.f1 o.f2 (by omega)
        have HLN := Aside0.mk (show l1.length ≤ dl.length + 1 from by
          have h1 := congrArg List.length hm
          have h2 := addK_length (dl.map pr) (o.f1, o.f2)
          simp only [List.length_map] at h1 h2
          omega)
        obtain ⟨kk, hk⟩ := hE.rounds
        refine (flotillaref12_Add.calls kk (fun q => some q = (Value.slice A4 dl.length c4).ownBlock ∧ True) (.slice A4 dl.length c4) dl o.f1 o.f2 l1 is w w0 HB0.out (Kd.R_tight2 rfl HR0.out) hk).mono ?_
        rintro e w1' ⟨vn, rfl, hRn, hBn, hKn⟩
        have hR1 := hRn
        obtain ⟨A5, c5, rfl⟩ := Kd.R_slice hR1
        have hown := Kd.Q_of_R HR0.out
        have HG1 := Aside0.mk (HG0.out.kept hKn (fun q => box_not HR0.out HG0.out (by decide) q.1) (fun q => Q_notM hown HG0.out.map q.1))
        have HX1 := Aside0.mk (blk_kept HX0.out hKn (fun q => Q_not hown HX0.out (fun cells q => by injection q with _ q _; exact absurd q (by decide)) q.1))
        have HB1 := Aside0.mk hBn
        have HR1 := Aside0.mk (Kd.R_mono hR1 (fun _ _ => trivial))
        have HM := Aside0.mk hm
        have HI := Aside0.mk hi
        clear hR1 hRn hown hKn hBn hm hi hE hk
        have y1 := blk_cell HX1.out 1
        have y2 := blk_cell HX1.out 2
        go_wp2_with fail
        clear y1 y2
        refine (addI w1' g b _ o.f1 o.f2 HG1.out).mono ?_
        rintro e w2 ⟨rfl, hG, hg⟩
        rw [← HM.out] at hG
        rw [show (!isK (dl.map pr) (o.f1, o.f2)) = is from HI.out.symm]
        have HG2 := Aside0.mk hG
        have HB2 := Aside0.mk (HB1.out.grown hg HB1.out.size (fun q hq => by injection hq with hq; rw [← hq]; exact HLO.out))
        have HR2 := Aside0.mk (Kd.R_grown1 HR1.out rfl hg (Q_notM (Kd.Q_of_R HR1.out) HG1.out.map))
        have HX2 := Aside0.mk (blk_grown HX1.out hg (fun e => by
          obtain ⟨es, clock, h2⟩ := HG1.out.map.block
          rw [← Option.some.inj e, HX1.out] at h2
          cases h2))
        have hlen := HLN.out
        clear hG hg
        have y1 := blk_cell HX2.out 1
        have y2 := blk_cell HX2.out 2
        go_wp2_with fail
        refine (lenI w2 g b _ HG2.out).mono ?_
        rintro e wz ⟨rfl, rfl⟩
        rw [List.length_map]
        go_wp2_with fail
        clear y1 y2
        refine (asked_calls w2 g b A5 c5 l1 o.f1 o.f2 HG2.out (Kd.R_reads' HR2.out).2.2 (Kd.R_reads' HR2.out).2.1 (by omega)).mono ?_
        rintro e wq ⟨rfl, hB⟩
        have HGq := Aside0.mk (HG2.out.below hB)
        have HBq := Aside0.mk (below_then HB2.out HB2.out.size hB)
        have HRq := Aside0.mk (Kd.R_below HR2.out hB)
        clear hB
        go_wp2_with fail
        go_roundg (gk - 1)
        case measure => have := HK.out; omega
        case rel => exact ⟨k + 1, l1, ⟨by have := HK.out; omega⟩, (by go_num), by omega, by omega, by omega, HGq, HBq, HRq⟩
      · have e0 : (o.f0 == 0) = false := by simpa using q0
        by_cases q1 : o.f0 = 1
        · rw [q1] at hx0
          clear e0 q0
          go_wp2_with fail
          have hb0 : Below wr.heap.size wr (wr.alloc (.cells #[.int .i64 1, .int .i64 o.f1, .int .i64 o.f2] 46)) := below_alloc (Below.refl _ _) _
          have hx := heap_alloc_new wr (.cells #[.int .i64 1, .int .i64 o.f1, .int .i64 o.f2] 46)
          have HB0 := Aside0.mk (below_then HB.out HB.out.size hb0)
          have HG0 := Aside0.mk (HG.out.below hb0)
          have HR0 := Aside0.mk (Kd.R_below HR.out hb0)
          have HX0 := Aside0.mk hx
          obtain ⟨n, hn⟩ : ∃ n, n = wr.heap.size := ⟨_, rfl⟩
          rw [← hn] at HX0 ⊢
          generalize wr.alloc (.cells #[.int .i64 1, .int .i64 o.f1, .int .i64 o.f2] 46) = w0 at HB0 HG0 HR0 HX0 ⊢
          clear hb0 hx hn HB HG HR
          obtain ⟨⟨l1, is⟩, hE, hm, hi⟩ := drop_f dl o.f1 o.f2 (by omega) HG0.out.map.nodup
          have HLN := Aside0.mk (show l1.length ≤ dl.length + 1 from by
            have h1 := congrArg List.length hm
            have h2 : (delK (dl.map pr) (o.f1, o.f2)).length ≤ (dl.map pr).length := List.length_filter_le _ _
            simp only [List.length_map] at h1 h2
            omega)
          obtain ⟨kk, hk⟩ := hE.rounds
          refine (flotillaref12_Drop.calls kk (fun q => some q = (Value.slice A4 dl.length c4).ownBlock ∧ True) (.slice A4 dl.length c4) dl o.f1 o.f2 l1 is w w0 HB0.out (Kd.R_tight2 rfl HR0.out) hk).mono ?_
          rintro e w1' ⟨vn, rfl, hRn, hBn, hKn⟩
          have hR1 := hRn
          obtain ⟨A5, c5, rfl⟩ := Kd.R_slice hR1
          have hown := Kd.Q_of_R HR0.out
          have HG1 := Aside0.mk (HG0.out.kept hKn (fun q => box_not HR0.out HG0.out (by decide) q.1) (fun q => Q_notM hown HG0.out.map q.1))
          have HX1 := Aside0.mk (blk_kept HX0.out hKn (fun q => Q_not hown HX0.out (fun cells q => by injection q with _ q _; exact absurd q (by decide)) q.1))
          have HB1 := Aside0.mk hBn
          have HR1 := Aside0.mk (Kd.R_mono hR1 (fun _ _ => trivial))
          have HM := Aside0.mk hm
          have HI := Aside0.mk hi
          clear hR1 hRn hown hKn hBn hm hi hE hk
          have y1 := blk_cell HX1.out 1
          have y2 := blk_cell HX1.out 2
          go_wp2_with fail
          clear y1 y2
          refine (dropI w1' g b _ o.f1 o.f2 HG1.out).mono ?_
          rintro e w2 ⟨rfl, hG, hg⟩
          rw [← HM.out] at hG
          rw [show isK (dl.map pr) (o.f1, o.f2) = is from HI.out.symm]
          have HG2 := Aside0.mk hG
          have HB2 := Aside0.mk (HB1.out.grown hg HB1.out.size (fun q hq => by injection hq with hq; rw [← hq]; exact HLO.out))
          have HR2 := Aside0.mk (Kd.R_grown1 HR1.out rfl hg (Q_notM (Kd.Q_of_R HR1.out) HG1.out.map))
          have HX2 := Aside0.mk (blk_grown HX1.out hg (fun e => by
            obtain ⟨es, clock, h2⟩ := HG1.out.map.block
            rw [← Option.some.inj e, HX1.out] at h2
            cases h2))
          have hlen := HLN.out
          clear hG hg
          have y1 := blk_cell HX2.out 1
          have y2 := blk_cell HX2.out 2
          go_wp2_with fail
          refine (lenI w2 g b _ HG2.out).mono ?_
          rintro e wz ⟨rfl, rfl⟩
          rw [List.length_map]
          go_wp2_with fail
          clear y1 y2
          refine (asked_calls w2 g b A5 c5 l1 o.f1 o.f2 HG2.out (Kd.R_reads' HR2.out).2.2 (Kd.R_reads' HR2.out).2.1 (by omega)).mono ?_
          rintro e wq ⟨rfl, hB⟩
          have HGq := Aside0.mk (HG2.out.below hB)
          have HBq := Aside0.mk (below_then HB2.out HB2.out.size hB)
          have HRq := Aside0.mk (Kd.R_below HR2.out hB)
          clear hB
          go_wp2_with fail
          go_roundg (gk - 1)
          case measure => have := HK.out; omega
          case rel => exact ⟨k + 1, l1, ⟨by have := HK.out; omega⟩, (by go_num), by omega, by omega, by omega, HGq, HBq, HRq⟩
        · have e1 : (o.f0 == 1) = false := by simpa using q1
          by_cases q2 : o.f0 = 2
          · rw [q2] at hx0
            clear e0 e1 q0 q1
            go_wp2_with fail
            have hb0 : Below wr.heap.size wr (wr.alloc (.cells #[.int .i64 2, .int .i64 o.f1, .int .i64 o.f2] 46)) := below_alloc (Below.refl _ _) _
            have hx := heap_alloc_new wr (.cells #[.int .i64 2, .int .i64 o.f1, .int .i64 o.f2] 46)
            have HB0 := Aside0.mk (below_then HB.out HB.out.size hb0)
            have HG0 := Aside0.mk (HG.out.below hb0)
            have HR0 := Aside0.mk (Kd.R_below HR.out hb0)
            have HX0 := Aside0.mk hx
            obtain ⟨n, hn⟩ : ∃ n, n = wr.heap.size := ⟨_, rfl⟩
            rw [← hn] at HX0 ⊢
            generalize wr.alloc (.cells #[.int .i64 2, .int .i64 o.f1, .int .i64 o.f2] 46) = w0 at HB0 HG0 HR0 HX0 ⊢
            clear hb0 hx hn HB HG HR
            obtain ⟨l1, hE, hm⟩ := gone_f dl o.f1 (by omega)
            have HLN := Aside0.mk (show l1.length ≤ dl.length from by
              have h1 := congrArg List.length hm
              have h2 : (goneK (dl.map pr) o.f1).length ≤ (dl.map pr).length := List.length_filter_le _ _
              simp only [List.length_map] at h1 h2
              omega)
            obtain ⟨kk, hk⟩ := hE.rounds
            refine (flotillaref12_Gone.calls kk A4 c4 dl o.f1 l1 w0 (Kd.R_reads' HR0.out).2.2 (Kd.R_reads' HR0.out).2.1 hk).mono ?_
            rintro e w1' ⟨vn, rfl, hRn, hBn⟩
            obtain ⟨A5, c5, rfl⟩ := Kd.R_slice hRn
            have HG1 := Aside0.mk (HG0.out.below hBn)
            have HX1 := Aside0.mk (blk_below HX0.out hBn)
            have HB1 := Aside0.mk (below_then HB0.out HB0.out.size hBn)
            have HR1 := Aside0.mk (Kd.R_mono (Kd.R_lower hRn HB0.out.size) (fun _ _ => trivial))
            have HM := Aside0.mk hm
            clear hRn hBn hm hE hk
            have y1 := blk_cell HX1.out 1
            have y2 := blk_cell HX1.out 2
            go_wp2_with fail
            clear y1 y2
            refine (goneI w1' g b _ o.f1 HG1.out (by rw [List.length_map]; omega)).mono ?_
            rintro e w2 ⟨rfl, hG, hg⟩
            rw [← HM.out] at hG
            have hlg : ((dl.map pr).length : Int) - ((goneK (dl.map pr) o.f1).length : Int) = (dl.length : Int) - (l1.length : Int) := by rw [← HM.out, List.length_map, List.length_map]
            rw [hlg]
            have hlb := HLN.out
            clear hlg
            have HG2 := Aside0.mk hG
            have HB2 := Aside0.mk (HB1.out.grown hg HB1.out.size (fun q hq => by injection hq with hq; rw [← hq]; exact HLO.out))
            have HR2 := Aside0.mk (Kd.R_grown1 HR1.out rfl hg (Q_notM (Kd.Q_of_R HR1.out) HG1.out.map))
            have HX2 := Aside0.mk (blk_grown HX1.out hg (fun e => by
              obtain ⟨es, clock, h2⟩ := HG1.out.map.block
              rw [← Option.some.inj e, HX1.out] at h2
              cases h2))
            have hlen := HLN.out
            clear hG hg
            have y1 := blk_cell HX2.out 1
            have y2 := blk_cell HX2.out 2
            go_wp2_with fail
            refine (lenI w2 g b _ HG2.out).mono ?_
            rintro e wz ⟨rfl, rfl⟩
            rw [List.length_map]
            go_wp2_with fail
            clear y1 y2
            refine (asked_calls w2 g b A5 c5 l1 o.f1 o.f2 HG2.out (Kd.R_reads' HR2.out).2.2 (Kd.R_reads' HR2.out).2.1 (by omega)).mono ?_
            rintro e wq ⟨rfl, hB⟩
            have HGq := Aside0.mk (HG2.out.below hB)
            have HBq := Aside0.mk (below_then HB2.out HB2.out.size hB)
            have HRq := Aside0.mk (Kd.R_below HR2.out hB)
            clear hB
            go_wp2_with fail
            go_roundg (gk - 1)
            case measure => have := HK.out; omega
            case rel => exact ⟨k + 1, l1, ⟨by have := HK.out; omega⟩, (by go_num), by omega, by omega, by omega, HGq, HBq, HRq⟩
          · have e2 : (o.f0 == 2) = false := by simpa using q2
            clear q0 q1 q2
            go_wp2_with fail
            have hb0 : Below wr.heap.size wr (wr.alloc (.cells #[.int .i64 o.f0, .int .i64 o.f1, .int .i64 o.f2] 46)) := below_alloc (Below.refl _ _) _
            have hx := heap_alloc_new wr (.cells #[.int .i64 o.f0, .int .i64 o.f1, .int .i64 o.f2] 46)
            have HB0 := Aside0.mk (below_then HB.out HB.out.size hb0)
            have HG0 := Aside0.mk (HG.out.below hb0)
            have HR0 := Aside0.mk (Kd.R_below HR.out hb0)
            have HX0 := Aside0.mk hx
            obtain ⟨n, hn⟩ : ∃ n, n = wr.heap.size := ⟨_, rfl⟩
            rw [← hn] at HX0 ⊢
            generalize wr.alloc (.cells #[.int .i64 o.f0, .int .i64 o.f1, .int .i64 o.f2] 46) = w0 at HB0 HG0 HR0 HX0 ⊢
            clear hb0 hx hn HB HG HR
            refine (lenI w0 g b _ HG0.out).mono ?_
            rintro e wz ⟨rfl, rfl⟩
            rw [List.length_map]
            have y1 := blk_cell HX0.out 1
            have y2 := blk_cell HX0.out 2
            go_wp2_with fail
            clear y1 y2
            refine (asked_calls w0 g b A4 c4 dl o.f1 o.f2 HG0.out (Kd.R_reads' HR0.out).2.2 (Kd.R_reads' HR0.out).2.1 (by omega)).mono ?_
            rintro e wq ⟨rfl, hB⟩
            have HGq := Aside0.mk (HG0.out.below hB)
            have HBq := Aside0.mk (below_then HB0.out HB0.out.size hB)
            have HRq := Aside0.mk (Kd.R_below HR0.out hB)
            clear hB
            go_wp2_with fail
            go_roundg (gk - 1)
            case measure => have := HK.out; omega
            case rel => exact ⟨k + 1, dl, ⟨by have := HK.out; omega⟩, (by go_num), by omega, by omega, by omega, HGq, HBq, HRq⟩
      -- B]
    · have hend : (k < ops.length ∧ ¬ k < 60) ∨ ¬ k < ops.length := by omega
      rcases hend with ⟨h1, h2⟩ | h1
      all_goals
        go_wp2_with fail
        refine (lives_calls wr).mono ?_
        rintro e w3 ⟨rfl, hB⟩
        have HB3 := Aside0.mk (below_then HB.out HB.out.size hB)
        clear hB
        go_wp2_with fail
        go_ret
        exact ⟨rfl, HB3.out⟩
end Go.Proofs.Ytgjjfldfdkoedaa
