/- Functions of the Go text as Lean functions, and that the calls answer so. -/
import Derived.Test.YtaahfokdgfopcaaZRfT
import Derived.Test.YtaahfokdgfopcaaZRf5
import Derived.Test.YtaahfokdgfopcaaZRf7
namespace Go.Proofs.Ytaahfokdgfopcaa.Rf
open Go.RowKit Go.Proofs.YtaahfokdgfopcaaW.PrintWords Go.Proofs.YtaahfokdgfopcaaW.PrintLast Go.Proofs.YtaahfokdgfopcaaW.PrintMore
attribute [local go_sem] max2_int min2_int max_two min_two max_three min_three max_four min_four
set_option linter.unusedVariables false
set_option linter.unusedSimpArgs false

attribute [local go_sem high] eqAGAct
attribute [local go_sem high] eqAGTxn
attribute [local go_sem high] eqAGDirty

/-! ### flotillalaw18_copied -/
def flotillalaw18_copied.f (l0 : List (SGRecord)) : Option ((List (SGRecord))) := if ([] : List (SGRecord)).length + l0.length < 925904528653 then (some (([] : List (SGRecord)) ++ l0)) else (none)
set_option maxHeartbeats 8000000 in
set_option maxRecDepth 100000 in
theorem flotillalaw18_copied.calls (P0_ : Nat → Prop) (A0 : Option Addr) (c0 : Nat) (l0 : List (SGRecord)) (r : List (SGRecord)) (w : World) (hs0 : Kd.V kGRecord 43 w w.heap.size (fun k_ => P0_ k_) (.slice A0 l0.length c0) l0) (h : flotillalaw18_copied.f l0 = some r) :
    Calls Try.prog 11 #[.slice A0 l0.length c0] w fun e w' => ∃ v0_ : Value, e = .returned (v0_) ∧ Kd.N kGRecord 43 w' w.heap.size (fun k_ => (P0_ k_ ∨ w.heap.size ≤ k_)) v0_ r ∧ Below w.heap.size w w' := by
  have HO0 := Aside0.mk (show Kd.V kGRecord 43 w w.heap.size (fun k_ => (P0_ k_ ∨ w.heap.size ≤ k_)) (.slice A0 l0.length c0) l0 from Kd.V_mono hs0 (fun k_ hk => .inl hk))
  have HB := Aside0.mk (Below.refl w.heap.size w)
  have H : (if ([] : List (SGRecord)).length + l0.length < 925904528653 then (some (([] : List (SGRecord)) ++ l0)) else (none)) = some r := h
  clear h
  by_cases c2 : ([] : List (SGRecord)).length + l0.length < 925904528653
  · rw [if_pos c2] at H
    have LMc2 := Aside0.mk c2
    clear c2
    obtain ⟨y259, hy259⟩ : ∃ y_ : List (SGRecord), y_ = (([] : List (SGRecord)) ++ l0) := ⟨_, rfl⟩
    replace H : (some y259) = some r := by first | (rw [hy259]; with_reducible exact H) | (have H2_ := (Option.bind_some _ _).symm.trans H; rw [hy259]; with_reducible exact H2_) | (have H2_ := (Option.bind_some _ _).symm.trans H; with_reducible exact H2_) | with_reducible exact H | (rw [hy259]; exact H) | exact H
    have Ny259 := Aside0.mk hy259
    clear hy259
    obtain rfl := Option.some.inj H
    go_enter Try.func11, Try.ntmps11
    go_wp2_with (first | ((with_reducible refine gate_builtin (b := .append) (xs := #[.tmp 4, .tmp 5]) rfl ?_); at_builtin; refine Kd.N_append_rows kGRecord (w0 := w) w.heap.size rfl (.tmp 4) (.tmp 5) 22 43 (.agg #[(.int .i64 0), (.int .u64 0), (.int .i64 0), (.int .u64 0), (.int .u64 0), (.int .i64 0), (.int .i64 0), (.string ⟨#[]⟩), (.string ⟨#[]⟩), (.string ⟨#[]⟩), (.slice none 0 0), (.slice none 0 0)]) 152 rfl Try.underlying22 info43 rfl (by decide) (by omega) (.slice none 0 0) ([] : List (SGRecord)) l0 _ _ _ (fun k_ => (P0_ k_ ∨ w.heap.size ≤ k_)) (fun k_ => ((fun k_ => (P0_ k_ ∨ w.heap.size ≤ k_))) k_ ∧ some k_ ≠ (.slice none 0 0 : Value).ownBlock) rfl rfl ?aO ?aR (fun _ hk => hk) ?aF ?aB ?aS ?aL ?_; (case aR => exact (by skip; exact Kd.V_F (Kd.V_mono (ok' := (fun k_ => ((fun k_ => (P0_ k_ ∨ w.heap.size ≤ k_))) k_ ∧ some k_ ≠ (.slice none 0 0 : Value).ownBlock)) (HO0.out) (fun k_ hk => ⟨hk, (by simp [Value.ownBlock])⟩)))); (case aB => exact (by repeat (first | (with_reducible first | exact HB.out | apply below_alloc | apply pw_below_drewN | apply below_drew1) | exact HB.out))); (case aF => exact (fun k_ hk => (.inr (Nat.le_trans (below_size (by repeat (first | (with_reducible first | exact HB.out | apply below_alloc | apply pw_below_drewN | apply below_drew1) | exact HB.out))) hk)))); (case aO => exact ((Kd.N_nil _ _ _ _ (fun k_ => (P0_ k_ ∨ w.heap.size ≤ k_))))); (case aS => exact (below_size (by repeat (first | (with_reducible first | exact HB.out | apply below_alloc | apply pw_below_drewN | apply below_drew1) | exact HB.out)))); (case aL => have := LMc2.out; omega); intro v260 w3 ho hb hg hat; rw [← Ny259.out] at ho; have n0_ := Aside0.mk (Kd.V_afterv (Kd.V_apart_nil (by (with_reducible repeat (first | apply Kd.V_alloc | apply Kd.V_drewN | apply Kd.V_drew)); exact HO0.out)) hg hat); have n1_ := Aside0.mk (hb); have n2_ := Aside0.mk (ho); clear HO0; clear HB; have HO0 := n0_; have HB := n1_; have HO261 := n2_; clear n0_ n1_ n2_; clear ho hb hg hat))
    go_ret
    exact ⟨_, by first | rfl | (simp [errW_none, errW_some] <;> rfl) | (simp [*, errW_none, errW_some] <;> rfl), by (with_reducible repeat (first | apply Kd.N_alloc | apply Kd.N_drewN | apply Kd.N_drew)); exact HO261.out, by repeat (first | (with_reducible first | exact HB.out | apply below_alloc | apply pw_below_drewN | apply below_drew1) | exact HB.out)⟩
  · rw [if_neg c2] at H
    exact absurd H (by simp)


end Go.Proofs.Ytaahfokdgfopcaa.Rf
namespace Go.Proofs.Ytaahfokdgfopcaa.Rf
open Go.RowKit Go.Proofs.YtaahfokdgfopcaaW.PrintWords Go.Proofs.YtaahfokdgfopcaaW.PrintLast Go.Proofs.YtaahfokdgfopcaaW.PrintMore
attribute [local go_sem] max2_int min2_int max_two min_two max_three min_three max_four min_four
set_option linter.unusedVariables false
set_option linter.unusedSimpArgs false

attribute [local go_sem high] eqAGAct
attribute [local go_sem high] eqAGTxn
attribute [local go_sem high] eqAGDirty

/-! ### flotillaref10_Find -/
def flotillaref10_Find.l0 : Nat → List (SGRecord) → Int → Int → Option (Int × Int × Int × Int × Int × Int × Int × ByteArray × ByteArray × ByteArray × (List (SGTxn)) × (List (SGDirty)) × Bool)
  | 0, _, _, _ => none
  | k + 1, x0, x1, x6 => if x6 < (x0.length : Int) then (if 0 ≤ x6 then (if ((rd_TGRecord x0 x6).f1) = x1 then (some ((rd_TGRecord x0 x6).f0, (rd_TGRecord x0 x6).f1, (rd_TGRecord x0 x6).f2, (rd_TGRecord x0 x6).f3, (rd_TGRecord x0 x6).f4, (rd_TGRecord x0 x6).f5, (rd_TGRecord x0 x6).f6.f0, (rd_TGRecord x0 x6).f6.f1, (rd_TGRecord x0 x6).f6.f2, (rd_TGRecord x0 x6).f6.f3, (rd_TGRecord x0 x6).f7, (rd_TGRecord x0 x6).f8, true)) else (flotillaref10_Find.l0 k x0 x1 (wrap64 (x6 + 1)))) else (none)) else (some (0, 0, 0, 0, 0, 0, 0, (⟨#[]⟩ : ByteArray), (⟨#[]⟩ : ByteArray), (⟨#[]⟩ : ByteArray), ([] : List (SGTxn)), ([] : List (SGDirty)), false))
def flotillaref10_Find.f (k : Nat) (l0 : List (SGRecord)) (a1 : Int) : Option (Int × Int × Int × Int × Int × Int × Int × ByteArray × ByteArray × ByteArray × (List (SGTxn)) × (List (SGDirty)) × Bool) := flotillaref10_Find.l0 k l0 a1 0
theorem flotillaref10_Find.mono_l : ∀ k, (∀ y0 y1 y2, LeO (flotillaref10_Find.l0 k y0 y1 y2) (flotillaref10_Find.l0 (k + 1) y0 y1 y2))
  | 0 => fun _ _ _ r h => by simp [flotillaref10_Find.l0] at h
  | k + 1 => by
    have ih0 := flotillaref10_Find.mono_l k
    · intro y0 y1 y2
      unfold flotillaref10_Find.l0
      repeat' first
      | (with_reducible exact ih0 _ _ _)
      | (with_reducible exact LeO.refl _)
      | (with_reducible exact LeO.none _)
      | (with_reducible refine LeO.ite ?_ ?_)
      | (with_reducible refine LeO.bind ?_ (fun _ => ?_))
      | exact ih0 _ _ _
      | exact LeO.none _
      | refine LeO.ite ?_ ?_
      | refine LeO.bind ?_ (fun _ => ?_)
theorem flotillaref10_Find.mono : ∀ a0 a1 k, LeO (flotillaref10_Find.f k a0 a1) (flotillaref10_Find.f (k + 1) a0 a1) := by
  intro a0 a1 k
  have ih0 := flotillaref10_Find.mono_l k
  unfold flotillaref10_Find.f
  repeat' first
      | (with_reducible exact ih0 _ _ _)
      | (with_reducible exact LeO.refl _)
      | (with_reducible exact LeO.none _)
      | (with_reducible refine LeO.ite ?_ ?_)
      | (with_reducible refine LeO.bind ?_ (fun _ => ?_))
      | exact ih0 _ _ _
      | exact LeO.none _
      | refine LeO.ite ?_ ?_
      | refine LeO.bind ?_ (fun _ => ?_)
set_option maxHeartbeats 8000000 in
set_option maxRecDepth 100000 in
theorem flotillaref10_Find.calls (k : Nat) (P0_ : Nat → Prop) (A0 : Option Addr) (c0 : Nat) (l0 : List (SGRecord)) (a1 : Int) (r1 : Int) (r2 : Int) (r3 : Int) (r4 : Int) (r5 : Int) (r6 : Int) (r7 : Int) (r8 : ByteArray) (r9 : ByteArray) (r10 : ByteArray) (r11 : List (SGTxn)) (r12 : List (SGDirty)) (r13 : Bool) (w : World) (hs0 : Kd.V kGRecord 43 w w.heap.size (fun k_ => P0_ k_) (.slice A0 l0.length c0) l0) (h : flotillaref10_Find.f k l0 a1 = some (r1, r2, r3, r4, r5, r6, r7, r8, r9, r10, r11, r12, r13)) :
    Calls Try.prog 28 #[.slice A0 l0.length c0, .int .u64 a1] w fun e w' => ∃ v10_ v11_ : Value, e = .returned (.tuple #[.agg #[.int .i64 r1, .int .u64 r2, .int .i64 r3, .int .u64 r4, .int .u64 r5, .int .i64 r6, .int .i64 r7, .string r8, .string r9, .string r10, v10_, v11_], .bool r13]) ∧ Kd.V kGTxn 46 w' w.heap.size (fun k_ => (P0_ k_ ∨ w.heap.size ≤ k_)) v10_ r11 ∧ Kd.V kGDirty 49 w' w.heap.size (fun k_ => (P0_ k_ ∨ w.heap.size ≤ k_)) v11_ r12 ∧ Below w.heap.size w w' := by
  have hu43 := Try.underlying43
  have HO0 := Aside0.mk (show Kd.V kGRecord 43 w w.heap.size (fun k_ => (P0_ k_ ∨ w.heap.size ≤ k_)) (.slice A0 l0.length c0) l0 from Kd.V_mono hs0 (fun k_ hk => .inl hk))
  have HB := Aside0.mk (Below.refl w.heap.size w)
  have H : (flotillaref10_Find.l0 k l0 a1 0) = some (r1, r2, r3, r4, r5, r6, r7, r8, r9, r10, r11, r12, r13) := h
  clear h
  have H' := Aside0.mk H
  clear H
  go_enter Try.func28, Try.ntmps28
  go_wp2_with (first | ((with_reducible refine gate_dst (N := 4) rfl ?_); refine box_event ?hg (N := 4) ?hd (cs := #[.int .i64 0, .int .u64 0, .int .i64 0, .int .u64 0, .int .u64 0, .int .i64 0, .int .i64 0, .string (⟨#[]⟩ : ByteArray), .string (⟨#[]⟩ : ByteArray), .string (⟨#[]⟩ : ByteArray), .slice none 0 0, .slice none 0 0]) (t := 43) ?hr ?_; (case hd => rfl); (case hg => rfl); (case hr => first | (go_simp; done) | (go_simp; rfl)); intro gb496 hg w3 hbox hb; have n0_ := Aside0.mk (Kd.V_below (Kd.V_elderB (by (with_reducible repeat (first | apply Kd.V_alloc | apply Kd.V_drewN | apply Kd.V_drew)); exact HO0.out) gb496 (Nat.le_of_eq hg.symm)) hb); have n1_ := Aside0.mk (below_step (by repeat (first | (with_reducible first | exact HB.out | apply below_alloc | apply pw_below_drewN | apply below_drew1) | exact HB.out)) hb); have n2_ := Aside0.mk (hbox); have n3_ := Aside0.mk ((by rw [hg]; exact (below_size (by repeat (first | (with_reducible first | exact HB.out | apply below_alloc | apply pw_below_drewN | apply below_drew1) | exact HB.out))) : w.heap.size ≤ gb496)); have n4_ := Aside0.mk ((by rw [hg]; exact (below_size (by repeat (first | (with_reducible first | exact HB.out | apply below_alloc | apply pw_below_drewN | apply below_drew1) | exact HB.out))) : w.heap.size ≤ gb496)); clear HO0; clear HB; have HO0 := n0_; have HB := n1_; have BK496 := n2_; have GW496 := n3_; have GE496 := n4_; clear n0_ n1_ n2_ n3_ n4_; clear hb hbox hg))
  go_loopg [6] k (fun kq v6 w' => ∃ (x6_1 : Int) (x497000_1 : Int) (x497001_1 : Int) (x497002_1 : Int) (x497003_1 : Int) (x497004_1 : Int) (x497005_1 : Int) (x497006_1 : Int) (x497007_1 : ByteArray) (x497008_1 : ByteArray) (x497009_1 : ByteArray), v6 = .int .i64 x6_1 ∧ Aside0 (flotillaref10_Find.l0 kq l0 a1 x6_1 = some (r1, r2, r3, r4, r5, r6, r7, r8, r9, r10, r11, r12, r13)) ∧ Aside0 (kq ≤ k) ∧ Aside0 (Kd.V kGRecord 43 w' w.heap.size (fun k_ => (P0_ k_ ∨ w.heap.size ≤ k_) ∧ k_ ≠ gb496) (.slice A0 l0.length c0) l0) ∧ Aside0 (w'.heap[gb496]? = some (.cells #[.int .i64 x497000_1, .int .u64 x497001_1, .int .i64 x497002_1, .int .u64 x497003_1, .int .u64 x497004_1, .int .i64 x497005_1, .int .i64 x497006_1, .string x497007_1, .string x497008_1, .string x497009_1, (.slice none 0 0), (.slice none 0 0)] 43 (0, 0))) ∧ Aside0 (Below w.heap.size w w'))
  case atStart => exact ⟨(0), (0), (0), (0), (0), (0), (0), (0), ((⟨#[]⟩ : ByteArray)), ((⟨#[]⟩ : ByteArray)), ((⟨#[]⟩ : ByteArray)), (by first | rfl | (simp; done) | (simp [*]; done)), H', ⟨Nat.le_refl _⟩, ⟨by (with_reducible repeat (first | apply Kd.V_alloc | apply Kd.V_drewN | apply Kd.V_drew)); exact HO0.out⟩, ⟨by (with_reducible repeat (first | refine blk_drewN ?_ _ | refine blk_drew ?_ | refine blk_alloc ?_ _)); exact BK496.out⟩, ⟨by repeat (first | (with_reducible first | exact HB.out | apply below_alloc | apply pw_below_drewN | apply below_drew1 | refine below_set ?_ GE496.out) | exact HB.out)⟩⟩
  case round =>
    clear H'
    try clear c2
    try clear p2
    obtain ⟨x6_1, x497000_1, x497001_1, x497002_1, x497003_1, x497004_1, x497005_1, x497006_1, x497007_1, x497008_1, x497009_1, rfl, HA, HK1, HO_0, BK496, HB⟩ := hrel
    cases gk with
    | zero => exact absurd HA.out (by simp [flotillaref10_Find.l0])
    | succ k1 =>
      have H := HA.out
      clear HA
      simp only [flotillaref10_Find.l0] at H
      by_cases c4 : x6_1 < (l0.length : Int)
      · rw [if_pos c4] at H
        have c4b0 : decide (x6_1 < (l0.length : Int)) = true := decide_eq_true c4
        clear c4
        by_cases c5 : 0 ≤ x6_1
        · rw [if_pos c5] at H
          have c5b0 : decide (0 ≤ x6_1) = true := decide_eq_true c5
          clear c5
          by_cases c6 : ((rd_TGRecord l0 x6_1).f1) = a1
          · rw [if_pos c6] at H
            have c6b0 : (((rd_TGRecord l0 x6_1).f1) == a1) = true := beq_iff_eq.mpr c6
            have c6b1 : (((rd_TGRecord l0 x6_1).f1) != a1) = false := bne_eq_false_iff_eq.mpr c6
            clear c6
            simp only [Option.some.injEq, Prod.mk.injEq] at H
            obtain ⟨rfl, rfl, rfl, rfl, rfl, rfl, rfl, rfl, rfl, rfl, rfl, rfl, rfl⟩ := H
            have p497 : 0 ≤ (x6_1 : Int) := of_decide_eq_true (by first | (with_reducible assumption) | assumption)
            have q497 : x6_1 < (l0.length : Int) := of_decide_eq_true (by first | (with_reducible assumption) | assumption)
            obtain ⟨ad497, A497_10, c497_10, A497_11, c497_11, e497, hx497_0, hx497_1, hx497_2, hx497_3, hx497_4, hx497_5, hx497_6, hx497_7, hx497_8, hx497_9, hx497_10, hx497_11, hl497_10, hi497_10, hl497_11, hi497_11⟩ := at_TGRecord (Kd.V_reads' HO_0.out).2.2 x6_1 p497 q497
            cases e497
            obtain ⟨ce497, hce497, hMe497, hcc497⟩ := Kd.V_get HO_0.out zGRecord x6_1 p497 (by first | exact q497 | exact of_decide_eq_true (by first | (with_reducible assumption) | assumption) | (have e_ := (Kd.V_reads' HO_0.out).1; omega))
            obtain ⟨ua497_10, uc497_10, ua497_11, uc497_11, rfl, ul497_10, ge497_10, ul497_11, ge497_11⟩ := k43_openF hMe497
            have hv497_10 := hcc497 10 _ rfl
            rw [add_field _ _ 10 (by omega)] at hv497_10
            replace hv497_10 := Option.some.inj (hv497_10.symm.trans hx497_10)
            injection hv497_10 with hva_ hvn_ hvc_
            rw [hva_] at ge497_10
            rw [hvc_] at ul497_10
            have HL497_10 := Aside0.mk (show Kd.V kGTxn 46 _ w.heap.size _ _ ((rd_TGRecord l0 x6_1).f7) from Kd.V_mk ul497_10 ge497_10)
            clear hva_ hvn_ hvc_ ge497_10 ul497_10
            have hv497_11 := hcc497 11 _ rfl
            rw [add_field _ _ 11 (by omega)] at hv497_11
            replace hv497_11 := Option.some.inj (hv497_11.symm.trans hx497_11)
            injection hv497_11 with hva_ hvn_ hvc_
            rw [hva_] at ge497_11
            rw [hvc_] at ul497_11
            have HL497_11 := Aside0.mk (show Kd.V kGDirty 49 _ w.heap.size _ _ ((rd_TGRecord l0 x6_1).f8) from Kd.V_mk ul497_11 ge497_11)
            clear hva_ hvn_ hvc_ ge497_11 ul497_11
            clear hcc497 hce497
            have HR497_10 := Aside0.mk hi497_10
            have HC497_10 := Aside0.mk hl497_10
            clear hi497_10 hl497_10
            have HR497_11 := Aside0.mk hi497_11
            have HC497_11 := Aside0.mk hl497_11
            clear hi497_11 hl497_11
            replace p497 := eq_true p497
            replace q497 := eq_true q497
            have p498 : 0 ≤ (x6_1 : Int) := of_decide_eq_true (by first | (with_reducible assumption) | assumption)
            have q498 : x6_1 < (l0.length : Int) := of_decide_eq_true (by first | (with_reducible assumption) | assumption)
            obtain ⟨ad498, A498_10, c498_10, A498_11, c498_11, e498, hx498_0, hx498_1, hx498_2, hx498_3, hx498_4, hx498_5, hx498_6, hx498_7, hx498_8, hx498_9, hx498_10, hx498_11, hl498_10, hi498_10, hl498_11, hi498_11⟩ := at_TGRecord (Kd.V_reads' HO_0.out).2.2 x6_1 p498 q498
            obtain rfl : ad497 = ad498 := (by injection e498)
            obtain ⟨ce498, hce498, hMe498, hcc498⟩ := Kd.V_get HO_0.out zGRecord x6_1 p498 (by first | exact q498 | exact of_decide_eq_true (by first | (with_reducible assumption) | assumption) | (have e_ := (Kd.V_reads' HO_0.out).1; omega))
            obtain ⟨ua498_10, uc498_10, ua498_11, uc498_11, rfl, ul498_10, ge498_10, ul498_11, ge498_11⟩ := k43_openF hMe498
            have hv498_10 := hcc498 10 _ rfl
            rw [add_field _ _ 10 (by omega)] at hv498_10
            replace hv498_10 := Option.some.inj (hv498_10.symm.trans hx498_10)
            injection hv498_10 with hva_ hvn_ hvc_
            rw [hva_] at ge498_10
            rw [hvc_] at ul498_10
            have HL498_10 := Aside0.mk (show Kd.V kGTxn 46 _ w.heap.size _ _ ((rd_TGRecord l0 x6_1).f7) from Kd.V_mk ul498_10 ge498_10)
            clear hva_ hvn_ hvc_ ge498_10 ul498_10
            have hv498_11 := hcc498 11 _ rfl
            rw [add_field _ _ 11 (by omega)] at hv498_11
            replace hv498_11 := Option.some.inj (hv498_11.symm.trans hx498_11)
            injection hv498_11 with hva_ hvn_ hvc_
            rw [hva_] at ge498_11
            rw [hvc_] at ul498_11
            have HL498_11 := Aside0.mk (show Kd.V kGDirty 49 _ w.heap.size _ _ ((rd_TGRecord l0 x6_1).f8) from Kd.V_mk ul498_11 ge498_11)
            clear hva_ hvn_ hvc_ ge498_11 ul498_11
            clear hcc498 hce498
            have HR498_10 := Aside0.mk hi498_10
            have HC498_10 := Aside0.mk hl498_10
            clear hi498_10 hl498_10
            have HR498_11 := Aside0.mk hi498_11
            have HC498_11 := Aside0.mk hl498_11
            clear hi498_11 hl498_11
            replace p498 := eq_true p498
            replace q498 := eq_true q498
            have ea_ := Option.some.inj (hx497_10.symm.trans hx498_10)
            injection ea_ with ea_ en_ ec_
            subst ea_
            subst ec_
            clear en_
            have ea_ := Option.some.inj (hx497_11.symm.trans hx498_11)
            injection ea_ with ea_ en_ ec_
            subst ea_
            subst ec_
            clear en_
            have hcz7_0 : wr.cell? ⟨gb496, 0, none⟩ = some (.int .i64 x497000_1) := (blk_cell BK496.out 0).trans rfl
            have hcz7_1 : wr.cell? ⟨gb496, 1, none⟩ = some (.int .u64 x497001_1) := (blk_cell BK496.out 1).trans rfl
            have hcz7_2 : wr.cell? ⟨gb496, 2, none⟩ = some (.int .i64 x497002_1) := (blk_cell BK496.out 2).trans rfl
            have hcz7_3 : wr.cell? ⟨gb496, 3, none⟩ = some (.int .u64 x497003_1) := (blk_cell BK496.out 3).trans rfl
            have hcz7_4 : wr.cell? ⟨gb496, 4, none⟩ = some (.int .u64 x497004_1) := (blk_cell BK496.out 4).trans rfl
            have hcz7_5 : wr.cell? ⟨gb496, 5, none⟩ = some (.int .i64 x497005_1) := (blk_cell BK496.out 5).trans rfl
            have hcz7_6 : wr.cell? ⟨gb496, 6, none⟩ = some (.int .i64 x497006_1) := (blk_cell BK496.out 6).trans rfl
            have hcz7_7 : wr.cell? ⟨gb496, 7, none⟩ = some (.string x497007_1) := (blk_cell BK496.out 7).trans rfl
            have hcz7_8 : wr.cell? ⟨gb496, 8, none⟩ = some (.string x497008_1) := (blk_cell BK496.out 8).trans rfl
            have hcz7_9 : wr.cell? ⟨gb496, 9, none⟩ = some (.string x497009_1) := (blk_cell BK496.out 9).trans rfl
            have hcz7_10 : wr.cell? ⟨gb496, 10, none⟩ = some (.slice none 0 0) := (blk_cell BK496.out 10).trans rfl
            have hcz7_11 : wr.cell? ⟨gb496, 11, none⟩ = some (.slice none 0 0) := (blk_cell BK496.out 11).trans rfl
            have hfz7_0 := blk_frozen BK496.out 0
            have hfz7_1 := blk_frozen BK496.out 1
            have hfz7_2 := blk_frozen BK496.out 2
            have hfz7_3 := blk_frozen BK496.out 3
            have hfz7_4 := blk_frozen BK496.out 4
            have hfz7_5 := blk_frozen BK496.out 5
            have hfz7_6 := blk_frozen BK496.out 6
            have hfz7_7 := blk_frozen BK496.out 7
            have hfz7_8 := blk_frozen BK496.out 8
            have hfz7_9 := blk_frozen BK496.out 9
            have hfz7_10 := blk_frozen BK496.out 10
            have hfz7_11 := blk_frozen BK496.out 11
            go_wp2
            refine bodyPost_ret (results_ct rfl _ _ gb496 43 #[.int .i64 ((rd_TGRecord l0 x6_1).f0), .int .u64 ((rd_TGRecord l0 x6_1).f1), .int .i64 ((rd_TGRecord l0 x6_1).f2), .int .u64 ((rd_TGRecord l0 x6_1).f3), .int .u64 ((rd_TGRecord l0 x6_1).f4), .int .i64 ((rd_TGRecord l0 x6_1).f5), .int .i64 ((rd_TGRecord l0 x6_1).f6.f0), .string ((rd_TGRecord l0 x6_1).f6.f1), .string ((rd_TGRecord l0 x6_1).f6.f2), .string ((rd_TGRecord l0 x6_1).f6.f3), .slice A497_10 ((rd_TGRecord l0 x6_1).f7).length c497_10, .slice A497_11 ((rd_TGRecord l0 x6_1).f8).length c497_11] (0, 0) _ rfl (by (with_reducible repeat (first | refine blk_drewN ?_ _ | refine blk_drew ?_ | refine blk_alloc ?_ _)); refine blk_put (cs := #[.int .i64 ((rd_TGRecord l0 x6_1).f0), .int .u64 ((rd_TGRecord l0 x6_1).f1), .int .i64 ((rd_TGRecord l0 x6_1).f2), .int .u64 ((rd_TGRecord l0 x6_1).f3), .int .u64 ((rd_TGRecord l0 x6_1).f4), .int .i64 ((rd_TGRecord l0 x6_1).f5), .int .i64 ((rd_TGRecord l0 x6_1).f6.f0), .string ((rd_TGRecord l0 x6_1).f6.f1), .string ((rd_TGRecord l0 x6_1).f6.f2), .string ((rd_TGRecord l0 x6_1).f6.f3), .slice A497_10 ((rd_TGRecord l0 x6_1).f7).length c497_10, .slice none 0 0]) ?_ 11 _ rfl; (with_reducible repeat (first | refine blk_drewN ?_ _ | refine blk_drew ?_ | refine blk_alloc ?_ _)); refine blk_put (cs := #[.int .i64 ((rd_TGRecord l0 x6_1).f0), .int .u64 ((rd_TGRecord l0 x6_1).f1), .int .i64 ((rd_TGRecord l0 x6_1).f2), .int .u64 ((rd_TGRecord l0 x6_1).f3), .int .u64 ((rd_TGRecord l0 x6_1).f4), .int .i64 ((rd_TGRecord l0 x6_1).f5), .int .i64 ((rd_TGRecord l0 x6_1).f6.f0), .string ((rd_TGRecord l0 x6_1).f6.f1), .string ((rd_TGRecord l0 x6_1).f6.f2), .string ((rd_TGRecord l0 x6_1).f6.f3), .slice none 0 0, .slice none 0 0]) ?_ 10 _ rfl; (with_reducible repeat (first | refine blk_drewN ?_ _ | refine blk_drew ?_ | refine blk_alloc ?_ _)); refine blk_put (cs := #[.int .i64 ((rd_TGRecord l0 x6_1).f0), .int .u64 ((rd_TGRecord l0 x6_1).f1), .int .i64 ((rd_TGRecord l0 x6_1).f2), .int .u64 ((rd_TGRecord l0 x6_1).f3), .int .u64 ((rd_TGRecord l0 x6_1).f4), .int .i64 ((rd_TGRecord l0 x6_1).f5), .int .i64 ((rd_TGRecord l0 x6_1).f6.f0), .string ((rd_TGRecord l0 x6_1).f6.f1), .string ((rd_TGRecord l0 x6_1).f6.f2), .string x497009_1, .slice none 0 0, .slice none 0 0]) ?_ 9 _ rfl; (with_reducible repeat (first | refine blk_drewN ?_ _ | refine blk_drew ?_ | refine blk_alloc ?_ _)); refine blk_put (cs := #[.int .i64 ((rd_TGRecord l0 x6_1).f0), .int .u64 ((rd_TGRecord l0 x6_1).f1), .int .i64 ((rd_TGRecord l0 x6_1).f2), .int .u64 ((rd_TGRecord l0 x6_1).f3), .int .u64 ((rd_TGRecord l0 x6_1).f4), .int .i64 ((rd_TGRecord l0 x6_1).f5), .int .i64 ((rd_TGRecord l0 x6_1).f6.f0), .string ((rd_TGRecord l0 x6_1).f6.f1), .string x497008_1, .string x497009_1, .slice none 0 0, .slice none 0 0]) ?_ 8 _ rfl; (with_reducible repeat (first | refine blk_drewN ?_ _ | refine blk_drew ?_ | refine blk_alloc ?_ _)); refine blk_put (cs := #[.int .i64 ((rd_TGRecord l0 x6_1).f0), .int .u64 ((rd_TGRecord l0 x6_1).f1), .int .i64 ((rd_TGRecord l0 x6_1).f2), .int .u64 ((rd_TGRecord l0 x6_1).f3), .int .u64 ((rd_TGRecord l0 x6_1).f4), .int .i64 ((rd_TGRecord l0 x6_1).f5), .int .i64 ((rd_TGRecord l0 x6_1).f6.f0), .string x497007_1, .string x497008_1, .string x497009_1, .slice none 0 0, .slice none 0 0]) ?_ 7 _ rfl; (with_reducible repeat (first | refine blk_drewN ?_ _ | refine blk_drew ?_ | refine blk_alloc ?_ _)); refine blk_put (cs := #[.int .i64 ((rd_TGRecord l0 x6_1).f0), .int .u64 ((rd_TGRecord l0 x6_1).f1), .int .i64 ((rd_TGRecord l0 x6_1).f2), .int .u64 ((rd_TGRecord l0 x6_1).f3), .int .u64 ((rd_TGRecord l0 x6_1).f4), .int .i64 ((rd_TGRecord l0 x6_1).f5), .int .i64 x497006_1, .string x497007_1, .string x497008_1, .string x497009_1, .slice none 0 0, .slice none 0 0]) ?_ 6 _ rfl; (with_reducible repeat (first | refine blk_drewN ?_ _ | refine blk_drew ?_ | refine blk_alloc ?_ _)); refine blk_put (cs := #[.int .i64 ((rd_TGRecord l0 x6_1).f0), .int .u64 ((rd_TGRecord l0 x6_1).f1), .int .i64 ((rd_TGRecord l0 x6_1).f2), .int .u64 ((rd_TGRecord l0 x6_1).f3), .int .u64 ((rd_TGRecord l0 x6_1).f4), .int .i64 x497005_1, .int .i64 x497006_1, .string x497007_1, .string x497008_1, .string x497009_1, .slice none 0 0, .slice none 0 0]) ?_ 5 _ rfl; (with_reducible repeat (first | refine blk_drewN ?_ _ | refine blk_drew ?_ | refine blk_alloc ?_ _)); refine blk_put (cs := #[.int .i64 ((rd_TGRecord l0 x6_1).f0), .int .u64 ((rd_TGRecord l0 x6_1).f1), .int .i64 ((rd_TGRecord l0 x6_1).f2), .int .u64 ((rd_TGRecord l0 x6_1).f3), .int .u64 x497004_1, .int .i64 x497005_1, .int .i64 x497006_1, .string x497007_1, .string x497008_1, .string x497009_1, .slice none 0 0, .slice none 0 0]) ?_ 4 _ rfl; (with_reducible repeat (first | refine blk_drewN ?_ _ | refine blk_drew ?_ | refine blk_alloc ?_ _)); refine blk_put (cs := #[.int .i64 ((rd_TGRecord l0 x6_1).f0), .int .u64 ((rd_TGRecord l0 x6_1).f1), .int .i64 ((rd_TGRecord l0 x6_1).f2), .int .u64 x497003_1, .int .u64 x497004_1, .int .i64 x497005_1, .int .i64 x497006_1, .string x497007_1, .string x497008_1, .string x497009_1, .slice none 0 0, .slice none 0 0]) ?_ 3 _ rfl; (with_reducible repeat (first | refine blk_drewN ?_ _ | refine blk_drew ?_ | refine blk_alloc ?_ _)); refine blk_put (cs := #[.int .i64 ((rd_TGRecord l0 x6_1).f0), .int .u64 ((rd_TGRecord l0 x6_1).f1), .int .i64 x497002_1, .int .u64 x497003_1, .int .u64 x497004_1, .int .i64 x497005_1, .int .i64 x497006_1, .string x497007_1, .string x497008_1, .string x497009_1, .slice none 0 0, .slice none 0 0]) ?_ 2 _ rfl; (with_reducible repeat (first | refine blk_drewN ?_ _ | refine blk_drew ?_ | refine blk_alloc ?_ _)); refine blk_put (cs := #[.int .i64 ((rd_TGRecord l0 x6_1).f0), .int .u64 x497001_1, .int .i64 x497002_1, .int .u64 x497003_1, .int .u64 x497004_1, .int .i64 x497005_1, .int .i64 x497006_1, .string x497007_1, .string x497008_1, .string x497009_1, .slice none 0 0, .slice none 0 0]) ?_ 1 _ rfl; (with_reducible repeat (first | refine blk_drewN ?_ _ | refine blk_drew ?_ | refine blk_alloc ?_ _)); refine blk_put (cs := #[.int .i64 x497000_1, .int .u64 x497001_1, .int .i64 x497002_1, .int .u64 x497003_1, .int .u64 x497004_1, .int .i64 x497005_1, .int .i64 x497006_1, .string x497007_1, .string x497008_1, .string x497009_1, .slice none 0 0, .slice none 0 0]) ?_ 0 _ rfl; (with_reducible repeat (first | refine blk_drewN ?_ _ | refine blk_drew ?_ | refine blk_alloc ?_ _)); exact BK496.out) Try.underlying43 rfl (by kernel_rfl)) rfl ?_
            exact ⟨_, _, by first | rfl | (simp [errW_none, errW_some] <;> rfl) | (simp [*, errW_none, errW_some] <;> rfl), by (with_reducible repeat (first | apply Kd.V_alloc | apply Kd.V_drewN | apply Kd.V_drew)); exact Kd.V_mono (Kd.V_far (p := ⟨gb496, 11, none⟩) (Kd.V_far (p := ⟨gb496, 10, none⟩) (Kd.V_far (p := ⟨gb496, 9, none⟩) (Kd.V_far (p := ⟨gb496, 8, none⟩) (Kd.V_far (p := ⟨gb496, 7, none⟩) (Kd.V_far (p := ⟨gb496, 6, none⟩) (Kd.V_far (p := ⟨gb496, 5, none⟩) (Kd.V_far (p := ⟨gb496, 4, none⟩) (Kd.V_far (p := ⟨gb496, 3, none⟩) (Kd.V_far (p := ⟨gb496, 2, none⟩) (Kd.V_far (p := ⟨gb496, 1, none⟩) (Kd.V_far (p := ⟨gb496, 0, none⟩) (Kd.V_mono HL498_10.out (fun k_ hk => (⟨hk, hk.2⟩ : _ ∧ k_ ≠ gb496))) (fun _ hk => hk.2) (.int .i64 ((rd_TGRecord l0 x6_1).f0))) (fun _ hk => hk.2) (.int .u64 ((rd_TGRecord l0 x6_1).f1))) (fun _ hk => hk.2) (.int .i64 ((rd_TGRecord l0 x6_1).f2))) (fun _ hk => hk.2) (.int .u64 ((rd_TGRecord l0 x6_1).f3))) (fun _ hk => hk.2) (.int .u64 ((rd_TGRecord l0 x6_1).f4))) (fun _ hk => hk.2) (.int .i64 ((rd_TGRecord l0 x6_1).f5))) (fun _ hk => hk.2) (.int .i64 ((rd_TGRecord l0 x6_1).f6.f0))) (fun _ hk => hk.2) (.string ((rd_TGRecord l0 x6_1).f6.f1))) (fun _ hk => hk.2) (.string ((rd_TGRecord l0 x6_1).f6.f2))) (fun _ hk => hk.2) (.string ((rd_TGRecord l0 x6_1).f6.f3))) (fun _ hk => hk.2) (.slice A497_10 ((rd_TGRecord l0 x6_1).f7).length c497_10)) (fun _ hk => hk.2) (.slice A497_11 ((rd_TGRecord l0 x6_1).f8).length c497_11)) (fun _ hk => hk.1.1), by (with_reducible repeat (first | apply Kd.V_alloc | apply Kd.V_drewN | apply Kd.V_drew)); exact Kd.V_mono (Kd.V_far (p := ⟨gb496, 11, none⟩) (Kd.V_far (p := ⟨gb496, 10, none⟩) (Kd.V_far (p := ⟨gb496, 9, none⟩) (Kd.V_far (p := ⟨gb496, 8, none⟩) (Kd.V_far (p := ⟨gb496, 7, none⟩) (Kd.V_far (p := ⟨gb496, 6, none⟩) (Kd.V_far (p := ⟨gb496, 5, none⟩) (Kd.V_far (p := ⟨gb496, 4, none⟩) (Kd.V_far (p := ⟨gb496, 3, none⟩) (Kd.V_far (p := ⟨gb496, 2, none⟩) (Kd.V_far (p := ⟨gb496, 1, none⟩) (Kd.V_far (p := ⟨gb496, 0, none⟩) (Kd.V_mono HL498_11.out (fun k_ hk => (⟨hk, hk.2⟩ : _ ∧ k_ ≠ gb496))) (fun _ hk => hk.2) (.int .i64 ((rd_TGRecord l0 x6_1).f0))) (fun _ hk => hk.2) (.int .u64 ((rd_TGRecord l0 x6_1).f1))) (fun _ hk => hk.2) (.int .i64 ((rd_TGRecord l0 x6_1).f2))) (fun _ hk => hk.2) (.int .u64 ((rd_TGRecord l0 x6_1).f3))) (fun _ hk => hk.2) (.int .u64 ((rd_TGRecord l0 x6_1).f4))) (fun _ hk => hk.2) (.int .i64 ((rd_TGRecord l0 x6_1).f5))) (fun _ hk => hk.2) (.int .i64 ((rd_TGRecord l0 x6_1).f6.f0))) (fun _ hk => hk.2) (.string ((rd_TGRecord l0 x6_1).f6.f1))) (fun _ hk => hk.2) (.string ((rd_TGRecord l0 x6_1).f6.f2))) (fun _ hk => hk.2) (.string ((rd_TGRecord l0 x6_1).f6.f3))) (fun _ hk => hk.2) (.slice A497_10 ((rd_TGRecord l0 x6_1).f7).length c497_10)) (fun _ hk => hk.2) (.slice A497_11 ((rd_TGRecord l0 x6_1).f8).length c497_11)) (fun _ hk => hk.1.1), by repeat (first | (with_reducible first | exact HB.out | apply below_alloc | apply pw_below_drewN | apply below_drew1 | refine below_set ?_ GE496.out) | exact HB.out)⟩
          · rw [if_neg c6] at H
            have c6b0 : (((rd_TGRecord l0 x6_1).f1) == a1) = false := beq_eq_false_iff_ne.mpr c6
            have c6b1 : (((rd_TGRecord l0 x6_1).f1) != a1) = true := bne_iff_ne.mpr c6
            have H' := Aside0.mk H
            clear H
            have p497 : 0 ≤ (x6_1 : Int) := of_decide_eq_true (by first | (with_reducible assumption) | assumption)
            have q497 : x6_1 < (l0.length : Int) := of_decide_eq_true (by first | (with_reducible assumption) | assumption)
            obtain ⟨ad497, A497_10, c497_10, A497_11, c497_11, e497, hx497_0, hx497_1, hx497_2, hx497_3, hx497_4, hx497_5, hx497_6, hx497_7, hx497_8, hx497_9, hx497_10, hx497_11, hl497_10, hi497_10, hl497_11, hi497_11⟩ := at_TGRecord (Kd.V_reads' HO_0.out).2.2 x6_1 p497 q497
            cases e497
            obtain ⟨ce497, hce497, hMe497, hcc497⟩ := Kd.V_get HO_0.out zGRecord x6_1 p497 (by first | exact q497 | exact of_decide_eq_true (by first | (with_reducible assumption) | assumption) | (have e_ := (Kd.V_reads' HO_0.out).1; omega))
            obtain ⟨ua497_10, uc497_10, ua497_11, uc497_11, rfl, ul497_10, ge497_10, ul497_11, ge497_11⟩ := k43_openF hMe497
            have hv497_10 := hcc497 10 _ rfl
            rw [add_field _ _ 10 (by omega)] at hv497_10
            replace hv497_10 := Option.some.inj (hv497_10.symm.trans hx497_10)
            injection hv497_10 with hva_ hvn_ hvc_
            rw [hva_] at ge497_10
            rw [hvc_] at ul497_10
            have HL497_10 := Aside0.mk (show Kd.V kGTxn 46 _ w.heap.size _ _ ((rd_TGRecord l0 x6_1).f7) from Kd.V_mk ul497_10 ge497_10)
            clear hva_ hvn_ hvc_ ge497_10 ul497_10
            have hv497_11 := hcc497 11 _ rfl
            rw [add_field _ _ 11 (by omega)] at hv497_11
            replace hv497_11 := Option.some.inj (hv497_11.symm.trans hx497_11)
            injection hv497_11 with hva_ hvn_ hvc_
            rw [hva_] at ge497_11
            rw [hvc_] at ul497_11
            have HL497_11 := Aside0.mk (show Kd.V kGDirty 49 _ w.heap.size _ _ ((rd_TGRecord l0 x6_1).f8) from Kd.V_mk ul497_11 ge497_11)
            clear hva_ hvn_ hvc_ ge497_11 ul497_11
            clear hcc497 hce497
            have HR497_10 := Aside0.mk hi497_10
            have HC497_10 := Aside0.mk hl497_10
            clear hi497_10 hl497_10
            have HR497_11 := Aside0.mk hi497_11
            have HC497_11 := Aside0.mk hl497_11
            clear hi497_11 hl497_11
            replace p497 := eq_true p497
            replace q497 := eq_true q497
            go_wp2
            go_roundg k1
            case measure => have := HK1.out; omega
            case rel => exact ⟨(wrap64 (x6_1 + 1)), (x497000_1), (x497001_1), (x497002_1), (x497003_1), (x497004_1), (x497005_1), (x497006_1), (x497007_1), (x497008_1), (x497009_1), (by first | rfl | (simp; done) | (simp [*]; done)), H', ⟨by have := HK1.out; omega⟩, ⟨by (with_reducible repeat (first | apply Kd.V_alloc | apply Kd.V_drewN | apply Kd.V_drew)); exact HO_0.out⟩, ⟨by (with_reducible repeat (first | refine blk_drewN ?_ _ | refine blk_drew ?_ | refine blk_alloc ?_ _)); exact BK496.out⟩, ⟨by repeat (first | (with_reducible first | exact HB.out | apply below_alloc | apply pw_below_drewN | apply below_drew1 | refine below_set ?_ GE496.out) | exact HB.out)⟩⟩
        · rw [if_neg c5] at H
          exact absurd H (by simp)
      · rw [if_neg c4] at H
        have c4b0 : decide (x6_1 < (l0.length : Int)) = false := decide_eq_false c4
        clear c4
        simp only [Option.some.injEq, Prod.mk.injEq] at H
        obtain ⟨rfl, rfl, rfl, rfl, rfl, rfl, rfl, rfl, rfl, rfl, rfl, rfl, rfl⟩ := H
        have hcz8_0 : wr.cell? ⟨gb496, 0, none⟩ = some (.int .i64 x497000_1) := (blk_cell BK496.out 0).trans rfl
        have hcz8_1 : wr.cell? ⟨gb496, 1, none⟩ = some (.int .u64 x497001_1) := (blk_cell BK496.out 1).trans rfl
        have hcz8_2 : wr.cell? ⟨gb496, 2, none⟩ = some (.int .i64 x497002_1) := (blk_cell BK496.out 2).trans rfl
        have hcz8_3 : wr.cell? ⟨gb496, 3, none⟩ = some (.int .u64 x497003_1) := (blk_cell BK496.out 3).trans rfl
        have hcz8_4 : wr.cell? ⟨gb496, 4, none⟩ = some (.int .u64 x497004_1) := (blk_cell BK496.out 4).trans rfl
        have hcz8_5 : wr.cell? ⟨gb496, 5, none⟩ = some (.int .i64 x497005_1) := (blk_cell BK496.out 5).trans rfl
        have hcz8_6 : wr.cell? ⟨gb496, 6, none⟩ = some (.int .i64 x497006_1) := (blk_cell BK496.out 6).trans rfl
        have hcz8_7 : wr.cell? ⟨gb496, 7, none⟩ = some (.string x497007_1) := (blk_cell BK496.out 7).trans rfl
        have hcz8_8 : wr.cell? ⟨gb496, 8, none⟩ = some (.string x497008_1) := (blk_cell BK496.out 8).trans rfl
        have hcz8_9 : wr.cell? ⟨gb496, 9, none⟩ = some (.string x497009_1) := (blk_cell BK496.out 9).trans rfl
        have hcz8_10 : wr.cell? ⟨gb496, 10, none⟩ = some (.slice none 0 0) := (blk_cell BK496.out 10).trans rfl
        have hcz8_11 : wr.cell? ⟨gb496, 11, none⟩ = some (.slice none 0 0) := (blk_cell BK496.out 11).trans rfl
        have hfz8_0 := blk_frozen BK496.out 0
        have hfz8_1 := blk_frozen BK496.out 1
        have hfz8_2 := blk_frozen BK496.out 2
        have hfz8_3 := blk_frozen BK496.out 3
        have hfz8_4 := blk_frozen BK496.out 4
        have hfz8_5 := blk_frozen BK496.out 5
        have hfz8_6 := blk_frozen BK496.out 6
        have hfz8_7 := blk_frozen BK496.out 7
        have hfz8_8 := blk_frozen BK496.out 8
        have hfz8_9 := blk_frozen BK496.out 9
        have hfz8_10 := blk_frozen BK496.out 10
        have hfz8_11 := blk_frozen BK496.out 11
        go_wp2
        refine bodyPost_ret (results_ct rfl _ _ gb496 43 #[.int .i64 0, .int .u64 0, .int .i64 0, .int .u64 0, .int .u64 0, .int .i64 0, .int .i64 0, .string (⟨#[]⟩ : ByteArray), .string (⟨#[]⟩ : ByteArray), .string (⟨#[]⟩ : ByteArray), .slice none 0 0, .slice none 0 0] (0, 0) _ rfl (by (with_reducible repeat (first | refine blk_drewN ?_ _ | refine blk_drew ?_ | refine blk_alloc ?_ _)); refine blk_put (cs := #[.int .i64 0, .int .u64 0, .int .i64 0, .int .u64 0, .int .u64 0, .int .i64 0, .int .i64 0, .string (⟨#[]⟩ : ByteArray), .string (⟨#[]⟩ : ByteArray), .string (⟨#[]⟩ : ByteArray), .slice none 0 0, .slice none 0 0]) ?_ 11 _ rfl; (with_reducible repeat (first | refine blk_drewN ?_ _ | refine blk_drew ?_ | refine blk_alloc ?_ _)); refine blk_put (cs := #[.int .i64 0, .int .u64 0, .int .i64 0, .int .u64 0, .int .u64 0, .int .i64 0, .int .i64 0, .string (⟨#[]⟩ : ByteArray), .string (⟨#[]⟩ : ByteArray), .string (⟨#[]⟩ : ByteArray), .slice none 0 0, .slice none 0 0]) ?_ 10 _ rfl; (with_reducible repeat (first | refine blk_drewN ?_ _ | refine blk_drew ?_ | refine blk_alloc ?_ _)); refine blk_put (cs := #[.int .i64 0, .int .u64 0, .int .i64 0, .int .u64 0, .int .u64 0, .int .i64 0, .int .i64 0, .string (⟨#[]⟩ : ByteArray), .string (⟨#[]⟩ : ByteArray), .string x497009_1, .slice none 0 0, .slice none 0 0]) ?_ 9 _ rfl; (with_reducible repeat (first | refine blk_drewN ?_ _ | refine blk_drew ?_ | refine blk_alloc ?_ _)); refine blk_put (cs := #[.int .i64 0, .int .u64 0, .int .i64 0, .int .u64 0, .int .u64 0, .int .i64 0, .int .i64 0, .string (⟨#[]⟩ : ByteArray), .string x497008_1, .string x497009_1, .slice none 0 0, .slice none 0 0]) ?_ 8 _ rfl; (with_reducible repeat (first | refine blk_drewN ?_ _ | refine blk_drew ?_ | refine blk_alloc ?_ _)); refine blk_put (cs := #[.int .i64 0, .int .u64 0, .int .i64 0, .int .u64 0, .int .u64 0, .int .i64 0, .int .i64 0, .string x497007_1, .string x497008_1, .string x497009_1, .slice none 0 0, .slice none 0 0]) ?_ 7 _ rfl; (with_reducible repeat (first | refine blk_drewN ?_ _ | refine blk_drew ?_ | refine blk_alloc ?_ _)); refine blk_put (cs := #[.int .i64 0, .int .u64 0, .int .i64 0, .int .u64 0, .int .u64 0, .int .i64 0, .int .i64 x497006_1, .string x497007_1, .string x497008_1, .string x497009_1, .slice none 0 0, .slice none 0 0]) ?_ 6 _ rfl; (with_reducible repeat (first | refine blk_drewN ?_ _ | refine blk_drew ?_ | refine blk_alloc ?_ _)); refine blk_put (cs := #[.int .i64 0, .int .u64 0, .int .i64 0, .int .u64 0, .int .u64 0, .int .i64 x497005_1, .int .i64 x497006_1, .string x497007_1, .string x497008_1, .string x497009_1, .slice none 0 0, .slice none 0 0]) ?_ 5 _ rfl; (with_reducible repeat (first | refine blk_drewN ?_ _ | refine blk_drew ?_ | refine blk_alloc ?_ _)); refine blk_put (cs := #[.int .i64 0, .int .u64 0, .int .i64 0, .int .u64 0, .int .u64 x497004_1, .int .i64 x497005_1, .int .i64 x497006_1, .string x497007_1, .string x497008_1, .string x497009_1, .slice none 0 0, .slice none 0 0]) ?_ 4 _ rfl; (with_reducible repeat (first | refine blk_drewN ?_ _ | refine blk_drew ?_ | refine blk_alloc ?_ _)); refine blk_put (cs := #[.int .i64 0, .int .u64 0, .int .i64 0, .int .u64 x497003_1, .int .u64 x497004_1, .int .i64 x497005_1, .int .i64 x497006_1, .string x497007_1, .string x497008_1, .string x497009_1, .slice none 0 0, .slice none 0 0]) ?_ 3 _ rfl; (with_reducible repeat (first | refine blk_drewN ?_ _ | refine blk_drew ?_ | refine blk_alloc ?_ _)); refine blk_put (cs := #[.int .i64 0, .int .u64 0, .int .i64 x497002_1, .int .u64 x497003_1, .int .u64 x497004_1, .int .i64 x497005_1, .int .i64 x497006_1, .string x497007_1, .string x497008_1, .string x497009_1, .slice none 0 0, .slice none 0 0]) ?_ 2 _ rfl; (with_reducible repeat (first | refine blk_drewN ?_ _ | refine blk_drew ?_ | refine blk_alloc ?_ _)); refine blk_put (cs := #[.int .i64 0, .int .u64 x497001_1, .int .i64 x497002_1, .int .u64 x497003_1, .int .u64 x497004_1, .int .i64 x497005_1, .int .i64 x497006_1, .string x497007_1, .string x497008_1, .string x497009_1, .slice none 0 0, .slice none 0 0]) ?_ 1 _ rfl; (with_reducible repeat (first | refine blk_drewN ?_ _ | refine blk_drew ?_ | refine blk_alloc ?_ _)); refine blk_put (cs := #[.int .i64 x497000_1, .int .u64 x497001_1, .int .i64 x497002_1, .int .u64 x497003_1, .int .u64 x497004_1, .int .i64 x497005_1, .int .i64 x497006_1, .string x497007_1, .string x497008_1, .string x497009_1, .slice none 0 0, .slice none 0 0]) ?_ 0 _ rfl; (with_reducible repeat (first | refine blk_drewN ?_ _ | refine blk_drew ?_ | refine blk_alloc ?_ _)); exact BK496.out) Try.underlying43 rfl (by kernel_rfl)) rfl ?_
        exact ⟨_, _, by first | rfl | (simp [errW_none, errW_some] <;> rfl) | (simp [*, errW_none, errW_some] <;> rfl), Kd.V_nil _ _ _ _ _, Kd.V_nil _ _ _ _ _, by repeat (first | (with_reducible first | exact HB.out | apply below_alloc | apply pw_below_drewN | apply below_drew1 | refine below_set ?_ GE496.out) | exact HB.out)⟩


end Go.Proofs.Ytaahfokdgfopcaa.Rf
namespace Go.Proofs.Ytaahfokdgfopcaa.Rf
open Go.RowKit Go.Proofs.YtaahfokdgfopcaaW.PrintWords Go.Proofs.YtaahfokdgfopcaaW.PrintLast Go.Proofs.YtaahfokdgfopcaaW.PrintMore
attribute [local go_sem] max2_int min2_int max_two min_two max_three min_three max_four min_four
set_option linter.unusedVariables false
set_option linter.unusedSimpArgs false

attribute [local go_sem high] eqAGAct
attribute [local go_sem high] eqAGTxn
attribute [local go_sem high] eqAGDirty

/-! ### flotillaref18_Log -/
def flotillaref18_Log.l0 : Nat → List (SGRecord) → Int → Option (Bool)
  | 0, _, _ => none
  | k + 1, x0, x3 => if x3 < (x0.length : Int) then (if 0 ≤ x3 then ((flotillaref05_May.f k ((rd_TGRecord x0 x3).f0) ((rd_TGRecord x0 x3).f1) ((rd_TGRecord x0 x3).f2) ((rd_TGRecord x0 x3).f3) ((rd_TGRecord x0 x3).f4) ((rd_TGRecord x0 x3).f5) ((rd_TGRecord x0 x3).f6.f0) ((rd_TGRecord x0 x3).f6.f1) ((rd_TGRecord x0 x3).f6.f2) ((rd_TGRecord x0 x3).f6.f3) ((rd_TGRecord x0 x3).f7) ((rd_TGRecord x0 x3).f8)).bind fun t480 => (if t480 = true then (flotillaref18_Log.l0 k x0 (wrap64 (x3 + 1))) else (some false))) else (none)) else ((flotillaref10_Rises.f k x0).bind fun t481 => (some t481))
def flotillaref18_Log.f (k : Nat) (l0 : List (SGRecord)) : Option (Bool) := flotillaref18_Log.l0 k l0 0
theorem flotillaref18_Log.mono_l : ∀ k, (∀ y0 y1, LeO (flotillaref18_Log.l0 k y0 y1) (flotillaref18_Log.l0 (k + 1) y0 y1))
  | 0 => fun _ _ r h => by simp [flotillaref18_Log.l0] at h
  | k + 1 => by
    have ih0 := flotillaref18_Log.mono_l k
    · intro y0 y1
      unfold flotillaref18_Log.l0
      repeat' first
      | (with_reducible exact ih0 _ _)
      | (with_reducible exact flotillaref05_May.mono _ _ _ _ _ _ _ _ _ _ _ _ _)
      | (with_reducible exact flotillaref10_Rises.mono _ _)
      | (with_reducible exact LeO.refl _)
      | (with_reducible exact LeO.none _)
      | (with_reducible refine LeO.ite ?_ ?_)
      | (with_reducible refine LeO.bind ?_ (fun _ => ?_))
      | exact ih0 _ _
      | exact flotillaref05_May.mono _ _ _ _ _ _ _ _ _ _ _ _ _
      | exact flotillaref10_Rises.mono _ _
      | exact LeO.none _
      | refine LeO.ite ?_ ?_
      | refine LeO.bind ?_ (fun _ => ?_)
theorem flotillaref18_Log.mono : ∀ a0 k, LeO (flotillaref18_Log.f k a0) (flotillaref18_Log.f (k + 1) a0) := by
  intro a0 k
  have ih0 := flotillaref18_Log.mono_l k
  unfold flotillaref18_Log.f
  repeat' first
      | (with_reducible exact ih0 _ _)
      | (with_reducible exact flotillaref05_May.mono _ _ _ _ _ _ _ _ _ _ _ _ _)
      | (with_reducible exact flotillaref10_Rises.mono _ _)
      | (with_reducible exact LeO.refl _)
      | (with_reducible exact LeO.none _)
      | (with_reducible refine LeO.ite ?_ ?_)
      | (with_reducible refine LeO.bind ?_ (fun _ => ?_))
      | exact ih0 _ _
      | exact flotillaref05_May.mono _ _ _ _ _ _ _ _ _ _ _ _ _
      | exact flotillaref10_Rises.mono _ _
      | exact LeO.none _
      | refine LeO.ite ?_ ?_
      | refine LeO.bind ?_ (fun _ => ?_)
set_option maxHeartbeats 8000000 in
set_option maxRecDepth 100000 in
theorem flotillaref18_Log.calls (k : Nat) (A0 : Option Addr) (c0 : Nat) (l0 : List (SGRecord)) (r : Bool) (w : World) (hr0 : Kd.C kGRecord w A0 l0.length l0) (hc0 : l0.length ≤ c0) (h : flotillaref18_Log.f k l0 = some r) :
    Calls Try.prog 27 #[.slice A0 l0.length c0] w fun e w' => e = .returned (.bool r) ∧ Below w.heap.size w w' := by
  have hu43 := Try.underlying43
  have HR0 := Aside0.mk hr0
  have HC0 := Aside0.mk hc0
  clear hr0 hc0
  have HB := Aside0.mk (Below.refl w.heap.size w)
  have H : (flotillaref18_Log.l0 k l0 0) = some r := h
  clear h
  have H' := Aside0.mk H
  clear H
  go_enter Try.func27, Try.ntmps27
  go_wp2
  go_loopg [3] k (fun kq v3 w' => ∃ (x3_1 : Int), v3 = .int .i64 x3_1 ∧ Aside0 (flotillaref18_Log.l0 kq l0 x3_1 = some r) ∧ Aside0 (kq ≤ k) ∧ Aside0 (Below w.heap.size w w'))
  case atStart => exact ⟨(0), (by first | rfl | (simp; done) | (simp [*]; done)), H', ⟨Nat.le_refl _⟩, ⟨by repeat (first | (with_reducible first | exact HB.out | apply below_alloc | apply pw_below_drewN | apply below_drew1) | exact HB.out)⟩⟩
  case round =>
    clear H'
    obtain ⟨x3_1, rfl, HA, HK1, HB⟩ := hrel
    cases gk with
    | zero => exact absurd HA.out (by simp [flotillaref18_Log.l0])
    | succ k1 =>
      have H := HA.out
      clear HA
      simp only [flotillaref18_Log.l0] at H
      by_cases c2 : x3_1 < (l0.length : Int)
      · rw [if_pos c2] at H
        have c2b0 : decide (x3_1 < (l0.length : Int)) = true := decide_eq_true c2
        clear c2
        by_cases c3 : 0 ≤ x3_1
        · rw [if_pos c3] at H
          have c3b0 : decide (0 ≤ x3_1) = true := decide_eq_true c3
          clear c3
          replace H := Option.bind_eq_some_iff.mp H
          obtain ⟨t480, A40, H⟩ := H
          replace H : (if t480 = true then (flotillaref18_Log.l0 k1 l0 (wrap64 (x3_1 + 1))) else (some false)) = some r := H
          have A4 := Aside0.mk A40
          clear A40
          by_cases c5 : t480 = true
          · subst c5
            have H1 : (flotillaref18_Log.l0 k1 l0 (wrap64 (x3_1 + 1))) = some r := by rw [if_pos rfl] at H; exact H
            clear H
            have H := H1
            clear H1
            have H' := Aside0.mk H
            clear H
            have p479 : 0 ≤ (x3_1 : Int) := of_decide_eq_true (by first | (with_reducible assumption) | assumption)
            have q479 : x3_1 < (l0.length : Int) := of_decide_eq_true (by first | (with_reducible assumption) | assumption)
            obtain ⟨ad479, A479_10, c479_10, A479_11, c479_11, e479, hx479_0, hx479_1, hx479_2, hx479_3, hx479_4, hx479_5, hx479_6, hx479_7, hx479_8, hx479_9, hx479_10, hx479_11, hl479_10, hi479_10, hl479_11, hi479_11⟩ := at_TGRecord HR0.out x3_1 p479 q479
            cases e479
            replace hx479_0 := (HB.out.cell (World.block_lt_of_cell? w _ hx479_0)).trans hx479_0
            replace hx479_1 := (HB.out.cell (World.block_lt_of_cell? w _ hx479_1)).trans hx479_1
            replace hx479_2 := (HB.out.cell (World.block_lt_of_cell? w _ hx479_2)).trans hx479_2
            replace hx479_3 := (HB.out.cell (World.block_lt_of_cell? w _ hx479_3)).trans hx479_3
            replace hx479_4 := (HB.out.cell (World.block_lt_of_cell? w _ hx479_4)).trans hx479_4
            replace hx479_5 := (HB.out.cell (World.block_lt_of_cell? w _ hx479_5)).trans hx479_5
            replace hx479_6 := (HB.out.cell (World.block_lt_of_cell? w _ hx479_6)).trans hx479_6
            replace hx479_7 := (HB.out.cell (World.block_lt_of_cell? w _ hx479_7)).trans hx479_7
            replace hx479_8 := (HB.out.cell (World.block_lt_of_cell? w _ hx479_8)).trans hx479_8
            replace hx479_9 := (HB.out.cell (World.block_lt_of_cell? w _ hx479_9)).trans hx479_9
            replace hx479_10 := (HB.out.cell (World.block_lt_of_cell? w _ hx479_10)).trans hx479_10
            replace hx479_11 := (HB.out.cell (World.block_lt_of_cell? w _ hx479_11)).trans hx479_11
            have HR479_10 := Aside0.mk hi479_10
            have HC479_10 := Aside0.mk hl479_10
            clear hi479_10 hl479_10
            have HR479_11 := Aside0.mk hi479_11
            have HC479_11 := Aside0.mk hl479_11
            clear hi479_11 hl479_11
            replace p479 := eq_true p479
            replace q479 := eq_true q479
            go_wp2_with (first | ((with_reducible refine gate_callee (f := 38) rfl ?_); refine goesL_ (some 14) rfl rfl Try.func38 (by kernel_rfl) rfl #[.agg #[.int .i64 ((rd_TGRecord l0 x3_1).f0), .int .u64 ((rd_TGRecord l0 x3_1).f1), .int .i64 ((rd_TGRecord l0 x3_1).f2), .int .u64 ((rd_TGRecord l0 x3_1).f3), .int .u64 ((rd_TGRecord l0 x3_1).f4), .int .i64 ((rd_TGRecord l0 x3_1).f5), .int .i64 ((rd_TGRecord l0 x3_1).f6.f0), .string ((rd_TGRecord l0 x3_1).f6.f1), .string ((rd_TGRecord l0 x3_1).f6.f2), .string ((rd_TGRecord l0 x3_1).f6.f3), .slice A479_10 ((rd_TGRecord l0 x3_1).f7).length c479_10, .slice A479_11 ((rd_TGRecord l0 x3_1).f8).length c479_11]] rfl (by (try simp only [List.map_toArray, List.map_cons, List.map_nil]); first | done | rfl | (simp only [List.length_drop, List.length_take]; rfl)) ?_; (with_reducible refine (flotillaref05_May.calls k1 ((rd_TGRecord l0 x3_1).f0) ((rd_TGRecord l0 x3_1).f1) ((rd_TGRecord l0 x3_1).f2) ((rd_TGRecord l0 x3_1).f3) ((rd_TGRecord l0 x3_1).f4) ((rd_TGRecord l0 x3_1).f5) ((rd_TGRecord l0 x3_1).f6.f0) ((rd_TGRecord l0 x3_1).f6.f1) ((rd_TGRecord l0 x3_1).f6.f2) ((rd_TGRecord l0 x3_1).f6.f3) _ _ ((rd_TGRecord l0 x3_1).f7) _ _ ((rd_TGRecord l0 x3_1).f8) true _ ?side1 ?side2 ?side3 ?side4 A4.out).mono ?_); (case side1 => repeat (first | exact (Kd.C_below HR479_10.out HB.out) | (with_reducible refine Kd.C_alloc ?_ _) | (with_reducible refine Kd.C_drewN ?_ _) | (with_reducible refine Kd.C_drew ?_))); (case side2 => exact HC479_10.out); (case side3 => repeat (first | exact (Kd.C_below HR479_11.out HB.out) | (with_reducible refine Kd.C_alloc ?_ _) | (with_reducible refine Kd.C_drewN ?_ _) | (with_reducible refine Kd.C_drew ?_))); (case side4 => exact HC479_11.out); rintro e w6 ⟨rfl, hb⟩; refine ⟨_, rfl, ?_⟩; have n0_ := Aside0.mk (below_step (by repeat (first | (with_reducible first | exact HB.out | apply below_alloc | apply pw_below_drewN | apply below_drew1) | exact HB.out)) hb); clear HB; have HB := n0_; clear n0_; (try clear hb); (try clear hb2); (try clear hk); (try clear hi)))
            go_roundg k1
            case measure => have := HK1.out; omega
            case rel => exact ⟨(wrap64 (x3_1 + 1)), (by first | rfl | (simp; done) | (simp [*]; done)), H', ⟨by have := HK1.out; omega⟩, ⟨by repeat (first | (with_reducible first | exact HB.out | apply below_alloc | apply pw_below_drewN | apply below_drew1) | exact HB.out)⟩⟩
          · replace c5 := Bool.eq_false_iff.mpr c5
            subst c5
            have H1 : (some false) = some r := by rw [if_neg (show ¬ (false = true) by decide)] at H; exact H
            clear H
            have H := H1
            clear H1
            obtain rfl := Option.some.inj H
            have p479 : 0 ≤ (x3_1 : Int) := of_decide_eq_true (by first | (with_reducible assumption) | assumption)
            have q479 : x3_1 < (l0.length : Int) := of_decide_eq_true (by first | (with_reducible assumption) | assumption)
            obtain ⟨ad479, A479_10, c479_10, A479_11, c479_11, e479, hx479_0, hx479_1, hx479_2, hx479_3, hx479_4, hx479_5, hx479_6, hx479_7, hx479_8, hx479_9, hx479_10, hx479_11, hl479_10, hi479_10, hl479_11, hi479_11⟩ := at_TGRecord HR0.out x3_1 p479 q479
            cases e479
            replace hx479_0 := (HB.out.cell (World.block_lt_of_cell? w _ hx479_0)).trans hx479_0
            replace hx479_1 := (HB.out.cell (World.block_lt_of_cell? w _ hx479_1)).trans hx479_1
            replace hx479_2 := (HB.out.cell (World.block_lt_of_cell? w _ hx479_2)).trans hx479_2
            replace hx479_3 := (HB.out.cell (World.block_lt_of_cell? w _ hx479_3)).trans hx479_3
            replace hx479_4 := (HB.out.cell (World.block_lt_of_cell? w _ hx479_4)).trans hx479_4
            replace hx479_5 := (HB.out.cell (World.block_lt_of_cell? w _ hx479_5)).trans hx479_5
            replace hx479_6 := (HB.out.cell (World.block_lt_of_cell? w _ hx479_6)).trans hx479_6
            replace hx479_7 := (HB.out.cell (World.block_lt_of_cell? w _ hx479_7)).trans hx479_7
            replace hx479_8 := (HB.out.cell (World.block_lt_of_cell? w _ hx479_8)).trans hx479_8
            replace hx479_9 := (HB.out.cell (World.block_lt_of_cell? w _ hx479_9)).trans hx479_9
            replace hx479_10 := (HB.out.cell (World.block_lt_of_cell? w _ hx479_10)).trans hx479_10
            replace hx479_11 := (HB.out.cell (World.block_lt_of_cell? w _ hx479_11)).trans hx479_11
            have HR479_10 := Aside0.mk hi479_10
            have HC479_10 := Aside0.mk hl479_10
            clear hi479_10 hl479_10
            have HR479_11 := Aside0.mk hi479_11
            have HC479_11 := Aside0.mk hl479_11
            clear hi479_11 hl479_11
            replace p479 := eq_true p479
            replace q479 := eq_true q479
            go_wp2_with (first | ((with_reducible refine gate_callee (f := 38) rfl ?_); refine goesL_ (some 14) rfl rfl Try.func38 (by kernel_rfl) rfl #[.agg #[.int .i64 ((rd_TGRecord l0 x3_1).f0), .int .u64 ((rd_TGRecord l0 x3_1).f1), .int .i64 ((rd_TGRecord l0 x3_1).f2), .int .u64 ((rd_TGRecord l0 x3_1).f3), .int .u64 ((rd_TGRecord l0 x3_1).f4), .int .i64 ((rd_TGRecord l0 x3_1).f5), .int .i64 ((rd_TGRecord l0 x3_1).f6.f0), .string ((rd_TGRecord l0 x3_1).f6.f1), .string ((rd_TGRecord l0 x3_1).f6.f2), .string ((rd_TGRecord l0 x3_1).f6.f3), .slice A479_10 ((rd_TGRecord l0 x3_1).f7).length c479_10, .slice A479_11 ((rd_TGRecord l0 x3_1).f8).length c479_11]] rfl (by (try simp only [List.map_toArray, List.map_cons, List.map_nil]); first | done | rfl | (simp only [List.length_drop, List.length_take]; rfl)) ?_; (with_reducible refine (flotillaref05_May.calls k1 ((rd_TGRecord l0 x3_1).f0) ((rd_TGRecord l0 x3_1).f1) ((rd_TGRecord l0 x3_1).f2) ((rd_TGRecord l0 x3_1).f3) ((rd_TGRecord l0 x3_1).f4) ((rd_TGRecord l0 x3_1).f5) ((rd_TGRecord l0 x3_1).f6.f0) ((rd_TGRecord l0 x3_1).f6.f1) ((rd_TGRecord l0 x3_1).f6.f2) ((rd_TGRecord l0 x3_1).f6.f3) _ _ ((rd_TGRecord l0 x3_1).f7) _ _ ((rd_TGRecord l0 x3_1).f8) false _ ?side1 ?side2 ?side3 ?side4 A4.out).mono ?_); (case side1 => repeat (first | exact (Kd.C_below HR479_10.out HB.out) | (with_reducible refine Kd.C_alloc ?_ _) | (with_reducible refine Kd.C_drewN ?_ _) | (with_reducible refine Kd.C_drew ?_))); (case side2 => exact HC479_10.out); (case side3 => repeat (first | exact (Kd.C_below HR479_11.out HB.out) | (with_reducible refine Kd.C_alloc ?_ _) | (with_reducible refine Kd.C_drewN ?_ _) | (with_reducible refine Kd.C_drew ?_))); (case side4 => exact HC479_11.out); rintro e w7 ⟨rfl, hb⟩; refine ⟨_, rfl, ?_⟩; have n0_ := Aside0.mk (below_step (by repeat (first | (with_reducible first | exact HB.out | apply below_alloc | apply pw_below_drewN | apply below_drew1) | exact HB.out)) hb); clear HB; have HB := n0_; clear n0_; (try clear hb); (try clear hb2); (try clear hk); (try clear hi)))
            go_ret
            exact ⟨by first | rfl | (simp [errW_none, errW_some] <;> rfl) | (simp [*, errW_none, errW_some] <;> rfl), by repeat (first | (with_reducible first | exact HB.out | apply below_alloc | apply pw_below_drewN | apply below_drew1) | exact HB.out)⟩
        · rw [if_neg c3] at H
          exact absurd H (by simp)
      · rw [if_neg c2] at H
        have c2b0 : decide (x3_1 < (l0.length : Int)) = false := decide_eq_false c2
        clear c2
        replace H := Option.bind_eq_some_iff.mp H
        obtain ⟨t481, A80, H⟩ := H
        replace H : (some t481) = some r := H
        have A8 := Aside0.mk A80
        clear A80
        obtain rfl := Option.some.inj H
        go_wp2_with (first | ((with_reducible refine gate_callee (f := 23) rfl ?_); refine goesL_ (some 17) rfl rfl Try.func23 (by kernel_rfl) rfl #[.slice A0 l0.length c0] rfl (by (try simp only [List.map_toArray, List.map_cons, List.map_nil]); first | done | rfl | (simp only [List.length_drop, List.length_take]; rfl)) ?_; (with_reducible refine (flotillaref10_Rises.calls k1 _ _ l0 t481 _ ?side1 ?side2 A8.out).mono ?_); (case side1 => repeat (first | exact (Kd.C_below HR0.out HB.out) | (with_reducible refine Kd.C_alloc ?_ _) | (with_reducible refine Kd.C_drewN ?_ _) | (with_reducible refine Kd.C_drew ?_))); (case side2 => exact HC0.out); rintro e w' ⟨rfl, ⟨nd, rfl⟩⟩; refine ⟨_, rfl, ?_⟩))
        go_ret
        exact ⟨by first | rfl | (simp [errW_none, errW_some] <;> rfl) | (simp [*, errW_none, errW_some] <;> rfl), by repeat (first | (with_reducible first | exact HB.out | apply below_alloc | apply pw_below_drewN | apply below_drew1) | exact HB.out)⟩


end Go.Proofs.Ytaahfokdgfopcaa.Rf
namespace Go.Proofs.Ytaahfokdgfopcaa.Rf
open Go.RowKit Go.Proofs.YtaahfokdgfopcaaW.PrintWords Go.Proofs.YtaahfokdgfopcaaW.PrintLast Go.Proofs.YtaahfokdgfopcaaW.PrintMore
attribute [local go_sem] max2_int min2_int max_two min_two max_three min_three max_four min_four
set_option linter.unusedVariables false
set_option linter.unusedSimpArgs false

attribute [local go_sem high] eqAGAct
attribute [local go_sem high] eqAGTxn
attribute [local go_sem high] eqAGDirty

/-! ### flotillaref18_Next -/
def flotillaref18_Next.l0 : Nat → List (SGRecord) → Int → Option (Int)
  | 0, _, _ => none
  | k + 1, x0, x1 => if x1 = 0 then (some 0) else ((flotillaref10_Find.f k x0 x1).bind fun bt500 => (if bt500.2.2.2.2.2.2.2.2.2.2.2.2 = true then (if bt500.1 = 1 then (some x1) else (if bt500.1 = 2 then (some bt500.2.2.2.2.1) else (flotillaref18_Next.l0 k x0 bt500.2.2.2.1))) else (some 0)))
def flotillaref18_Next.f (k : Nat) (l0 : List (SGRecord)) (a1 : Int) : Option (Int) := (flotillaref18_Log.f k l0).bind fun t499 => (if t499 = true then (flotillaref18_Next.l0 k l0 a1) else (some 0))
theorem flotillaref18_Next.mono_l : ∀ k, (∀ y0 y1, LeO (flotillaref18_Next.l0 k y0 y1) (flotillaref18_Next.l0 (k + 1) y0 y1))
  | 0 => fun _ _ r h => by simp [flotillaref18_Next.l0] at h
  | k + 1 => by
    have ih0 := flotillaref18_Next.mono_l k
    · intro y0 y1
      unfold flotillaref18_Next.l0
      repeat' first
      | (with_reducible exact ih0 _ _)
      | (with_reducible exact flotillaref10_Find.mono _ _ _)
      | (with_reducible exact flotillaref18_Log.mono _ _)
      | (with_reducible exact LeO.refl _)
      | (with_reducible exact LeO.none _)
      | (with_reducible refine LeO.ite ?_ ?_)
      | (with_reducible refine LeO.bind ?_ (fun _ => ?_))
      | exact ih0 _ _
      | exact flotillaref10_Find.mono _ _ _
      | exact flotillaref18_Log.mono _ _
      | exact LeO.none _
      | refine LeO.ite ?_ ?_
      | refine LeO.bind ?_ (fun _ => ?_)
theorem flotillaref18_Next.mono : ∀ a0 a1 k, LeO (flotillaref18_Next.f k a0 a1) (flotillaref18_Next.f (k + 1) a0 a1) := by
  intro a0 a1 k
  have ih0 := flotillaref18_Next.mono_l k
  unfold flotillaref18_Next.f
  repeat' first
      | (with_reducible exact ih0 _ _)
      | (with_reducible exact flotillaref10_Find.mono _ _ _)
      | (with_reducible exact flotillaref18_Log.mono _ _)
      | (with_reducible exact LeO.refl _)
      | (with_reducible exact LeO.none _)
      | (with_reducible refine LeO.ite ?_ ?_)
      | (with_reducible refine LeO.bind ?_ (fun _ => ?_))
      | exact ih0 _ _
      | exact flotillaref10_Find.mono _ _ _
      | exact flotillaref18_Log.mono _ _
      | exact LeO.none _
      | refine LeO.ite ?_ ?_
      | refine LeO.bind ?_ (fun _ => ?_)
set_option maxHeartbeats 8000000 in
set_option maxRecDepth 100000 in
theorem flotillaref18_Next.calls (k : Nat) (A0 : Option Addr) (c0 : Nat) (l0 : List (SGRecord)) (a1 : Int) (r : Int) (w : World) (hr0 : Kd.C kGRecord w A0 l0.length l0) (hc0 : l0.length ≤ c0) (h : flotillaref18_Next.f k l0 a1 = some r) :
    Calls Try.prog 12 #[.slice A0 l0.length c0, .int .u64 a1] w fun e w' => e = .returned (.int .u64 r) ∧ Below w.heap.size w w' := by
  have hu43 := Try.underlying43
  have HR0 := Aside0.mk hr0
  have HC0 := Aside0.mk hc0
  clear hr0 hc0
  have HB := Aside0.mk (Below.refl w.heap.size w)
  have H : ((flotillaref18_Log.f k l0).bind fun t499 => (if t499 = true then (flotillaref18_Next.l0 k l0 a1) else (some 0))) = some r := h
  clear h
  replace H := Option.bind_eq_some_iff.mp H
  obtain ⟨t499, A30, H⟩ := H
  replace H : (if t499 = true then (flotillaref18_Next.l0 k l0 a1) else (some 0)) = some r := H
  have A3 := Aside0.mk A30
  clear A30
  by_cases c4 : t499 = true
  · subst c4
    have H1 : (flotillaref18_Next.l0 k l0 a1) = some r := by rw [if_pos rfl] at H; exact H
    clear H
    have H := H1
    clear H1
    have H' := Aside0.mk H
    clear H
    go_enter Try.func12, Try.ntmps12
    go_wp2_with (first | ((with_reducible refine gate_callee (f := 27) rfl ?_); refine goesL_ (some 8) rfl rfl Try.func27 (by kernel_rfl) rfl #[.slice A0 l0.length c0] rfl (by (try simp only [List.map_toArray, List.map_cons, List.map_nil]); first | done | rfl | (simp only [List.length_drop, List.length_take]; rfl)) ?_; (with_reducible refine (flotillaref18_Log.calls k _ _ l0 true _ ?side1 ?side2 A3.out).mono ?_); (case side1 => repeat (first | exact HR0.out | (with_reducible refine Kd.C_alloc ?_ _) | (with_reducible refine Kd.C_drewN ?_ _) | (with_reducible refine Kd.C_drew ?_))); (case side2 => exact HC0.out); rintro e w5 ⟨rfl, hb⟩; refine ⟨_, rfl, ?_⟩; have n0_ := Aside0.mk (below_step (by repeat (first | (with_reducible first | exact HB.out | apply below_alloc | apply pw_below_drewN | apply below_drew1) | exact HB.out)) hb); clear HB; have HB := n0_; clear n0_; (try clear hb); (try clear hb2); (try clear hk); (try clear hi)))
    go_loopg [1] k (fun kq v1 w' => ∃ (x1_1 : Int), v1 = .int .u64 x1_1 ∧ Aside0 (flotillaref18_Next.l0 kq l0 x1_1 = some r) ∧ Aside0 (kq ≤ k) ∧ Aside0 (Below w.heap.size w w'))
    case atStart => exact ⟨(a1), (by first | rfl | (simp; done) | (simp [*]; done)), H', ⟨Nat.le_refl _⟩, ⟨by repeat (first | (with_reducible first | exact HB.out | apply below_alloc | apply pw_below_drewN | apply below_drew1) | exact HB.out)⟩⟩
    case round =>
      clear H'
      try clear c1
      try clear c2
      try clear p2
      try clear c4
      obtain ⟨x1_1, rfl, HA, HK1, HB⟩ := hrel
      cases gk with
      | zero => exact absurd HA.out (by simp [flotillaref18_Next.l0])
      | succ k1 =>
        have H := HA.out
        clear HA
        simp only [flotillaref18_Next.l0] at H
        by_cases c6 : x1_1 = 0
        · rw [if_pos c6] at H
          have c6b0 : (x1_1 == 0) = true := beq_iff_eq.mpr c6
          have c6b1 : (x1_1 != 0) = false := bne_eq_false_iff_eq.mpr c6
          clear c6
          obtain rfl := Option.some.inj H
          go_wp2
          go_ret
          exact ⟨by first | rfl | (simp [errW_none, errW_some] <;> rfl) | (simp [*, errW_none, errW_some] <;> rfl), by repeat (first | (with_reducible first | exact HB.out | apply below_alloc | apply pw_below_drewN | apply below_drew1) | exact HB.out)⟩
        · rw [if_neg c6] at H
          have c6b0 : (x1_1 == 0) = false := beq_eq_false_iff_ne.mpr c6
          have c6b1 : (x1_1 != 0) = true := bne_iff_ne.mpr c6
          replace H := Option.bind_eq_some_iff.mp H
          obtain ⟨⟨t500, t501, t502, t503, t504, t505, t506, t507, t508, t509, t510, t513, t516⟩, A70, H⟩ := H
          replace H : (if t516 = true then (if t500 = 1 then (some x1_1) else (if t500 = 2 then (some t504) else (flotillaref18_Next.l0 k1 l0 t503))) else (some 0)) = some r := H
          have A7 := Aside0.mk A70
          clear A70
          by_cases c8 : t516 = true
          · subst c8
            have H1 : (if t500 = 1 then (some x1_1) else (if t500 = 2 then (some t504) else (flotillaref18_Next.l0 k1 l0 t503))) = some r := by rw [if_pos rfl] at H; exact H
            clear H
            have H := H1
            clear H1
            by_cases c9 : t500 = 1
            · rw [if_pos c9] at H
              have c9b0 : (t500 == 1) = true := beq_iff_eq.mpr c9
              have c9b1 : (t500 != 1) = false := bne_eq_false_iff_eq.mpr c9
              clear c9
              obtain rfl := Option.some.inj H
              go_wp2_with (first | ((with_reducible refine gate_callee (f := 28) rfl ?_); refine goesL_ (some 15) rfl rfl Try.func28 (by kernel_rfl) rfl #[.slice A0 l0.length c0, .int .u64 x1_1] rfl (by (try simp only [List.map_toArray, List.map_cons, List.map_nil]); first | done | rfl | (simp only [List.length_drop, List.length_take]; rfl)) ?_; (with_reducible refine (flotillaref10_Find.calls k1 (fun k_ => k_ < w.heap.size) _ _ l0 x1_1 t500 t501 t502 t503 t504 t505 t506 t507 t508 t509 t510 t513 true _ ?side1 A7.out).mono ?_); (case side1 => exact Kd.V_mk HC0.out (Kd.F_below (Kd.C_F k43_heap HR0.out) (by repeat (first | (with_reducible first | exact HB.out | apply below_alloc | apply pw_below_drewN | apply below_drew1) | exact HB.out)))); rintro e w10 ⟨v511, v514, rfl, ho0, ho1, hb⟩; refine ⟨_, rfl, ?_⟩; have n0_ := Aside0.mk (Kd.V_lower (Kd.V_mono (ok' := fun k_ => True) ho0 (fun k_ hk_ => trivial)) (below_size (by repeat (first | (with_reducible first | exact HB.out | apply below_alloc | apply pw_below_drewN | apply below_drew1) | exact HB.out)))); have n1_ := Aside0.mk (Kd.V_lower (Kd.V_mono (ok' := fun k_ => True) ho1 (fun k_ hk_ => trivial)) (below_size (by repeat (first | (with_reducible first | exact HB.out | apply below_alloc | apply pw_below_drewN | apply below_drew1) | exact HB.out)))); have n2_ := Aside0.mk (below_step (by repeat (first | (with_reducible first | exact HB.out | apply below_alloc | apply pw_below_drewN | apply below_drew1) | exact HB.out)) hb); clear HB; have HO512 := n0_; have HO515 := n1_; have HB := n2_; clear n0_ n1_ n2_; (try clear hb); (try clear hb2); (try clear hk); (try clear hi); (try clear ho0); (try clear ho1)) | ((with_reducible refine gate_dst (N := 5) rfl ?_); refine box_event ?hg (N := 5) ?hd (cs := #[.int .i64 0, .int .u64 0, .int .i64 0, .int .u64 0, .int .u64 0, .int .i64 0, .int .i64 0, .string (⟨#[]⟩ : ByteArray), .string (⟨#[]⟩ : ByteArray), .string (⟨#[]⟩ : ByteArray), .slice none 0 0, .slice none 0 0]) (t := 43) ?hr ?_; (case hd => rfl); (case hg => rfl); (case hr => first | (go_simp; done) | (go_simp; rfl)); intro gb517 hg w11 hbox hb; have n0_ := Aside0.mk (Kd.V_below (Kd.V_elderB (by (with_reducible repeat (first | apply Kd.V_alloc | apply Kd.V_drewN | apply Kd.V_drew)); exact HO512.out) gb517 (Nat.le_of_eq hg.symm)) hb); have n1_ := Aside0.mk (Kd.V_below (Kd.V_elderB (by (with_reducible repeat (first | apply Kd.V_alloc | apply Kd.V_drewN | apply Kd.V_drew)); exact HO515.out) gb517 (Nat.le_of_eq hg.symm)) hb); have n2_ := Aside0.mk (below_step (by repeat (first | (with_reducible first | exact HB.out | apply below_alloc | apply pw_below_drewN | apply below_drew1) | exact HB.out)) hb); have n3_ := Aside0.mk (hbox); have n4_ := Aside0.mk ((by rw [hg]; exact (below_size (by repeat (first | (with_reducible first | exact HB.out | apply below_alloc | apply pw_below_drewN | apply below_drew1) | exact HB.out))) : w.heap.size ≤ gb517)); have n5_ := Aside0.mk ((by rw [hg]; exact (below_size (by repeat (first | (with_reducible first | exact HB.out | apply below_alloc | apply pw_below_drewN | apply below_drew1) | exact HB.out))) : w.heap.size ≤ gb517)); clear HO512; clear HO515; clear HB; have HO512 := n0_; have HO515 := n1_; have HB := n2_; have BK517 := n3_; have GW517 := n4_; have GE517 := n5_; clear n0_ n1_ n2_ n3_ n4_ n5_; clear hb hbox hg; have hcz12_0 : w11.cell? ⟨gb517, 0, none⟩ = some (.int .i64 0) := (blk_cell BK517.out 0).trans rfl; have hcz12_1 : w11.cell? ⟨gb517, 1, none⟩ = some (.int .u64 0) := (blk_cell BK517.out 1).trans rfl; have hcz12_2 : w11.cell? ⟨gb517, 2, none⟩ = some (.int .i64 0) := (blk_cell BK517.out 2).trans rfl; have hcz12_3 : w11.cell? ⟨gb517, 3, none⟩ = some (.int .u64 0) := (blk_cell BK517.out 3).trans rfl; have hcz12_4 : w11.cell? ⟨gb517, 4, none⟩ = some (.int .u64 0) := (blk_cell BK517.out 4).trans rfl; have hcz12_5 : w11.cell? ⟨gb517, 5, none⟩ = some (.int .i64 0) := (blk_cell BK517.out 5).trans rfl; have hcz12_6 : w11.cell? ⟨gb517, 6, none⟩ = some (.int .i64 0) := (blk_cell BK517.out 6).trans rfl; have hcz12_7 : w11.cell? ⟨gb517, 7, none⟩ = some (.string (⟨#[]⟩ : ByteArray)) := (blk_cell BK517.out 7).trans rfl; have hcz12_8 : w11.cell? ⟨gb517, 8, none⟩ = some (.string (⟨#[]⟩ : ByteArray)) := (blk_cell BK517.out 8).trans rfl; have hcz12_9 : w11.cell? ⟨gb517, 9, none⟩ = some (.string (⟨#[]⟩ : ByteArray)) := (blk_cell BK517.out 9).trans rfl; have hcz12_10 : w11.cell? ⟨gb517, 10, none⟩ = some (.slice none 0 0) := (blk_cell BK517.out 10).trans rfl; have hcz12_11 : w11.cell? ⟨gb517, 11, none⟩ = some (.slice none 0 0) := (blk_cell BK517.out 11).trans rfl; have hfz12_0 := blk_frozen BK517.out 0; have hfz12_1 := blk_frozen BK517.out 1; have hfz12_2 := blk_frozen BK517.out 2; have hfz12_3 := blk_frozen BK517.out 3; have hfz12_4 := blk_frozen BK517.out 4; have hfz12_5 := blk_frozen BK517.out 5; have hfz12_6 := blk_frozen BK517.out 6; have hfz12_7 := blk_frozen BK517.out 7; have hfz12_8 := blk_frozen BK517.out 8; have hfz12_9 := blk_frozen BK517.out 9; have hfz12_10 := blk_frozen BK517.out 10; have hfz12_11 := blk_frozen BK517.out 11; obtain ⟨Ao13, co13, eo13⟩ := Kd.V_slice HO512.out; subst eo13; obtain ⟨Ao14, co14, eo14⟩ := Kd.V_slice HO515.out; subst eo14))
              go_ret
              exact ⟨by first | rfl | (simp [errW_none, errW_some] <;> rfl) | (simp [*, errW_none, errW_some] <;> rfl), by repeat (first | (with_reducible first | exact HB.out | apply below_alloc | apply pw_below_drewN | apply below_drew1 | refine below_set ?_ GE517.out) | exact HB.out)⟩
            · rw [if_neg c9] at H
              have c9b0 : (t500 == 1) = false := beq_eq_false_iff_ne.mpr c9
              have c9b1 : (t500 != 1) = true := bne_iff_ne.mpr c9
              by_cases c15 : t500 = 2
              · rw [if_pos c15] at H
                have c15b0 : (t500 == 2) = true := beq_iff_eq.mpr c15
                have c15b1 : (t500 != 2) = false := bne_eq_false_iff_eq.mpr c15
                clear c15
                obtain rfl := Option.some.inj H
                go_wp2_with (first | ((with_reducible refine gate_callee (f := 28) rfl ?_); refine goesL_ (some 15) rfl rfl Try.func28 (by kernel_rfl) rfl #[.slice A0 l0.length c0, .int .u64 x1_1] rfl (by (try simp only [List.map_toArray, List.map_cons, List.map_nil]); first | done | rfl | (simp only [List.length_drop, List.length_take]; rfl)) ?_; (with_reducible refine (flotillaref10_Find.calls k1 (fun k_ => k_ < w.heap.size) _ _ l0 x1_1 t500 t501 t502 t503 t504 t505 t506 t507 t508 t509 t510 t513 true _ ?side1 A7.out).mono ?_); (case side1 => exact Kd.V_mk HC0.out (Kd.F_below (Kd.C_F k43_heap HR0.out) (by repeat (first | (with_reducible first | exact HB.out | apply below_alloc | apply pw_below_drewN | apply below_drew1) | exact HB.out)))); rintro e w16 ⟨v511, v514, rfl, ho0, ho1, hb⟩; refine ⟨_, rfl, ?_⟩; have n0_ := Aside0.mk (Kd.V_lower (Kd.V_mono (ok' := fun k_ => True) ho0 (fun k_ hk_ => trivial)) (below_size (by repeat (first | (with_reducible first | exact HB.out | apply below_alloc | apply pw_below_drewN | apply below_drew1) | exact HB.out)))); have n1_ := Aside0.mk (Kd.V_lower (Kd.V_mono (ok' := fun k_ => True) ho1 (fun k_ hk_ => trivial)) (below_size (by repeat (first | (with_reducible first | exact HB.out | apply below_alloc | apply pw_below_drewN | apply below_drew1) | exact HB.out)))); have n2_ := Aside0.mk (below_step (by repeat (first | (with_reducible first | exact HB.out | apply below_alloc | apply pw_below_drewN | apply below_drew1) | exact HB.out)) hb); clear HB; have HO512 := n0_; have HO515 := n1_; have HB := n2_; clear n0_ n1_ n2_; (try clear hb); (try clear hb2); (try clear hk); (try clear hi); (try clear ho0); (try clear ho1)) | ((with_reducible refine gate_dst (N := 5) rfl ?_); refine box_event ?hg (N := 5) ?hd (cs := #[.int .i64 0, .int .u64 0, .int .i64 0, .int .u64 0, .int .u64 0, .int .i64 0, .int .i64 0, .string (⟨#[]⟩ : ByteArray), .string (⟨#[]⟩ : ByteArray), .string (⟨#[]⟩ : ByteArray), .slice none 0 0, .slice none 0 0]) (t := 43) ?hr ?_; (case hd => rfl); (case hg => rfl); (case hr => first | (go_simp; done) | (go_simp; rfl)); intro gb517 hg w17 hbox hb; have n0_ := Aside0.mk (Kd.V_below (Kd.V_elderB (by (with_reducible repeat (first | apply Kd.V_alloc | apply Kd.V_drewN | apply Kd.V_drew)); exact HO512.out) gb517 (Nat.le_of_eq hg.symm)) hb); have n1_ := Aside0.mk (Kd.V_below (Kd.V_elderB (by (with_reducible repeat (first | apply Kd.V_alloc | apply Kd.V_drewN | apply Kd.V_drew)); exact HO515.out) gb517 (Nat.le_of_eq hg.symm)) hb); have n2_ := Aside0.mk (below_step (by repeat (first | (with_reducible first | exact HB.out | apply below_alloc | apply pw_below_drewN | apply below_drew1) | exact HB.out)) hb); have n3_ := Aside0.mk (hbox); have n4_ := Aside0.mk ((by rw [hg]; exact (below_size (by repeat (first | (with_reducible first | exact HB.out | apply below_alloc | apply pw_below_drewN | apply below_drew1) | exact HB.out))) : w.heap.size ≤ gb517)); have n5_ := Aside0.mk ((by rw [hg]; exact (below_size (by repeat (first | (with_reducible first | exact HB.out | apply below_alloc | apply pw_below_drewN | apply below_drew1) | exact HB.out))) : w.heap.size ≤ gb517)); clear HO512; clear HO515; clear HB; have HO512 := n0_; have HO515 := n1_; have HB := n2_; have BK517 := n3_; have GW517 := n4_; have GE517 := n5_; clear n0_ n1_ n2_ n3_ n4_ n5_; clear hb hbox hg; have hcz18_0 : w17.cell? ⟨gb517, 0, none⟩ = some (.int .i64 0) := (blk_cell BK517.out 0).trans rfl; have hcz18_1 : w17.cell? ⟨gb517, 1, none⟩ = some (.int .u64 0) := (blk_cell BK517.out 1).trans rfl; have hcz18_2 : w17.cell? ⟨gb517, 2, none⟩ = some (.int .i64 0) := (blk_cell BK517.out 2).trans rfl; have hcz18_3 : w17.cell? ⟨gb517, 3, none⟩ = some (.int .u64 0) := (blk_cell BK517.out 3).trans rfl; have hcz18_4 : w17.cell? ⟨gb517, 4, none⟩ = some (.int .u64 0) := (blk_cell BK517.out 4).trans rfl; have hcz18_5 : w17.cell? ⟨gb517, 5, none⟩ = some (.int .i64 0) := (blk_cell BK517.out 5).trans rfl; have hcz18_6 : w17.cell? ⟨gb517, 6, none⟩ = some (.int .i64 0) := (blk_cell BK517.out 6).trans rfl; have hcz18_7 : w17.cell? ⟨gb517, 7, none⟩ = some (.string (⟨#[]⟩ : ByteArray)) := (blk_cell BK517.out 7).trans rfl; have hcz18_8 : w17.cell? ⟨gb517, 8, none⟩ = some (.string (⟨#[]⟩ : ByteArray)) := (blk_cell BK517.out 8).trans rfl; have hcz18_9 : w17.cell? ⟨gb517, 9, none⟩ = some (.string (⟨#[]⟩ : ByteArray)) := (blk_cell BK517.out 9).trans rfl; have hcz18_10 : w17.cell? ⟨gb517, 10, none⟩ = some (.slice none 0 0) := (blk_cell BK517.out 10).trans rfl; have hcz18_11 : w17.cell? ⟨gb517, 11, none⟩ = some (.slice none 0 0) := (blk_cell BK517.out 11).trans rfl; have hfz18_0 := blk_frozen BK517.out 0; have hfz18_1 := blk_frozen BK517.out 1; have hfz18_2 := blk_frozen BK517.out 2; have hfz18_3 := blk_frozen BK517.out 3; have hfz18_4 := blk_frozen BK517.out 4; have hfz18_5 := blk_frozen BK517.out 5; have hfz18_6 := blk_frozen BK517.out 6; have hfz18_7 := blk_frozen BK517.out 7; have hfz18_8 := blk_frozen BK517.out 8; have hfz18_9 := blk_frozen BK517.out 9; have hfz18_10 := blk_frozen BK517.out 10; have hfz18_11 := blk_frozen BK517.out 11; obtain ⟨Ao19, co19, eo19⟩ := Kd.V_slice HO512.out; subst eo19; obtain ⟨Ao20, co20, eo20⟩ := Kd.V_slice HO515.out; subst eo20))
                go_ret
                exact ⟨by first | rfl | (simp [errW_none, errW_some] <;> rfl) | (simp [*, errW_none, errW_some] <;> rfl), by repeat (first | (with_reducible first | exact HB.out | apply below_alloc | apply pw_below_drewN | apply below_drew1 | refine below_set ?_ GE517.out) | exact HB.out)⟩
              · rw [if_neg c15] at H
                have c15b0 : (t500 == 2) = false := beq_eq_false_iff_ne.mpr c15
                have c15b1 : (t500 != 2) = true := bne_iff_ne.mpr c15
                have H' := Aside0.mk H
                clear H
                go_wp2_with (first | ((with_reducible refine gate_callee (f := 28) rfl ?_); refine goesL_ (some 15) rfl rfl Try.func28 (by kernel_rfl) rfl #[.slice A0 l0.length c0, .int .u64 x1_1] rfl (by (try simp only [List.map_toArray, List.map_cons, List.map_nil]); first | done | rfl | (simp only [List.length_drop, List.length_take]; rfl)) ?_; (with_reducible refine (flotillaref10_Find.calls k1 (fun k_ => k_ < w.heap.size) _ _ l0 x1_1 t500 t501 t502 t503 t504 t505 t506 t507 t508 t509 t510 t513 true _ ?side1 A7.out).mono ?_); (case side1 => exact Kd.V_mk HC0.out (Kd.F_below (Kd.C_F k43_heap HR0.out) (by repeat (first | (with_reducible first | exact HB.out | apply below_alloc | apply pw_below_drewN | apply below_drew1) | exact HB.out)))); rintro e w21 ⟨v511, v514, rfl, ho0, ho1, hb⟩; refine ⟨_, rfl, ?_⟩; have n0_ := Aside0.mk (Kd.V_lower (Kd.V_mono (ok' := fun k_ => True) ho0 (fun k_ hk_ => trivial)) (below_size (by repeat (first | (with_reducible first | exact HB.out | apply below_alloc | apply pw_below_drewN | apply below_drew1) | exact HB.out)))); have n1_ := Aside0.mk (Kd.V_lower (Kd.V_mono (ok' := fun k_ => True) ho1 (fun k_ hk_ => trivial)) (below_size (by repeat (first | (with_reducible first | exact HB.out | apply below_alloc | apply pw_below_drewN | apply below_drew1) | exact HB.out)))); have n2_ := Aside0.mk (below_step (by repeat (first | (with_reducible first | exact HB.out | apply below_alloc | apply pw_below_drewN | apply below_drew1) | exact HB.out)) hb); clear HB; have HO512 := n0_; have HO515 := n1_; have HB := n2_; clear n0_ n1_ n2_; (try clear hb); (try clear hb2); (try clear hk); (try clear hi); (try clear ho0); (try clear ho1)) | ((with_reducible refine gate_dst (N := 5) rfl ?_); refine box_event ?hg (N := 5) ?hd (cs := #[.int .i64 0, .int .u64 0, .int .i64 0, .int .u64 0, .int .u64 0, .int .i64 0, .int .i64 0, .string (⟨#[]⟩ : ByteArray), .string (⟨#[]⟩ : ByteArray), .string (⟨#[]⟩ : ByteArray), .slice none 0 0, .slice none 0 0]) (t := 43) ?hr ?_; (case hd => rfl); (case hg => rfl); (case hr => first | (go_simp; done) | (go_simp; rfl)); intro gb517 hg w22 hbox hb; have n0_ := Aside0.mk (Kd.V_below (Kd.V_elderB (by (with_reducible repeat (first | apply Kd.V_alloc | apply Kd.V_drewN | apply Kd.V_drew)); exact HO512.out) gb517 (Nat.le_of_eq hg.symm)) hb); have n1_ := Aside0.mk (Kd.V_below (Kd.V_elderB (by (with_reducible repeat (first | apply Kd.V_alloc | apply Kd.V_drewN | apply Kd.V_drew)); exact HO515.out) gb517 (Nat.le_of_eq hg.symm)) hb); have n2_ := Aside0.mk (below_step (by repeat (first | (with_reducible first | exact HB.out | apply below_alloc | apply pw_below_drewN | apply below_drew1) | exact HB.out)) hb); have n3_ := Aside0.mk (hbox); have n4_ := Aside0.mk ((by rw [hg]; exact (below_size (by repeat (first | (with_reducible first | exact HB.out | apply below_alloc | apply pw_below_drewN | apply below_drew1) | exact HB.out))) : w.heap.size ≤ gb517)); have n5_ := Aside0.mk ((by rw [hg]; exact (below_size (by repeat (first | (with_reducible first | exact HB.out | apply below_alloc | apply pw_below_drewN | apply below_drew1) | exact HB.out))) : w.heap.size ≤ gb517)); clear HO512; clear HO515; clear HB; have HO512 := n0_; have HO515 := n1_; have HB := n2_; have BK517 := n3_; have GW517 := n4_; have GE517 := n5_; clear n0_ n1_ n2_ n3_ n4_ n5_; clear hb hbox hg; have hcz23_0 : w22.cell? ⟨gb517, 0, none⟩ = some (.int .i64 0) := (blk_cell BK517.out 0).trans rfl; have hcz23_1 : w22.cell? ⟨gb517, 1, none⟩ = some (.int .u64 0) := (blk_cell BK517.out 1).trans rfl; have hcz23_2 : w22.cell? ⟨gb517, 2, none⟩ = some (.int .i64 0) := (blk_cell BK517.out 2).trans rfl; have hcz23_3 : w22.cell? ⟨gb517, 3, none⟩ = some (.int .u64 0) := (blk_cell BK517.out 3).trans rfl; have hcz23_4 : w22.cell? ⟨gb517, 4, none⟩ = some (.int .u64 0) := (blk_cell BK517.out 4).trans rfl; have hcz23_5 : w22.cell? ⟨gb517, 5, none⟩ = some (.int .i64 0) := (blk_cell BK517.out 5).trans rfl; have hcz23_6 : w22.cell? ⟨gb517, 6, none⟩ = some (.int .i64 0) := (blk_cell BK517.out 6).trans rfl; have hcz23_7 : w22.cell? ⟨gb517, 7, none⟩ = some (.string (⟨#[]⟩ : ByteArray)) := (blk_cell BK517.out 7).trans rfl; have hcz23_8 : w22.cell? ⟨gb517, 8, none⟩ = some (.string (⟨#[]⟩ : ByteArray)) := (blk_cell BK517.out 8).trans rfl; have hcz23_9 : w22.cell? ⟨gb517, 9, none⟩ = some (.string (⟨#[]⟩ : ByteArray)) := (blk_cell BK517.out 9).trans rfl; have hcz23_10 : w22.cell? ⟨gb517, 10, none⟩ = some (.slice none 0 0) := (blk_cell BK517.out 10).trans rfl; have hcz23_11 : w22.cell? ⟨gb517, 11, none⟩ = some (.slice none 0 0) := (blk_cell BK517.out 11).trans rfl; have hfz23_0 := blk_frozen BK517.out 0; have hfz23_1 := blk_frozen BK517.out 1; have hfz23_2 := blk_frozen BK517.out 2; have hfz23_3 := blk_frozen BK517.out 3; have hfz23_4 := blk_frozen BK517.out 4; have hfz23_5 := blk_frozen BK517.out 5; have hfz23_6 := blk_frozen BK517.out 6; have hfz23_7 := blk_frozen BK517.out 7; have hfz23_8 := blk_frozen BK517.out 8; have hfz23_9 := blk_frozen BK517.out 9; have hfz23_10 := blk_frozen BK517.out 10; have hfz23_11 := blk_frozen BK517.out 11; obtain ⟨Ao24, co24, eo24⟩ := Kd.V_slice HO512.out; subst eo24; obtain ⟨Ao25, co25, eo25⟩ := Kd.V_slice HO515.out; subst eo25))
                go_roundg k1
                case measure => have := HK1.out; omega
                case rel => exact ⟨(t503), (by first | rfl | (simp; done) | (simp [*]; done)), H', ⟨by have := HK1.out; omega⟩, ⟨by repeat (first | (with_reducible first | exact HB.out | apply below_alloc | apply pw_below_drewN | apply below_drew1 | refine below_set ?_ GE517.out) | exact HB.out)⟩⟩
          · replace c8 := Bool.eq_false_iff.mpr c8
            subst c8
            have H1 : (some 0) = some r := by rw [if_neg (show ¬ (false = true) by decide)] at H; exact H
            clear H
            have H := H1
            clear H1
            obtain rfl := Option.some.inj H
            go_wp2_with (first | ((with_reducible refine gate_callee (f := 28) rfl ?_); refine goesL_ (some 15) rfl rfl Try.func28 (by kernel_rfl) rfl #[.slice A0 l0.length c0, .int .u64 x1_1] rfl (by (try simp only [List.map_toArray, List.map_cons, List.map_nil]); first | done | rfl | (simp only [List.length_drop, List.length_take]; rfl)) ?_; (with_reducible refine (flotillaref10_Find.calls k1 (fun k_ => k_ < w.heap.size) _ _ l0 x1_1 t500 t501 t502 t503 t504 t505 t506 t507 t508 t509 t510 t513 false _ ?side1 A7.out).mono ?_); (case side1 => exact Kd.V_mk HC0.out (Kd.F_below (Kd.C_F k43_heap HR0.out) (by repeat (first | (with_reducible first | exact HB.out | apply below_alloc | apply pw_below_drewN | apply below_drew1) | exact HB.out)))); rintro e w26 ⟨v511, v514, rfl, ho0, ho1, hb⟩; refine ⟨_, rfl, ?_⟩; have n0_ := Aside0.mk (Kd.V_lower (Kd.V_mono (ok' := fun k_ => True) ho0 (fun k_ hk_ => trivial)) (below_size (by repeat (first | (with_reducible first | exact HB.out | apply below_alloc | apply pw_below_drewN | apply below_drew1) | exact HB.out)))); have n1_ := Aside0.mk (Kd.V_lower (Kd.V_mono (ok' := fun k_ => True) ho1 (fun k_ hk_ => trivial)) (below_size (by repeat (first | (with_reducible first | exact HB.out | apply below_alloc | apply pw_below_drewN | apply below_drew1) | exact HB.out)))); have n2_ := Aside0.mk (below_step (by repeat (first | (with_reducible first | exact HB.out | apply below_alloc | apply pw_below_drewN | apply below_drew1) | exact HB.out)) hb); clear HB; have HO512 := n0_; have HO515 := n1_; have HB := n2_; clear n0_ n1_ n2_; (try clear hb); (try clear hb2); (try clear hk); (try clear hi); (try clear ho0); (try clear ho1)) | ((with_reducible refine gate_dst (N := 5) rfl ?_); refine box_event ?hg (N := 5) ?hd (cs := #[.int .i64 0, .int .u64 0, .int .i64 0, .int .u64 0, .int .u64 0, .int .i64 0, .int .i64 0, .string (⟨#[]⟩ : ByteArray), .string (⟨#[]⟩ : ByteArray), .string (⟨#[]⟩ : ByteArray), .slice none 0 0, .slice none 0 0]) (t := 43) ?hr ?_; (case hd => rfl); (case hg => rfl); (case hr => first | (go_simp; done) | (go_simp; rfl)); intro gb517 hg w27 hbox hb; have n0_ := Aside0.mk (Kd.V_below (Kd.V_elderB (by (with_reducible repeat (first | apply Kd.V_alloc | apply Kd.V_drewN | apply Kd.V_drew)); exact HO512.out) gb517 (Nat.le_of_eq hg.symm)) hb); have n1_ := Aside0.mk (Kd.V_below (Kd.V_elderB (by (with_reducible repeat (first | apply Kd.V_alloc | apply Kd.V_drewN | apply Kd.V_drew)); exact HO515.out) gb517 (Nat.le_of_eq hg.symm)) hb); have n2_ := Aside0.mk (below_step (by repeat (first | (with_reducible first | exact HB.out | apply below_alloc | apply pw_below_drewN | apply below_drew1) | exact HB.out)) hb); have n3_ := Aside0.mk (hbox); have n4_ := Aside0.mk ((by rw [hg]; exact (below_size (by repeat (first | (with_reducible first | exact HB.out | apply below_alloc | apply pw_below_drewN | apply below_drew1) | exact HB.out))) : w.heap.size ≤ gb517)); have n5_ := Aside0.mk ((by rw [hg]; exact (below_size (by repeat (first | (with_reducible first | exact HB.out | apply below_alloc | apply pw_below_drewN | apply below_drew1) | exact HB.out))) : w.heap.size ≤ gb517)); clear HO512; clear HO515; clear HB; have HO512 := n0_; have HO515 := n1_; have HB := n2_; have BK517 := n3_; have GW517 := n4_; have GE517 := n5_; clear n0_ n1_ n2_ n3_ n4_ n5_; clear hb hbox hg; have hcz28_0 : w27.cell? ⟨gb517, 0, none⟩ = some (.int .i64 0) := (blk_cell BK517.out 0).trans rfl; have hcz28_1 : w27.cell? ⟨gb517, 1, none⟩ = some (.int .u64 0) := (blk_cell BK517.out 1).trans rfl; have hcz28_2 : w27.cell? ⟨gb517, 2, none⟩ = some (.int .i64 0) := (blk_cell BK517.out 2).trans rfl; have hcz28_3 : w27.cell? ⟨gb517, 3, none⟩ = some (.int .u64 0) := (blk_cell BK517.out 3).trans rfl; have hcz28_4 : w27.cell? ⟨gb517, 4, none⟩ = some (.int .u64 0) := (blk_cell BK517.out 4).trans rfl; have hcz28_5 : w27.cell? ⟨gb517, 5, none⟩ = some (.int .i64 0) := (blk_cell BK517.out 5).trans rfl; have hcz28_6 : w27.cell? ⟨gb517, 6, none⟩ = some (.int .i64 0) := (blk_cell BK517.out 6).trans rfl; have hcz28_7 : w27.cell? ⟨gb517, 7, none⟩ = some (.string (⟨#[]⟩ : ByteArray)) := (blk_cell BK517.out 7).trans rfl; have hcz28_8 : w27.cell? ⟨gb517, 8, none⟩ = some (.string (⟨#[]⟩ : ByteArray)) := (blk_cell BK517.out 8).trans rfl; have hcz28_9 : w27.cell? ⟨gb517, 9, none⟩ = some (.string (⟨#[]⟩ : ByteArray)) := (blk_cell BK517.out 9).trans rfl; have hcz28_10 : w27.cell? ⟨gb517, 10, none⟩ = some (.slice none 0 0) := (blk_cell BK517.out 10).trans rfl; have hcz28_11 : w27.cell? ⟨gb517, 11, none⟩ = some (.slice none 0 0) := (blk_cell BK517.out 11).trans rfl; have hfz28_0 := blk_frozen BK517.out 0; have hfz28_1 := blk_frozen BK517.out 1; have hfz28_2 := blk_frozen BK517.out 2; have hfz28_3 := blk_frozen BK517.out 3; have hfz28_4 := blk_frozen BK517.out 4; have hfz28_5 := blk_frozen BK517.out 5; have hfz28_6 := blk_frozen BK517.out 6; have hfz28_7 := blk_frozen BK517.out 7; have hfz28_8 := blk_frozen BK517.out 8; have hfz28_9 := blk_frozen BK517.out 9; have hfz28_10 := blk_frozen BK517.out 10; have hfz28_11 := blk_frozen BK517.out 11; obtain ⟨Ao29, co29, eo29⟩ := Kd.V_slice HO512.out; subst eo29; obtain ⟨Ao30, co30, eo30⟩ := Kd.V_slice HO515.out; subst eo30))
            go_ret
            exact ⟨by first | rfl | (simp [errW_none, errW_some] <;> rfl) | (simp [*, errW_none, errW_some] <;> rfl), by repeat (first | (with_reducible first | exact HB.out | apply below_alloc | apply pw_below_drewN | apply below_drew1 | refine below_set ?_ GE517.out) | exact HB.out)⟩
  · replace c4 := Bool.eq_false_iff.mpr c4
    subst c4
    have H1 : (some 0) = some r := by rw [if_neg (show ¬ (false = true) by decide)] at H; exact H
    clear H
    have H := H1
    clear H1
    obtain rfl := Option.some.inj H
    go_enter Try.func12, Try.ntmps12
    go_wp2_with (first | ((with_reducible refine gate_callee (f := 27) rfl ?_); refine goesL_ (some 8) rfl rfl Try.func27 (by kernel_rfl) rfl #[.slice A0 l0.length c0] rfl (by (try simp only [List.map_toArray, List.map_cons, List.map_nil]); first | done | rfl | (simp only [List.length_drop, List.length_take]; rfl)) ?_; (with_reducible refine (flotillaref18_Log.calls k _ _ l0 false _ ?side1 ?side2 A3.out).mono ?_); (case side1 => repeat (first | exact HR0.out | (with_reducible refine Kd.C_alloc ?_ _) | (with_reducible refine Kd.C_drewN ?_ _) | (with_reducible refine Kd.C_drew ?_))); (case side2 => exact HC0.out); rintro e w31 ⟨rfl, hb⟩; refine ⟨_, rfl, ?_⟩; have n0_ := Aside0.mk (below_step (by repeat (first | (with_reducible first | exact HB.out | apply below_alloc | apply pw_below_drewN | apply below_drew1) | exact HB.out)) hb); clear HB; have HB := n0_; clear n0_; (try clear hb); (try clear hb2); (try clear hk); (try clear hi)))
    go_ret
    exact ⟨by first | rfl | (simp [errW_none, errW_some] <;> rfl) | (simp [*, errW_none, errW_some] <;> rfl), by repeat (first | (with_reducible first | exact HB.out | apply below_alloc | apply pw_below_drewN | apply below_drew1) | exact HB.out)⟩


end Go.Proofs.Ytaahfokdgfopcaa.Rf
