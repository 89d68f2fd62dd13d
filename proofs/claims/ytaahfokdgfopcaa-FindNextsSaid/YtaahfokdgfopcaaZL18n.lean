/- Layer 18: FindNexts' walk. -/
import Derived.Test.YtaahfokdgfopcaaZFe
import Derived.Test.YtaahfokdgfopcaaZFv
import Derived.Deep.DeepCutAuto
import Derived.Deep.CutBlock
namespace Go.Proofs.Ytaahfokdgfopcaa
open Go.RowKit Go.Proofs.YtaahfokdgfopcaaW.PrintWords Go.Proofs.YtaahfokdgfopcaaW.PrintLast Go.Proofs.YtaahfokdgfopcaaW.PrintMore
open Rf
set_option linter.unusedVariables false
set_option linter.unusedSimpArgs false
theorem cop_calls (w : World) (l : List SGRecord) (A : Option Addr) (c : Nat) (hC : Kd.C kGRecord w A l.length l) (hc : l.length ≤ c) (hl : l.length ≤ 300) :
    Calls Try.prog 11 #[.slice A l.length c] w fun e w' => ∃ A' c', e = .returned (.slice A' l.length c') ∧ Kd.C kGRecord w' A' l.length l ∧ l.length ≤ c' ∧ Below w.heap.size w w' := by
  have hf : flotillalaw18_copied.f l = some l := by
    unfold flotillalaw18_copied.f
    rw [if_pos (by show 0 + l.length < _; omega)]
    rfl
  refine (flotillalaw18_copied.calls (fun k => k < w.heap.size) A c l l w (Kd.V_mk hc (Kd.C_F k43_heap hC)) hf).mono ?_
  rintro e w' ⟨v, rfl, hN, hb⟩
  obtain ⟨A', c', rfl⟩ := Kd.N_slice hN
  obtain ⟨_, h1, h2⟩ := Kd.N_reads' hN
  exact ⟨A', c', rfl, h2, h1, hb⟩
theorem u64_range {a : Int} (h : (Lit.int .u64 a).wf = true) : 0 ≤ a ∧ a < 18446744073709551616 := by
  have h' : (decide (IntKind.min .u64 ≤ a) && decide (a ≤ IntKind.max .u64)) = true := h
  rw [Bool.and_eq_true, decide_eq_true_eq, decide_eq_true_eq] at h'
  have e1 : IntKind.min .u64 = 0 := by decide
  have e2 : IntKind.max .u64 = 18446744073709551615 := by decide
  rw [e1, e2] at h'
  omega
theorem both_same {l : List SGRecord} {a v n : Int} (h1 : (LogP l → Nx l a v ∧ 0 ≤ v ∧ v ≤ a) ∧ (¬ LogP l → v = 0)) (h2 : (LogP l → Nx l a n) ∧ (¬ LogP l → n = 0)) (h0 : 0 ≤ a) : v = n ∧ v ≤ a := by
  by_cases h : LogP l
  · exact ⟨nx_det h.1 (h1.1 h).1 (h2.1 h), (h1.1 h).2.2⟩
  · have e1 := h1.2 h
    have e2 := h2.2 h
    exact ⟨by omega, by omega⟩
set_option maxRecDepth 100000 in
set_option maxHeartbeats 8000000 in
theorem nexts_row (w : World) (l : List SGRecord) (A : Option Addr) (c : Nat) (hC : Kd.C kGRecord w A l.length l) (hc : l.length ≤ c) (hl : l.length ≤ 140737488351232) (hx : ∀ r ∈ l, Okx r) (a : Int) (h0 : 0 ≤ a) (ha : a < 18446744073709551616) :
    Calls Try.prog 3 #[.slice A l.length c, .int .u64 a] w fun e w' => e = .returned (.bool true) ∧ Below w.heap.size w w' := by
  have HC := Aside0.mk hC
  have HX := Aside0.mk hx
  have HAB := Aside0.mk (show 0 ≤ a ∧ a < 18446744073709551616 from ⟨h0, ha⟩)
  clear hC h0 ha
  go_enter Try.func3, Try.ntmps3
  go_wp2_with fail
  refine (small_calls w l A c HC.out hc hl hx).mono ?_
  rintro e wa ⟨b, rfl, hb300, hb⟩
  have HBa := Aside0.mk hb
  clear hb hx
  cases b with
  | false =>
    go_wp2_with fail
    refine (lives18 wa).mono ?_
    rintro e wq ⟨rfl, hb⟩
    have HBq := Aside0.mk (below_then HBa.out HBa.out.size hb)
    clear hb
    go_wp2_with fail
    go_ret
    exact ⟨rfl, HBq.out⟩
  | true =>
    have h300 := hb300 rfl
    clear hb300 hl
    go_wp2_with fail
    refine (cop_calls wa l A c (Kd.C_below HC.out HBa.out) hc h300).mono ?_
    rintro e wb ⟨A', c', rfl, hC', hc', hb⟩
    have HC' := Aside0.mk hC'
    have HBb := Aside0.mk (below_then HBa.out HBa.out.size hb)
    clear hb hC'
    go_wp2_with fail
    refine (next_calls wb l A' c' HC'.out hc' h300 HX.out a HAB.out.1 HAB.out.2).mono ?_
    rintro e wc ⟨v, rfl, p1, p2, hb⟩
    have HV := Aside0.mk (And.intro p1 p2)
    have HBc := Aside0.mk (below_then HBb.out HBb.out.size hb)
    clear hb p1 p2
    go_wp2_with fail
    refine (rnext_calls wc l A c (Kd.C_below HC.out HBc.out) hc h300 HX.out a HAB.out.1).mono ?_
    rintro e wd ⟨n, rfl, p1, p2, hb⟩
    obtain ⟨rfl, hle⟩ := both_same HV.out ⟨p1, p2⟩ HAB.out.1
    have HBd := Aside0.mk (below_then HBc.out HBc.out.size hb)
    clear hb p1 p2
    have e1 : (v == v) = true := by simp
    have e2 : decide (v ≤ a) = true := by simpa using hle
    clear hle
    go_wp2_with fail
    refine (lives18 wd).mono ?_
    rintro e wq ⟨rfl, hb⟩
    have HBq := Aside0.mk (below_then HBd.out HBd.out.size hb)
    clear hb
    go_wp2_with fail
    go_ret
    exact ⟨rfl, HBq.out⟩
end Go.Proofs.Ytaahfokdgfopcaa
