/- The calls of graph's New, Len, Add, Drop. -/
import Derived.Test.YtgjjfldfdkoedaaGk
namespace Go.Proofs.Ytgjjfldfdkoedaa
open Go.RowKit Go.Proofs.YtgjjfldfdkoedaaW.PrintWords Go.Proofs.YtgjjfldfdkoedaaW.PrintLast Go.Proofs.YtgjjfldfdkoedaaW.PrintMore
open Rf MapL Graph
set_option linter.unusedVariables false
set_option linter.unusedSimpArgs false
def addK {α : Type} [DecidableEq α] (ks : List α) (e : α) : List α := if e ∈ ks then ks else ks ++ [e]
def delK {α : Type} [DecidableEq α] (ks : List α) (e : α) : List α := ks.filter fun z => decide (z ≠ e)
def isK {α : Type} [DecidableEq α] (ks : List α) (e : α) : Bool := decide (e ∈ ks)
theorem addK_in {α : Type} [DecidableEq α] {ks : List α} {e : α} (h : e ∈ ks) : addK ks e = ks := if_pos h
theorem addK_new {α : Type} [DecidableEq α] {ks : List α} {e : α} (h : e ∉ ks) : addK ks e = ks ++ [e] := if_neg h
theorem isK_in {α : Type} [DecidableEq α] {ks : List α} {e : α} (h : e ∈ ks) : isK ks e = true := decide_eq_true h
theorem isK_no {α : Type} [DecidableEq α] {ks : List α} {e : α} (h : e ∉ ks) : isK ks e = false := decide_eq_false h
theorem ret_bool {a b : Bool} (h : a = b) : Ending.returned (.bool a) = .returned (.bool b) := by rw [h]
-- [GEN
theorem newI (w : World) : Calls Try.prog 21 #[] w fun e w' => ∃ g b : Nat, e = .returned (.pointer (some ⟨g, 0, none⟩)) ∧ w.heap.size ≤ g ∧ w.heap.size ≤ b ∧ GrI w' g b [] ∧ Below w.heap.size w w' := by
  have hmk : ∀ W : World, (Instr.makeMap 61 none).run Try.prog W = .ok (.map (some W.heap.size)) (W.alloc (.map #[] 0)) := fun W => rfl
  go_enter Try.func21, Try.ntmps21
  go_wp2_with fail
  go_ret
  have e1 : ((w.alloc (.map #[] 0)).alloc (.cells #[.map (some w.heap.size)] 63)).heap[w.heap.size + 1]? = some (.cells #[.map (some w.heap.size)] 63 (0, 0)) := by
    have := heap_alloc_new (w.alloc (.map #[] 0)) (.cells #[.map (some w.heap.size)] 63)
    simpa using this
  exact ⟨w.heap.size + 1, w.heap.size, rfl, by omega, Nat.le_refl _, ⟨e1, (mapAt_made w).alloc _⟩, below_alloc (below_alloc (Below.refl _ _) _) _⟩
theorem lenI_nil (w : World) : Calls Try.prog 16 #[.pointer none] w fun e w' => e = .returned (.int .i64 0) ∧ w = w' := by
  go_enter Try.func16, Try.ntmps16
  go_wp2_with fail
  go_ret
  exact ⟨rfl, rfl⟩
theorem lenI (w : World) (g b : Nat) (ks : List (Int × Int)) (h : GrI w g b ks) : Calls Try.prog 16 #[.pointer (some ⟨g, 0, none⟩)] w fun e w' => e = .returned (.int .i64 ks.length) ∧ w = w' := by
  have hc := blk_cell h.box 0
  have hl := h.map.len (P := Try.prog) Try.underlying61
  have H := Aside0.mk h
  clear h
  go_enter Try.func16, Try.ntmps16
  go_wp2_with fail
  go_ret
  exact ⟨rfl, rfl⟩
set_option maxRecDepth 100000 in
theorem addI (w : World) (g b : Nat) (ks : List (Int × Int)) (x y : Int) (h : GrI w g b ks) : Calls Try.prog 17 #[.pointer (some ⟨g, 0, none⟩), .int .i64 x, .int .i64 y] w fun e w' =>
    e = .returned (.bool (!isK ks (x, y))) ∧ GrI w' g b (addK ks (x, y)) ∧ w.grownBy w' (some b) := by
  have hc := blk_cell h.box 0
  have hl := h.map.len (P := Try.prog) Try.underlying61
  have H := Aside0.mk h
  clear h
  go_enter Try.func17, Try.ntmps17
  go_wp2_with fail
  obtain ⟨w1, hp, hm, hg, hs⟩ := H.out.map.put keyEI Try.underlying61 (x, y)
  have hp' : (Instr.mapUpdate 61 (.map (some b)) (.agg #[.int .i64 x, .int .i64 y]) (.bool true)).run Try.prog w = .ok () w1 := hp
  rw [hp']
  have hbox := blk_grown H.out.box hg (fun e => H.out.ne (Option.some.inj e))
  have hc1 := blk_cell hbox 0
  have HG := Aside0.mk hg
  have HX := Aside0.mk hbox
  clear hp hp' hg hs hbox hc hl
  by_cases hin : (x, y) ∈ ks
  · rw [if_pos hin] at hm
    have hl1 := hm.len (P := Try.prog) Try.underlying61
    have HM := Aside0.mk hm
    have HN := Aside0.mk hin
    clear hin hm
    go_wp2_with fail
    go_ret
    exact ⟨ret_bool (by rw [isK_in HN.out]; rfl), ⟨HX.out, by rw [addK_in HN.out]; exact HM.out⟩, HG.out⟩
  · rw [if_neg hin] at hm
    have hl1 := hm.len (P := Try.prog) Try.underlying61
    rw [show (ks ++ [(x, y)]).length = ks.length + 1 by simp] at hl1
    have HM := Aside0.mk hm
    have HN := Aside0.mk hin
    clear hin hm
    go_wp2_with fail
    go_ret
    exact ⟨ret_bool (by rw [isK_no HN.out]; simp <;> omega), ⟨HX.out, by rw [addK_new HN.out]; exact HM.out⟩, HG.out⟩
set_option maxRecDepth 100000 in
theorem dropI (w : World) (g b : Nat) (ks : List (Int × Int)) (x y : Int) (h : GrI w g b ks) : Calls Try.prog 18 #[.pointer (some ⟨g, 0, none⟩), .int .i64 x, .int .i64 y] w fun e w' =>
    e = .returned (.bool (isK ks (x, y))) ∧ GrI w' g b (delK ks (x, y)) ∧ w.grownBy w' (some b) := by
  have hc := blk_cell h.box 0
  have hl := h.map.len (P := Try.prog) Try.underlying61
  have H := Aside0.mk h
  obtain ⟨w1, hp, hm, hg, hs⟩ := h.map.del keyEI Try.underlying61 (x, y) 0
  have hp' : ∀ ty, (Builtin.delete_ #[61, 65] ty #[.map (some b), .agg #[.int .i64 x, .int .i64 y]]).run Try.prog w = .ok (.tuple #[]) w1 := fun _ => hp
  have hl1 := hm.len (P := Try.prog) Try.underlying61
  have hbox := blk_grown h.box hg (fun e => h.ne (Option.some.inj e))
  have hc1 := blk_cell hbox 0
  have HG := Aside0.mk hg
  have HX := Aside0.mk hbox
  have HM := Aside0.mk hm
  have HD := Aside0.mk h.map.nodup
  clear h hp hg hs hbox hm
  go_enter Try.func18, Try.ntmps18
  by_cases hin : (x, y) ∈ ks
  · have hlt : decide ((ks.filter fun z => decide (z ≠ (x, y))).length < ks.length) = true := by
      rw [decide_eq_true_eq]
      exact List.length_filter_lt_length_iff_exists.2 ⟨_, hin, by simp⟩
    have HN := Aside0.mk hin
    clear hin
    go_wp2_with fail
    go_ret
    exact ⟨ret_bool (by rw [isK_in HN.out]; simp [HN.out]), ⟨HX.out, HM.out⟩, HG.out⟩
  · have hf : (ks.filter fun z => decide (z ≠ (x, y))) = ks := List.filter_eq_self.2 (fun z hz => by simpa using (fun q => hin (by rw [← q]; exact hz) : z ≠ (x, y)))
    rw [hf] at hl1
    have HN := Aside0.mk hin
    have HF := Aside0.mk hf
    clear hin hf
    go_wp2_with fail
    go_ret
    exact ⟨ret_bool (by rw [isK_no HN.out]), ⟨HX.out, HM.out⟩, HG.out⟩
-- GEN]
end Go.Proofs.Ytgjjfldfdkoedaa
