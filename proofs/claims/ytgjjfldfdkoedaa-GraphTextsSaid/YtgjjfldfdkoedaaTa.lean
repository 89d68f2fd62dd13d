/- XTa for a graph of texts (printed by genS.py from XGa). -/
import Derived.Test.YtgjjfldfdkoedaaGa
import Derived.Test.YtgjjfldfdkoedaaGc
namespace Go.Proofs.Ytgjjfldfdkoedaa
open Go.RowKit Go.Proofs.YtgjjfldfdkoedaaW.PrintWords Go.Proofs.YtgjjfldfdkoedaaW.PrintLast Go.Proofs.YtgjjfldfdkoedaaW.PrintMore
open Rf MapL Graph
open Go.Sort (putRow grow Holds ahead)
set_option linter.unusedVariables false
set_option linter.unusedSimpArgs false
theorem newS (w : World) : Calls Try.prog 26 #[] w fun e w' => ∃ g b : Nat, e = .returned (.pointer (some ⟨g, 0, none⟩)) ∧ w.heap.size ≤ g ∧ w.heap.size ≤ b ∧ GrS w' g b [] ∧ Below w.heap.size w w' := by
  have hmk : ∀ W : World, (Instr.makeMap 67 none).run Try.prog W = .ok (.map (some W.heap.size)) (W.alloc (.map #[] 0)) := fun W => rfl
  go_enter Try.func26, Try.ntmps26
  go_wp2_with fail
  go_ret
  have e1 : ((w.alloc (.map #[] 0)).alloc (.cells #[.map (some w.heap.size)] 69)).heap[w.heap.size + 1]? = some (.cells #[.map (some w.heap.size)] 69 (0, 0)) := by
    have := heap_alloc_new (w.alloc (.map #[] 0)) (.cells #[.map (some w.heap.size)] 69)
    simpa using this
  exact ⟨w.heap.size + 1, w.heap.size, rfl, by omega, Nat.le_refl _, ⟨e1, (mapAt_made w).alloc _⟩, below_alloc (below_alloc (Below.refl _ _) _) _⟩
theorem lenS_nil (w : World) : Calls Try.prog 29 #[.pointer none] w fun e w' => e = .returned (.int .i64 0) ∧ w = w' := by
  go_enter Try.func29, Try.ntmps29
  go_wp2_with fail
  go_ret
  exact ⟨rfl, rfl⟩
theorem lenS (w : World) (g b : Nat) (ks : List (ByteArray × ByteArray)) (h : GrS w g b ks) : Calls Try.prog 29 #[.pointer (some ⟨g, 0, none⟩)] w fun e w' => e = .returned (.int .i64 ks.length) ∧ w = w' := by
  have hc := blk_cell h.box 0
  have hl := h.map.len (P := Try.prog) Try.underlying67
  have H := Aside0.mk h
  clear h
  go_enter Try.func29, Try.ntmps29
  go_wp2_with fail
  go_ret
  exact ⟨rfl, rfl⟩
set_option maxRecDepth 100000 in
theorem addS (w : World) (g b : Nat) (ks : List (ByteArray × ByteArray)) (x y : ByteArray) (h : GrS w g b ks) : Calls Try.prog 27 #[.pointer (some ⟨g, 0, none⟩), .string x, .string y] w fun e w' =>
    e = .returned (.bool (!isK ks (x, y))) ∧ GrS w' g b (addK ks (x, y)) ∧ w.grownBy w' (some b) := by
  have hc := blk_cell h.box 0
  have hl := h.map.len (P := Try.prog) Try.underlying67
  have H := Aside0.mk h
  clear h
  go_enter Try.func27, Try.ntmps27
  go_wp2_with fail
  obtain ⟨w1, hp, hm, hg, hs⟩ := H.out.map.put keyES Try.underlying67 (x, y)
  have hp' : (Instr.mapUpdate 67 (.map (some b)) (.agg #[.string x, .string y]) (.bool true)).run Try.prog w = .ok () w1 := hp
  rw [hp']
  have hbox := blk_grown H.out.box hg (fun e => H.out.ne (Option.some.inj e))
  have hc1 := blk_cell hbox 0
  have HG := Aside0.mk hg
  have HX := Aside0.mk hbox
  clear hp hp' hg hs hbox hc hl
  by_cases hin : (x, y) ∈ ks
  · rw [if_pos hin] at hm
    have hl1 := hm.len (P := Try.prog) Try.underlying67
    have HM := Aside0.mk hm
    have HN := Aside0.mk hin
    clear hin hm
    go_wp2_with fail
    go_ret
    exact ⟨ret_bool (by rw [isK_in HN.out]; rfl), ⟨HX.out, by rw [addK_in HN.out]; exact HM.out⟩, HG.out⟩
  · rw [if_neg hin] at hm
    have hl1 := hm.len (P := Try.prog) Try.underlying67
    rw [show (ks ++ [(x, y)]).length = ks.length + 1 by simp] at hl1
    have HM := Aside0.mk hm
    have HN := Aside0.mk hin
    clear hin hm
    go_wp2_with fail
    go_ret
    exact ⟨ret_bool (by rw [isK_no HN.out]; simp <;> omega), ⟨HX.out, by rw [addK_new HN.out]; exact HM.out⟩, HG.out⟩
end Go.Proofs.Ytgjjfldfdkoedaa
