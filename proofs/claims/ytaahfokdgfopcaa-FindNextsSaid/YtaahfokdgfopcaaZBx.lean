/- A store of a whole struct into its own box, in a region that draws its order. -/
import Derived.Test.YtaahfokdgfopcaaZWLast
import Derived.Test.YtaahfokdgfopcaaZWWords
namespace Go.Proofs.Ytaahfokdgfopcaa
open Go.RowKit Go.Proofs.YtaahfokdgfopcaaW.PrintWords Go.Proofs.YtaahfokdgfopcaaW.PrintLast
set_option linter.unusedVariables false
theorem store_cell {P : Program} {ops : Array Oper} {oi : Oper} {a : Act} {K : Act → World → Prop} {Q : Exit → Act → World → Prop} {t : TypeId} {p x : Operand} {g i : Nat} {e : TypeId} {cur : Array Value} {v : Value} {W : World}
    (ho : oi.op = .store t p x) (hw : Region.wanted oi (yielded ops a.tmps) = true) (hN : oi.dst = none) (hp : a.eval p = .pointer (some ⟨g, i, none⟩)) (hx : a.eval x = v) (hv : v.cells.toList = [v]) (hh : W.heap[g]? = some (.cells cur e (0, 0))) (hi : i + 1 ≤ cur.size)
    (ht : (P.info? t).map (·.size) = some 1) (h1 : v.oneCell' = true)
    (h : ∀ w1, w1.heap[g]? = some (.cells (cur.setIfInBounds i v) e (0, 0)) → W.grownBy w1 (some g) → K (a.put none undef) w1) : if Region.wanted oi (yielded ops a.tmps) = true then Oper.wp P oi a W K Q else K (a.put none undef) W := by
  have hrun : (Instr.storeAt t (.pointer (some ⟨g, i, none⟩)) v).run P W = .ok () (W.setCells g i [v]) := run_store_run t v [v] hh hv ht hi (by intro q hq; rw [List.mem_singleton.1 hq]; exact h1)
  rw [if_pos hw]
  unfold Oper.wp execOp
  simp only [ho, hp, hx, Sem.run_bind, Sem.run_pure, Result.andThen_ok, hrun]
  show K (a.put oi.dst undef) _
  rw [hN]
  obtain ⟨s1, s2, s3, s4⟩ := setCells_same g [v] i W
  exact h _ (blk_set hh i v) ⟨s1, s2, s3, by rw [s4]; exact Nat.le_refl _, fun k _ hk => setCells_far _ _ k (fun he => hk (by rw [he]))⟩
/-- The same where the operations stand in a row. -/
theorem store_box_l {P : Program} {ops : Array Oper} {rest : List Oper} {o : Oper} {a : Act} {Q : Exit → Act → World → Prop} {t : TypeId} {p x : Operand} {g : Nat} {e : TypeId} {cur new : Array Value} {W : World}
    (ho : o.op = .store t p x) (hN : o.dst = none) (hgd : o.guard = none) (hp : a.eval p = .pointer (some ⟨g, 0, none⟩)) (hx : a.eval x = .agg new) (hh : W.heap[g]? = some (.cells cur e (0, 0))) (hs : new.toList.length ≤ cur.size) (hs2 : cur.size ≤ new.toList.length) (hc : (Value.agg new).cells = new)
    (ht : (P.info? t).map (·.size) = some new.toList.length) (h1 : ∀ q ∈ new.toList, q.oneCell' = true)
    (h : ∀ w1, w1.heap[g]? = some (.cells new e (0, 0)) → W.grownBy w1 (some g) → wpList P ops Q rest a w1) : wpList P ops Q (o :: rest) a W := by
  have hrun : (Instr.storeAt t (.pointer (some ⟨g, 0, none⟩)) (.agg new)).run P W = .ok () (W.setCells g 0 new.toList) := run_store_run t (.agg new) new.toList hh (by rw [hc]) ht (by omega) h1
  obtain ⟨cur', h3, h4, h5⟩ := setCells_row new.toList 0 W cur hh (by omega)
  obtain ⟨s1, s2, s3, s4⟩ := setCells_same g new.toList 0 W
  have hcur : cur' = new := by
    apply Array.ext'
    rw [h5, List.take_zero, List.nil_append, List.drop_eq_nil_of_le (by rw [Array.length_toList]; omega), List.append_nil]
  refine wpList_plain hgd fun K hK => ?_
  unfold Oper.wp execOp
  simp only [ho, hp, hx, Sem.run_bind, Sem.run_pure, Result.andThen_ok, hrun]
  show K (a.put o.dst undef) _
  rw [hN]
  exact hK a _ (h _ (hcur ▸ h3) ⟨s1, s2, s3, by rw [s4]; exact Nat.le_refl _, fun k _ hk => setCells_far _ _ k (fun he => hk (by rw [he]))⟩)
theorem results_c1 {P : Program} {fn : Func} {p : Tmp} {ty : TypeId} (h : fn.results = #[.cell p ty]) (tmps : Array Value) (w : World) (g : Nat) (t : TypeId) (cs : Array Value) (fr : Nat × Nat) (d : TypeDesc)
    (hp : tmps.getD p undef = .pointer (some ⟨g, 0, none⟩)) (hg : w.heap[g]? = some (.cells cs t fr))
    (hu : P.underlying ty = some d) (hd : (match d with | .struct _ | .array _ _ => true | _ => false) = true) (hi : (P.info? ty).map (·.size) = some cs.size) :
    (results fn tmps).run P w = .ok (.agg cs) w := by
  have hp' : tmps[p]?.getD undef = .pointer (some ⟨g, 0, none⟩) := by simpa using hp
  simp [results, h, hp', asAddr, run_loadVar_row w g t ty cs fr d hg hu hd hi]
end Go.Proofs.Ytaahfokdgfopcaa
