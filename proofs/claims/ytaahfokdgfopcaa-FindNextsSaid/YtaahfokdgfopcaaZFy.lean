/- A map's keys as the library's iterator sees them. -/
import Derived.Shelf.SlIterI.Nil
import Derived.Test.YtaahfokdgfopcaaZFm
namespace Go.Proofs.Ytaahfokdgfopcaa
open Go.RowKit Go.Proofs.YtaahfokdgfopcaaW.PrintWords Go.Proofs.YtaahfokdgfopcaaW.PrintLast Go.Proofs.YtaahfokdgfopcaaW.PrintMore
open Rf MapL MapV
set_option linter.unusedVariables false
set_option linter.unusedSimpArgs false
open Go.WideElems Go.WideMaps Go.WideShapes in
set_option maxRecDepth 10000 in
theorem own_keys {H : Type} {f : Int → Value} {w : World} {b : Nat} {ks : List Int} (h : MapV.MapAt (Value.int .i64) f w b ks) (hw : ∀ x ∈ ks, 0 ≤ x ∧ x ≤ 1073741824) (hl : ks.length ≤ 1000) :
    ∃ D0 : DataW H, w.ownsMap Try.prog 3 (fun _ => some (.nil, [])) b ks.length D0 ∧ (intKeys D0).Perm ks ∧ Maps.size D0 = ks.length := by
  obtain ⟨es, clock, hb, he⟩ := h
  have hsz : es.size = ks.length := by
    have := congrArg List.length he.keys
    simpa using this
  have hml : (1000 : Nat) ≤ maxLen := by decide
  have hrd : ∀ x ∈ es.toList, ∃ y ∈ ks, x.key = Value.int .i64 y ∧ Go.WideElems.rd Try.prog 3 (fun _ => some ((.nil : DataW H), ([] : List MemPlace))) x = some (.int .i64 y, .nil) := by
    intro x hx
    obtain ⟨y, hy, hk⟩ := he.isKey x hx
    refine ⟨y, hy, hk, ?_⟩
    have hwf : (Lit.int .i64 y).wf = true := by
      have := hw y hy
      have e0 : IntKind.i64.min = -9223372036854775808 := rfl
      have e1 : IntKind.i64.max = 9223372036854775807 := rfl
      simp only [Lit.wf, Bool.and_eq_true, decide_eq_true_eq, e0, e1]
      omega
    unfold Go.WideElems.rd
    rw [hk, Go.Maps.keyOf_int_mk Try.underlying3 hwf]
    rfl
  have hF : Fit Try.prog 3 (fun _ => some ((.nil : DataW H), ([] : List MemPlace))) es clock := by
    refine ⟨by omega, ⟨he.born, he.bnd, ?_⟩, fun x hx => ?_⟩
    · rw [he.keys]
      exact List.Pairwise.map (Value.int .i64) (fun a b hab e => hab (by injection e)) he.nodup
    · obtain ⟨y, _, _, hr⟩ := hrd x hx; exact ⟨_, hr⟩
  refine ⟨_, ⟨es, clock, hb, hF, by omega, rfl⟩, ?_, ?_⟩
  · show (List.map (fun p : Lit × DataW H => Go.intOf p.1) _).Perm ks
    refine ((sorted_perm _).map _).trans ?_
    rw [List.map_map]
    have hm : ∀ x ∈ es.toList, (Value.int .i64 (((fun p : Lit × DataW H => Go.intOf p.1) ∘ Go.WideElems.rg Try.prog 3 (fun _ => some ((.nil : DataW H), ([] : List MemPlace)))) x)) = x.key := fun x hx => by
      obtain ⟨y, _, hk, hr⟩ := hrd x hx
      show Value.int .i64 (Go.intOf (Go.WideElems.rg _ _ _ x).1) = x.key
      rw [Go.WideElems.rg_of hr]
      exact hk.symm
    have hk2 : (es.toList.map ((fun p : Lit × DataW H => Go.intOf p.1) ∘ Go.WideElems.rg Try.prog 3 (fun _ => some ((.nil : DataW H), ([] : List MemPlace))))).map (Value.int .i64) = ks.map (Value.int .i64) := by
      rw [List.map_map, ← he.keys]
      exact List.map_congr_left hm
    have hinj : ∀ a b : List Int, a.map (Value.int .i64) = b.map (Value.int .i64) → a = b := by
      intro a
      induction a with
      | nil => intro b hb; cases b with
        | nil => rfl
        | cons => cases hb
      | cons x t ih => intro b hb; cases b with
        | nil => cases hb
        | cons y u =>
          simp only [List.map_cons, List.cons.injEq, Value.int.injEq, true_and] at hb
          rw [hb.1, ih u hb.2]
    rw [hinj _ _ hk2]
  · show List.length _ = _
    rw [DataW.length_sorted]
    simp [hsz]
end Go.Proofs.Ytaahfokdgfopcaa
