/- sort.Slice over an own row of pairs, whatever its length. -/
import Derived.Test.YtidkdbohkbfhbaaWp
namespace Go.Proofs.Ytidkdbohkbfhbaa
open Go.Shelf Go.RowKit Go.Lib Go.Sort Go.Proofs
open Go.Proofs.YtidkdbohkbfhbaaW.PrintWords Go.Proofs.YtidkdbohkbfhbaaW.PrintLast Go.Proofs.YtidkdbohkbfhbaaW.PrintMore
open Rf
set_option linter.unusedVariables false
set_option linter.unusedSimpArgs false

theorem grow_grown {w : World} {g n : Nat} (d : Array SGPair) (os : Array Obj) : w.grownBy (grow (putRowK encP 2 (Sort.ahead w n) g 0 d) os) (some g) := by
  refine ⟨rfl, rfl, rfl, by simp [putRowK, putRow, mapBlock, Sort.ahead, grow], fun k hk hne => ?_⟩
  rw [heap_grow_old _ _ (by simpa [putRowK, putRow, mapBlock, Sort.ahead] using hk)]
  have : g ≠ k := fun e => hne (by rw [e])
  simp [putRowK, putRow, mapBlock, Sort.ahead, Array.getElem?_modify, this]
theorem grow_only {w : World} (os : Array Obj) : w.grownBy (grow w os) none := by
  refine ⟨rfl, rfl, rfl, by simp [grow], fun k hk hne => ?_⟩
  rw [heap_grow_old _ _ hk]
/-- By rising keys. -/
def Srt (l : List SGPair) : Prop := l.Pairwise fun a b => ltKey b a = false
theorem srt_of {d : Array SGPair} {n : Nat} (h : SortedIn ltKey 0 n d) (hn : d.size = n) : Srt d.toList := by
  refine List.pairwise_iff_getElem.mpr fun i j hi hj hij => ?_
  have hi' : i < d.size := by simpa using hi
  have hj' : j < d.size := by simpa using hj
  have := h i j (Nat.zero_le _) hij (by omega)
  rw [getElem!_pos d i hi', getElem!_pos d j hj'] at this
  simpa using this
theorem sort_row (w : World) (base Bs n cap : Nat) (A : Option Addr) (ok : Nat → Prop) (l : List SGPair) (hR : Kd.R kGPair 36 w base ok (.slice A n cap) l) (hl : l.length ≤ 1000)
    (hx : w.heap[Bs]? = some (.cells #[.slice A n cap] 57)) (hne : ∀ k, ok k → k ≠ Bs) :
    Calls Try.prog 49 #[.iface 57 (.slice A n cap), .func (.func 50) #[] #[.pointer (some ⟨Bs, 0, none⟩)]] w fun e w' =>
      e = .returned (.tuple #[]) ∧ ∃ l', l'.Perm l ∧ Srt l' ∧ Kd.R kGPair 36 w' base ok (.slice A n cap) l' ∧ w.grownBy w' (Value.slice A n cap).ownBlock ∧ w'.heap[Bs]? = some (.cells #[.slice A n cap] 57) := by
  have hn : l.length = n := (Kd.R_reads' hR).1.symm
  by_cases h2 : 2 ≤ l.length
  · obtain ⟨g, cap', he, hb, hlt, _⟩ := Kd.R_form hR (by omega)
    injection he with e1 e2 e3
    subst e1
    have hg : ok g := hR.1 g rfl
    have hd : l.toArray.size = n := by simpa using hn
    have h := sort_calls g 0 cap Bs l.toArray (by simpa using h2) (by simp; omega) w (holds_of_R hR) hlt (by rw [hd]; exact blk_cell hx 0) (blk_lt hx) (fun e => hne g hg e.symm)
    rw [hd] at h
    refine h.mono ?_
    rintro e w' ⟨rfl, d', m, os, hp, hs, rfl⟩
    have hsz : d'.size = l.length := by have := hp.1; simpa using this
    refine ⟨rfl, d'.toList, ?_, srt_of hs (by rw [hsz]; exact hn), R_sorted d' os hsz hR (by omega), grow_grown d' os, blk_grown hx (grow_grown d' os) (fun e => hne g hg (by injection e with e; exact e.symm))⟩
    have hq := hp.2.2
    have e1 : d'.extract 0 n = d' := by rw [← hn, ← hsz]; exact Array.extract_size
    have e2 : l.toArray.extract 0 n = l.toArray := by rw [← hd]; exact Array.extract_size
    rw [e1, e2] at hq
    exact hq
  · have key : ∃ f, Try.prog.funcs.findIdx? (·.name == "internal/reflectlite" ++ ".Swapper$" ++ toString (Lib.swapperK n svE 25)) = some f := by
      rcases (by omega : n = 0 ∨ n = 1) with rfl | rfl
      · exact ⟨66, by rw [show Lib.swapperK 0 svE 25 = 1 from rfl]; kernel_rfl⟩
      · exact ⟨67, by rw [show Lib.swapperK 1 svE 25 = 2 from rfl]; kernel_rfl⟩
    obtain ⟨f, hf⟩ := key
    have h := Any.sort_Slice_tiny Try.sl6 57 36 svT svE (by kernel_rfl) (by kernel_rfl) (by kernel_rfl) (by kernel_rfl) 25 (fun _ => by kernel_rfl) A n cap (by omega) f hf (.func 50) #[] #[.pointer (some ⟨Bs, 0, none⟩)] w
    refine h.mono ?_
    rintro e w' ⟨rfl, os, rfl⟩
    have hg := grow_only (w := w) os
    refine ⟨rfl, l, List.Perm.refl _, ?_, Kd.R_grown hR hg (by simp), ⟨hg.os, hg.tape, hg.output, hg.size, fun k hk _ => hg.block k hk (by simp)⟩, blk_grown hx hg (by simp)⟩
    match l, hn with
    | [], _ => exact List.Pairwise.nil
    | [a], _ => exact List.pairwise_singleton _ _
    | a :: b :: r, hn => simp at h2
end Go.Proofs.Ytidkdbohkbfhbaa
