/- slices.Sorted(maps.Keys(m)) at this dump. -/
import Derived.Test.YtaahfokdgfopcaaZSk
import Derived.Test.YtaahfokdgfopcaaZFy
namespace Go.Proofs.Ytaahfokdgfopcaa
open Go.RowKit Go.Proofs.YtaahfokdgfopcaaW.PrintWords Go.Proofs.YtaahfokdgfopcaaW.PrintLast Go.Proofs.YtaahfokdgfopcaaW.PrintMore
open Rf MapL MapV Go.Maps Go.Sort Go.Shelf
set_option linter.unusedVariables false
set_option linter.unusedSimpArgs false
theorem sortsA (m : Nat) : AnyZI.SortsIn Try.prog Try.sortedA_ren Fence.wide m :=
  ⟨fun blk off cap ss W hH hblk hsz => callsIn_wide.2 (AnyM.slices_Sort_int Try.sortA blk off cap ss W hH hblk hsz),
   fun p cap W => callsIn_wide.2 (AnyM.slices_Sort_int_none Try.sortA p cap W)⟩
/-- maps.Keys hands back a function over a box of the map. -/
theorem keysG_calls (mb : Option Nat) (W : World) : Calls Try.prog 55 #[.map mb] W fun e w' => e = .returned (.func (.func 59) #[] #[.pointer (some ⟨W.heap.size, 0, none⟩)]) ∧ w' = W.alloc (.cells #[.map mb] 76) :=
  (callsIn_wide (n := 6)).1 (AnyZI.keys_in Try.keysG Fence.wide 6 trivial rfl mb W)
set_option maxHeartbeats 1000000 in
/-- slices.Sorted over that function: the keys, sorted. -/
theorem sortedG_calls {f : Int → Value} (w : World) (b : Nat) (ks : List Int) (h : MapV.MapAt (Value.int .i64) f w b ks) (hw : ∀ x ∈ ks, 0 ≤ x ∧ x ≤ 1073741824) (hl : ks.length ≤ 1000) :
    Calls Try.prog 54 #[.func (.func 59) #[] #[.pointer (some ⟨w.heap.size, 0, none⟩)]] (w.alloc (.cells #[.map (some b)] 76)) fun e w' => ∃ (v : Value) (ss : List Int), e = .returned v ∧ ss.Perm ks ∧
      w'.ownsRow (w.heap.size + 1) 3 1 v ss.length ((ss.mergeSort (fun x y => decide (x ≤ y))).map encZ) ∧ Below (w.heap.size + 1) (w.alloc (.cells #[.map (some b)] 76)) w' := by
  obtain ⟨D0, hown, hperm, hsize⟩ := own_keys (H := Nat) h hw hl
  have hbl := hown.lt
  have hml : (1000 : Nat) ≤ maxLen := by decide
  have hseq : SeqGives Fence.wide 2 Try.prog 59 #[.pointer (some ⟨w.heap.size, 0, none⟩)] encZ (fun ss => ss.Perm (intKeys D0)) (Maps.size D0) (w.alloc (.cells #[.map (some b)] 76)) :=
    AnyZI.keys_gives (ρ := Try.keysG_ren) { Try.keysG with } Fence.wide _ trivial rfl (by omega) w.heap.size b ks.length D0 _ (by simp) (by simp) (by
      obtain ⟨es, clock, hb, Ft, hs, hD⟩ := hown
      exact ⟨es, clock, (Below.heap_alloc _ _ b hbl).trans hb, Ft, hs, hD⟩)
  have cS := AnyZI.sorted_in Try.sortedA Fence.wide 5 trivial trivial trivial trivial rfl (by omega) (sortsA _) (enters_of Try.func58 (by kernel_rfl) rfl) 59 #[.pointer (some ⟨w.heap.size, 0, none⟩)] trivial (enters_of Try.func59 (by kernel_rfl) rfl) _ _ (by omega) (by omega) _ hseq
  refine ((callsIn_wide (n := 5)).1 cS).mono ?_
  rintro e w' ⟨v, ss, he, hS, hrow, _, hb⟩
  rw [World.size_alloc] at hrow hb
  exact ⟨v, ss, he, hS.trans hperm, hrow, hb⟩
/-- maps.Keys hands back a function over a box of the map. -/
theorem keysD_calls (mb : Option Nat) (W : World) : Calls Try.prog 56 #[.map mb] W fun e w' => e = .returned (.func (.func 60) #[] #[.pointer (some ⟨W.heap.size, 0, none⟩)]) ∧ w' = W.alloc (.cells #[.map mb] 77) :=
  (callsIn_wide (n := 6)).1 (AnyZI.keys_in Try.keysD Fence.wide 6 trivial rfl mb W)
set_option maxHeartbeats 1000000 in
/-- slices.Sorted over that function: the keys, sorted. -/
theorem sortedD_calls {f : Int → Value} (w : World) (b : Nat) (ks : List Int) (h : MapV.MapAt (Value.int .i64) f w b ks) (hw : ∀ x ∈ ks, 0 ≤ x ∧ x ≤ 1073741824) (hl : ks.length ≤ 1000) :
    Calls Try.prog 54 #[.func (.func 60) #[] #[.pointer (some ⟨w.heap.size, 0, none⟩)]] (w.alloc (.cells #[.map (some b)] 77)) fun e w' => ∃ (v : Value) (ss : List Int), e = .returned v ∧ ss.Perm ks ∧
      w'.ownsRow (w.heap.size + 1) 3 1 v ss.length ((ss.mergeSort (fun x y => decide (x ≤ y))).map encZ) ∧ Below (w.heap.size + 1) (w.alloc (.cells #[.map (some b)] 77)) w' := by
  obtain ⟨D0, hown, hperm, hsize⟩ := own_keys (H := Nat) h hw hl
  have hbl := hown.lt
  have hml : (1000 : Nat) ≤ maxLen := by decide
  have hseq : SeqGives Fence.wide 2 Try.prog 60 #[.pointer (some ⟨w.heap.size, 0, none⟩)] encZ (fun ss => ss.Perm (intKeys D0)) (Maps.size D0) (w.alloc (.cells #[.map (some b)] 77)) :=
    AnyZI.keys_gives (ρ := Try.keysD_ren) { Try.keysD with } Fence.wide _ trivial rfl (by omega) w.heap.size b ks.length D0 _ (by simp) (by simp) (by
      obtain ⟨es, clock, hb, Ft, hs, hD⟩ := hown
      exact ⟨es, clock, (Below.heap_alloc _ _ b hbl).trans hb, Ft, hs, hD⟩)
  have cS := AnyZI.sorted_in Try.sortedA Fence.wide 5 trivial trivial trivial trivial rfl (by omega) (sortsA _) (enters_of Try.func58 (by kernel_rfl) rfl) 60 #[.pointer (some ⟨w.heap.size, 0, none⟩)] trivial (enters_of Try.func60 (by kernel_rfl) rfl) _ _ (by omega) (by omega) _ hseq
  refine ((callsIn_wide (n := 5)).1 cS).mono ?_
  rintro e w' ⟨v, ss, he, hS, hrow, _, hb⟩
  rw [World.size_alloc] at hrow hb
  exact ⟨v, ss, he, hS.trans hperm, hrow, hb⟩
end Go.Proofs.Ytaahfokdgfopcaa
