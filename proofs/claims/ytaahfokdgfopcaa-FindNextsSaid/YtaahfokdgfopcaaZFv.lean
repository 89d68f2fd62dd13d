/- Layer 18: lives. -/
import Derived.Test.YtaahfokdgfopcaaZFo
namespace Go.Proofs.Ytaahfokdgfopcaa
open Go.RowKit Go.Proofs.YtaahfokdgfopcaaW.PrintWords Go.Proofs.YtaahfokdgfopcaaW.PrintLast Go.Proofs.YtaahfokdgfopcaaW.PrintMore
open Rf MapL MapV
set_option linter.unusedVariables false
set_option linter.unusedSimpArgs false
attribute [local go_sem high] eqAGDirty
def sa : ByteArray := ⟨#[97]⟩
def se : ByteArray := ⟨#[]⟩
def lr1 : SGRecord := ⟨1, 16, 1, 0, 0, 3, ⟨1, sa, se, se⟩, [], []⟩
def lr2 : SGRecord := ⟨3, 32, 1, 16, 0, 0, ⟨0, se, se, se⟩, [], []⟩
abbrev lcs : Array Value := #[.int .i64 1, .int .u64 16, .int .i64 1, .int .u64 0, .int .u64 0, .int .i64 3, .int .i64 1, .string ⟨#[97]⟩, .string ⟨#[]⟩, .string ⟨#[]⟩, .slice none 0 0, .slice none 0 0, .int .i64 3, .int .u64 32, .int .i64 1, .int .u64 16, .int .u64 0, .int .i64 0, .int .i64 0, .string ⟨#[]⟩, .string ⟨#[]⟩, .string ⟨#[]⟩, .slice none 0 0, .slice none 0 0]
theorem nilC {α : Type} (K : Kd α) (w : World) : Kd.C K w none ([] : List α).length [] := ⟨rfl, by simp, fun h => by simp at h⟩
theorem two_C {w : World} {g : Nat} {t : TypeId} (h : w.heap[g]? = some (.cells lcs t (0, 0))) : Kd.C kGRecord w (some ⟨g, 0, none⟩) [lr1, lr2].length [lr1, lr2] := by
  refine ⟨rfl, by simp, fun _ => ⟨⟨g, 0, none⟩, rfl, fun j o hj => ?_⟩⟩
  match j, hj with
  | 0, hj =>
    obtain rfl : lr1 = o := by simpa using hj
    refine ⟨_, rfl, kGRecord_mk w lr1 (A10 := none) (c10 := 0) (Nat.le_refl _) (nilC _ _) (A11 := none) (c11 := 0) (Nat.le_refl _) (nilC _ _), fun i u hi => ?_⟩
    have hi' : i < 12 := (List.getElem?_eq_some_iff.1 hi).1
    rw [show (0 * kGRecord.sz + i) = i from by omega]
    have : i = 0 ∨ i = 1 ∨ i = 2 ∨ i = 3 ∨ i = 4 ∨ i = 5 ∨ i = 6 ∨ i = 7 ∨ i = 8 ∨ i = 9 ∨ i = 10 ∨ i = 11 := by omega
    rcases this with rfl | rfl | rfl | rfl | rfl | rfl | rfl | rfl | rfl | rfl | rfl | rfl
    · have h0 := blk_cell h 0; exact h0.trans hi
    · have h0 := blk_cell h 1; exact h0.trans hi
    · have h0 := blk_cell h 2; exact h0.trans hi
    · have h0 := blk_cell h 3; exact h0.trans hi
    · have h0 := blk_cell h 4; exact h0.trans hi
    · have h0 := blk_cell h 5; exact h0.trans hi
    · have h0 := blk_cell h 6; exact h0.trans hi
    · have h0 := blk_cell h 7; exact h0.trans hi
    · have h0 := blk_cell h 8; exact h0.trans hi
    · have h0 := blk_cell h 9; exact h0.trans hi
    · have h0 := blk_cell h 10; exact h0.trans hi
    · have h0 := blk_cell h 11; exact h0.trans hi
  | 1, hj =>
    obtain rfl : lr2 = o := by simpa using hj
    refine ⟨_, rfl, kGRecord_mk w lr2 (A10 := none) (c10 := 0) (Nat.le_refl _) (nilC _ _) (A11 := none) (c11 := 0) (Nat.le_refl _) (nilC _ _), fun i u hi => ?_⟩
    have hi' : i < 12 := (List.getElem?_eq_some_iff.1 hi).1
    rw [show (1 * kGRecord.sz + i) = 12 + i from by show 1 * 12 + i = 12 + i; omega]
    have : i = 0 ∨ i = 1 ∨ i = 2 ∨ i = 3 ∨ i = 4 ∨ i = 5 ∨ i = 6 ∨ i = 7 ∨ i = 8 ∨ i = 9 ∨ i = 10 ∨ i = 11 := by omega
    rcases this with rfl | rfl | rfl | rfl | rfl | rfl | rfl | rfl | rfl | rfl | rfl | rfl
    · have h0 := blk_cell h 12; exact h0.trans hi
    · have h0 := blk_cell h 13; exact h0.trans hi
    · have h0 := blk_cell h 14; exact h0.trans hi
    · have h0 := blk_cell h 15; exact h0.trans hi
    · have h0 := blk_cell h 16; exact h0.trans hi
    · have h0 := blk_cell h 17; exact h0.trans hi
    · have h0 := blk_cell h 18; exact h0.trans hi
    · have h0 := blk_cell h 19; exact h0.trans hi
    · have h0 := blk_cell h 20; exact h0.trans hi
    · have h0 := blk_cell h 21; exact h0.trans hi
    · have h0 := blk_cell h 22; exact h0.trans hi
    · have h0 := blk_cell h 23; exact h0.trans hi
  | j + 2, hj => simp at hj
theorem lok1 : okR lr1 = true := by
  unfold okR recOk lr1 sa se
  rw [if_pos (.inl rfl), if_neg (by decide)]
  unfold mayAB nilB pageB
  rw [ByteArray.toList_eq]
  rfl
theorem lok2 : okR lr2 = true := by
  unfold okR recOk lr2 se
  rw [if_neg (by decide), if_neg (by decide)]
  unfold nilB
  rw [ByteArray.toList_eq]
  rfl
theorem llog : LogP [lr1, lr2] := by
  refine ⟨fun i h0 h1 => ?_, fun r hr => ?_⟩
  · obtain rfl : i = 1 := by simp at h1; omega
    show (16 : Int) < 32
    omega
  · rcases List.mem_cons.1 hr with rfl | hr
    · exact lok1
    · rw [List.mem_singleton.1 hr]; exact lok2
theorem lks : (foldW [lr1, lr2]).ks = [] := rfl
theorem lds : (foldW [lr1, lr2]).ds = [3] := rfl
theorem lD : redoOf (foldW [lr1, lr2]).D [3] = 16 := rfl
theorem dir_at {w : World} {A : Option Addr} {n : Nat} {xs : List SGDirty} (h : Kd.C kGDirty w A n xs) (k : Nat) (h1 : k < n) : ∃ ad : Addr, A = some ad ∧ w.cell? (ad.add (k * 2)) = some (.int .i64 (xs.getD k zGDirty).f0) ∧ w.cell? ⟨(ad.add (k * 2)).block, (ad.add (k * 2)).off + 1, none⟩ = some (.int .u64 (xs.getD k zGDirty).f1) := by
  obtain ⟨ad, c, e, _, hK, hc0⟩ := Kd.C_get h zGDirty (k : Int) (by omega) (by omega)
  rw [Int.toNat_natCast] at hK
  obtain rfl := kGDirty_open hK
  have hc : ∀ j u, _ → w.cell? (ad.add (k * 2 + j)) = some u := hc0
  exact ⟨ad, e, hc 0 _ rfl, by rw [← add_field _ _ 1 (by omega)]; exact hc 1 _ rfl⟩
set_option maxRecDepth 100000 in
set_option maxHeartbeats 4000000 in
theorem lives18 (w : World) : Calls Try.prog 9 #[] w fun e w' => e = .returned (.bool true) ∧ Below w.heap.size w w' := by
  go_enter Try.func9, Try.ntmps9
  go_wp2_with fail
  have hba := below_alloc (Below.refl w.heap.size w) (.cells lcs 43)
  have hb1 := heap_alloc_new w (.cells lcs 43)
  generalize w.alloc (.cells lcs 43) = wa at hba hb1 ⊢
  refine (all_calls wa [lr1, lr2] (some ⟨w.heap.size, 0, none⟩) 2 (two_C hb1) (Nat.le_refl _) (by decide)).mono ?_
  rintro e wb ⟨hcase, hb⟩
  have HBb := Aside0.mk (below_then hba hba.size hb)
  clear hb hba hb1
  rcases hcase with ⟨hlog, _⟩ | ⟨_, v1, v2, v3, L, M, rfl, p1, p2, p3, p4, p5, p6, p7⟩
  · exact absurd llog hlog
  · rw [lks] at p1
    rw [lds] at p3
    have hL : L = [] := List.perm_nil.1 p1
    have hM : M = [3] := List.perm_singleton.1 p3
    subst hL
    subst hM
    rw [lD]
    obtain ⟨A1, C1, hv1⟩ := Kd.R_slice p5
    obtain ⟨A2, C2, hv2⟩ := Kd.R_slice p6
    obtain ⟨A3, C3, hv3⟩ := Kd.R_slice p7
    obtain ⟨A3', C3', hv3', hlc, hC3⟩ := Kd.R_reads p7
    have hd : ∃ ad : Addr, A3 = some ad ∧ wb.cell? ad = some (.int .i64 3) ∧ wb.cell? ⟨ad.block, ad.off + 1, none⟩ = some (.int .u64 16) := by
      rw [hv3] at hv3'
      injection hv3' with e1 _ _
      subst e1
      obtain ⟨ad, e, h0, h1⟩ := dir_at hC3 0 (by decide)
      rw [show ad.add (0 * 2) = ad from by simp [Addr.add]] at h0 h1
      exact ⟨ad, e, h0, h1⟩
    obtain ⟨ad, rfl, h0, h1⟩ := hd
    have hv1 : v1 = .slice A1 0 C1 := hv1
    have hv2 : v2 = .slice A2 0 C2 := hv2
    have hv3 : v3 = .slice (some ad) 1 C3 := hv3
    subst hv1
    subst hv2
    subst hv3
    clear p1 p2 p3 p4 p5 p6 p7 hv3' hlc hC3
    have hbx := below_alloc HBb.out (.cells #[.slice A1 0 C1, .slice A2 0 C2, .slice (some ad) 1 C3, .int .u64 16] 34)
    have HBx := Aside0.mk hbx
    have g0 : ∀ ob, (wb.alloc ob).cell? ad = some (.int .i64 3) := fun ob => ((below_alloc (Below.refl wb.heap.size wb) ob).cell (p := ad) (cell_lt h0)).trans h0
    have g1 : ∀ ob, (wb.alloc ob).cell? ⟨ad.block, ad.off + 1, none⟩ = some (.int .u64 16) := fun ob => ((below_alloc (Below.refl wb.heap.size wb) ob).cell (p := ⟨ad.block, ad.off + 1, none⟩) (cell_lt h1)).trans h1
    clear h0 h1
    clear hbx
    go_wp2_with fail
    go_ret
    exact ⟨rfl, HBx.out⟩
end Go.Proofs.Ytaahfokdgfopcaa
