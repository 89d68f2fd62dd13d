/- The calls of page's New, Cells, Clone. -/
import Derived.Test.YtidkdbohkbfhbaaWd
namespace Go.Proofs.Ytidkdbohkbfhbaa
open Go.RowKit Go.Proofs.YtidkdbohkbfhbaaW.PrintWords Go.Proofs.YtidkdbohkbfhbaaW.PrintLast Go.Proofs.YtidkdbohkbfhbaaW.PrintMore
open Rf
set_option linter.unusedVariables false
set_option linter.unusedSimpArgs false

theorem R_empty (w : World) (base e : Nat) (hb : base ≤ w.heap.size) (ok : Nat → Prop) (hok : ok w.heap.size) :
    Kd.R kGCell e (w.alloc (.cells #[] e)) base ok (.slice (some ⟨w.heap.size, 0, none⟩) 0 0) [] := by
  refine R_of_flat (fun k hk => ?_) ?_
  · have : w.heap.size = k := by simpa [Value.ownBlock] using hk
    rw [← this]; exact hok
  · exact World.ownsRow_lit (base := base) (e := e) (size := 3) w #[] 0 hb (by simp [maxLen]) rfl

theorem new_bad (id : Int) (w : World) (h : id < 0 ∨ 16 ≤ id) :
    Calls Try.prog 10 #[.int .i64 id] w fun e w' => e = .returned (.tuple #[.pointer none, .int .i64 1]) ∧ w = w' := by
  by_cases h0 : id < 0
  · go_enter Try.func10, Try.ntmps10
    go_wp2
    go_ret2
    exact ⟨rfl, rfl⟩
  · have h1 : 16 ≤ id := by omega
    go_enter Try.func10, Try.ntmps10
    go_wp2
    go_ret2
    exact ⟨rfl, rfl⟩
theorem new_raw (id : Int) (w : World) (h0 : 0 ≤ id) (h1 : id < 16) :
    Calls Try.prog 10 #[.int .i64 id] w fun e w' => e = .returned (.tuple #[.pointer (some ⟨w.heap.size, 0, none⟩), .int .i64 0]) ∧ w.alloc (.cells #[.int .i64 id, .int .u64 0, .slice none 0 0] 71) = w' := by
  go_enter Try.func10, Try.ntmps10
  go_wp2
  go_ret2
  exact ⟨rfl, rfl⟩
theorem new_ok (id : Int) (w : World) (h0 : 0 ≤ id) (h1 : id < 16) :
    Calls Try.prog 10 #[.int .i64 id] w fun e w' => e = .returned (.tuple #[.pointer (some ⟨w.heap.size, 0, none⟩), .int .i64 0]) ∧
      (∀ base, base ≤ w.heap.size → IsPg w' base (fun k => w.heap.size ≤ k) w.heap.size id 0 []) ∧ Below w.heap.size w w' := by
  refine (new_raw id w h0 h1).mono ?_
  rintro e w' ⟨rfl, rfl⟩
  exact ⟨rfl, fun base hb => ⟨hb, Nat.le_refl _, _, heap_alloc_new w _, Kd.R_nil _ _ _ _ _⟩, below_alloc (Below.refl _ _) _⟩

set_option maxHeartbeats 400000 in
theorem cells_calls (w : World) (g : Nat) (id lsn : Int) (A : Option Addr) (c : Nat) (cs : List SGCell)
    (hp : PgAt w g id lsn (.slice A cs.length c)) (hC : Kd.C kGCell w A cs.length cs) (hl : cs.length ≤ 1000) :
    Calls Try.prog 17 #[.pointer (some ⟨g, 0, none⟩)] w fun e w' => ∃ v, e = .returned v ∧ Kd.R kGCell 46 w' w.heap.size (fun k => w.heap.size ≤ k) v cs ∧ Below w.heap.size w w' := by
  have hg2 : ∀ o, (w.alloc o).cell? ⟨g, 2, none⟩ = some (.slice A cs.length c) := fun o => blk_cell (blk_alloc hp o) 2
  have HC := Aside0.mk hC
  clear hC hp
  go_enter Try.func17, Try.ntmps17
  go_wp2_with (at_builtin; refine Kd.R_append_rows kGCell (w0 := w) w.heap.size rfl (.tmp 5) (.tmp 9) 31 46 (.agg #[(.bool false), (.string ⟨#[]⟩), (.string ⟨#[]⟩)]) 40 rfl Try.underlying31 Rf.info46 rfl (by decide) (by omega) (.slice (some ⟨w.heap.size, 0, none⟩) 0 0) [] cs A cs.length c (fun k => w.heap.size ≤ k) (fun _ => False) rfl rfl (R_empty w _ _ (Nat.le_refl _) _ (Nat.le_refl _)) (Kd.C_below HC.out (below_alloc (Below.refl _ _) _)) (fun x cs h => by rw [kGCell_open h]; exact kGCell_mkM _ _ _ x) (fun _ hk => hk.elim) (fun k hk => by simp at hk; omega) (below_alloc (Below.refl _ _) _) (by simp) (by simp; omega) ?_; intro v1 w1 ho hb hg hat)
  go_ret
  exact ⟨_, rfl, ho, hb⟩

set_option maxHeartbeats 1000000 in
theorem clone_calls (w0 w : World) (g : Nat) (id lsn : Int) (A : Option Addr) (c : Nat) (cs : List SGCell) (hB : Below w0.heap.size w0 w)
    (hp : PgAt w g id lsn (.slice A cs.length c)) (hC : Kd.C kGCell w A cs.length cs) (hl : cs.length ≤ 1000) :
    Calls Try.prog 29 #[.pointer (some ⟨g, 0, none⟩)] w fun e w' => ∃ g', e = .returned (.pointer (some ⟨g', 0, none⟩)) ∧ IsPg w' w0.heap.size (fun k => w.heap.size ≤ k) g' id lsn cs ∧ Below w.heap.size w w' := by
  have HAT := Aside0.mk hp
  have HB := Aside0.mk hB
  have HC := Aside0.mk hC
  have hg0 : w.cell? ⟨g, 0, none⟩ = some (.int .i64 id) := blk_cell hp 0
  have hg1 : w.cell? ⟨g, 1, none⟩ = some (.int .u64 lsn) := blk_cell hp 1
  have hg2 : w.cell? ⟨g, 2, none⟩ = some (.slice A cs.length c) := blk_cell hp 2
  have ha0 : ∀ o, (w.alloc o).cell? ⟨g, 0, none⟩ = some (.int .i64 id) := fun o => blk_cell (blk_alloc hp o) 0
  have ha1 : ∀ o, (w.alloc o).cell? ⟨g, 1, none⟩ = some (.int .u64 lsn) := fun o => blk_cell (blk_alloc hp o) 1
  have ha2 : ∀ o, (w.alloc o).cell? ⟨g, 2, none⟩ = some (.slice A cs.length c) := fun o => blk_cell (blk_alloc hp o) 2
  have hsz := hB.size
  clear hC hp hB
  go_enter Try.func29, Try.ntmps29
  go_wp2_with fail
  go_region_held3 (fun w' => w'.cell? ⟨g, 0, none⟩ = some (.int .i64 id) ∧ w'.cell? ⟨g, 1, none⟩ = some (.int .u64 lsn) ∧ w'.cell? ⟨g, 2, none⟩ = some (.slice A cs.length c)) (go_keep) ((refine Kd.R_append_rows_step kGCell (w0 := w) w.heap.size (by rfl) (.tmp 13) (.tmp 17) 31 46 (.agg #[(.bool false), (.string ⟨#[]⟩), (.string ⟨#[]⟩)]) 40 (by rfl) Try.underlying31 Rf.info46 rfl (by decide) (by omega) (.slice (some ⟨w.heap.size, 0, none⟩) 0 0) [] cs A cs.length c (fun k => w.heap.size ≤ k) (fun _ => False) (by rfl) (by rfl) (Kd.R_drew (R_empty w _ _ (Nat.le_refl _) _ (Nat.le_refl _))) (Kd.C_below HC.out (below_drew (below_alloc (Below.refl _ _) _))) (fun x cs h => by rw [kGCell_open h]; exact kGCell_mkM _ _ _ x) (fun _ hk => hk.elim) (fun k hk => by simp at hk; omega) (below_drew (below_alloc (Below.refl _ _) _)) (by simp) (by simp; omega) ?_; intro v1 w1 ho hb hg hat; rw [List.nil_append] at ho; obtain ⟨A1, c1, hv1⟩ := Kd.R_slice ho; rw [hv1]; rw [hv1] at ho; have HAT1 := Aside0.mk (HAT.out.below hb); have q0 := blk_cell HAT1.out 0; have q1 := blk_cell HAT1.out 1; have q2 := blk_cell HAT1.out 2; have HO := Aside0.mk ho; have HBB := Aside0.mk hb; clear ho hb hg hat hv1))
  all_goals
    go_wp2
    go_ret
    refine ⟨_, rfl, ⟨by have := HBB.out.size; omega, HBB.out.size, _, heap_alloc_new w1 _, ?_⟩, below_alloc HBB.out _⟩
    exact Kd.R_lower (Kd.R_mono (Kd.R_alloc (Kd.R_bound HO.out) _) (fun k hk => ⟨hk.1, by have := hk.2.2.1; omega⟩)) hsz
end Go.Proofs.Ytidkdbohkbfhbaa
