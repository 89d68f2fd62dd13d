/- The keys of a graph's maps: edges, and things. -/
import Derived.Test.YtgjjfldfdkoedaaRfT
import Derived.Test.YtgjjfldfdkoedaaMk
import Derived.Test.YtgjjfldfdkoedaaGr
namespace Go.Proofs.Ytgjjfldfdkoedaa
open Go.RowKit Go.Proofs.YtgjjfldfdkoedaaW.PrintWords Go.Proofs.YtgjjfldfdkoedaaW.PrintLast Go.Proofs.YtgjjfldfdkoedaaW.PrintMore
open Rf MapL Graph
set_option linter.unusedVariables false
set_option linter.unusedSimpArgs false
theorem toList_inj {a b : ByteArray} : a.toList = b.toList ↔ a = b := by
  constructor
  · intro h
    rw [ByteArray.toList_eq, ByteArray.toList_eq] at h
    exact ByteArray.ext (Array.ext' h)
  · rintro rfl; rfl
theorem beq_toList {a b : ByteArray} : (a.toList == b.toList) = decide (a = b) := by
  rw [Bool.eq_iff_iff]; simp [toList_inj]
def edgeI (p : Int × Int) : Value := .agg #[.int .i64 p.1, .int .i64 p.2]
def edgeS (p : ByteArray × ByteArray) : Value := .agg #[.string p.1, .string p.2]
theorem eqEI (d : Nat) (w : World) (x0 y0 : Int) (x1 y1 : Int) :
    (Op.equalIn (d + 2) 65 (.agg #[.int .i64 x0, .int .i64 x1]) (.agg #[.int .i64 y0, .int .i64 y1])).run Try.prog w = .ok (x0 == y0 && (x1 == y1)) w := by
  refine eqA_of Try.underlying65 (by kernel_rfl) ?_
  refine eqf_cons (by rfl) (by go_simp; rfl) (by go_simp; rfl) (by go_simp) ?_
  exact eqf_last (by rfl) (by go_simp; rfl) (by go_simp; rfl) (by go_simp)
theorem eqES (d : Nat) (w : World) (x0 y0 : ByteArray) (x1 y1 : ByteArray) :
    (Op.equalIn (d + 2) 71 (.agg #[.string x0, .string x1]) (.agg #[.string y0, .string y1])).run Try.prog w = .ok (x0.toList == y0.toList && (x1.toList == y1.toList)) w := by
  refine eqA_of Try.underlying71 (by kernel_rfl) ?_
  refine eqf_cons (by rfl) (by go_simp; rfl) (by go_simp; rfl) (by go_simp) ?_
  exact eqf_last (by rfl) (by go_simp; rfl) (by go_simp; rfl) (by go_simp)
theorem keyEI : KeyT Try.prog 65 edgeI :=
  keyT_asked Try.underlying65 (fun a b h => by
      obtain ⟨a1, a2⟩ := a
      obtain ⟨b1, b2⟩ := b
      simpa [edgeI] using h)
    (fun w e x => by unfold edgeI; kernel_rfl)
    (fun w x y => by
      obtain ⟨x1, x2⟩ := x
      obtain ⟨y1, y2⟩ := y
      show (Op.equalIn (9998 + 2) 65 (.agg #[.int .i64 x1, .int .i64 x2]) (.agg #[.int .i64 y1, .int .i64 y2])).run Try.prog w = _
      rw [eqEI]
      congr 1
      rw [Bool.eq_iff_iff]
      simp)
    (fun x => by simp [edgeI, Instr.sameBits])
theorem keyES : KeyT Try.prog 71 edgeS :=
  keyT_asked Try.underlying71 (fun a b h => by
      obtain ⟨a1, a2⟩ := a
      obtain ⟨b1, b2⟩ := b
      simpa [edgeS] using h)
    (fun w e x => by unfold edgeS; kernel_rfl)
    (fun w x y => by
      obtain ⟨x1, x2⟩ := x
      obtain ⟨y1, y2⟩ := y
      show (Op.equalIn (9998 + 2) 71 (.agg #[.string x1, .string x2]) (.agg #[.string y1, .string y2])).run Try.prog w = _
      rw [eqES]
      congr 1
      rw [Bool.eq_iff_iff, Bool.and_eq_true, beq_toList, beq_toList]
      simp)
    (fun x => by
      obtain ⟨a, b⟩ := x
      simp [edgeS, Instr.sameBits]
      exact ⟨(MapKept.bytes_beq a a).2 rfl, (MapKept.bytes_beq b b).2 rfl⟩)
theorem keyI : KeyT Try.prog 3 (Value.int .i64) := keyT_int Try.underlying3
theorem keyS : KeyT Try.prog 9 Value.string := keyT_string Try.underlying9
theorem zeroB (w : World) : (zeroValue 4).run Try.prog w = .ok (.bool false) w := by kernel_rfl
/-- A graph of numbers at block g: its map at block b has these edges. -/
structure GrI (w : World) (g b : Nat) (ks : List (Int × Int)) : Prop where
  box : w.heap[g]? = some (.cells #[.map (some b)] 63 (0, 0))
  map : MapAt edgeI w b ks
structure GrS (w : World) (g b : Nat) (ks : List (ByteArray × ByteArray)) : Prop where
  box : w.heap[g]? = some (.cells #[.map (some b)] 69 (0, 0))
  map : MapAt edgeS w b ks
theorem GrI.below {w w' : World} {g b : Nat} {ks : List (Int × Int)} (h : GrI w g b ks) (hb : Below w.heap.size w w') : GrI w' g b ks := ⟨blk_below h.box hb, h.map.below hb h.map.lt⟩
theorem GrS.below {w w' : World} {g b : Nat} {ks : List (ByteArray × ByteArray)} (h : GrS w g b ks) (hb : Below w.heap.size w w') : GrS w' g b ks := ⟨blk_below h.box hb, h.map.below hb h.map.lt⟩
theorem GrI.other {w w' : World} {g b : Nat} {ks : List (Int × Int)} (h : GrI w g b ks) {k : Nat} (hg : w.grownBy w' (some k)) (h1 : g ≠ k) (h2 : b ≠ k) : GrI w' g b ks :=
  ⟨blk_grown h.box hg (fun e => h1 (Option.some.inj e)), h.map.of_block (hg.block b h.map.lt (fun e => h2 (Option.some.inj e)))⟩
theorem GrS.other {w w' : World} {g b : Nat} {ks : List (ByteArray × ByteArray)} (h : GrS w g b ks) {k : Nat} (hg : w.grownBy w' (some k)) (h1 : g ≠ k) (h2 : b ≠ k) : GrS w' g b ks :=
  ⟨blk_grown h.box hg (fun e => h1 (Option.some.inj e)), h.map.of_block (hg.block b h.map.lt (fun e => h2 (Option.some.inj e)))⟩
theorem GrI.ne {w : World} {g b : Nat} {ks : List (Int × Int)} (h : GrI w g b ks) : g ≠ b := by
  rintro rfl
  obtain ⟨es, clock, hb, _⟩ := h.map
  rw [h.box] at hb; cases hb
theorem GrS.ne {w : World} {g b : Nat} {ks : List (ByteArray × ByteArray)} (h : GrS w g b ks) : g ≠ b := by
  rintro rfl
  obtain ⟨es, clock, hb, _⟩ := h.map
  rw [h.box] at hb; cases hb
end Go.Proofs.Ytgjjfldfdkoedaa
