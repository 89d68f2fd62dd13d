/- The call of page's lay; bytes in a block. -/
import Derived.Test.YtidkdbohkbfhbaaWf
import Derived.Test.YtidkdbohkbfhbaaPb
import Derived.Laws.CopyOwn
namespace Go.Proofs.Ytidkdbohkbfhbaa
open Go.RowKit Go.Proofs.YtidkdbohkbfhbaaW.PrintWords Go.Proofs.YtidkdbohkbfhbaaW.PrintLast Go.Proofs.YtidkdbohkbfhbaaW.PrintMore
open Rf
set_option linter.unusedVariables false
set_option linter.unusedSimpArgs false

/-- Values of bytes. -/
def bv (L : List UInt8) : List Value := L.map fun b => Value.int .u8 ((b.toNat : Nat) : Int)
theorem bv_length (L : List UInt8) : (bv L).length = L.length := by simp [bv]
def BufAt (w : World) (g : Nat) (L : List UInt8) : Prop := w.heap[g]? = some (.cells (bv L).toArray 5 (0, 0))
theorem BufAt.cell {w : World} {g : Nat} {L : List UInt8} (h : BufAt w g L) (i : Nat) (hi : i < L.length) : w.cell? ⟨g, i, none⟩ = some (.int .u8 ((L[i].toNat : Nat) : Int)) := by
  rw [blk_cell h i]; simp [bv, hi]
theorem BufAt.set {w : World} {g : Nat} {L : List UInt8} (h : BufAt w g L) (i : Nat) (x : UInt8) : BufAt (w.setCell ⟨g, i, none⟩ (.int .u8 ((x.toNat : Nat) : Int))) g (L.set i x) := by
  have := blk_set h i (.int .u8 ((x.toNat : Nat) : Int))
  unfold BufAt
  rw [this]
  simp [bv, List.map_set]
theorem BufAt.drew {w : World} {g : Nat} {L : List UInt8} (h : BufAt w g L) : BufAt w.drew g L := h
theorem BufAt.there {w : World} {g : Nat} {L : List UInt8} (h : BufAt w g L) (i : Nat) (hi : i < L.length) : ∃ b, w.cell? ⟨g, i, none⟩ = some (.int .u8 b) := ⟨_, h.cell i hi⟩
theorem BufAt.reads {w : World} {g : Nat} {L : List UInt8} (h : BufAt w g L) (off : Nat) (ho : off ≤ L.length) (hl : L.length ≤ 1000000) : ReadsInt w .u8 (some ⟨g, off, none⟩) (L.length - off) (ints (L.drop off)) := by
  refine ⟨by rw [ints_length, List.length_drop], by omega, fun _ => ⟨_, rfl, fun j hj => ?_⟩⟩
  have ha : (⟨g, off, none⟩ : Addr).add j = ⟨g, off + j, none⟩ := by unfold Addr.add; split <;> simp_all
  rw [ha, h.cell (off + j) (by omega), ints_get _ j (by rw [List.length_drop]; omega), List.getElem_drop]
theorem BufAt.below {w w' : World} {g : Nat} {L : List UInt8} (h : BufAt w g L) (hb : Below w.heap.size w w') : BufAt w' g L := (hb.block g (blk_lt h)).trans h

set_option maxHeartbeats 1000000 in
theorem lay_calls (w : World) (g off n c : Nat) (L : List UInt8) (x many : Nat) (h : BufAt w g L) (hfit : off + many ≤ L.length) (hmn : many ≤ n) (hm : many ≤ 8) (hx : x < 18446744073709551616) :
    Calls Try.prog 36 #[.slice (some ⟨g, off, none⟩) n c, .int .u64 x, .int .i64 many] w fun e w' => e = .returned (.tuple #[]) ∧ BufAt w' g (put L off (le x many)) ∧ w.grownBy w' (some g) := by
  have H := Aside0.mk h
  clear h
  go_enter Try.func36, Try.ntmps36
  go_wp2
  go_loopg [6, 8] many (fun gk v6 v8 wr => ∃ i : Nat, Aside0 (i + gk = many) ∧ i ≤ many ∧ v8 = .int .i64 i ∧ Aside0 (BufAt wr g (put L off (le x i))) ∧ Aside0 (w.grownBy wr (some g)))
  case atStart => exact ⟨0, ⟨by omega⟩, by omega, rfl, ⟨by rw [show le x 0 = [] from rfl, put_nil]; exact H.out⟩, ⟨World.grownBy.refl _ _⟩⟩
  case round =>
    obtain ⟨i, Hi, hi, rfl, HB, HG⟩ := hrel
    by_cases hlt : i < many
    · have hc := HB.out.cell (off + i) (by rw [put_length _ _ _ (by rw [le_length]; omega)]; omega)
      have hf := blk_frozen HB.out (off + i)
      go_wp2
      go_roundg (many - i - 1)
      case measure => have := Hi.out; omega
      case rel =>
        refine ⟨i + 1, ⟨by have := Hi.out; omega⟩, by omega, by go_num, ⟨?_⟩, ⟨?_⟩⟩
        · have h2 := HB.out.set (off + i) (UInt8.ofNat (x / 2 ^ (8 * i)))
          rw [← le_val, show off + i = off + (le x i).length by rw [le_length], put_snoc L off (le x i) _ (by rw [le_length]; omega), ← le_succ, le_length] at h2
          exact h2
        · exact HG.out.trans ⟨rfl, rfl, rfl, by simp [World.setCell], fun k _ hk => Below.heap_setCell wr ⟨g, off + i, none⟩ _ k (fun e => hk (by rw [e]))⟩
    · obtain rfl : i = many := by omega
      go_wp2
      go_end0
      exact ⟨rfl, HB.out, HG.out⟩

theorem bv_one (L : List UInt8) : ∀ u ∈ bv L, u.oneCell' = true := by
  intro u hu
  simp only [bv, List.mem_map] at hu
  obtain ⟨b, _, rfl⟩ := hu
  rfl
theorem bv_put (L : List UInt8) (off : Nat) (cs : List UInt8) : (bv L).take off ++ bv cs ++ (bv L).drop (off + (bv cs).length) = bv (put L off cs) := by
  simp [bv, put, List.map_take, List.map_drop]
theorem str_cells (s : ByteArray) : ((s.extract 0 s.size).data.map fun b => Value.int .u8 ((b.toNat : Nat) : Int)).toList = bv s.data.toList := by
  have e : s.extract 0 s.size = s := ByteArray.extract_zero_size
  rw [e]; simp [bv]
section
variable {P : Program}
/-- copy(b[off:], s) of a whole string. -/
theorem run_copy_str (w : World) (dT sT ty elem : TypeId) (hu : P.underlying dT = some (.slice elem)) (hs : (P.info? elem).map (·.size) = some 1) (dp : Addr) (dLen dCap : Nat) (s : ByteArray) (hn : s.size ≤ dLen)
    (g off : Nat) (L : List UInt8) (h : BufAt w g L) (hpos : 0 < s.size → dp = ⟨g, off, none⟩) (hfit : off + s.size ≤ L.length) :
    ∃ w', (Builtin.copy_ #[dT, sT] ty #[.slice (some dp) dLen dCap, .string s]).run P w = .ok (goInt s.size) w' ∧ BufAt w' g (put L off s.data.toList) ∧ w.grownBy w' (some g) := by
  have hmin : Nat.min s.size dLen = s.size := Nat.min_eq_left hn
  cases hq : P.info? elem with
  | none => simp [hq] at hs
  | some i =>
    have hi : i.size = 1 := by simpa [hq] using hs
    by_cases h0 : s.size = 0
    · refine ⟨w, ?_, ?_, World.grownBy.refl _ _⟩
      · have hc : (s.extract 0 0).data.map (fun b => Value.int .u8 ((b.toNat : Nat) : Int)) = #[] := by
          apply Array.ext'; simp
        rw [h0]
        simp [Builtin.copy_, run_underlying hu, Builtin.lenOf, Builtin.firstCells, sizeOf, typeInfo, hq, hi, h0, storeCells]
      · have : s.data.toList = [] := by apply List.eq_nil_of_length_eq_zero; rw [data_length]; exact h0
        rw [this, put_nil]; exact h
    · obtain rfl := hpos (by omega)
      have hst := run_storeCells_at P g off 5 (bv s.data.toList) 0 (bv L).toArray w h (by rw [List.size_toArray, bv_length, bv_length, data_length]; omega) (bv_one _)
      refine ⟨w.setRow g (bv (put L off s.data.toList)).toArray, ?_, ?_, ?_⟩
      · rw [show (bv L).toArray.toList = bv L from rfl] at hst
        simp only [Nat.add_zero] at hst
        rw [bv_put] at hst
        simp [Builtin.copy_, run_underlying hu, Builtin.lenOf, hmin, Builtin.firstCells, sizeOf, typeInfo, hq, hi]
        have e2 : List.take s.size (List.map (fun b => Value.int .u8 ((b.toNat : Nat) : Int)) s.data.toList) = bv s.data.toList := by
          rw [List.take_of_length_le (by rw [List.length_map, data_length]; exact Nat.le_refl _)]; rfl
        rw [e2, hst]
        rfl
      · exact setRow_heap w g _ _ 5 _ h
      · exact ⟨rfl, rfl, rfl, by simp [World.setRow], fun k _ hk => setRow_other w g k _ (fun e => hk (by rw [e]))⟩
variable {ops : Array Oper} {o : Oper} {a : Act} {w : World} {K : Act → World → Prop} {Q : Exit → Act → World → Prop} {E : Prop}
theorem step_copy_str (hgd : o.guard = none) (d s : Operand) (dT sT : TypeId)
    (ho : o.op = .call { callee := .builtin .copy, args := #[d, s], argTypes := #[dT, sT] }) (elem : TypeId) (hu : P.underlying dT = some (.slice elem)) (hsz : (P.info? elem).map (·.size) = some 1)
    (dp : Addr) (dLen dCap : Nat) (str : ByteArray) (hd : a.eval d = .slice (some dp) dLen dCap) (hs : a.eval s = .string str) (hn : str.size ≤ dLen)
    (g off : Nat) (L : List UInt8) (hb : BufAt w g L) (hpos : 0 < str.size → dp = ⟨g, off, none⟩) (hfit : off + str.size ≤ L.length)
    (h : ∀ w', BufAt w' g (put L off str.data.toList) → w.grownBy w' (some g) → K (a.put o.dst (goInt str.size)) w') :
    if Region.wanted o (yielded ops a.tmps) = true then Oper.wp P o a w K Q else E := by
  have hw : Region.wanted o (yielded ops a.tmps) = true := by simp [Region.wanted, hgd]
  rw [if_pos hw]
  obtain ⟨w', hrun, h1, h2⟩ := run_copy_str (P := P) w dT sT o.type elem hu hsz dp dLen dCap str hn g off L hb hpos hfit
  unfold Oper.wp
  simp [execOp, ho, resolve, invoke, builtin, hd, hs, hrun, Result.andThen]
  exact h _ h1 h2
end
end Go.Proofs.Ytidkdbohkbfhbaa
