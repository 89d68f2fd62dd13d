/- The call of page's lay; bytes in a block. 
The call of page's Bytes. 
Layer 6: lives. 
The type Op as a Lean structure, and its readings (out of the kit's kinds.py). 
PLAIN: what Insert, Update and Delete leave is a page again. 
Layer 6: made: a page behind some steps. 
PLAIN: what the references' functions come to: numbers, cells, free bytes, sums. 
Layer 6: PageRoom's walk. 
The references' Num, Cell, Sum, Four, Free, SameCells as calls; Bytes by hand. -/
import Derived.Test.YtidkdbohkbfhbaaZMgRr1
import Derived.Laws.CopyOwn
import Derived.Deep.RegionHeld3
import Derived.WalkLawsBesides
import Derived.Test.YtidkdbohkbfhbaaZRfT
import Derived.Test.YtidkdbohkbfhbaaZRf0
import Derived.Laws.BitsAllLaws
section
namespace Go.Proofs.Ytidkdbohkbfhbaa
open Go.RowKit Go.Proofs.YtidkdbohkbfhbaaW.PrintWords Go.Proofs.YtidkdbohkbfhbaaW.PrintLast Go.Proofs.YtidkdbohkbfhbaaW.PrintMore
open Rf
set_option linter.unusedVariables false
set_option linter.unusedSimpArgs false

/-- Values of bytes. -/
def bv (L : List UInt8) : List Value := L.map fun b => Value.int .u8 ((b.toNat : Nat) : Int)
theorem bv_length (L : List UInt8) : (bv L).length = L.length := by simp [bv]
def BufAt (w : World) (g : Nat) (L : List UInt8) : Prop := w.heap[g]? = some (.cells (bv L).toArray 5 (0, 0))
theorem BufAt.cell {w : World} {g : Nat} {L : List UInt8} (h : BufAt w g L) (i : Nat) (hi : i < L.length) : w.cell? ⟨g, i, none⟩ = some (.int .u8 ((L[i].toNat : Nat) : Int)) := by
  rw [blk_cell h i]; simp [bv, hi]
theorem BufAt.set {w : World} {g : Nat} {L : List UInt8} (h : BufAt w g L) (i : Nat) (x : UInt8) : BufAt (w.setCell ⟨g, i, none⟩ (.int .u8 ((x.toNat : Nat) : Int))) g (L.set i x) := by
  have := blk_set h i (.int .u8 ((x.toNat : Nat) : Int))
  unfold BufAt
  rw [this]
  simp [bv, List.map_set]
theorem BufAt.drew {w : World} {g : Nat} {L : List UInt8} (h : BufAt w g L) : BufAt w.drew g L := h
theorem BufAt.there {w : World} {g : Nat} {L : List UInt8} (h : BufAt w g L) (i : Nat) (hi : i < L.length) : ∃ b, w.cell? ⟨g, i, none⟩ = some (.int .u8 b) := ⟨_, h.cell i hi⟩
theorem BufAt.reads {w : World} {g : Nat} {L : List UInt8} (h : BufAt w g L) (off : Nat) (ho : off ≤ L.length) (hl : L.length ≤ 1000000) : ReadsInt w .u8 (some ⟨g, off, none⟩) (L.length - off) (ints (L.drop off)) := by
  refine ⟨by rw [ints_length, List.length_drop], by omega, fun _ => ⟨_, rfl, fun j hj => ?_⟩⟩
  have ha : (⟨g, off, none⟩ : Addr).add j = ⟨g, off + j, none⟩ := by unfold Addr.add; split <;> simp_all
  rw [ha, h.cell (off + j) (by omega), ints_get _ j (by rw [List.length_drop]; omega), List.getElem_drop]
theorem BufAt.below {w w' : World} {g : Nat} {L : List UInt8} (h : BufAt w g L) (hb : Below w.heap.size w w') : BufAt w' g L := (hb.block g (blk_lt h)).trans h

set_option maxHeartbeats 1000000 in
theorem lay_calls (w : World) (g off n c : Nat) (L : List UInt8) (x many : Nat) (h : BufAt w g L) (hfit : off + many ≤ L.length) (hmn : many ≤ n) (hm : many ≤ 8) (hx : x < 18446744073709551616) :
    Calls Try.prog 36 #[.slice (some ⟨g, off, none⟩) n c, .int .u64 x, .int .i64 many] w fun e w' => e = .returned (.tuple #[]) ∧ BufAt w' g (put L off (le x many)) ∧ w.grownBy w' (some g) := by
  have H := Aside0.mk h
  clear h
  go_enter Try.func36, Try.ntmps36
  go_wp2
  go_loopg [6, 8] many (fun gk v6 v8 wr => ∃ i : Nat, Aside0 (i + gk = many) ∧ i ≤ many ∧ v8 = .int .i64 i ∧ Aside0 (BufAt wr g (put L off (le x i))) ∧ Aside0 (w.grownBy wr (some g)))
  case atStart => exact ⟨0, ⟨by omega⟩, by omega, rfl, ⟨by rw [show le x 0 = [] from rfl, put_nil]; exact H.out⟩, ⟨World.grownBy.refl _ _⟩⟩
  case round =>
    obtain ⟨i, Hi, hi, rfl, HB, HG⟩ := hrel
    by_cases hlt : i < many
    · have hc := HB.out.cell (off + i) (by rw [put_length _ _ _ (by rw [le_length]; omega)]; omega)
      have hf := blk_frozen HB.out (off + i)
      go_wp2
      go_roundg (many - i - 1)
      case measure => have := Hi.out; omega
      case rel =>
        refine ⟨i + 1, ⟨by have := Hi.out; omega⟩, by omega, by go_num, ⟨?_⟩, ⟨?_⟩⟩
        · have h2 := HB.out.set (off + i) (UInt8.ofNat (x / 2 ^ (8 * i)))
          rw [← le_val, show off + i = off + (le x i).length by rw [le_length], put_snoc L off (le x i) _ (by rw [le_length]; omega), ← le_succ, le_length] at h2
          exact h2
        · exact HG.out.trans ⟨rfl, rfl, rfl, by simp [World.setCell], fun k _ hk => Below.heap_setCell wr ⟨g, off + i, none⟩ _ k (fun e => hk (by rw [e]))⟩
    · obtain rfl : i = many := by omega
      go_wp2
      go_end0
      exact ⟨rfl, HB.out, HG.out⟩

theorem bv_one (L : List UInt8) : ∀ u ∈ bv L, u.oneCell' = true := by
  intro u hu
  simp only [bv, List.mem_map] at hu
  obtain ⟨b, _, rfl⟩ := hu
  rfl
theorem bv_put (L : List UInt8) (off : Nat) (cs : List UInt8) : (bv L).take off ++ bv cs ++ (bv L).drop (off + (bv cs).length) = bv (put L off cs) := by
  simp [bv, put, List.map_take, List.map_drop]
section
variable {P : Program}
/-- copy(b[off:], s) of a whole string. -/
theorem run_copy_str (w : World) (dT sT ty elem : TypeId) (hu : P.underlying dT = some (.slice elem)) (hs : (P.info? elem).map (·.size) = some 1) (dp : Addr) (dLen dCap : Nat) (s : ByteArray) (hn : s.size ≤ dLen)
    (g off : Nat) (L : List UInt8) (h : BufAt w g L) (hpos : 0 < s.size → dp = ⟨g, off, none⟩) (hfit : off + s.size ≤ L.length) :
    ∃ w', (Builtin.copy_ #[dT, sT] ty #[.slice (some dp) dLen dCap, .string s]).run P w = .ok (goInt s.size) w' ∧ BufAt w' g (put L off s.data.toList) ∧ w.grownBy w' (some g) := by
  have hmin : Nat.min s.size dLen = s.size := Nat.min_eq_left hn
  cases hq : P.info? elem with
  | none => simp [hq] at hs
  | some i =>
    have hi : i.size = 1 := by simpa [hq] using hs
    by_cases h0 : s.size = 0
    · refine ⟨w, ?_, ?_, World.grownBy.refl _ _⟩
      · have hc : (s.extract 0 0).data.map (fun b => Value.int .u8 ((b.toNat : Nat) : Int)) = #[] := by
          apply Array.ext'; simp
        rw [h0]
        simp [Builtin.copy_, run_underlying hu, Builtin.lenOf, Builtin.firstCells, sizeOf, typeInfo, hq, hi, h0, storeCells]
      · have : s.data.toList = [] := by apply List.eq_nil_of_length_eq_zero; rw [data_length]; exact h0
        rw [this, put_nil]; exact h
    · obtain rfl := hpos (by omega)
      have hst := run_storeCells_at P g off 5 (bv s.data.toList) 0 (bv L).toArray w h (by rw [List.size_toArray, bv_length, bv_length, data_length]; omega) (bv_one _)
      refine ⟨w.setRow g (bv (put L off s.data.toList)).toArray, ?_, ?_, ?_⟩
      · rw [show (bv L).toArray.toList = bv L from rfl] at hst
        simp only [Nat.add_zero] at hst
        rw [bv_put] at hst
        simp [Builtin.copy_, run_underlying hu, Builtin.lenOf, hmin, Builtin.firstCells, sizeOf, typeInfo, hq, hi]
        have e2 : List.take s.size (List.map (fun b => Value.int .u8 ((b.toNat : Nat) : Int)) s.data.toList) = bv s.data.toList := by
          rw [List.take_of_length_le (by rw [List.length_map, data_length]; exact Nat.le_refl _)]; rfl
        rw [e2, hst]
        rfl
      · exact setRow_heap w g _ _ 5 _ h
      · exact ⟨rfl, rfl, rfl, by simp [World.setRow], fun k _ hk => setRow_other w g k _ (fun e => hk (by rw [e]))⟩
variable {ops : Array Oper} {o : Oper} {a : Act} {w : World} {K : Act → World → Prop} {Q : Exit → Act → World → Prop} {E : Prop}
theorem step_copy_str (hgd : o.guard = none) (d s : Operand) (dT sT : TypeId)
    (ho : o.op = .call { callee := .builtin .copy, args := #[d, s], argTypes := #[dT, sT] }) (elem : TypeId) (hu : P.underlying dT = some (.slice elem)) (hsz : (P.info? elem).map (·.size) = some 1)
    (dp : Addr) (dLen dCap : Nat) (str : ByteArray) (hd : a.eval d = .slice (some dp) dLen dCap) (hs : a.eval s = .string str) (hn : str.size ≤ dLen)
    (g off : Nat) (L : List UInt8) (hb : BufAt w g L) (hpos : 0 < str.size → dp = ⟨g, off, none⟩) (hfit : off + str.size ≤ L.length)
    (h : ∀ w', BufAt w' g (put L off str.data.toList) → w.grownBy w' (some g) → K (a.put o.dst (goInt str.size)) w') :
    if Region.wanted o (yielded ops a.tmps) = true then Oper.wp P o a w K Q else E := by
  have hw : Region.wanted o (yielded ops a.tmps) = true := by simp [Region.wanted, hgd]
  rw [if_pos hw]
  obtain ⟨w', hrun, h1, h2⟩ := run_copy_str (P := P) w dT sT o.type elem hu hsz dp dLen dCap str hn g off L hb hpos hfit
  unfold Oper.wp
  simp [execOp, ho, resolve, invoke, builtin, hd, hs, hrun, Result.andThen]
  exact h _ h1 h2
end
end Go.Proofs.Ytidkdbohkbfhbaa
end
section
namespace Go.Proofs.Ytidkdbohkbfhbaa
open Go.RowKit Go.Proofs.YtidkdbohkbfhbaaW.PrintWords Go.Proofs.YtidkdbohkbfhbaaW.PrintLast Go.Proofs.YtidkdbohkbfhbaaW.PrintMore
open Rf
set_option linter.unusedVariables false
set_option linter.unusedSimpArgs false

theorem made_bv (m : Nat) : madeCells #[Value.int .u8 0] m = (bv (List.replicate m 0)).toArray := by
  apply Array.ext'
  apply List.ext_getElem
  · simp [bv, madeCells]
  · intro i h1 h2
    simp [bv, madeCells, Nat.mod_one]
/-- A new buffer. -/
def zer : List UInt8 := List.replicate 512 0
def zerV : Array Value := (bv zer).toArray
theorem grown_below {w w1 : World} {g : Nat} (h : w.grownBy w1 (some g)) {B : Nat} (hB : B ≤ g) (hs : B ≤ w.heap.size) {w0 : World} (hb : Below B w0 w) : Below B w0 w1 :=
  hb.grown h hs (fun k hk => by injection hk with hk; omega)

set_option maxHeartbeats 1000000 in
theorem bytes_calls (w : World) (g : Nat) (id lsn : Nat) (A : Option Addr) (c : Nat) (cs : List SGCell)
    (hp : PgAt w g id lsn (.slice A cs.length c)) (hC : Kd.C kGCell w A cs.length cs) (hS : Small cs) (hroom : 4 * cs.length + tot cs ≤ 496) (hid : id < 65536) (hlsn : lsn < 18446744073709551616) :
    Calls Try.prog 15 #[.pointer (some ⟨g, 0, none⟩)] w fun e w' => e = .returned (.slice (some ⟨w.heap.size, 0, none⟩) 512 512) ∧ BufAt w' w.heap.size (pgB id lsn cs) ∧ Below w.heap.size w w' := by
  have hl := hS.1
  have HP := Aside0.mk hp
  have HC := Aside0.mk hC
  have HS := Aside0.mk hS
  have HL := Aside0.mk hlsn
  clear hp hC hS hlsn
  have hmk : ∀ W : World, (Instr.makeSlice 38 (.int .i64 512) (.int .i64 512)).run Try.prog W = .ok (.slice (some ⟨W.heap.size, 0, none⟩) 512 512) (W.alloc (.cells zerV 5)) := fun W => by
    rw [show zerV = madeCells #[Value.int .u8 0] 512 from (made_bv 512).symm]
    exact print_make 38 5 .u8 1 Try.underlying38 Rf.info5 (by omega) 512 (by omega) W
  go_enter Try.func15, Try.ntmps15
  go_wp2_with fail
  clear hmk
  obtain ⟨w1, hw1⟩ : ∃ w1, w.alloc (.cells zerV 5) = w1 := ⟨_, rfl⟩
  rw [hw1]
  have HB1 : Aside0 (Below w.heap.size w w1) := ⟨by rw [← hw1]; exact below_alloc (Below.refl _ _) _⟩
  have HU1 : Aside0 (BufAt w1 w.heap.size zer) := ⟨by rw [← hw1]; exact heap_alloc_new w _⟩
  have HZ1 : w.heap.size < w1.heap.size := by rw [← hw1]; simp
  clear hw1
  have HP1 := Aside0.mk (HP.out.below HB1.out)
  have p1 := blk_cell HP1.out 1
  go_region_held3 (fun w' => w'.cell? ⟨g, 1, none⟩ = some (.int .u64 lsn)) (go_keep) (first | (go_at_call 36; refine (lay_calls _ w.heap.size 4 508 508 _ lsn 8 (blk_drew HU1.out) (by rw [zer, List.length_replicate]; omega) (by omega) (by omega) HL.out).mono ?_; rintro e w2 ⟨rfl, hu2, hg2⟩; have HB2 := Aside0.mk (grown_below hg2 (Nat.le_refl _) (Nat.le_of_lt HZ1) HB1.out.drew); have HP2 := Aside0.mk (HP.out.below HB2.out); have p1' := blk_cell HP2.out 1))
  have hw5 : IntKind.u64.wrap (id : Int) = (id : Int) := u64w (by omega) (by omega)
  have hw6 : IntKind.u64.wrap (cs.length : Int) = (cs.length : Int) := u64w (by omega) (by omega)
  have HU2 := Aside0.mk hu2
  have HZ2 : w.heap.size < w2.heap.size := blk_lt hu2
  have p0 := blk_cell HP2.out 0
  clear hu2 hg2 p1 p1'
  go_wp2_with fail
  go_region_held3 (fun w' => w'.cell? ⟨g, 0, none⟩ = some (.int .i64 id)) (go_keep) (first | (go_at_call 36; refine (lay_calls _ w.heap.size 12 500 500 _ id 2 (blk_drew HU2.out) (by rw [put_length _ _ _ (by rw [zer, List.length_replicate, le_length]; omega), zer, List.length_replicate]; omega) (by omega) (by omega) (by omega)).mono ?_; rintro e w3 ⟨rfl, hu3, hg3⟩; have HB3 := Aside0.mk (grown_below hg3 (Nat.le_refl _) (Nat.le_of_lt HZ2) HB2.out.drew); have HP3 := Aside0.mk (HP.out.below HB3.out); have p0' := blk_cell HP3.out 0))
  have HU3 := Aside0.mk hu3
  have HZ3 : w.heap.size < w3.heap.size := blk_lt hu3
  have p2 := blk_cell HP3.out 2
  clear hu3 hg3 p0 p0'
  go_wp2_with fail
  go_region_held3 (fun w' => w'.cell? ⟨g, 2, none⟩ = some (.slice A cs.length c)) (go_keep) (first | (go_at_call 36; refine (lay_calls _ w.heap.size 14 498 498 _ cs.length 2 (blk_drew HU3.out) (by rw [put_length _ _ _ (by rw [put_length _ _ _ (by rw [zer, List.length_replicate, le_length]; omega), zer, List.length_replicate, le_length]; omega), put_length _ _ _ (by rw [zer, List.length_replicate, le_length]; omega), zer, List.length_replicate]; omega) (by omega) (by omega) (by omega)).mono ?_; rintro e w4 ⟨rfl, hu4, hg4⟩; have HB4 := Aside0.mk (grown_below hg4 (Nat.le_refl _) (Nat.le_of_lt HZ3) HB3.out.drew); have HP4 := Aside0.mk (HP.out.below HB4.out); have p2' := blk_cell HP4.out 2))
  have HU4 : Aside0 (BufAt w4 w.heap.size (bufB id lsn cs.length (cs.take 0))) := ⟨by rw [List.take_zero, ← bufB_start]; exact hu4⟩
  have HZ4 : w.heap.size < w4.heap.size := blk_lt hu4
  clear hu4 hg4 p2 HU2 HU3 HP2 HP3 HZ2 HZ3 HB2 HB3 HU1 HB1 HZ1 HP1
  go_wp2
  go_loopg [4, 5, 6, 41] cs.length (fun gk v4 v5 v6 v41 wr => ∃ k : Nat, Aside0 (k + gk = cs.length) ∧ k ≤ cs.length ∧ v41 = .int .i64 k ∧ v4 = .int .i64 ((512 : Int) - (tot (cs.take k) : Int)) ∧ Aside0 (BufAt wr w.heap.size (bufB id lsn cs.length (cs.take k))) ∧ Aside0 (Below w.heap.size w wr))
  case atStart => exact ⟨0, ⟨by omega⟩, by omega, rfl, rfl, HU4, HB4⟩
  case round =>
    obtain ⟨k, Hk, hk, rfl, rfl, HU, HB⟩ := hrel
    have HT := Aside0.mk (show tot (cs.take k) ≤ tot cs by
      have : tot cs = tot (cs.take k) + tot (cs.drop k) := by rw [← tot_append, List.take_append_drop]
      omega)
    by_cases hlt : k < cs.length
    · obtain ⟨ad, ea, hx0, hx1, hx2⟩ := cell_at (Kd.C_below HC.out HB.out) k hlt
      cases ea
      have hsm := HS.out.2 _ (rd_mem cs k hlt)
      have HTS := Aside0.mk (tot_take_succ cs k hlt)
      have HTT := Aside0.mk (show cs.take (k + 1) = cs.take k ++ [rd_TGCell cs k] by rw [rd_get cs k hlt, List.take_succ_eq_append_getElem hlt])
      have hT1 : tot (cs.take (k + 1)) ≤ tot cs := by
        have : tot cs = tot (cs.take (k + 1)) + tot (cs.drop (k + 1)) := by rw [← tot_append, List.take_append_drop]
        omega
      have hfit : 4 * (k + 1) + tot (cs.take k) + csz (rd_TGCell cs k) ≤ 496 := by rw [HTS.out] at hT1; omega
      clear hT1
      have htk : (cs.take k).length = k := by rw [List.length_take]; omega
      have HTK := Aside0.mk htk
      clear htk
      generalize hcl : rd_TGCell cs k = cl at hx0 hx1 hx2 hsm HTS HTT hfit
      clear hcl
      obtain ⟨u, key, val⟩ := cl
      cases u with
      | false =>
        have HF := Aside0.mk (bufB_free id lsn cs.length (cs.take k) ⟨false, key, val⟩ rfl (by rw [HTK.out]; omega))
        generalize tot (cs.take k) = T at HT HTS hfit ⊢
        go_wp2
        go_roundg (gk - 1)
        case measure => have := Hk.out; omega
        case rel => exact ⟨k + 1, ⟨by have := Hk.out; omega⟩, by omega, by go_num, by rw [HTS.out]; rfl, ⟨by rw [HTT.out, HF.out]; exact HU.out.below (below_alloc (Below.refl _ _) _)⟩, ⟨below_alloc HB.out _⟩⟩
      | true =>
        have hzz : csz ⟨true, key, val⟩ = 1 + key.size + val.size := rfl
        have HF := Aside0.mk (bufB_used id lsn cs.length (cs.take k) ⟨true, key, val⟩ rfl (by rw [HTK.out]; omega))
        have HLen := Aside0.mk (bufB_length id lsn cs.length (cs.take k) (by rw [HTK.out]; omega))
        have HCB := Aside0.mk (show cellB ⟨true, key, val⟩ = UInt8.ofNat key.size :: (key.data.toList ++ val.data.toList) from rfl)
        obtain ⟨Z, hZ⟩ : ∃ Z, csz ⟨true, key, val⟩ = Z := ⟨_, rfl⟩
        have HZ := Aside0.mk hZ
        rw [hZ] at HF HTS hfit hzz
        rw [HTK.out] at HF
        clear hZ
        generalize bufB id lsn cs.length (cs.take k) = L at HU HF HLen
        generalize tot (cs.take k) = T at HT HTS hfit HF ⊢
        obtain ⟨E, hE⟩ : ∃ E : Nat, E = 512 - T - Z := ⟨_, rfl⟩
        have hE1 : (512 : Int) - (T : Int) - (Z : Int) = (E : Int) := by omega
        have hE2 : E + Z + T = 512 := by omega
        have HE2 := Aside0.mk hE2
        have hE3 : 16 + 4 * (k + 1) ≤ E := by omega
        have hE4 : E + Z ≤ 512 := by omega
        rw [← hE] at HF
        have HZZ := Aside0.mk hzz
        clear hE hE2 hzz
        go_wp2_with fail
        refine (size_calls ⟨true, key, val⟩ _ hsm.1 hsm.2).mono ?_
        rintro e w1 ⟨rfl, hb1⟩
        rw [HZ.out]
        have HX1 := Aside0.mk (show w1.heap[wr.heap.size]? = some (.cells #[.bool true, .string key, .string val] 46 (0, 0)) from (hb1.block _ (by simp)).trans (heap_alloc_new wr _))
        have HBa := Aside0.mk (bel_trans (below_alloc (Below.refl _ wr) _) hb1)
        have HB1 := Aside0.mk (bel_trans HB.out HBa.out)
        have HU1 := Aside0.mk (HU.out.below HBa.out)
        have hBw : w.heap.size < wr.heap.size := blk_lt HU.out
        clear hb1
        have hk16 : ¬ (512 = 16 + 4 * k) := by omega
        go_wp2_with fail
        refine (lay_calls w1 w.heap.size (16 + 4 * k) (512 - (16 + 4 * k)) (512 - (16 + 4 * k)) L E 2 HU1.out (by rw [HLen.out]; omega) (by omega) (by omega) (by omega)).mono ?_
        rintro e w2 ⟨rfl, hu2, hg2⟩
        have HU2 := Aside0.mk hu2
        have HX2 := Aside0.mk (blk_grown HX1.out hg2 (by simp; omega))
        have HB2 := Aside0.mk (grown_below hg2 (Nat.le_refl _) (Nat.le_of_lt (blk_lt HU1.out)) HB1.out)
        have HL2 := Aside0.mk (show (put L (16 + 4 * k) (le E 2)).length = 512 by rw [put_length _ _ _ (by rw [HLen.out, le_length]; omega), HLen.out])
        clear hu2 hg2
        generalize put L (16 + 4 * k) (le E 2) = L2 at HU2 HL2 HF
        have hk18 : ¬ (512 = 16 + 4 * k + 2) := by omega
        have hwz : IntKind.u64.wrap (Z : Int) = (Z : Int) := u64w (by omega) (by omega)
        have hx20 := blk_cell HX2.out 0
        have hx21 := blk_cell HX2.out 1
        have hx22 := blk_cell HX2.out 2
        have hq1 : IntKind.i64.wrap (4 * (k : Int)) = 4 * (k : Int) := i64w (by omega) (by omega)
        have hq2 : IntKind.i64.wrap (16 + 4 * (k : Int)) = 16 + 4 * (k : Int) := i64w (by omega) (by omega)
        have hq3 : IntKind.i64.wrap (16 + 4 * (k : Int) + 2) = 16 + 4 * (k : Int) + 2 := i64w (by omega) (by omega)
        have hq4 : (0 : Int) ≤ 16 + 4 * (k : Int) + 2 := by omega
        have hq5 : 16 + 4 * (k : Int) + 2 ≤ 512 := by omega
        have hq6 : (16 + 4 * (k : Int) + 2).toNat = 16 + 4 * k + 2 := by omega
        go_wp2_with fail
        go_region_held3 (fun w' => w'.cell? ⟨wr.heap.size, 0, none⟩ = some (.bool true) ∧ w'.cell? ⟨wr.heap.size, 1, none⟩ = some (.string key) ∧ w'.cell? ⟨wr.heap.size, 2, none⟩ = some (.string val)) (go_keep)
          (first | (go_at_call 37; refine (size_calls ⟨true, key, val⟩ _ hsm.1 hsm.2).mono ?_; rintro e w3 ⟨rfl, hb3⟩; rw [HZ.out]; have HBq := Aside0.mk (hb3); have HX3 := Aside0.mk (show w3.heap[wr.heap.size]? = _ from (hb3.block _ (blk_lt HX2.out)).trans HX2.out); have q0 := blk_cell HX3.out 0; have q1 := blk_cell HX3.out 1; have q2 := blk_cell HX3.out 2) | (go_at_call 36; refine (lay_calls w3 w.heap.size (16 + 4 * k + 2) (510 - (16 + 4 * k)) (510 - (16 + 4 * k)) L2 Z 2 (HU2.out.drew.below HBq.out) (by rw [HL2.out]; omega) (by omega) (by omega) (by omega)).mono ?_; rintro e w5 ⟨rfl, hu5, hg5⟩; have HX5 := Aside0.mk (blk_grown HX3.out hg5 (by simp; omega)); have r0 := blk_cell HX5.out 0; have r1 := blk_cell HX5.out 1; have r2 := blk_cell HX5.out 2))
        have HU5 := Aside0.mk hu5
        have HB3 := Aside0.mk (below_then HB2.out.drew HB2.out.size HBq.out)
        have HB5 := Aside0.mk (grown_below hg5 (Nat.le_refl _) HB3.out.size HB3.out)
        have HL5 := Aside0.mk (show (put L2 (16 + 4 * k + 2) (le Z 2)).length = 512 by rw [put_length _ _ _ (by rw [HL2.out, le_length]; omega), HL2.out])
        clear hu5 hg5 q0 q1 q2 hx20 hx21 hx22 hq1 hq2 hq3 hq4 hq5 hq6 hwz hk18 hk16
        generalize put L2 (16 + 4 * k + 2) (le Z 2) = L5 at HU5 HL5 HF
        have hZ1 : 1 ≤ Z := by have := HZZ.out; omega
        obtain ⟨b5, he5⟩ := HU5.out.there E (by rw [HL5.out]; omega)
        have hf5 := blk_frozen HU5.out E
        have hkz : key.size ≤ 1000 := hsm.1
        have hvz : val.size ≤ 1000 := hsm.2
        go_wp2_with fail
        have hbyte : (key.size : Int) % 256 = (((UInt8.ofNat key.size).toNat : Nat) : Int) := by
          have h : (UInt8.ofNat key.size).toNat = key.size % 256 := rfl
          rw [h, Int.natCast_emod]; rfl
        rw [hbyte]
        have HU6 := Aside0.mk (HU5.out.set E (UInt8.ofNat key.size))
        have HX6 := Aside0.mk (blk_far HX5.out (p := ⟨w.heap.size, E, none⟩) (by simp; omega) (.int .u8 (((UInt8.ofNat key.size).toNat : Nat) : Int)))
        have HB6 := Aside0.mk (HB5.out.setCell (p := ⟨w.heap.size, E, none⟩) (Nat.le_refl _) (.int .u8 (((UInt8.ofNat key.size).toNat : Nat) : Int)))
        have HL6 := Aside0.mk (show (L5.set E (UInt8.ofNat key.size)).length = 512 by rw [List.length_set, HL5.out])
        have HQ6 := Aside0.mk (put_one L5 E (UInt8.ofNat key.size) (by rw [HL5.out]; omega))
        generalize w5.setCell ⟨w.heap.size, E, none⟩ (.int .u8 (((UInt8.ofNat key.size).toNat : Nat) : Int)) = w6 at HU6 HX6 HB6 ⊢
        clear hbyte he5 hf5 r0 r1 r2
        have s1 := blk_cell HX6.out 1
        have s2 := blk_cell HX6.out 2
        generalize L5.set E (UInt8.ofNat key.size) = L6 at HU6 HL6 HQ6
        have hq1 : IntKind.i64.wrap ((E : Int) + 1) = (E : Int) + 1 := i64w (by omega) (by omega)
        have hq2 : (0 : Int) ≤ (E : Int) + 1 := by omega
        have hq3 : (E : Int) + 1 ≤ 512 := by omega
        have hq4 : ((E : Int) + 1).toNat = E + 1 := by omega
        have HI5 := Aside0.mk (show (Try.prog.info? 5).map (·.size) = some 1 by kernel_rfl)
        obtain ⟨D1, hD1, hpos1⟩ : ∃ D1 : Addr, (if E = 511 then some (⟨w.heap.size, 0, none⟩ : Addr) else some ⟨w.heap.size, E + 1, none⟩) = some D1 ∧ (0 < key.size → D1 = ⟨w.heap.size, E + 1, none⟩) := by
          by_cases h : E = 511
          · exact ⟨_, by rw [if_pos h], fun h0 => by have := HZZ.out; omega⟩
          · exact ⟨_, by rw [if_neg h], fun _ => rfl⟩
        have HP1 := Aside0.mk hpos1
        clear hpos1
        go_region_law (refine step_copy_str (by rfl) (.tmp 81) (.tmp 83) 38 9 (by rfl) 5 Try.underlying38 HI5.out D1 (511 - E) (511 - E) key (by simp [Act.eval, Act.put, hD1]) (by simp [Act.eval, Act.put]) (by have := HZZ.out; omega) w.heap.size (E + 1) L6 HU6.out.drew HP1.out (by rw [HL6.out]; have := HZZ.out; omega) ?_; intro w7 hu7 hg7)
        · have HU7 := Aside0.mk hu7
          have HX7 := Aside0.mk (blk_grown (blk_drew HX6.out) hg7 (by simp; omega))
          have HB7 := Aside0.mk (grown_below hg7 (Nat.le_refl _) HB6.out.size HB6.out.drew)
          have HL7 := Aside0.mk (show (put L6 (E + 1) key.data.toList).length = 512 by rw [put_length _ _ _ (by rw [HL6.out, data_length]; have := HZZ.out; omega), HL6.out])
          clear hu7 hg7 s1 s2
          have s1 := blk_cell HX7.out 1
          have s2 := blk_cell HX7.out 2
          have HQ7 := Aside0.mk (show put L6 (E + 1) key.data.toList = put L5 E (UInt8.ofNat key.size :: key.data.toList) by
            have := put_put L5 E [UInt8.ofNat key.size] key.data.toList (by rw [HL5.out, data_length, List.length_singleton]; have := HZZ.out; omega)
            rw [List.length_singleton] at this
            rw [HQ6.out, this]; rfl)
          generalize put L6 (E + 1) key.data.toList = L7 at HU7 HL7 HQ7
          have hm1 : IntKind.i64.wrap ((E : Int) + 1 + (key.size : Int)) = (E : Int) + 1 + (key.size : Int) := i64w (by omega) (by omega)
          have hm2 : (0 : Int) ≤ (E : Int) + 1 + (key.size : Int) := by omega
          have hm3 : (E : Int) + 1 + (key.size : Int) ≤ 512 := by have := HZZ.out; omega
          have hm4 : ((E : Int) + 1 + (key.size : Int)).toNat = E + 1 + key.size := by omega
          clear hD1
          obtain ⟨D2, hD2, hpos2⟩ : ∃ D2 : Addr, (if 512 = E + 1 + key.size then some (⟨w.heap.size, 0, none⟩ : Addr) else some ⟨w.heap.size, E + 1 + key.size, none⟩) = some D2 ∧ (0 < val.size → D2 = ⟨w.heap.size, E + 1 + key.size, none⟩) := by
            by_cases h : 512 = E + 1 + key.size
            · exact ⟨_, by rw [if_pos h], fun h0 => by have := HZZ.out; omega⟩
            · exact ⟨_, by rw [if_neg h], fun _ => rfl⟩
          have HP2 := Aside0.mk hpos2
          clear hpos2
          go_wp2_with fail
          go_region_law (refine step_copy_str (by rfl) (.tmp 92) (.tmp 94) 38 9 (by rfl) 5 Try.underlying38 HI5.out D2 (512 - (E + 1 + key.size)) (512 - (E + 1 + key.size)) val (by simp [Act.eval, Act.put, hD2]) (by simp [Act.eval, Act.put]) (by have := HZZ.out; omega) w.heap.size (E + 1 + key.size) L7 HU7.out.drew HP2.out (by rw [HL7.out]; have := HZZ.out; omega) ?_; intro w8 hu8 hg8)
          all_goals
            have HB8 := Aside0.mk (grown_below hg8 (Nat.le_refl _) HB7.out.size HB7.out.drew)
            have HU8 := Aside0.mk (show BufAt w8 w.heap.size (bufB id lsn cs.length (cs.take (k + 1))) by
              rw [HTT.out, ← HF.out, HCB.out]
              have := put_put L5 E (UInt8.ofNat key.size :: key.data.toList) val.data.toList (by rw [HL5.out, List.length_cons, data_length, data_length]; have := HZZ.out; omega)
              rw [List.length_cons, data_length, ← HQ7.out, show E + (key.size + 1) = E + 1 + key.size by omega] at this
              rw [this] at hu8
              exact hu8)
            clear hu8 hg8 s1 s2 hD2
            go_wp2
            go_roundg (gk - 1)
            case measure => have := Hk.out; omega
            case rel => exact ⟨k + 1, ⟨by have := Hk.out; omega⟩, by omega, by go_num, by rw [HTS.out]; go_num, HU8, HB8⟩
    · obtain rfl : k = cs.length := by omega
      rw [List.take_of_length_le (Nat.le_refl _)] at HU
      rw [List.take_of_length_le (Nat.le_refl _)]
      have HEnd := Aside0.mk (bufB_end id lsn cs hroom)
      have HLn := Aside0.mk (bufB_length id lsn cs.length cs hroom)
      have HRd := Aside0.mk (show ReadsInt wr .u8 (some ⟨w.heap.size, 4, none⟩) 508 (ints (bodyB id lsn cs)) by
        have := HU.out.reads 4 (by rw [HLn.out]; omega) (by rw [HLn.out]; omega)
        rw [HLn.out, HEnd.out.1] at this
        exact this)
      have hcr := Crc.sum_lt (bodyB id lsn cs)
      clear hlt
      go_wp2_with fail
      refine (sum_calls wr _ 508 508 (bodyB id lsn cs) HRd.out (by omega)).mono ?_
      rintro e w1 ⟨rfl, hb1⟩
      have HB1 := Aside0.mk (bel_trans HB.out hb1)
      have HU1 := Aside0.mk (HU.out.below hb1)
      clear hb1
      generalize hC : Crc.sum (bodyB id lsn cs) = C at hcr HEnd ⊢
      clear hC
      go_wp2_with fail
      refine (lay_calls w1 w.heap.size 0 512 512 _ C 4 HU1.out (by rw [HLn.out]; omega) (by omega) (by omega) (by omega)).mono ?_
      rintro e w2 ⟨rfl, hu2, hg2⟩
      have HU2 := Aside0.mk (show BufAt w2 w.heap.size (pgB id lsn cs) by rw [← HEnd.out.2]; exact hu2)
      have HB2 := Aside0.mk (grown_below hg2 (Nat.le_refl _) HB1.out.size HB1.out)
      clear hu2 hg2
      go_wp2
      go_ret
      exact ⟨rfl, HU2.out, HB2.out⟩
end Go.Proofs.Ytidkdbohkbfhbaa
end
section
namespace Go.Proofs.Ytidkdbohkbfhbaa
open Go.RowKit Go.Proofs.YtidkdbohkbfhbaaW.PrintWords Go.Proofs.YtidkdbohkbfhbaaW.PrintLast Go.Proofs.YtidkdbohkbfhbaaW.PrintMore
open Rf
set_option linter.unusedVariables false
set_option linter.unusedSimpArgs false

/-- A page's reading, out of its own. -/
theorem IsPg.reads {w : World} {base : Nat} {ok : Nat → Prop} {g : Nat} {id lsn : Int} {cs : List SGCell} (h : IsPg w base ok g id lsn cs) :
    ∃ A c, PgAt w g id lsn (.slice A cs.length c) ∧ Kd.C kGCell w A cs.length cs := by
  obtain ⟨_, _, v, h1, h2⟩ := h
  obtain ⟨A, c, rfl, _, hC⟩ := Kd.R_reads h2
  exact ⟨A, c, h1, hC⟩
theorem free_pg (w : World) (base : Nat) (ok : Nat → Prop) (g : Nat) (id lsn : Int) (cs : List SGCell) (h : IsPg w base ok g id lsn cs) (hS : Small cs) :
    Calls Try.prog 16 #[.pointer (some ⟨g, 0, none⟩)] w fun e w' => e = .returned (.int .i64 (free cs)) ∧ Below w.heap.size w w' := by
  obtain ⟨A, c, h1, h2⟩ := h.reads
  exact free_calls w g id lsn A c cs h1 h2 hS
theorem get_pg (w : World) (base : Nat) (ok : Nat → Prop) (g : Nat) (id lsn : Int) (cs : List SGCell) (key : ByteArray) (h : IsPg w base ok g id lsn cs) (hl : cs.length ≤ 1000) :
    Calls Try.prog 18 #[.pointer (some ⟨g, 0, none⟩), .string key] w fun e w' => e = .returned (.tuple #[.string (if fnd cs key < 0 then ⟨#[]⟩ else (rd_TGCell cs (fnd cs key)).f2), .bool (decide (0 ≤ fnd cs key))]) ∧ Below w.heap.size w w' := by
  obtain ⟨A, c, h1, h2⟩ := h.reads
  exact get_calls w g id lsn A c cs key h1 h2 hl
theorem bytes_pg (w : World) (base : Nat) (ok : Nat → Prop) (g id lsn : Nat) (cs : List SGCell) (h : IsPg w base ok g id lsn cs) (hS : Small cs) (hroom : 4 * cs.length + tot cs ≤ 496) (hid : id < 65536) (hlsn : lsn < 18446744073709551616) :
    Calls Try.prog 15 #[.pointer (some ⟨g, 0, none⟩)] w fun e w' => e = .returned (.slice (some ⟨w.heap.size, 0, none⟩) 512 512) ∧ BufAt w' w.heap.size (pgB id lsn cs) ∧ Below w.heap.size w w' := by
  obtain ⟨A, c, h1, h2⟩ := h.reads
  exact bytes_calls w g id lsn A c cs h1 h2 hS hroom hid hlsn
theorem cells_pg (w : World) (base : Nat) (ok : Nat → Prop) (g : Nat) (id lsn : Int) (cs : List SGCell) (h : IsPg w base ok g id lsn cs) (hl : cs.length ≤ 1000) :
    Calls Try.prog 17 #[.pointer (some ⟨g, 0, none⟩)] w fun e w' => ∃ v, e = .returned v ∧ Kd.R kGCell 46 w' w.heap.size (fun k => w.heap.size ≤ k) v cs ∧ Below w.heap.size w w' := by
  obtain ⟨A, c, h1, h2⟩ := h.reads
  exact cells_calls w g id lsn A c cs h1 h2 hl
theorem id_pg (w : World) (base : Nat) (ok : Nat → Prop) (g : Nat) (id lsn : Int) (cs : List SGCell) (h : IsPg w base ok g id lsn cs) :
    Calls Try.prog 25 #[.pointer (some ⟨g, 0, none⟩)] w fun e w' => e = .returned (.int .i64 id) ∧ w = w' := by
  obtain ⟨A, c, h1, h2⟩ := h.reads
  exact id_calls w g id lsn _ h1
theorem lsn_pg (w : World) (base : Nat) (ok : Nat → Prop) (g : Nat) (id lsn : Int) (cs : List SGCell) (h : IsPg w base ok g id lsn cs) :
    Calls Try.prog 24 #[.pointer (some ⟨g, 0, none⟩)] w fun e w' => e = .returned (.int .u64 lsn) ∧ w = w' := by
  obtain ⟨A, c, h1, h2⟩ := h.reads
  exact lsn_calls w g id lsn _ h1

def sA : ByteArray := ⟨#[97]⟩
def sX : ByteArray := ⟨#[120]⟩
theorem lives_ins : ins [] sA sX = ([cel sA sX], 0) := by kernel_rfl
theorem lives_small : Small [cel sA sX] := ⟨by decide, by decide⟩
theorem lives_x : sX.toList = [120] := by rw [ByteArray.toList_eq]; rfl
theorem lives_get : (Ending.returned (.tuple #[.string (if fnd [cel sA sX] sA < 0 then ⟨#[]⟩ else (rd_TGCell [cel sA sX] (fnd [cel sA sX] sA)).f2), .bool (decide (0 ≤ fnd [cel sA sX] sA))])) = .returned (.tuple #[.string sX, .bool true]) := by kernel_rfl
theorem lives_free : free [cel sA sX] = 489 := by kernel_rfl
set_option maxHeartbeats 1000000 in
theorem lives_calls (w : World) : Calls Try.prog 12 #[] w fun e w' => e = .returned (.bool true) ∧ Below w.heap.size w w' := by
  go_enter Try.func12, Try.ntmps12
  go_wp2_with fail
  refine (new_ok 3 w (by omega) (by omega)).mono ?_
  rintro e w1 ⟨rfl, hp, hb⟩
  have HB := Aside0.mk hb
  have HP := Aside0.mk (hp w.heap.size (Nat.le_refl _))
  clear hp hb
  go_wp2_with fail
  refine (insert_calls w w1 _ w.heap.size 3 0 [] sA sX HB.out HP.out Valid.nil.small (by decide)).mono ?_
  rintro e w2 ⟨rfl, hp, hb, hk⟩
  rw [lives_ins] at hp ⊢
  have HB2 := Aside0.mk hb
  have HP2 := Aside0.mk hp
  clear hp hb hk
  go_wp2_with fail
  refine (get_pg w2 _ _ w.heap.size 3 0 _ sA HP2.out (by decide)).mono ?_
  rintro e w3 ⟨rfl, hb⟩
  have HB3 := Aside0.mk (below_then HB2.out HB2.out.size hb)
  have HP3 := Aside0.mk (HP2.out.below hb)
  clear hb
  rw [lives_get]
  have hx : sX.toList = [120] := lives_x
  go_wp2_with (first | (go_at_call 16; refine (free_pg _ _ _ w.heap.size 3 0 _ HP3.out lives_small).mono ?_; rintro e w4 ⟨rfl, hb⟩; rw [lives_free]; have HB4 := Aside0.mk (below_then HB3.out HB3.out.size hb); have HP4 := Aside0.mk (HP3.out.below hb); clear hb) | (go_at_call 15; refine (bytes_pg _ _ _ w.heap.size 3 0 _ HP4.out lives_small (by decide) (by decide) (by decide)).mono ?_; rintro e w5 ⟨rfl, hbuf, hb⟩; have HB5 := Aside0.mk (below_then HB4.out HB4.out.size hb); clear hb hbuf))
  go_ret
  exact ⟨rfl, HB5.out⟩
end Go.Proofs.Ytidkdbohkbfhbaa
end
section
namespace Go.Proofs.Ytidkdbohkbfhbaa.Rf
open Go.RowKit Go.Proofs.YtidkdbohkbfhbaaW.PrintWords Go.Proofs.YtidkdbohkbfhbaaW.PrintLast Go.Proofs.YtidkdbohkbfhbaaW.PrintMore
set_option linter.unusedVariables false

/-! #### Op -/
structure SGOp where
  f0 : Int
  f1 : ByteArray
  f2 : ByteArray
  f3 : Int
def zGOp : SGOp := ⟨(0 : Int), (⟨#[]⟩ : ByteArray), (⟨#[]⟩ : ByteArray), (0 : Int)⟩
def kGOp : Kd SGOp := Kd.iso (Kd.pair (Kd.int .i64) (Kd.pair Kd.string (Kd.pair Kd.string (Kd.int .u64)))) (fun x : SGOp => (x.f0, x.f1, x.f2, x.f3))
theorem kGOp_open {w : World} {x : SGOp} {cs : List Value} (h : kGOp.K w x cs) : cs = [.int .i64 x.f0, .string x.f1, .string x.f2, .int .u64 x.f3] := by
  obtain ⟨_, _, rfl, rfl, ⟨_, _, rfl, rfl, ⟨_, _, rfl, rfl, rfl⟩⟩⟩ := h
  exact rfl
theorem kGOp_mk (w : World) (x : SGOp)  : kGOp.K w x [.int .i64 x.f0, .string x.f1, .string x.f2, .int .u64 x.f3] := ⟨[.int .i64 x.f0], [.string x.f1, .string x.f2, .int .u64 x.f3], rfl, rfl, ⟨[.string x.f1], [.string x.f2, .int .u64 x.f3], rfl, rfl, ⟨[.string x.f2], [.int .u64 x.f3], rfl, rfl, rfl⟩⟩⟩
def rd_TGOp (xs : List SGOp) (i : Int) : SGOp := xs.getD i.toNat zGOp
theorem at_TGOp {w : World} {A : Option Addr} {n : Nat} {xs : List SGOp} (h : Kd.C kGOp w A n xs) (i : Int) (h0 : 0 ≤ i) (h1 : i < n) : ∃ ad , A = some ad ∧ w.cell? (ad.add (i.toNat * 4)) = some (.int .i64 (rd_TGOp xs i).f0) ∧ w.cell? ⟨(ad.add (i.toNat * 4)).block, (ad.add (i.toNat * 4)).off + 1, none⟩ = some (.string (rd_TGOp xs i).f1) ∧ w.cell? ⟨(ad.add (i.toNat * 4)).block, (ad.add (i.toNat * 4)).off + 2, none⟩ = some (.string (rd_TGOp xs i).f2) ∧ w.cell? ⟨(ad.add (i.toNat * 4)).block, (ad.add (i.toNat * 4)).off + 3, none⟩ = some (.int .u64 (rd_TGOp xs i).f3) := by
  obtain ⟨ad, c, e, _, hK, hc0⟩ := Kd.C_get h zGOp i h0 h1
  have hc : ∀ j u, c[j]? = some u → w.cell? (ad.add (i.toNat * 4 + j)) = some u := hc0
  obtain rfl := kGOp_open hK
  exact ⟨ad, e, hc 0 _ rfl, by rw [← add_field _ _ 1 (by omega)]; exact hc 1 _ rfl, by rw [← add_field _ _ 2 (by omega)]; exact hc 2 _ rfl, by rw [← add_field _ _ 3 (by omega)]; exact hc 3 _ rfl⟩

end Go.Proofs.Ytidkdbohkbfhbaa.Rf
end
section
namespace Go.Proofs.Ytidkdbohkbfhbaa
open Go.RowKit Go.Proofs.YtidkdbohkbfhbaaW.PrintWords Go.Proofs.YtidkdbohkbfhbaaW.PrintLast Go.Proofs.YtidkdbohkbfhbaaW.PrintMore
open Rf
set_option linter.unusedVariables false

theorem tot_set (cs : List SGCell) (i : Nat) (h : i < cs.length) (c : SGCell) : tot (cs.set i c) + csz cs[i] = tot cs + csz c := by
  induction cs generalizing i with
  | nil => simp at h
  | cons a r ih =>
    cases i with
    | zero => simp only [List.set_cons_zero, tot_cons, List.getElem_cons_zero]; omega
    | succ i =>
      have := ih i (by simpa using h)
      simp only [List.set_cons_succ, tot_cons, List.getElem_cons_succ]; omega
theorem fndN_none (key : ByteArray) (cs : List SGCell) (i : Nat) (h : fndN key cs i < 0) : ∀ c ∈ cs, hit key c = false := by
  induction cs generalizing i with
  | nil => simp
  | cons c r ih =>
    unfold fndN at h
    split at h
    · omega
    · rename_i hc
      intro x hx
      rcases List.mem_cons.1 hx with rfl | hx
      · simpa using hc
      · exact ih (i + 1) h x hx
theorem fnd_none (cs : List SGCell) (key : ByteArray) (h : fnd cs key < 0) (c : SGCell) (hc : c ∈ cs) (hu : c.f0 = true) : c.f1 ≠ key := by
  have := fndN_none key cs 0 h c hc
  unfold hit at this
  rw [hu, beq_toList] at this
  simpa using this
theorem fndN_hit (key : ByteArray) (cs : List SGCell) (i : Nat) (h : 0 ≤ fndN key cs i) : ∃ j, ∃ hj : j < cs.length, fndN key cs i = ((i + j : Nat) : Int) ∧ hit key cs[j] = true := by
  induction cs generalizing i with
  | nil => simp [fndN] at h
  | cons c r ih =>
    unfold fndN at h ⊢
    split
    · rename_i hc
      exact ⟨0, by simp, by simp, by simpa using hc⟩
    · rename_i hc
      rw [if_neg hc] at h
      obtain ⟨j, hj, e, hh⟩ := ih (i + 1) h
      exact ⟨j + 1, by simp; omega, by rw [e]; omega, by simpa using hh⟩
theorem fnd_hit (cs : List SGCell) (key : ByteArray) (h : 0 ≤ fnd cs key) : ∃ j, ∃ hj : j < cs.length, fnd cs key = (j : Int) ∧ cs[j].f0 = true ∧ cs[j].f1 = key := by
  obtain ⟨j, hj, e, hh⟩ := fndN_hit key cs 0 h
  refine ⟨j, hj, by rw [fnd, e]; simp, ?_⟩
  unfold hit at hh
  rw [beq_toList] at hh
  simpa using hh

theorem insAt_free (cs : List SGCell) (hz : ∀ c ∈ cs, c.f0 = false → c = zGCell) (key value : ByteArray) : free (insAt cs (cel key value)) = free cs - insNeed cs key value := by
  unfold insAt insNeed free
  have hle := frs_le cs
  split
  · rw [tot_append, tot_cons, tot_nil, csz_cel, List.length_append, List.length_singleton]; omega
  · have hlt : frs cs < cs.length := by omega
    have h := tot_set cs (frs cs) hlt (cel key value)
    have hf := frs_free cs hlt
    rw [rd_get cs _ hlt] at hf
    have h0 : csz cs[frs cs] = 0 := by unfold csz; rw [if_neg (by rw [hf]; simp)]
    rw [csz_cel] at h
    rw [List.length_set]; omega
theorem updAt_free (cs : List SGCell) (i : Nat) (hi : i < cs.length) (hu : cs[i].f0 = true) (value : ByteArray) : free (updAt cs i value) = free cs - ((value.size : Int) - (cs[i].f2.size : Int)) := by
  unfold updAt free
  have h := tot_set cs i hi ⟨(rd_TGCell cs i).f0, (rd_TGCell cs i).f1, value⟩
  rw [rd_get cs i hi] at h ⊢
  have h1 : csz cs[i] = 1 + cs[i].f1.size + cs[i].f2.size := by unfold csz; rw [if_pos hu]
  have h2 : csz ⟨cs[i].f0, cs[i].f1, value⟩ = 1 + cs[i].f1.size + value.size := by unfold csz; rw [if_pos (by simpa using hu)]
  rw [List.length_set]; omega

theorem Valid.getLast {cs : List SGCell} (h : Valid cs) (hn : 0 < cs.length) : (cs[cs.length - 1]'(by omega)).f0 = true :=
  h.last _ (by rw [List.getLast?_eq_getElem?, List.getElem?_eq_getElem])
theorem pw_get {cs : List SGCell} (h : cs.Pairwise fun a b => a.f0 = true → b.f0 = true → a.f1 ≠ b.f1) (i j : Nat) (hi : i < cs.length) (hj : j < cs.length) (hne : i ≠ j) (hu : cs[i].f0 = true) (hv : cs[j].f0 = true) : cs[i].f1 ≠ cs[j].f1 := by
  rw [List.pairwise_iff_getElem] at h
  rcases Nat.lt_or_gt_of_ne hne with hlt | hlt
  · exact h i j hi hj hlt hu hv
  · exact fun e => h j i hj hi hlt hv hu e.symm
/-- A used cell of another key, or the same, at one place. -/
theorem pw_set {cs : List SGCell} (h : cs.Pairwise fun a b => a.f0 = true → b.f0 = true → a.f1 ≠ b.f1) (i : Nat) (c : SGCell) (hc : ∀ j (hj : j < cs.length), j ≠ i → cs[j].f0 = true → cs[j].f1 ≠ c.f1) :
    (cs.set i c).Pairwise fun a b => a.f0 = true → b.f0 = true → a.f1 ≠ b.f1 := by
  rw [List.pairwise_iff_getElem]
  intro a b ha hb hab hu hv
  rw [List.length_set] at ha hb
  rw [List.getElem_set] at hu hv
  rw [List.getElem_set, List.getElem_set]
  by_cases e1 : i = a
  · rw [if_pos e1, if_neg (by omega)]
    rw [if_neg (by omega)] at hv
    exact fun e => hc b hb (by omega) hv e.symm
  · rw [if_neg e1] at hu ⊢
    by_cases e2 : i = b
    · rw [if_pos e2]
      exact hc a ha (by omega) hu
    · rw [if_neg e2] at hv ⊢
      exact pw_get h a b ha hb (by omega) hu hv
theorem Valid.insAt {cs : List SGCell} (h : Valid cs) (key value : ByteArray) (hm : mayB key value = true) (hf : fnd cs key < 0) (h64 : frs cs ≠ 64) (hr : insNeed cs key value ≤ free cs) : Valid (insAt cs (cel key value)) := by
  have hroom := insAt_free cs h.zero key value
  have hle := frs_le cs
  have hlen := h.len
  unfold Go.Proofs.Ytidkdbohkbfhbaa.insAt at hroom ⊢
  by_cases e : frs cs = cs.length
  · rw [if_pos e] at hroom ⊢
    refine ⟨by rw [List.length_append, List.length_singleton]; omega, ?_, ?_, ?_, ?_, by rw [hroom]; omega⟩
    · intro c hc hu
      rcases List.mem_append.1 hc with hc | hc
      · exact h.may c hc hu
      · rw [List.mem_singleton.1 hc]; exact hm
    · intro c hc hu
      rcases List.mem_append.1 hc with hc | hc
      · exact h.zero c hc hu
      · rw [List.mem_singleton.1 hc] at hu; simp [cel] at hu
    · rw [List.pairwise_append]
      refine ⟨h.once, List.pairwise_singleton _ _, ?_⟩
      intro a ha b hb hu _
      rw [List.mem_singleton.1 hb]
      exact fnd_none cs key hf a ha hu
    · intro c hc
      rw [List.getLast?_append] at hc
      simp at hc
      rw [← hc]; rfl
  · rw [if_neg e] at hroom ⊢
    have hlt : frs cs < cs.length := by omega
    have hfree := frs_free cs hlt
    rw [rd_get cs _ hlt] at hfree
    refine ⟨by rw [List.length_set]; omega, ?_, ?_, ?_, ?_, by rw [hroom]; omega⟩
    · intro c hc hu
      rcases List.mem_or_eq_of_mem_set hc with hc | rfl
      · exact h.may c hc hu
      · exact hm
    · intro c hc hu
      rcases List.mem_or_eq_of_mem_set hc with hc | rfl
      · exact h.zero c hc hu
      · simp [cel] at hu
    · exact pw_set h.once _ _ (fun j hj _ hu => fnd_none cs key hf _ (List.getElem_mem hj) hu)
    · intro c hc
      rw [List.getLast?_eq_getElem?, List.length_set, List.getElem?_set_ne, ← List.getLast?_eq_getElem?] at hc
      · exact h.last c hc
      · intro e2
        have := h.getLast (by omega)
        simp only [← e2] at this
        rw [hfree] at this; simp at this
theorem Valid.updAt {cs : List SGCell} (h : Valid cs) (key value : ByteArray) (hm : mayB key value = true) (j : Nat) (hj : j < cs.length) (hu : cs[j].f0 = true) (hk : cs[j].f1 = key) (hr : (value.size : Int) - (cs[j].f2.size : Int) ≤ free cs) : Valid (updAt cs j value) := by
  have hroom := updAt_free cs j hj hu value
  have hlen := h.len
  have hu2 := hu
  have hk2 := hk
  have e : Go.Proofs.Ytidkdbohkbfhbaa.updAt cs j value = cs.set j (cel key value) := by unfold Go.Proofs.Ytidkdbohkbfhbaa.updAt; rw [rd_get cs j hj, hu, hk]; rfl
  rw [e] at hroom ⊢
  refine ⟨by rw [List.length_set]; omega, ?_, ?_, ?_, ?_, by rw [hroom]; omega⟩
  · intro c hc hu
    rcases List.mem_or_eq_of_mem_set hc with hc | rfl
    · exact h.may c hc hu
    · exact hm
  · intro c hc hu
    rcases List.mem_or_eq_of_mem_set hc with hc | rfl
    · exact h.zero c hc hu
    · simp [cel] at hu
  · refine pw_set h.once _ _ (fun i hi hne hv => ?_)
    have := pw_get h.once i j hi hj hne hv hu2
    rw [hk2] at this
    exact this
  · intro c hc
    rw [List.getLast?_eq_getElem?, List.length_set, List.getElem?_set] at hc
    split at hc
    · rw [← Option.some.inj hc]; rfl
    · rw [← List.getLast?_eq_getElem?] at hc
      exact h.last c hc

theorem tot_sub {a b : List SGCell} (h : a.Sublist b) : tot a ≤ tot b := by
  induction h with
  | slnil => exact Nat.le_refl _
  | cons c _ ih => rw [tot_cons]; omega
  | cons_cons c _ ih => rw [tot_cons, tot_cons]; omega
theorem Valid.sub {a b : List SGCell} (h : Valid b) (hs : a.Sublist b) (hl : ∀ c, a.getLast? = some c → c.f0 = true) : Valid a := by
  have h1 := hs.length_le
  have h2 := tot_sub hs
  have h3 := h.len
  have h4 := h.room
  exact ⟨by omega, fun c hc => h.may c (hs.subset hc), fun c hc => h.zero c (hs.subset hc), h.once.sublist hs, hl, by unfold free at h4 ⊢; omega⟩
theorem trimN_sub (n : Nat) (cs : List SGCell) : (trimN n cs).Sublist cs := by
  induction n generalizing cs with
  | zero => exact List.Sublist.refl _
  | succ n ih =>
    unfold trimN
    split
    · exact List.Sublist.refl _
    · split
      · exact List.Sublist.refl _
      · exact (ih _).trans (List.take_sublist _ _)
theorem trimN_last (n : Nat) (cs : List SGCell) (hn : cs.length ≤ n) : ∀ c, (trimN n cs).getLast? = some c → c.f0 = true := by
  induction n generalizing cs with
  | zero => intro c hc; rw [trimN_zero 0 cs (by omega), List.length_eq_zero_iff.1 (by omega : cs.length = 0)] at hc; simp at hc
  | succ n ih =>
    intro c hc
    unfold trimN at hc
    split at hc
    · rename_i h0; rw [List.length_eq_zero_iff.1 h0] at hc; simp at hc
    · rename_i h0
      split at hc
      · rename_i hu
        rw [show ((cs.length : Int) - 1) = ((cs.length - 1 : Nat) : Int) by omega, rd_get cs _ (by omega)] at hu
        rw [List.getLast?_eq_getElem?, List.getElem?_eq_getElem (by omega)] at hc
        rw [← Option.some.inj hc]; exact hu
      · exact ih (cs.take (cs.length - 1)) (by rw [List.length_take]; omega) c hc
theorem delAt_sub (cs : List SGCell) (i : Nat) : (delAt cs i).Sublist cs := by
  unfold delAt
  conv => rhs; rw [← List.take_append_drop i cs]
  refine List.Sublist.append (List.Sublist.refl _) ?_
  rw [← List.drop_drop]
  exact List.drop_sublist _ _

theorem Valid.ins {cs : List SGCell} (h : Valid cs) (key value : ByteArray) : Valid (ins cs key value).1 := by
  unfold Go.Proofs.Ytidkdbohkbfhbaa.ins
  split
  · rename_i hm
    split
    · exact h
    · split
      · exact h
      · exact h.insAt key value hm (by omega) (by omega) (by omega)
  · exact h
theorem Valid.upd {cs : List SGCell} (h : Valid cs) (key value : ByteArray) : Valid (upd cs key value).1 := by
  unfold Go.Proofs.Ytidkdbohkbfhbaa.upd
  split
  · rename_i hm
    split
    · exact h
    · rename_i hf
      obtain ⟨j, hj, e, hu, hk⟩ := fnd_hit cs key (by omega)
      rw [e, rd_get cs j hj]
      split
      · exact h
      · exact h.updAt key value hm j hj hu hk (by omega)
  · exact h
theorem Valid.del {cs : List SGCell} (h : Valid cs) (key : ByteArray) : Valid (del cs key).1 := by
  unfold Go.Proofs.Ytidkdbohkbfhbaa.del
  split
  · exact h
  · exact h.sub ((trimN_sub _ _).trans (delAt_sub _ _)) (trimN_last _ _ (Nat.le_refl _))
theorem Valid.room4 {cs : List SGCell} (h : Valid cs) : 4 * cs.length + tot cs ≤ 496 := by
  have := h.room; unfold free at this; omega

/-- All slots are used: so it is where no page was parsed. -/
def Used (cs : List SGCell) : Prop := ∀ c ∈ cs, c.f0 = true
theorem Used.frs {cs : List SGCell} (h : Used cs) : frs cs = cs.length := by
  rcases Nat.lt_or_ge (Go.Proofs.Ytidkdbohkbfhbaa.frs cs) cs.length with hl | hl
  · have h1 := frs_free cs hl
    have h2 := h _ (rd_mem cs _ hl)
    rw [h1] at h2; simp at h2
  · have := frs_le cs; omega
theorem Used.ins {cs : List SGCell} (h : Used cs) (key value : ByteArray) : Used (ins cs key value).1 := by
  unfold Go.Proofs.Ytidkdbohkbfhbaa.ins
  split
  · split
    · exact h
    · split
      · exact h
      · unfold insAt
        rw [if_pos h.frs]
        intro c hc
        rcases List.mem_append.1 hc with hc | hc
        · exact h c hc
        · rw [List.mem_singleton.1 hc]; rfl
  · exact h
theorem Used.upd {cs : List SGCell} (h : Used cs) (key value : ByteArray) : Used (upd cs key value).1 := by
  unfold Go.Proofs.Ytidkdbohkbfhbaa.upd
  split
  · split
    · exact h
    · rename_i hf
      obtain ⟨j, hj, e, hu, hk⟩ := fnd_hit cs key (by omega)
      split
      · exact h
      · rw [e]
        unfold updAt
        rw [show ((j : Int)).toNat = j from rfl, rd_get cs j hj]
        intro c hc
        rcases List.mem_or_eq_of_mem_set hc with hc | rfl
        · exact h c hc
        · exact hu
  · exact h
theorem Used.sub {a b : List SGCell} (h : Used b) (hs : a.Sublist b) : Used a := fun c hc => h c (hs.subset hc)
theorem Used.del {cs : List SGCell} (h : Used cs) (key : ByteArray) : Used (del cs key).1 := by
  unfold Go.Proofs.Ytidkdbohkbfhbaa.del
  split
  · exact h
  · exact h.sub ((trimN_sub _ _).trans (delAt_sub _ _))
end Go.Proofs.Ytidkdbohkbfhbaa
end
section
namespace Go.Proofs.Ytidkdbohkbfhbaa
open Go.RowKit Go.Proofs.YtidkdbohkbfhbaaW.PrintWords Go.Proofs.YtidkdbohkbfhbaaW.PrintLast Go.Proofs.YtidkdbohkbfhbaaW.PrintMore
open Rf
set_option linter.unusedVariables false
set_option linter.unusedSimpArgs false

/-- What is true of a step's cell at a place of a list of steps. -/
theorem op_at {w : World} {A : Option Addr} {n : Nat} {xs : List SGOp} (h : Kd.C kGOp w A n xs) (k : Nat) (h1 : k < n) : ∃ ad, A = some ad ∧ w.cell? (ad.add (k * 4)) = some (.int .i64 (rd_TGOp xs k).f0) ∧ w.cell? ⟨(ad.add (k * 4)).block, (ad.add (k * 4)).off + 1, none⟩ = some (.string (rd_TGOp xs k).f1) ∧ w.cell? ⟨(ad.add (k * 4)).block, (ad.add (k * 4)).off + 2, none⟩ = some (.string (rd_TGOp xs k).f2) ∧ w.cell? ⟨(ad.add (k * 4)).block, (ad.add (k * 4)).off + 3, none⟩ = some (.int .u64 (rd_TGOp xs k).f3) := by
  simpa using at_TGOp h k (by omega) (by omega)
theorem op_mem (xs : List SGOp) (k : Nat) (h : k < xs.length) : rd_TGOp xs k ∈ xs := by
  simp [rd_TGOp, List.getD_eq_getElem?_getD, List.getElem?_eq_getElem h]

theorem Small.big {cs : List SGCell} (h : Small cs) : cs.length ≤ 1000 := by have := h.1; omega
/-- A page of the call's own that is valid. -/
structure Own (w0 w : World) (g : Nat) (id : Int) : Prop where
  pg : ∃ ok lsn cs, IsPg w w0.heap.size ok g id lsn cs ∧ Valid cs ∧ Used cs ∧ 0 ≤ lsn ∧ lsn < 18446744073709551616
  bel : Below w0.heap.size w0 w

theorem Own.drew {w0 w : World} {g : Nat} {id : Int} (h : Own w0 w g id) : Own w0 w.drew g id := by
  obtain ⟨⟨ok, lsn, cs, ⟨a, b, v, h1, h2⟩, hv, hu, h0, h3⟩, hB⟩ := h
  exact ⟨⟨ok, lsn, cs, ⟨a, b, v, h1, Kd.R_drew h2⟩, hv, hu, h0, h3⟩, below_drew hB⟩
end Go.Proofs.Ytidkdbohkbfhbaa
end
section
namespace Go.Proofs.Ytidkdbohkbfhbaa
open Go.RowKit Go.Proofs.YtidkdbohkbfhbaaW.PrintWords Go.Proofs.YtidkdbohkbfhbaaW.PrintLast Go.Proofs.YtidkdbohkbfhbaaW.PrintMore
open Rf
set_option linter.unusedVariables false
set_option linter.unusedSimpArgs false

/-- Bytes as a string. -/
def mkS (L : List UInt8) : ByteArray := ⟨L.toArray⟩
theorem mkS_data (L : List UInt8) : (mkS L).data.toList = L := rfl
theorem mkS_size (L : List UInt8) : (mkS L).size = L.length := rfl
theorem mkS_of (s : ByteArray) : mkS s.data.toList = s := by apply ByteArray.ext; simp [mkS]
theorem mkS_append (a b : List UInt8) : mkS a ++ mkS b = mkS (a ++ b) := by
  apply ByteArray.ext
  rw [ByteArray.data_append]
  apply Array.ext'
  simp [mkS]
theorem mkS_app (a : List UInt8) (s : ByteArray) : mkS a ++ s = mkS (a ++ s.data.toList) := by
  conv => lhs; rw [← mkS_of s]
  exact mkS_append _ _
theorem mkS_toList (L : List UInt8) : (mkS L).toList = L := by rw [ByteArray.toList_eq]; rfl
theorem strOfNums_one (x : Nat) : strOfNums [(((x % 256 : Nat)) : Int)] = mkS [UInt8.ofNat x] := by
  apply ByteArray.ext
  apply Array.ext'
  have h : UInt8.ofNat (((x % 256 : Nat) : Int)).toNat = UInt8.ofNat x := by apply UInt8.toNat_inj.1; show (((x % 256 : Nat) : Int)).toNat % 256 = x % 256; omega
  simp only [strOfNums, mkS, List.map_cons, List.map_nil, h]

theorem le_one (x : Nat) : le x 1 = [UInt8.ofNat x] := by simp [le]
theorem num_loop (x m : Nat) (hx : x < 18446744073709551616) (hm : m ≤ 100) (d : Nat) : ∀ i, i + d = m →
    Ev (fun k => flotillaref01_Num.l0 k ((x / 2 ^ (8 * i) : Nat) : Int) m (mkS (le x i)) i) (mkS (le x m)) := by
  induction d with
  | zero =>
    intro i hi
    obtain rfl : i = m := by omega
    refine Ev.step (f := fun _ => some (mkS (le x i))) (fun k => ?_) (Ev.now _)
    simp only [flotillaref01_Num.l0]
    rw [if_neg (by omega)]
  | succ d ih =>
    intro i hi
    refine Ev.step (fun k => ?_) (ih (i + 1) (by omega))
    simp only [flotillaref01_Num.l0]
    have hb : x / 2 ^ (8 * i) < 18446744073709551616 := Nat.lt_of_le_of_lt (Nat.div_le_self _ _) hx
    generalize hy : x / 2 ^ (8 * i) = y at hb
    have e1 : Int.tmod (y : Int) 256 % 256 = ((y % 256 : Nat) : Int) := by
      rw [Int.tmod_eq_emod_of_nonneg (by omega)]; omega
    have e2 : IntKind.u64.wrap (Int.tdiv (y : Int) 256) = ((x / 2 ^ (8 * (i + 1)) : Nat) : Int) := by
      rw [Int.tdiv_eq_ediv_of_nonneg (by omega), u64w (by omega) (by omega), show 8 * (i + 1) = 8 * i + 8 by omega, Nat.pow_add, ← Nat.div_div_eq_div_mul, hy]
      omega
    rw [if_pos (by omega), e1, Option.bind_some, strOfNums_one, mkS_append, mkS_size, mkS_size, le_length, List.length_singleton, if_pos (by omega), e2, w64 (by omega) (by omega), ← hy, ← le_succ]
    rfl
theorem num_ev (x m : Nat) (hx : x < 18446744073709551616) (hm : m ≤ 100) : Ev (fun k => flotillaref01_Num.f k x m) (mkS (le x m)) := by
  have := num_loop x m hx hm m 0 (by omega)
  simp only [Nat.mul_zero, Nat.pow_zero, Nat.div_one] at this
  exact this

theorem cell_ev (c : SGCell) (h1 : c.f1.size ≤ 1000) (h2 : c.f2.size ≤ 1000) : Ev (fun k => flotillaref06_Cell.f k c.f0 c.f1 c.f2) (mkS (cellB c)) := by
  unfold flotillaref06_Cell.f cellB
  by_cases hc : c.f0 = true
  · simp only [hc, if_true]
    have hn := num_ev c.f1.size 1 (by omega) (by omega)
    refine Ev.bind (a := mkS (le c.f1.size 1)) ?_ ?_
    · rw [u64w (by omega) (by omega)]; exact hn
    · rw [mkS_size, le_length, if_pos (by omega), ByteArray.size_append, mkS_size, le_length, if_pos (by omega), le_one, mkS_app, mkS_app]
      exact Ev.now _
  · rw [if_neg hc]
    simp only [if_neg hc]
    exact Ev.now _

theorem free_loop (cs : List SGCell) (hS : Small cs) (id lsn : Int) (d : Nat) : ∀ i, i + d = cs.length →
    Ev (fun k => flotillaref06_Free.l0 k (496 - 4 * (cs.length : Int) - (tot (cs.take i) : Int)) i id lsn cs) (free cs) := by
  have hl := hS.1
  induction d with
  | zero =>
    intro i hi
    refine Ev.step (f := fun _ => some (free cs)) (fun k => ?_) (Ev.now _)
    simp only [flotillaref06_Free.l0]
    rw [if_neg (by omega), List.take_of_length_le (by omega)]
    rfl
  | succ d ih =>
    intro i hi
    have hil : i < cs.length := by omega
    have hm := hS.2 _ (rd_mem cs i hil)
    have ht := tot_take_le cs hS (i + 1)
    have hts := tot_take_succ cs i hil
    refine Ev.step (f := fun k => (flotillaref06_Cell.f k (rd_TGCell cs i).f0 (rd_TGCell cs i).f1 (rd_TGCell cs i).f2).bind fun t112 => flotillaref06_Free.l0 k (wrap64 (496 - 4 * (cs.length : Int) - (tot (cs.take i) : Int) - (t112.size : Int))) (wrap64 ((i : Int) + 1)) id lsn cs) (fun k => ?_) ?_
    · simp only [flotillaref06_Free.l0]
      rw [if_pos (by omega), if_pos (by omega)]
    · refine Ev.bind (cell_ev _ hm.1 hm.2) ?_
      rw [mkS_size, cellB_length, w64 (by omega) (by omega), w64 (by omega) (by omega)]
      have := ih (i + 1) (by omega)
      rw [hts] at this
      have e : 496 - 4 * (cs.length : Int) - (tot (cs.take i) : Int) - (csz (rd_TGCell cs i) : Int) = 496 - 4 * (cs.length : Int) - ((tot (cs.take i) + csz (rd_TGCell cs i) : Nat) : Int) := by omega
      rw [e]
      exact this
theorem free_ev (cs : List SGCell) (hS : Small cs) (id lsn : Int) : Ev (fun k => flotillaref06_Free.f k id lsn cs) (free cs) := by
  have hl := hS.1
  have := free_loop cs hS id lsn cs.length 0 (by omega)
  unfold flotillaref06_Free.f
  rw [w64 (x := 4 * (cs.length : Int)) (by omega) (by omega), w64 (by omega) (by omega)]
  simpa [tot] using this

theorem bt_get (s : ByteArray) (i : Nat) (h : i < s.data.toList.length) : bt s i = ((s.data.toList[i].toNat : Nat) : Int) := by
  have h2 : i < s.size := by rw [data_length] at h; exact h
  unfold bt
  rw [dif_pos (by simpa using h2)]
  simp only [Int.toNat_natCast]
  rfl
theorem rstep_lt {n x : Nat} (hn : n < 4294967296) : Crc.rstep n x < 4294967296 := by
  unfold Crc.rstep
  split
  · omega
  · exact Nat.xor_lt_two_pow (n := 32) (by omega) (by decide)
theorem more_bits (s : ByteArray) (i : Nat) (d : Nat) : ∀ (n x j : Nat), j + d = 8 → n < 4294967296 → x < 4294967296 → ∀ r, Ev (fun k => flotillaref02_More.l0 k s (Crc.rN d n x : Nat) (wrap64 ((i : Int) + 1))) r →
    Ev (fun k => flotillaref02_More.l1 k s (n : Int) i (x : Int) j) r := by
  induction d with
  | zero =>
    intro n x j hj hn hx r hr
    refine Ev.step (fun k => ?_) hr
    simp only [flotillaref02_More.l1, Crc.rN]
    rw [if_neg (by omega)]
  | succ d ih =>
    intro n x j hj hn hx r hr
    have hr' := ih (Crc.rstep n x) (x / 2) (j + 1) (by omega) (rstep_lt hn) (by omega) r hr
    refine Ev.step (fun k => ?_) hr'
    simp only [flotillaref02_More.l1]
    have e1 : Int.tmod (n : Int) 2 = ((n % 2 : Nat) : Int) := by rw [Int.tmod_eq_emod_of_nonneg (by omega)]; omega
    have e2 : Int.tmod (x : Int) 2 = ((x % 2 : Nat) : Int) := by rw [Int.tmod_eq_emod_of_nonneg (by omega)]; omega
    have e3 : Int.tdiv (n : Int) 2 % 4294967296 = ((n / 2 : Nat) : Int) := by rw [Int.tdiv_eq_ediv_of_nonneg (by omega)]; omega
    have e4 : Int.tdiv (x : Int) 2 % 4294967296 = ((x / 2 : Nat) : Int) := by rw [Int.tdiv_eq_ediv_of_nonneg (by omega)]; omega
    rw [if_pos (by omega), e1, e2, e3, e4, w64 (by omega) (by omega)]
    unfold Crc.rstep
    by_cases h : n % 2 = x % 2
    · rw [if_pos (by rw [h]), if_pos h]; rfl
    · rw [if_neg (by omega), if_neg h]
      have e5 : bits .xor .u32 ((n / 2 : Nat) : Int) 2197175160 = ((n / 2 ^^^ 2197175160 : Nat) : Int) := by
        rw [show (2197175160 : Int) = ((2197175160 : Nat) : Int) from rfl, u32_xor_nat _ _ (by omega) (by decide)]
      rw [e5]; rfl
theorem more_loop (s : ByteArray) (hs : s.size ≤ 1000000) (d : Nat) : ∀ (n i : Nat), i + d = s.size → n < 4294967296 →
    Ev (fun k => flotillaref02_More.l0 k s (n : Int) i) ((4294967295 - Crc.more n (s.data.toList.drop i) : Nat) : Int) := by
  induction d with
  | zero =>
    intro n i hi hn
    refine Ev.step (f := fun _ => some (((4294967295 - n : Nat)) : Int)) (fun k => ?_) ?_
    · simp only [flotillaref02_More.l0]
      rw [if_neg (by omega)]
      congr 1; omega
    · rw [List.drop_eq_nil_of_le (by rw [data_length]; omega)]
      exact Ev.now _
  | succ d ih =>
    intro n i hi hn
    have hil : i < s.data.toList.length := by rw [data_length]; omega
    have hx := (s.data.toList[i]).toNat_lt
    have ih' := ih (Crc.byte n (s.data.toList[i].toNat)) (i + 1) (by omega) (Crc.byte_lt hn hx)
    rw [List.drop_eq_getElem_cons hil]
    show Ev _ ((4294967295 - Crc.more (Crc.byte n (s.data.toList[i].toNat)) (s.data.toList.drop (i + 1)) : Nat) : Int)
    refine Ev.step (f := fun k => flotillaref02_More.l1 k s (n : Int) i ((s.data.toList[i].toNat : Nat) : Int) (0 : Nat)) (fun k => ?_) ?_
    · simp only [flotillaref02_More.l0]
      rw [if_pos (by omega), if_pos (by omega), bt_get s i hil, show ((s.data.toList[i].toNat : Nat) : Int) % 4294967296 = ((s.data.toList[i].toNat : Nat) : Int) by omega]
      rfl
    · refine more_bits s i 8 n _ 0 (by omega) hn (by omega) _ ?_
      rw [Crc.rN_8 n _ hx, w64 (by omega) (by omega)]
      exact ih'
theorem sum_ev (s : ByteArray) (hs : s.size ≤ 1000000) : Ev (fun k => flotillaref02_Sum.f k s) (Crc.sum s.data.toList : Int) := by
  unfold flotillaref02_Sum.f flotillaref02_More.f
  refine Ev.bind (a := (Crc.sum s.data.toList : Int)) ?_ (Ev.now _)
  have := more_loop s hs s.size 4294967295 0 (by omega) (by omega)
  rw [List.drop_zero] at this
  exact this
theorem four_f (n : Nat) (hn : n < 4294967296) : flotillaref02_Four.f n = some (mkS (le n 4)) := by
  unfold flotillaref02_Four.f
  have e0 : Int.tmod (n : Int) 256 % 256 = ((n % 256 : Nat) : Int) := by rw [Int.tmod_eq_emod_of_nonneg (by omega)]; omega
  have e1 : Int.tdiv (n : Int) 256 % 4294967296 % 256 = ((n / 256 % 256 : Nat) : Int) := by rw [Int.tdiv_eq_ediv_of_nonneg (by omega)]; omega
  have e2 : Int.tdiv (n : Int) 65536 % 4294967296 % 256 = ((n / 65536 % 256 : Nat) : Int) := by rw [Int.tdiv_eq_ediv_of_nonneg (by omega)]; omega
  have e3 : Int.tdiv (n : Int) 16777216 % 4294967296 % 256 = ((n / 16777216 % 256 : Nat) : Int) := by rw [Int.tdiv_eq_ediv_of_nonneg (by omega)]; omega
  rw [e0, e1, e2, e3]
  have h : ∀ x : Nat, UInt8.ofNat (((x % 256 : Nat) : Int)).toNat = UInt8.ofNat x := fun x => by apply UInt8.toNat_inj.1; show (((x % 256 : Nat) : Int)).toNat % 256 = x % 256; omega
  have h2 : le n 4 = [UInt8.ofNat n, UInt8.ofNat (n / 256), UInt8.ofNat (n / 65536), UInt8.ofNat (n / 16777216)] := by simp [le, List.range_succ]
  rw [h2]
  congr 1
  apply ByteArray.ext
  apply Array.ext'
  simp only [strOfNums, mkS, List.map_cons, List.map_nil, h]
end Go.Proofs.Ytidkdbohkbfhbaa
end
section
namespace Go.Proofs.Ytidkdbohkbfhbaa
open Go.RowKit Go.Proofs.YtidkdbohkbfhbaaW.PrintWords Go.Proofs.YtidkdbohkbfhbaaW.PrintLast Go.Proofs.YtidkdbohkbfhbaaW.PrintMore
open Rf
set_option linter.unusedVariables false
set_option linter.unusedSimpArgs false

theorem IsPg.drew {w : World} {base : Nat} {ok : Nat → Prop} {g : Nat} {id lsn : Int} {cs : List SGCell} (h : IsPg w base ok g id lsn cs) : IsPg w.drew base ok g id lsn cs := by
  obtain ⟨a, b, v, h1, h2⟩ := h
  exact ⟨a, b, v, h1, Kd.R_drew h2⟩
theorem mkS_ints (L : List UInt8) : strOfNums (ints L) = mkS L := by
  apply ByteArray.ext
  apply Array.ext'
  have h : ∀ x : UInt8, UInt8.ofNat (((x.toNat : Nat) : Int)).toNat = x := fun x => by simp
  simp only [strOfNums, ints, mkS, List.map_map]
  conv => rhs; rw [← List.map_id L]
  refine List.map_congr_left (fun x _ => h x)
theorem buf_string {w : World} {g : Nat} {L : List UInt8} (h : BufAt w g L) (n : Nat) (hn : L.length = n) (hl : n ≤ 1000000) : (convert 38 9 (.slice (some ⟨g, 0, none⟩) n n)).run Try.prog w = .ok (.string (mkS L)) w := by
  have hr := h.reads 0 (Nat.zero_le _) (by omega)
  rw [Nat.sub_zero, List.drop_zero, hn] at hr
  rw [string_of_reads Try.underlying38 Try.underlying5 Try.underlying9 hr, mkS_ints]
theorem pg_string {w : World} {g id lsn : Nat} {cs : List SGCell} (h : BufAt w g (pgB id lsn cs)) (hv : Valid cs) : (convert 38 9 (.slice (some ⟨g, 0, none⟩) 512 512)).run Try.prog w = .ok (.string (mkS (pgB id lsn cs))) w :=
  buf_string h 512 (pgB_length id lsn cs hv.room4) (by omega)

/-- The call's own page, as it stands in a world behind w0. -/
structure Here (w0 w : World) (ok : Nat → Prop) (g : Nat) (id lsn : Nat) (cs : List SGCell) : Prop where
  pg : IsPg w w0.heap.size ok g id lsn cs
  bel : Below w0.heap.size w0 w
  val : Valid cs
  id16 : id < 16
  lsn64 : lsn < 18446744073709551616
theorem Here.drew {w0 w : World} {ok : Nat → Prop} {g id lsn : Nat} {cs : List SGCell} (h : Here w0 w ok g id lsn cs) : Here w0 w.drew ok g id lsn cs := ⟨h.pg.drew, below_drew h.bel, h.val, h.id16, h.lsn64⟩
theorem Here.next {w0 w w' : World} {ok : Nat → Prop} {g id lsn : Nat} {cs : List SGCell} (h : Here w0 w ok g id lsn cs) (hb : Below w.heap.size w w') : Here w0 w' ok g id lsn cs := ⟨h.pg.below hb, below_then h.bel h.bel.size hb, h.val, h.id16, h.lsn64⟩
section
variable {w0 w : World} {ok : Nat → Prop} {g id lsn : Nat} {cs : List SGCell}
theorem Here.free (h : Here w0 w ok g id lsn cs) : Calls Try.prog 16 #[.pointer (some ⟨g, 0, none⟩)] w fun e w' => e = .returned (.int .i64 (free cs)) ∧ Here w0 w' ok g id lsn cs ∧ Below w.heap.size w w' :=
  (free_pg w _ ok g id lsn cs h.pg h.val.small).mono (by rintro e w' ⟨rfl, hb⟩; exact ⟨rfl, h.next hb, hb⟩)
theorem Here.get (h : Here w0 w ok g id lsn cs) (key : ByteArray) : Calls Try.prog 18 #[.pointer (some ⟨g, 0, none⟩), .string key] w fun e w' => e = .returned (.tuple #[.string (if fnd cs key < 0 then ⟨#[]⟩ else (rd_TGCell cs (fnd cs key)).f2), .bool (decide (0 ≤ fnd cs key))]) ∧ Here w0 w' ok g id lsn cs ∧ Below w.heap.size w w' :=
  (get_pg w _ ok g id lsn cs key h.pg h.val.small.big).mono (by rintro e w' ⟨rfl, hb⟩; exact ⟨rfl, h.next hb, hb⟩)
theorem Here.bytes (h : Here w0 w ok g id lsn cs) : Calls Try.prog 15 #[.pointer (some ⟨g, 0, none⟩)] w fun e w' => e = .returned (.slice (some ⟨w.heap.size, 0, none⟩) 512 512) ∧ BufAt w' w.heap.size (pgB id lsn cs) ∧ Here w0 w' ok g id lsn cs ∧ Below w.heap.size w w' :=
  (bytes_pg w _ ok g id lsn cs h.pg h.val.small h.val.room4 (by have := h.id16; omega) h.lsn64).mono (by rintro e w' ⟨rfl, hf, hb⟩; exact ⟨rfl, hf, h.next hb, hb⟩)
theorem Here.cells (h : Here w0 w ok g id lsn cs) : Calls Try.prog 17 #[.pointer (some ⟨g, 0, none⟩)] w fun e w' => ∃ A c, e = .returned (.slice A cs.length c) ∧ Kd.R kGCell 46 w' w.heap.size (fun k => w.heap.size ≤ k) (.slice A cs.length c) cs ∧ Here w0 w' ok g id lsn cs ∧ Below w.heap.size w w' :=
  (cells_pg w _ ok g id lsn cs h.pg h.val.small.big).mono (by
    rintro e w' ⟨v, rfl, hR, hb⟩
    obtain ⟨A, c, rfl⟩ := Kd.R_slice hR
    exact ⟨A, c, rfl, hR, h.next hb, hb⟩)
theorem Here.insert (h : Here w0 w ok g id lsn cs) (key value : ByteArray) : Calls Try.prog 19 #[.pointer (some ⟨g, 0, none⟩), .string key, .string value] w fun e w' => e = .returned (.int .i64 (ins cs key value).2) ∧ Here w0 w' (fun k => ok k ∨ w.heap.size ≤ k) g id lsn (ins cs key value).1 ∧ Kept w w' ok :=
  (insert_calls w0 w ok g id lsn cs key value h.bel h.pg h.val.small h.val.len).mono (by rintro e w' ⟨rfl, hp, hb, hk⟩; exact ⟨rfl, ⟨hp, hb, h.val.ins key value, h.id16, h.lsn64⟩, hk⟩)
theorem Here.update (h : Here w0 w ok g id lsn cs) (key value : ByteArray) : Calls Try.prog 26 #[.pointer (some ⟨g, 0, none⟩), .string key, .string value] w fun e w' => e = .returned (.int .i64 (upd cs key value).2) ∧ Here w0 w' (fun k => ok k ∨ w.heap.size ≤ k) g id lsn (upd cs key value).1 ∧ Kept w w' ok :=
  (update_calls w0 w ok g id lsn cs key value h.bel h.pg h.val.small).mono (by rintro e w' ⟨rfl, hp, hb, hk⟩; exact ⟨rfl, ⟨hp, hb, h.val.upd key value, h.id16, h.lsn64⟩, hk⟩)
theorem Here.delete (h : Here w0 w ok g id lsn cs) (key : ByteArray) : Calls Try.prog 20 #[.pointer (some ⟨g, 0, none⟩), .string key] w fun e w' => e = .returned (.int .i64 (del cs key).2) ∧ Here w0 w' (fun k => ok k ∨ w.heap.size ≤ k) g id lsn (del cs key).1 ∧ Kept w w' ok :=
  (delete_calls w0 w ok g id lsn cs key h.bel h.pg h.val.small.big).mono (by rintro e w' ⟨rfl, hp, hb, hk⟩; exact ⟨rfl, ⟨hp, hb, h.val.del key, h.id16, h.lsn64⟩, hk⟩)
end
theorem Own.here {w0 w : World} {g : Nat} {id : Int} (h : Own w0 w g id) (h0 : 0 ≤ id) (h1 : id < 16) : ∃ ok, ∃ id' lsn' : Nat, ∃ cs, id = id' ∧ Here w0 w ok g id' lsn' cs ∧ Used cs := by
  obtain ⟨⟨ok, lsn, cs, hp, hv, hu, h2, h3⟩, hb⟩ := h
  obtain ⟨id', rfl⟩ := Int.eq_ofNat_of_zero_le h0
  obtain ⟨lsn', rfl⟩ := Int.eq_ofNat_of_zero_le h2
  exact ⟨ok, id', lsn', cs, rfl, ⟨hp, hb, hv, by omega, by omega⟩, hu⟩

end Go.Proofs.Ytidkdbohkbfhbaa
end
section
namespace Go.Proofs.Ytidkdbohkbfhbaa
open Go.RowKit Go.Proofs.YtidkdbohkbfhbaaW.PrintWords Go.Proofs.YtidkdbohkbfhbaaW.PrintLast Go.Proofs.YtidkdbohkbfhbaaW.PrintMore
open Rf
set_option linter.unusedVariables false
set_option linter.unusedSimpArgs false

theorem rnum_calls (w : World) (x m : Nat) (hx : x < 18446744073709551616) (hm : m ≤ 100) :
    Calls Try.prog 55 #[.int .u64 x, .int .i64 m] w fun e w' => e = .returned (.string (mkS (le x m))) ∧ Below w.heap.size w w' := by
  obtain ⟨k, h⟩ := (num_ev x m hx hm).rounds
  exact flotillaref01_Num.calls k x m _ w h
theorem rnum8_calls (w : World) (x : Nat) (hx : x < 18446744073709551616) :
    Calls Try.prog 55 #[.int .u64 x, .int .i64 8] w fun e w' => e = .returned (.string (mkS (le x 8))) ∧ Below w.heap.size w w' := rnum_calls w x 8 hx (by omega)
theorem rnum2_calls (w : World) (x : Nat) (hx : x < 18446744073709551616) :
    Calls Try.prog 55 #[.int .u64 x, .int .i64 2] w fun e w' => e = .returned (.string (mkS (le x 2))) ∧ Below w.heap.size w w' := rnum_calls w x 2 hx (by omega)
theorem rcell_calls (w : World) (c : SGCell) (h1 : c.f1.size ≤ 1000) (h2 : c.f2.size ≤ 1000) :
    Calls Try.prog 54 #[.agg #[.bool c.f0, .string c.f1, .string c.f2]] w fun e w' => e = .returned (.string (mkS (cellB c))) ∧ Below w.heap.size w w' := by
  obtain ⟨k, h⟩ := (cell_ev c h1 h2).rounds
  exact flotillaref06_Cell.calls k c.f0 c.f1 c.f2 _ w h
theorem rsum_calls (w : World) (L : List UInt8) (h : L.length ≤ 1000000) :
    Calls Try.prog 45 #[.string (mkS L)] w fun e w' => e = .returned (.int .u32 (Crc.sum L)) ∧ Below w.heap.size w w' := by
  obtain ⟨k, h⟩ := (sum_ev (mkS L) (by rw [mkS_size]; exact h)).rounds
  rw [mkS_data] at h
  exact (flotillaref02_Sum.calls k (mkS L) _ w h).mono (by rintro e w' ⟨rfl, hd⟩; exact ⟨rfl, hd.below⟩)
theorem rfour_calls (w : World) (n : Nat) (h : n < 4294967296) :
    Calls Try.prog 44 #[.int .u32 n] w fun e w' => e = .returned (.string (mkS (le n 4))) ∧ Below w.heap.size w w' :=
  flotillaref02_Four.calls n _ w (four_f n h)
theorem rfree_calls (w : World) (id lsn : Int) (A : Option Addr) (c : Nat) (cs : List SGCell) (hC : Kd.C kGCell w A cs.length cs) (hc : cs.length ≤ c) (hS : Small cs) :
    Calls Try.prog 34 #[.agg #[.int .i64 id, .int .u64 lsn, .slice A cs.length c]] w fun e w' => e = .returned (.int .i64 (free cs)) ∧ Below w.heap.size w w' := by
  obtain ⟨k, h⟩ := (free_ev cs hS id lsn).rounds
  exact flotillaref06_Free.calls k id lsn A c cs _ w hC hc h

theorem tot_take_all (cs : List SGCell) (k : Nat) : tot (cs.take k) ≤ tot cs := by
  conv => rhs; rw [← List.take_append_drop k cs, tot_append]
  omega
/-- What stands ahead of the cells: the head, the slots, j noughts. -/
def preB (id lsn : Nat) (cs : List SGCell) (j : Nat) : List UInt8 := hdB id lsn cs.length ++ slotsB cs 512 ++ List.replicate j 0
theorem preB_length (id lsn : Nat) (cs : List SGCell) (j : Nat) : (preB id lsn cs j).length = 12 + 4 * cs.length + j := by
  rw [preB, List.length_append, List.length_append, hdB_length, slotsB_length, List.length_replicate]
theorem preB_zero (id lsn : Nat) (cs : List SGCell) : hdB id lsn cs.length ++ slotsB cs 512 = preB id lsn cs 0 := by rw [preB, List.replicate_zero, List.append_nil]
theorem preB_succ (id lsn : Nat) (cs : List SGCell) (j : Nat) : mkS (preB id lsn cs j) ++ (⟨#[0]⟩ : ByteArray) = mkS (preB id lsn cs (j + 1)) := by
  rw [show (⟨#[0]⟩ : ByteArray) = mkS [0] from rfl, mkS_append]
  unfold preB
  rw [List.replicate_succ', List.append_assoc, List.append_assoc]
theorem preB_all (id lsn : Nat) (cs : List SGCell) : mkS (preB id lsn cs (496 - 4 * cs.length - tot cs)) ++ mkS (cellsB cs) = mkS (bodyB id lsn cs) := by
  rw [mkS_append]
  unfold preB bodyB layB
  simp only [List.append_assoc]
theorem slots_next (cs : List SGCell) (i : Nat) (hi : i < cs.length) : slotsB (cs.take (i + 1)) 512 = slotsB (cs.take i) 512 ++ slotB (rd_TGCell cs i) (512 - tot (cs.take i) - csz (rd_TGCell cs i)) := by
  rw [rd_get cs i hi, List.take_succ_eq_append_getElem hi, slotsB_snoc]
theorem cells_next (cs : List SGCell) (i : Nat) (hi : i < cs.length) : cellsB (cs.take (i + 1)) = cellB (rd_TGCell cs i) ++ cellsB (cs.take i) := by
  rw [rd_get cs i hi, List.take_succ_eq_append_getElem hi, cellsB_snoc]

set_option maxRecDepth 100000 in
set_option maxHeartbeats 4000000 in
theorem rbytes_calls (w : World) (id lsn : Nat) (A : Option Addr) (c : Nat) (cs : List SGCell) (hC : Kd.C kGCell w A cs.length cs) (hS : Small cs) (hroom : 4 * cs.length + tot cs ≤ 496) (hid : id < 65536) (hlsn : lsn < 18446744073709551616) :
    Calls Try.prog 35 #[.agg #[.int .i64 id, .int .u64 lsn, .slice A cs.length c]] w fun e w' => e = .returned (.string (mkS (pgB id lsn cs))) ∧ Below w.heap.size w w' := by
  have HC := Aside0.mk hC
  have HS := Aside0.mk hS
  have HL := Aside0.mk hlsn
  have HR := Aside0.mk hroom
  clear hC hS hlsn hroom
  go_enter Try.func35, Try.ntmps35
  go_wp2_with fail
  have hb0 : Below w.heap.size w (w.alloc (.cells #[.int .i64 id, .int .u64 lsn, .slice A cs.length c] 33)) := below_alloc (Below.refl _ _) _
  have hx0 : (w.alloc (.cells #[.int .i64 id, .int .u64 lsn, .slice A cs.length c] 33)).cell? ⟨w.heap.size, 0, none⟩ = some (.int .i64 id) := blk_cell (heap_alloc_new w _) 0
  have hx1 : (w.alloc (.cells #[.int .i64 id, .int .u64 lsn, .slice A cs.length c] 33)).cell? ⟨w.heap.size, 1, none⟩ = some (.int .u64 lsn) := blk_cell (heap_alloc_new w _) 1
  have hx2 : (w.alloc (.cells #[.int .i64 id, .int .u64 lsn, .slice A cs.length c] 33)).cell? ⟨w.heap.size, 2, none⟩ = some (.slice A cs.length c) := blk_cell (heap_alloc_new w _) 2
  generalize w.alloc (.cells #[.int .i64 id, .int .u64 lsn, .slice A cs.length c] 33) = wb at hb0 hx0 hx1 hx2 ⊢
  have HX0 := Aside0.mk hx0
  have HX1 := Aside0.mk hx1
  have HX2 := Aside0.mk hx2
  have HB0 := Aside0.mk hb0
  have HCB := Aside0.mk (Kd.C_below HC.out hb0)
  have hl := HS.out.1
  clear hb0 hx0 hx1 hx2
  go_loopg [3, 4, 5] cs.length (fun gk v3 v4 v5 wr => ∃ k : Nat, Aside0 (k + gk = cs.length) ∧ v3 = .string (mkS (slotsB (cs.take k) 512)) ∧ v4 = .string (mkS (cellsB (cs.take k))) ∧ v5 = .int .i64 k ∧ k ≤ cs.length ∧ Aside0 (Below wb.heap.size wb wr))
  case atStart => exact ⟨0, ⟨by omega⟩, rfl, rfl, rfl, by omega, ⟨Below.refl _ _⟩⟩
  case round =>
    obtain ⟨k, Hk, rfl, rfl, rfl, hkl, Hb⟩ := hrel
    have hy2 : wr.cell? ⟨w.heap.size, 2, none⟩ = some (.slice A cs.length c) := pw_cell_below Hb.out HX2.out
    by_cases hlt : k < cs.length
    · obtain ⟨ad, rfl, hc0, hc1, hc2⟩ := cell_at (Kd.C_below HCB.out Hb.out) k hlt
      have hm := HS.out.2 _ (rd_mem cs k hlt)
      have HM := Aside0.mk hm
      clear hm
      go_wp2_with fail
      refine (rcell_calls wr _ HM.out.1 HM.out.2).mono ?_
      rintro e w1 ⟨rfl, hb⟩
      have HB1 := Aside0.mk (below_then Hb.out Hb.out.size hb)
      clear hb hc0 hc1 hc2 hy2
      have hr4 : 4 * (k + 1) + tot (cs.take k) + csz (rd_TGCell cs k) ≤ 496 := by
        have h1 := tot_take_succ cs k hlt
        have h2 := tot_take_all cs (k + 1)
        have h3 := HR.out
        omega
      have hz1 : (mkS (cellB (rd_TGCell cs k))).size = csz (rd_TGCell cs k) := by rw [mkS_size, cellB_length]
      have hz2 : (mkS (cellsB (cs.take k))).size = tot (cs.take k) := by rw [mkS_size, cellsB_length]
      have hz3 : (mkS (slotsB (cs.take k) 512)).size = 4 * k := by rw [mkS_size, slotsB_length, List.length_take, Nat.min_eq_left hkl]
      have hz4 : ∀ x, (mkS (le x 2)).size = 2 := fun x => by rw [mkS_size, le_length]
      have HS1 := Aside0.mk (slots_next cs k hlt)
      have HC1 := Aside0.mk (cells_next cs k hlt)
      by_cases hu : (rd_TGCell cs k).f0 = true
      · have he : (mkS (cellB (rd_TGCell cs k))).toList.isEmpty = false := by rw [mkS_toList]; unfold cellB; rw [if_pos hu]; rfl
        have hw1 : IntKind.u64.wrap (512 - ((csz (rd_TGCell cs k) : Int) + (tot (cs.take k) : Int))) = ((512 - tot (cs.take k) - csz (rd_TGCell cs k) : Nat) : Int) := by rw [u64w (by omega) (by omega)]; omega
        have hw2 : IntKind.u64.wrap (csz (rd_TGCell cs k) : Int) = ((csz (rd_TGCell cs k) : Nat) : Int) := u64w (by omega) (by omega)
        have HU := Aside0.mk hu
        clear hu
        go_wp2_with fail
        refine (rnum_calls _ _ 2 (by omega) (by omega)).mono ?_
        rintro e w2 ⟨rfl, hb⟩
        have HB2 := Aside0.mk (below_then HB1.out HB1.out.size hb)
        clear hb
        go_wp2_with fail
        refine (rnum_calls _ _ 2 (by omega) (by omega)).mono ?_
        rintro e w3 ⟨rfl, hb⟩
        have HB3 := Aside0.mk (below_then HB2.out HB2.out.size hb)
        clear hb
        go_wp2_with fail
        go_roundg (gk - 1)
        case measure => have := Hk.out; omega
        case rel =>
          refine ⟨k + 1, ⟨by have := Hk.out; omega⟩, ?_, ?_, by simp, by omega, HB3⟩
          · rw [HS1.out, mkS_append, mkS_append]; unfold slotB; rw [if_pos HU.out, List.append_assoc]
          · rw [HC1.out, mkS_append]
      · have he : (mkS (cellB (rd_TGCell cs k))).toList.isEmpty = true := by rw [mkS_toList]; unfold cellB; rw [if_neg hu]; rfl
        have h0 : csz (rd_TGCell cs k) = 0 := by unfold csz; rw [if_neg hu]
        have HU := Aside0.mk hu
        clear hu
        go_wp2_with fail
        refine (rnum_calls _ 0 2 (by omega) (by omega)).mono ?_
        rintro e w2 ⟨rfl, hb⟩
        have HB2 := Aside0.mk (below_then HB1.out HB1.out.size hb)
        clear hb
        go_wp2_with fail
        refine (rnum_calls _ 0 2 (by omega) (by omega)).mono ?_
        rintro e w3 ⟨rfl, hb⟩
        have HB3 := Aside0.mk (below_then HB2.out HB2.out.size hb)
        clear hb
        go_wp2_with fail
        go_roundg (gk - 1)
        case measure => have := Hk.out; omega
        case rel =>
          refine ⟨k + 1, ⟨by have := Hk.out; omega⟩, ?_, ?_, by simp, by omega, HB3⟩
          · rw [HS1.out, mkS_append, mkS_append]; unfold slotB; rw [if_neg HU.out, List.append_assoc]; rfl
          · rw [HC1.out, mkS_append]
    · obtain rfl : k = cs.length := by omega
      have hy0 : wr.cell? ⟨w.heap.size, 0, none⟩ = some (.int .i64 id) := pw_cell_below Hb.out HX0.out
      have hy1 : wr.cell? ⟨w.heap.size, 1, none⟩ = some (.int .u64 lsn) := pw_cell_below Hb.out HX1.out
      rw [List.take_length]
      have hwi : IntKind.u64.wrap (id : Int) = id := u64w (by omega) (by omega)
      have hwn : IntKind.u64.wrap (cs.length : Int) = cs.length := u64w (by omega) (by omega)
      have hz1 : (mkS (cellsB cs)).size = tot cs := by rw [mkS_size, cellsB_length]
      have hz2 : (mkS (slotsB cs 512)).size = 4 * cs.length := by rw [mkS_size, slotsB_length]
      have hz3 : ∀ x m, (mkS (le x m)).size = m := fun x m => by rw [mkS_size, le_length]
      have hroom := HR.out
      have HQ := Aside0.mk (below_drew Hb.out)
      go_wp2_with fail
      have hq1 : ¬ 9223372036854775807 < 12 + 4 * cs.length := by omega
      go_region_held3 (fun wx => wx.cell? ⟨w.heap.size, 0, none⟩ = some (.int .i64 id) ∧ wx.cell? ⟨w.heap.size, 1, none⟩ = some (.int .u64 lsn) ∧ wx.cell? ⟨w.heap.size, 2, none⟩ = some (.slice A cs.length c)) (go_keep) ((first | (go_at_call 55; with_reducible refine (rnum8_calls _ lsn HL.out).mono ?_; rintro e wq ⟨rfl, hb⟩; have HQ := Aside0.mk (below_then HQ.out HQ.out.size hb); clear hb; have q0 := pw_cell_below HQ.out HX0.out; have q1 := pw_cell_below HQ.out HX1.out; have q2 := pw_cell_below HQ.out HX2.out) | (go_at_call 55; with_reducible refine (rnum2_calls _ id (by omega)).mono ?_; rintro e wq ⟨rfl, hb⟩; have HQ := Aside0.mk (below_then HQ.out HQ.out.size hb); clear hb; have q0 := pw_cell_below HQ.out HX0.out; have q1 := pw_cell_below HQ.out HX1.out; have q2 := pw_cell_below HQ.out HX2.out) | (go_at_call 55; with_reducible refine (rnum2_calls _ cs.length (by omega)).mono ?_; rintro e wq ⟨rfl, hb⟩; have HQ := Aside0.mk (below_then HQ.out HQ.out.size hb); clear hb; have q0 := pw_cell_below HQ.out HX0.out; have q1 := pw_cell_below HQ.out HX1.out; have q2 := pw_cell_below HQ.out HX2.out)))
      clear q0 q1 q2
      rw [mkS_append, mkS_append, mkS_append, show le lsn 8 ++ le id 2 ++ le cs.length 2 = hdB id lsn cs.length from rfl, preB_zero]
      go_wp2_with fail
      go_loopg [8] (496 - 4 * cs.length - tot cs) (fun gk v8 wr => ∃ j : Nat, Aside0 (j + gk = 496 - 4 * cs.length - tot cs) ∧ v8 = .string (mkS (preB id lsn cs j)) ∧ j ≤ 496 - 4 * cs.length - tot cs ∧ Aside0 (wq = wr))
      case atStart => exact ⟨0, ⟨by omega⟩, rfl, by omega, ⟨rfl⟩⟩
      case round =>
        obtain ⟨j, Hj, rfl, hjl, Hw⟩ := hrel
        obtain rfl := Hw.out
        clear Hw
        have hzj : (mkS (preB id lsn cs j)).size = 12 + 4 * cs.length + j := by rw [mkS_size, preB_length]
        by_cases hj : j < 496 - 4 * cs.length - tot cs
        · have hsz0 : (⟨#[0]⟩ : ByteArray).size = 1 := rfl
          go_wp2_with fail
          rw [preB_succ]
          go_roundg (gk - 1)
          case measure => have := Hj.out; omega
          case rel => exact ⟨j + 1, ⟨by have := Hj.out; omega⟩, rfl, by omega, ⟨rfl⟩⟩
        · obtain rfl : j = 496 - 4 * cs.length - tot cs := by omega
          have HP := Aside0.mk (preB_all id lsn cs)
          have HBL := Aside0.mk (bodyB_length id lsn cs HR.out)
          have hbz : (mkS (bodyB id lsn cs)).size = 508 := by rw [mkS_size, HBL.out]
          have hz4 : (mkS (le (Crc.sum (bodyB id lsn cs)) 4)).size = 4 := by rw [mkS_size, le_length]
          go_wp2_with fail
          rw [HP.out]
          refine (rsum_calls wq (bodyB id lsn cs) (by rw [HBL.out]; omega)).mono ?_
          rintro e w5 ⟨rfl, hb⟩
          have HB5 := Aside0.mk (below_then HQ.out HQ.out.size hb)
          clear hb
          go_wp2_with fail
          refine (rfour_calls w5 _ (Crc.sum_lt _)).mono ?_
          rintro e w6 ⟨rfl, hb⟩
          have HB6 := Aside0.mk (below_then HB5.out HB5.out.size hb)
          clear hb
          go_wp2_with fail
          go_ret
          exact ⟨by rw [mkS_append]; rfl, below_then HB0.out HB0.out.size HB6.out⟩
end Go.Proofs.Ytidkdbohkbfhbaa
end
