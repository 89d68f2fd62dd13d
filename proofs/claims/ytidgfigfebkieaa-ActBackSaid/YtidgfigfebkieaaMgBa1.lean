/- Where the functions, types and variables that sort.Slice reaches lie at this dump. 
Kinds: api.Pair, api.Act. 
The type Pair's row of the table of types. 
sort.Slice as Pairs calls it: what it leaves, at whatever length. 
A row of pairs as sort.Slice sees it, and back. 
sort.Slice over an own row of pairs, whatever its length. 
The call of page's Pairs. 
PageKeeps, the plain law: a page whose slots are all used is a map. 
Layer 7: ActTurns' walk. 
A change that was done is taken back by what it is turned round: the plain law. 
Pairs of a page at hand; a comparison of pairs. 
PLAIN: the references' Find, with, Insert, Update: what they come to. 
The document's Find, Insert, Update, Delete, as calls, by the plain laws. 
The document's Do of layer 7. 
A page of the call's own and the document's beside it; blocks B that neither touches. 
Layer 7: pair. 
Layer 7: pair, and that all slots are used. 
A page of the call's own and a row of anything beside it; blocks B that neither touches. 
Layer 7: Plan, alike, pair. 
Layer 7: ActDoes' walk. -/
import Derived.Shelf.GgSortFunc.Lays
import Derived.Test.YtidgfigfebkieaaProg
import Derived.Test.YtidgfigfebkieaaRfT
import Derived.Deep.QuietTactic
import Derived.Shelf.SlSortFuncK.WholeK
import Derived.Shelf.GgSortFunc.Tiny
import Derived.Sort.OwnSorted
import Derived.Test.YtidgfigfebkieaaMgDo2
import Derived.Test.YtidgfigfebkieaaRf3
import Derived.Test.YtidgfigfebkieaaRf4
section
namespace Go.Proofs.Ytidgfigfebkieaa
open Go.Shelf Go.Proofs
def Try.sl6_ren : Go.Shelf.Ren := ⟨fun | 6 => 45 | 10 => 67 | 11 => 68 | 12 => 69 | 13 => 70 | 14 => 71 | 24 => 84 | 25 => 85 | 26 => 86 | 27 => 87 | 28 => 88 | 29 => 89 | 30 => 90 | 31 => 91 | 32 => 92 | 33 => 93 | 34 => 94 | 35 => 95 | 36 => 96 | 37 => 97 | 38 => 98 | 39 => 99 | n => n, fun | 20 => 20 | 26 => 100 | 35 => 114 | 0 => 0 | 37 => 116 | 3 => 3 | 41 => 119 | 44 => 122 | 49 => 88 | 51 => 29 | 4 => 4 | 54 => 135 | 53 => 134 | 58 => 139 | 5 => 5 | 9 => 9 | 60 => 141 | 64 => 145 | 66 => 147 | 67 => 148 | 17 => 17 | 32 => 111 | 33 => 112 | 82 => 163 | 12 => 12 | 75 => 156 | 76 => 157 | 77 => 158 | 78 => 159 | 79 => 160 | 80 => 161 | n => n, fun n => n⟩
theorem Try.sl6 : LaysGg.n6 Try.prog Try.sl6_ren := {
  mixed := by kernel_rfl,
  f6 := Try.func45.trans (congrArg some (by kernel_rfl)),
  f10 := Try.func67.trans (congrArg some (by kernel_rfl)),
  f11 := Try.func68.trans (congrArg some (by kernel_rfl)),
  f12 := Try.func69.trans (congrArg some (by kernel_rfl)),
  f13 := Try.func70.trans (congrArg some (by kernel_rfl)),
  f14 := Try.func71.trans (congrArg some (by kernel_rfl)),
  f24 := Try.func84.trans (congrArg some (by kernel_rfl)),
  f25 := Try.func85.trans (congrArg some (by kernel_rfl)),
  f26 := Try.func86.trans (congrArg some (by kernel_rfl)),
  f27 := Try.func87.trans (congrArg some (by kernel_rfl)),
  f28 := Try.func88.trans (congrArg some (by kernel_rfl)),
  f29 := Try.func89.trans (congrArg some (by kernel_rfl)),
  f30 := Try.func90.trans (congrArg some (by kernel_rfl)),
  f31 := Try.func91.trans (congrArg some (by kernel_rfl)),
  f32 := Try.func92.trans (congrArg some (by kernel_rfl)),
  f33 := Try.func93.trans (congrArg some (by kernel_rfl)),
  f34 := Try.func94.trans (congrArg some (by kernel_rfl)),
  f35 := Try.func95.trans (congrArg some (by kernel_rfl)),
  f36 := Try.func96.trans (congrArg some (by kernel_rfl)),
  f37 := Try.func97.trans (congrArg some (by kernel_rfl)),
  f38 := Try.func98.trans (congrArg some (by kernel_rfl)),
  f39 := Try.func99.trans (congrArg some (by kernel_rfl)),
  t0 := Try.underlying0,
  a0 := Try.isAgg0,
  z0 := Try.sizeOf0,
  v0 := Try.zeroValue0,
  i0 := by kernel_rfl,
  t3 := Try.underlying3,
  a3 := Try.isAgg3,
  z3 := Try.sizeOf3,
  v3 := Try.zeroValue3,
  i3 := by kernel_rfl,
  t4 := Try.underlying4,
  a4 := Try.isAgg4,
  z4 := Try.sizeOf4,
  v4 := Try.zeroValue4,
  i4 := by kernel_rfl,
  t5 := Try.underlying5,
  a5 := Try.isAgg5,
  z5 := Try.sizeOf5,
  v5 := Try.zeroValue5,
  i5 := by kernel_rfl,
  t9 := Try.underlying9,
  a9 := Try.isAgg9,
  z9 := Try.sizeOf9,
  v9 := Try.zeroValue9,
  i9 := by kernel_rfl,
  t12 := Try.underlying12,
  a12 := Try.isAgg12,
  z12 := Try.sizeOf12,
  v12 := Try.zeroValue12,
  i12 := by kernel_rfl,
  t17 := Try.underlying17,
  a17 := Try.isAgg17,
  z17 := Try.sizeOf17,
  v17 := Try.zeroValue17,
  i17 := by kernel_rfl,
  t20 := Try.underlying20,
  a20 := Try.isAgg20,
  z20 := Try.sizeOf20,
  v20 := Try.zeroValue20,
  i20 := by kernel_rfl,
  t26 := Try.underlying100,
  a26 := Try.isAgg100,
  z26 := Try.sizeOf100,
  v26 := Try.zeroValue100,
  i26 := by kernel_rfl,
  t32 := Try.underlying111,
  a32 := Try.isAgg111,
  z32 := Try.sizeOf111,
  v32 := Try.zeroValue111,
  i32 := by kernel_rfl,
  t33 := Try.underlying112,
  a33 := Try.isAgg112,
  z33 := Try.sizeOf112,
  v33 := Try.zeroValue112,
  i33 := by kernel_rfl,
  t35 := Try.underlying114,
  a35 := Try.isAgg114,
  z35 := Try.sizeOf114,
  v35 := Try.zeroValue114,
  i35 := by kernel_rfl,
  t37 := Try.underlying116,
  a37 := Try.isAgg116,
  z37 := Try.sizeOf116,
  v37 := Try.zeroValue116,
  i37 := by kernel_rfl,
  t41 := Try.underlying119,
  a41 := Try.isAgg119,
  z41 := Try.sizeOf119,
  v41 := Try.zeroValue119,
  i41 := by kernel_rfl,
  t44 := Try.underlying122,
  a44 := Try.isAgg122,
  z44 := Try.sizeOf122,
  v44 := Try.zeroValue122,
  i44 := by kernel_rfl,
  t49 := Try.underlying88,
  a49 := Try.isAgg88,
  z49 := Try.sizeOf88,
  v49 := Try.zeroValue88,
  i49 := by kernel_rfl,
  t51 := Try.underlying29,
  a51 := Try.isAgg29,
  z51 := Try.sizeOf29,
  v51 := Try.zeroValue29,
  i51 := by kernel_rfl,
  t53 := Try.underlying134,
  a53 := Try.isAgg134,
  z53 := Try.sizeOf134,
  v53 := Try.zeroValue134,
  i53 := by kernel_rfl,
  t54 := Try.underlying135,
  a54 := Try.isAgg135,
  z54 := Try.sizeOf135,
  v54 := Try.zeroValue135,
  i54 := by kernel_rfl,
  t58 := Try.underlying139,
  a58 := Try.isAgg139,
  z58 := Try.sizeOf139,
  v58 := Try.zeroValue139,
  i58 := by kernel_rfl,
  t60 := Try.underlying141,
  a60 := Try.isAgg141,
  z60 := Try.sizeOf141,
  v60 := Try.zeroValue141,
  i60 := by kernel_rfl,
  t64 := Try.underlying145,
  a64 := Try.isAgg145,
  z64 := Try.sizeOf145,
  v64 := Try.zeroValue145,
  i64 := by kernel_rfl,
  t66 := Try.underlying147,
  a66 := Try.isAgg147,
  z66 := Try.sizeOf147,
  v66 := Try.zeroValue147,
  i66 := by kernel_rfl,
  t67 := Try.underlying148,
  a67 := Try.isAgg148,
  z67 := Try.sizeOf148,
  v67 := Try.zeroValue148,
  i67 := by kernel_rfl,
  t75 := Try.underlying156,
  a75 := Try.isAgg156,
  z75 := Try.sizeOf156,
  v75 := Try.zeroValue156,
  i75 := by kernel_rfl,
  t76 := Try.underlying157,
  a76 := Try.isAgg157,
  z76 := Try.sizeOf157,
  v76 := Try.zeroValue157,
  i76 := by kernel_rfl,
  t77 := Try.underlying158,
  a77 := Try.isAgg158,
  z77 := Try.sizeOf158,
  v77 := Try.zeroValue158,
  i77 := by kernel_rfl,
  t78 := Try.underlying159,
  a78 := Try.isAgg159,
  z78 := Try.sizeOf159,
  v78 := Try.zeroValue159,
  i78 := by kernel_rfl,
  t79 := Try.underlying160,
  a79 := Try.isAgg160,
  z79 := Try.sizeOf160,
  v79 := Try.zeroValue160,
  i79 := by kernel_rfl,
  t80 := Try.underlying161,
  a80 := Try.isAgg161,
  z80 := Try.sizeOf161,
  v80 := Try.zeroValue161,
  i80 := by kernel_rfl,
  t82 := Try.underlying163,
  a82 := Try.isAgg163,
  z82 := Try.sizeOf163,
  v82 := Try.zeroValue163,
  i82 := by kernel_rfl }
end Go.Proofs.Ytidgfigfebkieaa
end
section
namespace Go.Proofs.Ytidgfigfebkieaa.Rf
open Go.RowKit Go.Proofs.YtidgfigfebkieaaW.PrintWords Go.Proofs.YtidgfigfebkieaaW.PrintLast Go.Proofs.YtidgfigfebkieaaW.PrintMore
set_option linter.unusedVariables false
structure SGPair where
  f0 : ByteArray
  f1 : ByteArray
def zGPair : SGPair := ⟨(⟨#[]⟩ : ByteArray), (⟨#[]⟩ : ByteArray)⟩
def kGPair : Kd SGPair := Kd.iso (Kd.pair Kd.string Kd.string) (fun x : SGPair => (x.f0, x.f1))
theorem kGPair_open {w : World} {x : SGPair} {cs : List Value} (h : kGPair.K w x cs) : cs = [.string x.f0, .string x.f1] := by
  obtain ⟨_, _, rfl, rfl, rfl⟩ := h
  exact rfl
theorem kGPair_openM {w : World} {base : Nat} {ok : Nat → Prop} {x : SGPair} {cs : List Value} (h : kGPair.M w base ok x cs) : cs = [.string x.f0, .string x.f1] := by
  obtain ⟨_, _, rfl, rfl, rfl⟩ := h
  exact rfl
theorem kGPair_mk (w : World) (x : SGPair)  : kGPair.K w x [.string x.f0, .string x.f1] := ⟨[.string x.f0], [.string x.f1], rfl, rfl, rfl⟩
theorem kGPair_mkM (w : World) (base : Nat) (ok : Nat → Prop) (x : SGPair)  : kGPair.M w base ok x [.string x.f0, .string x.f1] := ⟨[.string x.f0], [.string x.f1], rfl, rfl, rfl⟩
def rd_TGPair (xs : List SGPair) (i : Int) : SGPair := xs.getD i.toNat zGPair
theorem at_TGPair {w : World} {A : Option Addr} {n : Nat} {xs : List SGPair} (h : Kd.C kGPair w A n xs) (i : Int) (h0 : 0 ≤ i) (h1 : i < n) : ∃ ad , A = some ad ∧ w.cell? (ad.add (i.toNat * 2)) = some (.string (rd_TGPair xs i).f0) ∧ w.cell? ⟨(ad.add (i.toNat * 2)).block, (ad.add (i.toNat * 2)).off + 1, none⟩ = some (.string (rd_TGPair xs i).f1) := by
  obtain ⟨ad, c, e, _, hK, hc0⟩ := Kd.C_get h zGPair i h0 h1
  have hc : ∀ j u, c[j]? = some u → w.cell? (ad.add (i.toNat * 2 + j)) = some u := hc0
  obtain rfl := kGPair_open hK
  exact ⟨ad, e, hc 0 _ rfl, by rw [← add_field _ _ 1 (by omega)]; exact hc 1 _ rfl⟩
structure SGAct where
  f0 : Int
  f1 : ByteArray
  f2 : ByteArray
  f3 : ByteArray
def zGAct : SGAct := ⟨0, (⟨#[]⟩ : ByteArray), (⟨#[]⟩ : ByteArray), (⟨#[]⟩ : ByteArray)⟩
def kGAct : Kd SGAct := Kd.iso (Kd.pair (Kd.int .i64) (Kd.pair Kd.string (Kd.pair Kd.string Kd.string))) (fun x : SGAct => (x.f0, x.f1, x.f2, x.f3))
theorem kGAct_open {w : World} {x : SGAct} {cs : List Value} (h : kGAct.K w x cs) : cs = [.int .i64 x.f0, .string x.f1, .string x.f2, .string x.f3] := by
  obtain ⟨_, _, rfl, rfl, ⟨_, _, rfl, rfl, ⟨_, _, rfl, rfl, rfl⟩⟩⟩ := h
  exact rfl
theorem kGAct_mk (w : World) (x : SGAct) : kGAct.K w x [.int .i64 x.f0, .string x.f1, .string x.f2, .string x.f3] := ⟨[.int .i64 x.f0], [.string x.f1, .string x.f2, .string x.f3], rfl, rfl, ⟨[.string x.f1], [.string x.f2, .string x.f3], rfl, rfl, ⟨[.string x.f2], [.string x.f3], rfl, rfl, rfl⟩⟩⟩
def rd_TGAct (xs : List SGAct) (i : Int) : SGAct := xs.getD i.toNat zGAct
theorem at_TGAct {w : World} {A : Option Addr} {n : Nat} {xs : List SGAct} (h : Kd.C kGAct w A n xs) (i : Int) (h0 : 0 ≤ i) (h1 : i < n) : ∃ ad , A = some ad ∧ w.cell? (ad.add (i.toNat * 4)) = some (.int .i64 (rd_TGAct xs i).f0) ∧ w.cell? ⟨(ad.add (i.toNat * 4)).block, (ad.add (i.toNat * 4)).off + 1, none⟩ = some (.string (rd_TGAct xs i).f1) ∧ w.cell? ⟨(ad.add (i.toNat * 4)).block, (ad.add (i.toNat * 4)).off + 2, none⟩ = some (.string (rd_TGAct xs i).f2) ∧ w.cell? ⟨(ad.add (i.toNat * 4)).block, (ad.add (i.toNat * 4)).off + 3, none⟩ = some (.string (rd_TGAct xs i).f3) := by
  obtain ⟨ad, c, e, _, hK, hc0⟩ := Kd.C_get h zGAct i h0 h1
  have hc : ∀ j u, c[j]? = some u → w.cell? (ad.add (i.toNat * 4 + j)) = some u := hc0
  obtain rfl := kGAct_open hK
  exact ⟨ad, e, hc 0 _ rfl, by rw [← add_field _ _ 1 (by omega)]; exact hc 1 _ rfl, by rw [← add_field _ _ 2 (by omega)]; exact hc 2 _ rfl, by rw [← add_field _ _ 3 (by omega)]; exact hc 3 _ rfl⟩
end Go.Proofs.Ytidgfigfebkieaa.Rf
end
section
namespace Go.Proofs.Ytidgfigfebkieaa.Rf
theorem info79 : (Try.prog.info? 79).map (fun i => (i.zero, i.size, i.bytes)) = some (some (.agg #[(.string ⟨#[]⟩), (.string ⟨#[]⟩)]), 2, 32) := by kernel_rfl
end Go.Proofs.Ytidgfigfebkieaa.Rf
end
section
namespace Go.Proofs.Ytidgfigfebkieaa
open Go.Shelf Go.RowKit Go.Lib Go.Sort Go.Proofs
open Rf
set_option linter.unusedVariables false

instance instInhabSGPair : Inhabited SGPair := ⟨zGPair⟩
noncomputable def svT : TypeInfo := (Try.prog.info? 41).get (by kernel_rfl)
noncomputable def svE : TypeInfo := (Try.prog.info? 79).get (by kernel_rfl)
theorem svK (n : Nat) (h2 : 2 ≤ n) : Lib.swapperK n svE 25 = 9 := by
  have a : svE.hasPointers = true := by kernel_rfl
  have b : svE.bytes = 32 := by kernel_rfl
  have c : (n == 0) = false := by simp; omega
  have d : (n == 1) = false := by simp; omega
  simp [Lib.swapperK, a, b, c, d]
/-- A Pair: its two cells. -/
def encP (p : SGPair) : List Value := [.string p.f0, .string p.f1]
/-- less: by the key's bytes. -/
def ltKey (a b : SGPair) : Bool := Op.bytesLess a.f0.toList b.f0.toList
theorem swo_ltKey : SWO ltKey where
  irrefl x := by simp [ltKey, bytesLess_eq, List.lt_irrefl]
  trans x y z h1 h2 := by simp only [ltKey, bytesLess_eq, decide_eq_true_eq] at *; exact List.lt_trans h1 h2
  ntrans x y z h1 h2 := by
    simp only [ltKey, bytesLess_eq, decide_eq_false_iff_not, List.not_lt] at *
    exact List.le_trans h2 h1
theorem less_calls (blk off c Bs size : Nat) (W : World) (G : Nat → ByteArray) (hs : W.cell? ⟨Bs, 0, none⟩ = some (.slice (some ⟨blk, off, none⟩) size c))
    (hc : ∀ t, t < size → W.cell? ⟨blk, off + t * 2, none⟩ = some (.string (G t))) (i j : Nat) (hi : i < size) (hj : j < size) (_hsz : size < 4611686018427387904) :
    Calls Try.prog 46 #[.int .i64 i, .int .i64 j, .pointer (some ⟨Bs, 0, none⟩)] W fun e w' => e = .returned (.bool (Op.bytesLess (G i).toList (G j).toList)) ∧ ∃ q, w' = W.drewN q := by
  have ci := hc i hi
  have cj := hc j hj
  go_enter Try.func46, Try.ntmps46
  go_wp2
  go_quiet (fail)
  go_wp2
  go_ret
  exact ⟨rfl, nq, rfl⟩
/-- Two or more. -/
theorem sort_calls (blk off c Bs : Nat) (d : Array SGPair) (h2 : 2 ≤ d.size) (hsz : d.size < 4611686018427387904) (w : World) (hH : HoldsK encP 2 w blk off d) (hblk : blk < w.heap.size)
    (hBs : w.cell? ⟨Bs, 0, none⟩ = some (.slice (some ⟨blk, off, none⟩) d.size c)) (hB1 : Bs < w.heap.size) (hB2 : Bs ≠ blk) :
    Calls Try.prog 45 #[.iface 41 (.slice (some ⟨blk, off, none⟩) d.size c), .func (.func 46) #[] #[.pointer (some ⟨Bs, 0, none⟩)]] w fun e w' =>
      e = .returned (.tuple #[]) ∧ ∃ d' n os, PermIn 0 d.size d d' ∧ SortedIn ltKey 0 d.size d' ∧ w' = grow (putRowK encP 2 (Sort.ahead w n) blk off d') os := by
  have hless : LessReadsK Try.prog 46 #[.pointer (some ⟨Bs, 0, none⟩)] encP 2 ltKey blk off d.size w := by
    intro m os dk hs i j hi hj
    have e : sortWorldK encP 2 w blk off m dk os = putRowK encP 2 (grow (Sort.ahead w m) os) blk off dk := by
      unfold sortWorldK; rw [putRowK_grow _ _ (Sort.ahead w m) _ blk off _ hblk]
    have hHg : HoldsK encP 2 (grow (Sort.ahead w m) os) blk off d := holdsK_grow _ _ _ _ blk off d hblk (holdsK_ahead _ _ _ _ _ _ _ hH)
    refine less_calls blk off c Bs d.size _ (fun t => dk[t]!.f0) ?_ (fun t ht => ?_) i j hi hj (by omega)
    · rw [e, cell?_putRowK_other _ _ _ blk off dk _ (by exact hB2), cell?_grow _ _ _ (by exact hB1)]; exact hBs
    · rw [e]; exact ((holdsK_putRowK _ _ _ blk off d dk hHg hs).cell (i := t) (c := 0) (by omega) (by omega)).1
  exact Any.sort_Slice_cells_sorted Try.sl6 41 79 svT svE (by kernel_rfl) (by kernel_rfl) (by kernel_rfl) (by kernel_rfl) 25 (fun _ => by kernel_rfl) encP 2 (fun _ => rfl) (by kernel_rfl) (fun _ => by kernel_rfl)
    (fun x v hv => by simp [encP] at hv; rcases hv with rfl | rfl <;> rfl) ltKey swo_ltKey 46 _
    (enters_of Try.func46 (by kernel_rfl) rfl) blk off c d h2 hsz 83 (by rw [svK _ h2]; kernel_rfl) false
    (fun args W => run_callFunc_extern Try.func83 (by kernel_rfl) (by kernel_rfl) (by kernel_rfl) (e := Extern.ReflectliteSwapper.swap false) (by kernel_rfl) args W) w hless hH hblk
end Go.Proofs.Ytidgfigfebkieaa
end
section
namespace Go.Proofs.Ytidgfigfebkieaa
open Go.Shelf Go.RowKit Go.Lib Go.Sort Go.Proofs
open Go.Proofs.YtidgfigfebkieaaW.PrintWords Go.Proofs.YtidgfigfebkieaaW.PrintLast Go.Proofs.YtidgfigfebkieaaW.PrintMore
open Rf
set_option linter.unusedVariables false
set_option linter.unusedSimpArgs false

def flatP (l : List SGPair) : List Value := l.flatMap encP
theorem flatP_length (l : List SGPair) : (flatP l).length = l.length * 2 := by
  induction l with
  | nil => rfl
  | cons c l ih => have h : (List.flatMap encP l).length = l.length * 2 := ih; simp only [flatP, List.flatMap_cons, List.length_append, List.length_cons, h]; simp [encP]; omega
theorem flatP_get (l : List SGPair) (t : Nat) (h : t < l.length * 2) : (flatP l)[t]? = some ((encP (l[t / 2]'(by omega)))[t % 2]!) := by
  induction l generalizing t with
  | nil => simp at h
  | cons c l ih =>
    rcases t with _ | _ | t
    · rfl
    · rfl
    · have h2 : t < l.length * 2 := by simp at h; omega
      have e1 : (t + 1 + 1) / 2 = t / 2 + 1 := by omega
      have e2 : (t + 1 + 1) % 2 = t % 2 := by omega
      have hh := ih t h2
      show (flatP l)[t]? = _
      rw [hh]
      simp only [e1, e2, List.getElem_cons_succ]
theorem flatK_toList (d : Array SGPair) : (flatK encP 2 d).toList = flatP d.toList := by
  apply List.ext_getElem?
  intro t
  by_cases ht : t < d.size * 2
  · have h1 := get_flatK encP 2 d t ht
    have hl : t < (flatK encP 2 d).size := by simpa using ht
    rw [getElem!_pos _ t hl] at h1
    rw [flatP_get d.toList t (by simpa using ht), Array.getElem?_toList, Array.getElem?_eq_getElem hl, h1]
    congr 2
    rw [getElem!_pos d (t / 2) (by omega)]
    simp
  · rw [List.getElem?_eq_none (by simp; omega), List.getElem?_eq_none (by rw [flatP_length]; simp; omega)]
theorem take_putId (cur F : Array Value) (h : F.size ≤ cur.size) : (putCells id 0 F cur).toList.take F.size = F.toList := by
  apply List.ext_getElem?
  intro j
  by_cases hj : j < F.size
  · rw [List.getElem?_take_of_lt hj, Array.getElem?_toList]
    simp [putCells, hj, show j < cur.size by omega]
  · rw [List.getElem?_take_eq_none (by omega), List.getElem?_eq_none (by simp; omega)]
theorem heap_put {w : World} {g n : Nat} {e : TypeId} {cur : Array Value} (d : Array SGPair) (os : Array Obj) (hb : w.heap[g]? = some (.cells cur e (0, 0))) :
    (grow (putRowK encP 2 (Sort.ahead w n) g 0 d) os).heap[g]? = some (.cells (putCells id 0 (flatK encP 2 d) cur) e (0, 0)) := by
  have hlt : g < w.heap.size := (Array.getElem?_eq_some_iff.1 hb).1
  rw [heap_grow_old _ _ (by simpa [putRowK, putRow, mapBlock, Sort.ahead] using hlt)]
  simp [putRowK, putRow, mapBlock, Sort.ahead, Array.getElem?_modify, hb, onCells]
theorem owns_sorted {w : World} {base g cap n m : Nat} {e : TypeId} (d d' : Array SGPair) (os : Array Obj) (hs : d'.size = d.size) (h : w.ownsRow base e 2 (.slice (some ⟨g, 0, none⟩) n cap) n (flatP d.toList)) (hn : n = d.size) (hp : 0 < n) :
    (grow (putRowK encP 2 (Sort.ahead w m) g 0 d') os).ownsRow base e 2 (.slice (some ⟨g, 0, none⟩) n cap) n (flatP d'.toList) := by
  obtain ⟨hl, h⟩ := h
  rcases h with ⟨_, h0⟩ | ⟨g', cap', cur, he, hb, hg, h1, h2, h3, h4⟩
  · omega
  · injection he with e1 _ e3
    injection e1 with e1
    injection e1 with e1 _ _
    subst e1; subst e3
    refine ⟨by rw [flatP_length]; simp [hs, hn], .inr ⟨g, cap, _, rfl, hb, heap_put d' os hg, h1, h2, by simp [putCells, h3], ?_⟩⟩
    rw [← flatK_toList, ← take_putId cur (flatK encP 2 d') (by simp [hs, h3]; omega)]
    congr 1
    simp [hs, hn]
theorem reps_flatP {R : SGPair → List Value → Prop} (hR : ∀ p c, R p c → c = encP p) (cs : List SGPair) (xs : List Value) (h : Reps R 2 cs xs) : xs = flatP cs := by
  induction cs generalizing xs with
  | nil => have := h.1; simp at this; subst this; rfl
  | cons c cs ih =>
    have h0 := hR _ _ (h.2 0 c rfl)
    simp only [Nat.zero_mul, List.drop_zero] at h0
    have hl := h.1
    simp only [List.length_cons] at hl
    have h1 : Reps R 2 cs (xs.drop 2) := by
      refine ⟨by rw [List.length_drop]; omega, fun j p hj => ?_⟩
      have := h.2 (j + 1) p hj
      rw [List.drop_drop]
      rw [Nat.add_mul, Nat.add_comm] at this
      exact this
    rw [← List.take_append_drop 2 xs, h0, ih _ h1]
    rfl
theorem flatP_drop (cs : List SGPair) (k : Nat) (hk : k ≤ cs.length) : flatP (cs.drop k) = (flatP cs).drop (k * 2) := by
  have h : flatP cs = flatP (cs.take k) ++ flatP (cs.drop k) := by simp only [flatP]; rw [← List.flatMap_append, List.take_append_drop]
  rw [h, List.drop_left' (by rw [flatP_length, List.length_take]; congr 1; omega)]
theorem flatP_reps {R : SGPair → List Value → Prop} (hR : ∀ p, R p (encP p)) (cs : List SGPair) : Reps R 2 cs (flatP cs) := by
  refine ⟨flatP_length cs, fun j p hj => ?_⟩
  obtain ⟨hl, hp⟩ := List.getElem?_eq_some_iff.1 hj
  rw [← flatP_drop cs j (by omega), List.drop_eq_getElem_cons hl]
  show R p ((encP cs[j] ++ flatP (cs.drop (j + 1))).take 2)
  rw [hp]
  exact hR p
theorem RP_flat {e : TypeId} {w : World} {base : Nat} {ok : Nat → Prop} {v : Value} {cs : List SGPair} (h : Kd.R kGPair e w base ok v cs) : w.ownsRow base e 2 v cs.length (flatP cs) := by
  obtain ⟨_, inner, ho, hr⟩ := h
  have := reps_flatP (fun p c hc => kGPair_openM hc) cs inner hr
  subst this
  exact ho
theorem RP_of_flat {e : TypeId} {w : World} {base : Nat} {ok : Nat → Prop} {v : Value} {cs : List SGPair} (hok : ∀ k, v.ownBlock = some k → ok k) (h : w.ownsRow base e 2 v cs.length (flatP cs)) : Kd.R kGPair e w base ok v cs :=
  ⟨hok, flatP cs, h, flatP_reps (fun p => kGPair_mkM _ _ _ p) cs⟩
/-- The row that is sorted holds what is asked. -/
theorem holds_of_R {e : TypeId} {w : World} {base g n cap : Nat} {ok : Nat → Prop} {l : List SGPair} (h : Kd.R kGPair e w base ok (.slice (some ⟨g, 0, none⟩) n cap) l) : HoldsK encP 2 w g 0 l.toArray := by
  have hn := (Kd.R_reads' h).1
  intro t ht
  have ht2 : t < l.length * 2 := by simpa using ht
  obtain ⟨c, hc, hM, hcell, hfr⟩ := Kd.R_elem h zGPair ((t / 2 : Nat) : Int) (by omega) (by omega)
  have hsz : kGPair.sz = 2 := rfl
  rw [Int.toNat_natCast, hsz] at hcell hfr
  rw [Int.toNat_natCast] at hM
  have hce := kGPair_openM hM
  have e1 : l.getD (t / 2) zGPair = l.toArray[t / 2]! := by
    rw [getElem!_pos _ _ (by simpa using (by omega : t / 2 < l.length))]
    simp [List.getD_eq_getElem?_getD, List.getElem?_eq_getElem (by omega : t / 2 < l.length)]
  have e2 : t / 2 * 2 + t % 2 = t := by omega
  have h1 := hcell (t % 2) ((encP l.toArray[t / 2]!)[t % 2]!) (by
    rw [hce, e1]
    rcases Nat.mod_two_eq_zero_or_one t with hm | hm <;> rw [hm] <;> rfl)
  have h2 := hfr (t % 2)
  rw [e2] at h1 h2
  rw [Nat.zero_add, get_flatK encP 2 _ t ht2]
  exact ⟨h1, h2⟩
theorem R_sorted {w : World} {base g cap n m : Nat} {e : TypeId} {ok : Nat → Prop} {l : List SGPair} (d' : Array SGPair) (os : Array Obj) (hs : d'.size = l.length) (h : Kd.R kGPair e w base ok (.slice (some ⟨g, 0, none⟩) n cap) l) (hp : 0 < n) :
    Kd.R kGPair e (grow (putRowK encP 2 (Sort.ahead w m) g 0 d') os) base ok (.slice (some ⟨g, 0, none⟩) n cap) d'.toList := by
  have hn : l.length = n := (Kd.R_reads' h).1.symm
  have ho := RP_flat h
  rw [hn] at ho
  have := owns_sorted (m := m) l.toArray d' os (by simpa using hs) (by simpa using ho) (by simpa using hn.symm) hp
  refine RP_of_flat h.1 ?_
  rw [Array.length_toList, hs, hn]
  exact this
end Go.Proofs.Ytidgfigfebkieaa
end
section
namespace Go.Proofs.Ytidgfigfebkieaa
open Go.Shelf Go.RowKit Go.Lib Go.Sort Go.Proofs
open Go.Proofs.YtidgfigfebkieaaW.PrintWords Go.Proofs.YtidgfigfebkieaaW.PrintLast Go.Proofs.YtidgfigfebkieaaW.PrintMore
open Rf
set_option linter.unusedVariables false
set_option linter.unusedSimpArgs false

theorem grow_grown {w : World} {g n : Nat} (d : Array SGPair) (os : Array Obj) : w.grownBy (grow (putRowK encP 2 (Sort.ahead w n) g 0 d) os) (some g) := by
  refine ⟨rfl, rfl, rfl, by simp [putRowK, putRow, mapBlock, Sort.ahead, grow], fun k hk hne => ?_⟩
  rw [heap_grow_old _ _ (by simpa [putRowK, putRow, mapBlock, Sort.ahead] using hk)]
  have : g ≠ k := fun e => hne (by rw [e])
  simp [putRowK, putRow, mapBlock, Sort.ahead, Array.getElem?_modify, this]
theorem grow_only {w : World} (os : Array Obj) : w.grownBy (grow w os) none := by
  refine ⟨rfl, rfl, rfl, by simp [grow], fun k hk hne => ?_⟩
  rw [heap_grow_old _ _ hk]
/-- By rising keys. -/
def Srt (l : List SGPair) : Prop := l.Pairwise fun a b => ltKey b a = false
theorem srt_of {d : Array SGPair} {n : Nat} (h : SortedIn ltKey 0 n d) (hn : d.size = n) : Srt d.toList := by
  refine List.pairwise_iff_getElem.mpr fun i j hi hj hij => ?_
  have hi' : i < d.size := by simpa using hi
  have hj' : j < d.size := by simpa using hj
  have := h i j (Nat.zero_le _) hij (by omega)
  rw [getElem!_pos d i hi', getElem!_pos d j hj'] at this
  simpa using this
theorem sort_row (w : World) (base Bs n cap : Nat) (A : Option Addr) (ok : Nat → Prop) (l : List SGPair) (hR : Kd.R kGPair 79 w base ok (.slice A n cap) l) (hl : l.length ≤ 1000)
    (hx : w.heap[Bs]? = some (.cells #[.slice A n cap] 41)) (hne : ∀ k, ok k → k ≠ Bs) :
    Calls Try.prog 45 #[.iface 41 (.slice A n cap), .func (.func 46) #[] #[.pointer (some ⟨Bs, 0, none⟩)]] w fun e w' =>
      e = .returned (.tuple #[]) ∧ ∃ l', l'.Perm l ∧ Srt l' ∧ Kd.R kGPair 79 w' base ok (.slice A n cap) l' ∧ w.grownBy w' (Value.slice A n cap).ownBlock ∧ w'.heap[Bs]? = some (.cells #[.slice A n cap] 41) := by
  have hn : l.length = n := (Kd.R_reads' hR).1.symm
  by_cases h2 : 2 ≤ l.length
  · obtain ⟨g, cap', he, hb, hlt, _⟩ := Kd.R_form hR (by omega)
    injection he with e1 e2 e3
    subst e1
    have hg : ok g := hR.1 g rfl
    have hd : l.toArray.size = n := by simpa using hn
    have h := sort_calls g 0 cap Bs l.toArray (by simpa using h2) (by simp; omega) w (holds_of_R hR) hlt (by rw [hd]; exact blk_cell hx 0) (blk_lt hx) (fun e => hne g hg e.symm)
    rw [hd] at h
    refine h.mono ?_
    rintro e w' ⟨rfl, d', m, os, hp, hs, rfl⟩
    have hsz : d'.size = l.length := by have := hp.1; simpa using this
    refine ⟨rfl, d'.toList, ?_, srt_of hs (by rw [hsz]; exact hn), R_sorted d' os hsz hR (by omega), grow_grown d' os, blk_grown hx (grow_grown d' os) (fun e => hne g hg (by injection e with e; exact e.symm))⟩
    have hq := hp.2.2
    have e1 : d'.extract 0 n = d' := by rw [← hn, ← hsz]; exact Array.extract_size
    have e2 : l.toArray.extract 0 n = l.toArray := by rw [← hd]; exact Array.extract_size
    rw [e1, e2] at hq
    exact hq
  · have key : ∃ f, Try.prog.funcs.findIdx? (·.name == "internal/reflectlite" ++ ".Swapper$" ++ toString (Lib.swapperK n svE 25)) = some f := by
      rcases (by omega : n = 0 ∨ n = 1) with rfl | rfl
      · exact ⟨75, by rw [show Lib.swapperK 0 svE 25 = 1 from rfl]; kernel_rfl⟩
      · exact ⟨76, by rw [show Lib.swapperK 1 svE 25 = 2 from rfl]; kernel_rfl⟩
    obtain ⟨f, hf⟩ := key
    have h := Any.sort_Slice_tiny Try.sl6 41 79 svT svE (by kernel_rfl) (by kernel_rfl) (by kernel_rfl) (by kernel_rfl) 25 (fun _ => by kernel_rfl) A n cap (by omega) f hf (.func 46) #[] #[.pointer (some ⟨Bs, 0, none⟩)] w
    refine h.mono ?_
    rintro e w' ⟨rfl, os, rfl⟩
    have hg := grow_only (w := w) os
    refine ⟨rfl, l, List.Perm.refl _, ?_, Kd.R_grown hR hg (by simp), ⟨hg.os, hg.tape, hg.output, hg.size, fun k hk _ => hg.block k hk (by simp)⟩, blk_grown hx hg (by simp)⟩
    match l, hn with
    | [], _ => exact List.Pairwise.nil
    | [a], _ => exact List.pairwise_singleton _ _
    | a :: b :: r, hn => simp at h2
end Go.Proofs.Ytidgfigfebkieaa
end
section
namespace Go.Proofs.Ytidgfigfebkieaa
open Go.RowKit Go.Sort Go.Proofs.YtidgfigfebkieaaW.PrintWords Go.Proofs.YtidgfigfebkieaaW.PrintLast Go.Proofs.YtidgfigfebkieaaW.PrintMore
open Rf
set_option linter.unusedVariables false
set_option linter.unusedSimpArgs false

/-- The pairs of the used slots, in the slots' order. -/
def prs (cs : List SGCell) : List SGPair := (cs.filter (·.f0)).map fun c => ⟨c.f1, c.f2⟩
theorem prs_used (cs : List SGCell) (k : Nat) (hk : k < cs.length) (hu : (rd_TGCell cs k).f0 = true) : prs (cs.take k) ++ [⟨(rd_TGCell cs k).f1, (rd_TGCell cs k).f2⟩] = prs (cs.take (k + 1)) := by
  rw [rd_get cs k hk] at hu ⊢
  unfold prs
  conv => rhs; rw [List.take_succ_eq_append_getElem hk, List.filter_append, List.map_append]
  simp [hu]
theorem prs_free (cs : List SGCell) (k : Nat) (hk : k < cs.length) (hu : ¬ (rd_TGCell cs k).f0 = true) : prs (cs.take k) = prs (cs.take (k + 1)) := by
  rw [rd_get cs k hk] at hu
  unfold prs
  conv => rhs; rw [List.take_succ_eq_append_getElem hk, List.filter_append, List.map_append]
  simp [hu]
set_option maxRecDepth 100000 in
set_option maxHeartbeats 1000000 in
theorem pairs_calls (w : World) (g : Nat) (id lsn : Int) (A : Option Addr) (c : Nat) (cs : List SGCell)
    (hp : PgAt w g id lsn (.slice A cs.length c)) (hC : Kd.C kGCell w A cs.length cs) (hl : cs.length ≤ 1000) :
    Calls Try.prog 26 #[.pointer (some ⟨g, 0, none⟩)] w fun e w' => ∃ v l, e = .returned v ∧ Kd.R kGPair 79 w' w.heap.size (fun k => w.heap.size ≤ k) v l ∧ l.Perm (prs cs) ∧ Srt l ∧ Below w.heap.size w w' := by
  have HP := Aside0.mk hp
  have HC := Aside0.mk hC
  clear hp hC
  go_enter Try.func26, Try.ntmps26
  go_wp2_with fail
  have hb0 : Below w.heap.size w ((w.alloc (.cells #[] 79)).alloc (.cells #[.slice (some ⟨w.heap.size, 0, none⟩) 0 0] 41)) := below_alloc (below_alloc (Below.refl _ _) _) _
  have hbx : ((w.alloc (.cells #[] 79)).alloc (.cells #[.slice (some ⟨w.heap.size, 0, none⟩) 0 0] 41)).heap[w.heap.size + 1]? = some (.cells #[.slice (some ⟨w.heap.size, 0, none⟩) 0 0] 41) := by
    have := heap_alloc_new (w.alloc (.cells #[] 79)) (.cells #[.slice (some ⟨w.heap.size, 0, none⟩) 0 0] 41)
    simpa using this
  have hrw : Kd.R kGPair 79 ((w.alloc (.cells #[] 79)).alloc (.cells #[.slice (some ⟨w.heap.size, 0, none⟩) 0 0] 41)) w.heap.size (fun k => w.heap.size ≤ k ∧ k ≠ w.heap.size + 1) (.slice (some ⟨w.heap.size, 0, none⟩) 0 0) [] := by
    refine Kd.R_alloc ?_ _
    refine RP_of_flat (fun k hk => ?_) ?_
    · have : w.heap.size = k := by simpa [Value.ownBlock] using hk
      omega
    · exact World.ownsRow_lit (base := w.heap.size) (e := 79) (size := 2) w #[] 0 (Nat.le_refl _) (by simp [maxLen]) rfl
  generalize (w.alloc (.cells #[] 79)).alloc (.cells #[.slice (some ⟨w.heap.size, 0, none⟩) 0 0] 41) = w2 at hb0 hbx hrw ⊢
  refine (cells_calls w2 g id lsn A c cs (HP.out.below hb0) (Kd.C_below HC.out hb0) hl).mono ?_
  rintro e w3 ⟨v, rfl, hR, hb⟩
  obtain ⟨As, ca, rfl⟩ := Kd.R_slice hR
  have hsz2 := hb0.size
  have hsz3 := hb.size
  have hlt2 := blk_lt hbx
  have HB := Aside0.mk (below_then hb0 hb0.size hb)
  have HX := Aside0.mk ((hb.block _ (blk_lt hbx)).trans hbx)
  have HO := Aside0.mk (show Kd.R kGCell 86 w3 w.heap.size (fun q => q ≠ w.heap.size + 1 ∧ some q ≠ (Value.slice (some ⟨w.heap.size, 0, none⟩) 0 0).ownBlock) (.slice As cs.length ca) cs from Kd.R_lower (Kd.R_mono hR (fun q hq => ⟨by omega, by simp [Value.ownBlock]; omega⟩)) hsz2)
  have hne : ∀ q, (Value.slice As cs.length ca).ownBlock = some q → w2.heap.size ≤ q := fun q hq => hR.1 q hq
  have HR := Aside0.mk (show Kd.R kGPair 79 w3 w.heap.size (fun q => (w.heap.size ≤ q ∧ q ≠ w.heap.size + 1) ∧ some q ≠ (Value.slice As cs.length ca).ownBlock) (.slice (some ⟨w.heap.size, 0, none⟩) 0 0) (prs (cs.take 0)) from Kd.R_mono (Kd.R_below (Kd.R_bound hrw) hb) (fun q hq => ⟨hq.1, fun he => by have := hne q he.symm; have := hq.2.2.1; omega⟩))
  clear hb0 hbx hrw hR hb
  go_wp2_with fail
  go_loopg [5, 10] cs.length (fun gk v5 v10 wr => ∃ (k : Nat) (v : Value), Aside0 (k + gk = cs.length) ∧ v10 = .int .i64 k ∧ k ≤ cs.length ∧ Aside0 (Kd.R kGPair 79 wr w.heap.size (fun q => (w.heap.size ≤ q ∧ q ≠ w.heap.size + 1) ∧ some q ≠ (Value.slice As cs.length ca).ownBlock) v (prs (cs.take k))) ∧ Aside0 (wr.heap[w.heap.size + 1]? = some (.cells #[v] 41)) ∧ Aside0 (Kd.R kGCell 86 wr w.heap.size (fun q => q ≠ w.heap.size + 1 ∧ some q ≠ v.ownBlock) (.slice As cs.length ca) cs) ∧ Aside0 (Below w.heap.size w wr))
  case atStart => exact ⟨0, _, ⟨by omega⟩, rfl, by omega, HR, HX, HO, HB⟩
  case round =>
    obtain ⟨k, v, Hk, rfl, hkl, HR, HX, HO, HB⟩ := hrel
    by_cases hlt : k < cs.length
    · obtain ⟨ad, ea, hx0, hx1, hx2⟩ := cell_at (Kd.R_reads' HO.out).2.2 k hlt
      cases ea
      by_cases hu : (rd_TGCell cs k).f0 = true
      · rw [hu] at hx0
        have hbx0 : ∀ o, (wr.alloc o).cell? ⟨w.heap.size + 1, 0, none⟩ = some v := fun o => blk_cell (blk_alloc HX.out o) 0
        have HPL := Aside0.mk (show (prs (cs.take k)).length ≤ 1000 by unfold prs; rw [List.length_map]; refine Nat.le_trans (List.length_filter_le _ _) ?_; rw [List.length_take]; omega)
        have HAL := Aside0.mk (show ∀ q, (Value.slice (some ad) cs.length ca).ownBlock = some q → q < wr.heap.size from Kd.R_lt HO.out)
        have HSW := Aside0.mk HB.out.size
        have HBL := Aside0.mk (blk_lt HX.out)
        clear hne hsz2 hsz3 hlt2
        go_wp2_with (at_builtin; refine Kd.R_append kGPair (w0 := w) w.heap.size rfl (.tmp 16) (.tmp 22) 41 79 (.agg #[(.string ⟨#[]⟩), (.string ⟨#[]⟩)]) 32 rfl Try.underlying41 Rf.info79 rfl (by decide) (by omega) v (prs (cs.take k)) ⟨(rd_TGCell cs k).f1, (rd_TGCell cs k).f2⟩ [.string (rd_TGCell cs k).f1, .string (rd_TGCell cs k).f2] (fun q => (w.heap.size ≤ q ∧ q ≠ w.heap.size + 1) ∧ some q ≠ (Value.slice (some ad) cs.length ca).ownBlock) (fun _ => False) rfl (by first | rfl | (go_simp; done) | (simp [Act.eval, World.alloc]; done)) (kGPair_mkM _ _ _ ⟨_, _⟩) (fun _ h => h.elim) (fun q hq => ⟨⟨by have := HSW.out; simp at hq; omega, by have := HBL.out; simp at hq; omega⟩, fun he => by have := HAL.out q he.symm; simp at hq; omega⟩) (Kd.R_alloc HR.out _) (below_alloc HB.out _) (by have := HSW.out; simp; omega) (by have := HPL.out; omega) ?_; intro v1 w1 ho hb hg hat; obtain ⟨A1, c1, rfl⟩ := Kd.R_slice ho; have HX1 := Aside0.mk (blk_grown (blk_alloc HX.out _) hg (fun he => ((HR.out.1 _ he.symm).1.2 rfl))); have q0 : w1.cell? ⟨w.heap.size + 1, 0, none⟩ = some v := blk_cell HX1.out 0; have qf := blk_frozen HX1.out 0; have HR1 := Aside0.mk ho; have HB1 := Aside0.mk hb; have HO1 := Aside0.mk (Kd.R_after (Kd.R_alloc HO.out _) hg hat); have HL1 := Aside0.mk hg.size; clear ho hb hg hat)
        go_roundg (gk - 1)
        case measure => have := Hk.out; omega
        case rel =>
          refine ⟨k + 1, _, ⟨by have := Hk.out; omega⟩, by simp, by omega, ⟨?_⟩, ⟨blk_set HX1.out 0 _⟩, ⟨by have h := Kd.R_far (p := ⟨w.heap.size + 1, 0, none⟩) HO1.out (fun _ hk => hk.1) (.slice A1 ((prs (cs.take k)).length + 1) c1); simp only [List.length_append, List.length_singleton] at h; exact h⟩, ⟨below_set HB1.out (by show w.heap.size ≤ w.heap.size + 1; omega)⟩⟩
          rw [← prs_used cs k hlt hu]
          have h := Kd.R_far (p := ⟨w.heap.size + 1, 0, none⟩) HR1.out (fun _ hk => hk.1.2) (.slice A1 ((prs (cs.take k)).length + 1) c1)
          simp only [List.length_append, List.length_singleton] at h
          exact h
      · have hu2 : (rd_TGCell cs k).f0 = false := by simpa using hu
        rw [hu2] at hx0
        go_wp2_with fail
        go_roundg (gk - 1)
        case measure => have := Hk.out; omega
        case rel =>
          refine ⟨k + 1, v, ⟨by have := Hk.out; omega⟩, by simp, by omega, ⟨?_⟩, ⟨blk_alloc HX.out _⟩, ⟨Kd.R_alloc HO.out _⟩, ⟨below_alloc HB.out _⟩⟩
          rw [← prs_free cs k hlt hu]
          exact Kd.R_alloc HR.out _
    · obtain rfl : k = cs.length := by omega
      have HR2 := HR.out
      rw [List.take_length] at HR2
      obtain ⟨Al, cl, rfl⟩ := Kd.R_slice HR2
      have hq0 : wr.cell? ⟨w.heap.size + 1, 0, none⟩ = some (.slice Al (prs cs).length cl) := blk_cell HX.out 0
      have HRR := Aside0.mk HR2
      clear HR2
      have HSL := Aside0.mk (show (prs cs).length ≤ 1000 by unfold prs; rw [List.length_map]; exact Nat.le_trans (List.length_filter_le _ _) hl)
      go_wp2_with fail
      refine (sort_row wr w.heap.size (w.heap.size + 1) _ cl Al _ (prs cs) HRR.out HSL.out HX.out (fun k hk => hk.1.2)).mono ?_
      rintro e w5 ⟨rfl, l', hperm, hsrt, hR', hg, hx'⟩
      have q5 : w5.cell? ⟨w.heap.size + 1, 0, none⟩ = some (.slice Al (prs cs).length cl) := blk_cell hx' 0
      have HB5 := Aside0.mk (HB.out.grown hg HB.out.size (fun g hg' => (hR'.1 g hg').1.1))
      have HR5 := Aside0.mk hR'
      have HP5 := Aside0.mk hperm
      have HS5 := Aside0.mk hsrt
      clear hR' hperm hsrt hg hx'
      go_wp2
      go_ret
      exact ⟨_, l', rfl, Kd.R_mono HR5.out (fun q hq => hq.1.1), HP5.out, HS5.out, HB5.out⟩
set_option maxRecDepth 100000 in
set_option maxHeartbeats 1000000 in
theorem pairs_nil (w : World) :
    Calls Try.prog 26 #[.pointer none] w fun e w' => ∃ A c, e = .returned (.slice A 0 c) ∧ Below w.heap.size w w' := by
  go_enter Try.func26, Try.ntmps26
  go_wp2_with fail
  have hb0 : Below w.heap.size w ((w.alloc (.cells #[] 79)).alloc (.cells #[.slice (some ⟨w.heap.size, 0, none⟩) 0 0] 41)) := below_alloc (below_alloc (Below.refl _ _) _) _
  have hbx : ((w.alloc (.cells #[] 79)).alloc (.cells #[.slice (some ⟨w.heap.size, 0, none⟩) 0 0] 41)).heap[w.heap.size + 1]? = some (.cells #[.slice (some ⟨w.heap.size, 0, none⟩) 0 0] 41) := by
    have := heap_alloc_new (w.alloc (.cells #[] 79)) (.cells #[.slice (some ⟨w.heap.size, 0, none⟩) 0 0] 41)
    simpa using this
  have hrw : Kd.R kGPair 79 ((w.alloc (.cells #[] 79)).alloc (.cells #[.slice (some ⟨w.heap.size, 0, none⟩) 0 0] 41)) w.heap.size (fun k => w.heap.size ≤ k ∧ k ≠ w.heap.size + 1) (.slice (some ⟨w.heap.size, 0, none⟩) 0 0) [] := by
    refine Kd.R_alloc ?_ _
    refine RP_of_flat (fun k hk => ?_) ?_
    · have : w.heap.size = k := by simpa [Value.ownBlock] using hk
      omega
    · exact World.ownsRow_lit (base := w.heap.size) (e := 79) (size := 2) w #[] 0 (Nat.le_refl _) (by simp [maxLen]) rfl
  generalize (w.alloc (.cells #[] 79)).alloc (.cells #[.slice (some ⟨w.heap.size, 0, none⟩) 0 0] 41) = w2 at hb0 hbx hrw ⊢
  refine (cells_nil w2).mono ?_
  rintro e w3 ⟨rfl, hb⟩
  have HB := Aside0.mk (below_then hb0 hb0.size hb)
  have HX := Aside0.mk ((hb.block _ (blk_lt hbx)).trans hbx)
  have HR := Aside0.mk (Kd.R_below hrw hb)
  have hq0 : w3.cell? ⟨w.heap.size + 1, 0, none⟩ = some (.slice (some ⟨w.heap.size, 0, none⟩) 0 0) := blk_cell HX.out 0
  clear hb0 hbx hrw hb
  go_wp2_with fail
  go_loopg [5, 10] 0 (fun gk v5 v10 wr => v10 = .int .i64 0 ∧ Aside0 (Kd.R kGPair 79 wr w.heap.size (fun k => w.heap.size ≤ k ∧ k ≠ w.heap.size + 1) (.slice (some ⟨w.heap.size, 0, none⟩) 0 0) []) ∧ Aside0 (wr.heap[w.heap.size + 1]? = some (.cells #[.slice (some ⟨w.heap.size, 0, none⟩) 0 0] 41)) ∧ Aside0 (Below w.heap.size w wr))
  case atStart => exact ⟨rfl, HR, HX, HB⟩
  case round =>
    obtain ⟨rfl, HR, HX, HB⟩ := hrel
    have hq0 : wr.cell? ⟨w.heap.size + 1, 0, none⟩ = some (.slice (some ⟨w.heap.size, 0, none⟩) 0 0) := blk_cell HX.out 0
    go_wp2_with fail
    refine (sort_row wr w.heap.size (w.heap.size + 1) _ 0 _ _ [] HR.out (by simp) HX.out (fun k hk => hk.2)).mono ?_
    rintro e w5 ⟨rfl, l', hperm, hsrt, hR', hg, hx'⟩
    have q5 : w5.cell? ⟨w.heap.size + 1, 0, none⟩ = some (.slice (some ⟨w.heap.size, 0, none⟩) 0 0) := blk_cell hx' 0
    have HB5 := Aside0.mk (HB.out.grown hg HB.out.size (fun g hg' => (hR'.1 g hg').1))
    clear hR' hperm hsrt hg hx'
    go_wp2
    go_ret
    exact ⟨_, _, rfl, HB5.out⟩
end Go.Proofs.Ytidgfigfebkieaa
end
section
namespace Go.Proofs.Ytidgfigfebkieaa
open Go.RowKit
open Rf
set_option linter.unusedVariables false

def pr (c : SGCell) : SGPair := ⟨c.f1, c.f2⟩
theorem prs_map {cs : List SGCell} (h : Used cs) : prs cs = cs.map pr := by
  unfold prs
  rw [List.filter_eq_self.mpr h]
  rfl
theorem prs_length {cs : List SGCell} (h : Used cs) : (prs cs).length = cs.length := by rw [prs_map h, List.length_map]
theorem rd_prs {cs : List SGCell} (h : Used cs) (k : Nat) (hk : k < cs.length) : rd_TGPair (prs cs) k = ⟨(rd_TGCell cs k).f1, (rd_TGCell cs k).f2⟩ := by
  rw [rd_get cs k hk, prs_map h]
  unfold rd_TGPair
  rw [Int.toNat_natCast, List.getD_eq_getElem?_getD, List.getElem?_map, List.getElem?_eq_getElem hk]
  rfl
/-- Where the key stands, of the first k. -/
def atk (cs : List SGCell) (key : ByteArray) (k : Nat) : Int := if fnd cs key < k then fnd cs key else -1
theorem fnd_neg {cs : List SGCell} {key : ByteArray} (h : fnd cs key < 0) : fnd cs key = -1 := by have := fnd_or cs key; omega
theorem atk_zero (cs : List SGCell) (key : ByteArray) : atk cs key 0 = -1 := by
  unfold atk
  split
  · rename_i h; exact fnd_neg (by omega)
  · rfl
theorem atk_full (cs : List SGCell) (key : ByteArray) : atk cs key cs.length = fnd cs key := by
  unfold atk
  rw [if_pos]
  have := fnd_lt cs key
  omega
theorem fnd_at {cs : List SGCell} (hv : Valid cs) (hu : Used cs) (key : ByteArray) (k : Nat) (hk : k < cs.length) : (rd_TGCell cs k).f1 = key ↔ fnd cs key = k := by
  rw [rd_get cs k hk]
  constructor
  · intro e
    have h0 : 0 ≤ fnd cs key := by
      apply Decidable.byContradiction
      intro hn
      exact fnd_none cs key (by omega) cs[k] (List.getElem_mem hk) (hu _ (List.getElem_mem hk)) e
    obtain ⟨j, hj, ej, huj, hkj⟩ := fnd_hit cs key h0
    rw [ej]
    by_cases hjk : j = k
    · rw [hjk]
    · exact absurd (hkj.trans e.symm) (pw_get hv.once j k hj hk hjk huj (hu _ (List.getElem_mem hk)))
  · intro e
    obtain ⟨j, hj, ej, huj, hkj⟩ := fnd_hit cs key (by omega)
    have : j = k := by omega
    subst this
    exact hkj
theorem atk_hit {cs : List SGCell} (hv : Valid cs) (hu : Used cs) (key : ByteArray) (k : Nat) (hk : k < cs.length) (e : ((rd_TGCell cs k).f1.toList == key.toList) = true) : atk cs key (k + 1) = k := by
  have e1 : (rd_TGCell cs k).f1 = key := by rw [beq_toList] at e; simpa using e
  have := (fnd_at hv hu key k hk).1 e1
  unfold atk
  rw [this, if_pos (by omega)]
theorem atk_miss {cs : List SGCell} (hv : Valid cs) (hu : Used cs) (key : ByteArray) (k : Nat) (hk : k < cs.length) (e : ((rd_TGCell cs k).f1.toList == key.toList) = false) : atk cs key (k + 1) = atk cs key k := by
  have e1 : ¬ (rd_TGCell cs k).f1 = key := by rw [beq_toList] at e; simpa using e
  have e2 : ¬ fnd cs key = k := fun h => e1 ((fnd_at hv hu key k hk).2 h)
  unfold atk
  split
  · rw [if_pos (by omega)]
  · rename_i h
    rw [if_neg (by omega)]
theorem fnd_own {cs : List SGCell} (hv : Valid cs) (hu : Used cs) (k : Nat) (hk : k < cs.length) : fnd cs (rd_TGCell cs k).f1 = k := (fnd_at hv hu _ k hk).1 rfl

theorem ins_cases {cs : List SGCell} (hu : Used cs) (key value : ByteArray) :
    ((ins cs key value).2 = 0 ∧ fnd cs key = -1 ∧ (ins cs key value).1 = cs ++ [cel key value]) ∨ ((ins cs key value).1 = cs ∧ (ins cs key value).2 ≠ 0 ∧ ((ins cs key value).2 = 9 → 0 ≤ fnd cs key)) := by
  unfold ins
  split
  · split
    · rename_i h; exact .inr ⟨rfl, by simp, fun _ => h⟩
    · rename_i hf
      split
      · exact .inr ⟨rfl, by simp, fun h => by simp at h⟩
      · refine .inl ⟨rfl, fnd_neg (by omega), ?_⟩
        unfold insAt
        rw [if_pos hu.frs]
  · exact .inr ⟨rfl, by simp, fun h => by simp at h⟩
theorem upd_cases {cs : List SGCell} (key value : ByteArray) :
    (∃ j : Nat, (upd cs key value).2 = 0 ∧ fnd cs key = j ∧ j < cs.length ∧ (upd cs key value).1 = updAt cs j value) ∨ ((upd cs key value).1 = cs ∧ (upd cs key value).2 ≠ 0 ∧ ((upd cs key value).2 = 8 → fnd cs key = -1)) := by
  unfold upd
  split
  · split
    · rename_i h; exact .inr ⟨rfl, by simp, fun _ => fnd_neg h⟩
    · rename_i hf
      split
      · exact .inr ⟨rfl, by simp, fun h => by simp at h⟩
      · have h1 := fnd_lt cs key
        exact .inl ⟨(fnd cs key).toNat, rfl, by omega, by omega, rfl⟩
  · exact .inr ⟨rfl, by simp, fun h => by simp at h⟩
theorem del_cases {cs : List SGCell} (hu : Used cs) (key : ByteArray) :
    (∃ j : Nat, (del cs key).2 = 0 ∧ fnd cs key = j ∧ j < cs.length ∧ (del cs key).1 = delAt cs j) ∨ ((del cs key).1 = cs ∧ (del cs key).2 = 8 ∧ fnd cs key = -1) := by
  unfold del
  split
  · rename_i h; exact .inr ⟨rfl, rfl, fnd_neg h⟩
  · rename_i hf
    have h1 := fnd_lt cs key
    exact .inl ⟨(fnd cs key).toNat, rfl, by omega, by omega, trim_used _ (hu.sub (delAt_sub _ _))⟩
theorem prs_snoc {cs : List SGCell} (hu : Used cs) (key value : ByteArray) : prs (cs ++ [cel key value]) = prs cs ++ [⟨key, value⟩] := by
  unfold prs
  simp [cel]
theorem prs_upd {cs : List SGCell} (hu : Used cs) (j : Nat) (hj : j < cs.length) (value : ByteArray) : prs (updAt cs j value) = (prs cs).set j ⟨(rd_TGPair (prs cs) j).f0, value⟩ := by
  have hu2 : Used (updAt cs j value) := by
    unfold updAt
    intro c hc
    rcases List.mem_or_eq_of_mem_set hc with hc | rfl
    · exact hu c hc
    · exact hu (rd_TGCell cs j) (rd_mem cs j hj)
  rw [prs_map hu2, rd_prs hu j hj, prs_map hu]
  unfold updAt
  rw [List.map_set]
  rfl
theorem prs_del {cs : List SGCell} (hu : Used cs) (j : Nat) : prs (delAt cs j) = (prs cs).take j ++ (prs cs).drop (j + 1) := by
  rw [prs_map (hu.sub (delAt_sub _ _)), prs_map hu]
  unfold delAt
  rw [List.map_append, List.map_take, List.map_drop]
theorem Used.nil : Used [] := fun _ h => by simp at h
end Go.Proofs.Ytidgfigfebkieaa
end
section
namespace Go.Proofs.Ytidgfigfebkieaa
open Go.RowKit Go.Proofs.YtidgfigfebkieaaW.PrintWords Go.Proofs.YtidgfigfebkieaaW.PrintLast Go.Proofs.YtidgfigfebkieaaW.PrintMore
open Rf Go.ChangeMaps
set_option linter.unusedVariables false
set_option linter.unusedSimpArgs false
theorem skip_ {b : Bool} {A B : Prop} (h : b = false) (hB : B) : if b = true then A else B := by subst h; exact hB
theorem yund : yielded.match_1 (fun _ => Option Bool) (some undef) (fun b => some b) (fun _ => none) = none := rfl
attribute [local go_sem high] yund
attribute [local go_sem high] eqA24
theorem short_calls (k : Int) (a b c : ByteArray) (w : World) (ha : a.size ≤ 140737488351232) (hb : b.size ≤ 140737488351232) (hc : c.size ≤ 140737488351232) :
    Calls Try.prog 9 #[.agg #[.int .i64 k, .string a, .string b, .string c]] w fun e w' => e = .returned (.bool (decide (a.size + b.size + c.size ≤ 1000))) ∧ Below w.heap.size w w' := by
  refine flotillalaw07_short.calls k a b c _ w ?_
  unfold flotillalaw07_short.f
  rw [w64 (x := (a.size : Int) + (b.size : Int)) (by omega) (by omega), w64 (by omega) (by omega)]
  congr 1
  rw [decide_eq_decide]
  omega
theorem refturn_calls (k : Int) (a b c : ByteArray) (w : World) : Calls Try.prog 12 #[.agg #[.int .i64 k, .string a, .string b, .string c]] w fun e w' => e = .returned (actV (actTurn k a b c)) ∧ Below w.heap.size w w' :=
  flotillaref07_Turn.calls k a b c _ _ _ _ w (refTurn k a b c)
theorem turn_may {k : Int} {a b c : ByteArray} (h : actMay k a b c = true) : actMay (turnK k) a c b = true := by
  have hf := may_fits h
  have h2 : fits a c b = true := (fits_iff a c b).2 ⟨hf.1, hf.2.1, hf.2.2.2, hf.2.2.1⟩
  rcases may_kind h with rfl | rfl | rfl
  · unfold actMay at h ⊢; rw [h2]; rw [Bool.and_eq_true] at h; exact h.2
  · unfold actMay; rw [h2]; rfl
  · unfold actMay at h ⊢; rw [h2]; rw [Bool.and_eq_true] at h; exact h.2
theorem turn_turn {k : Int} {a b c : ByteArray} (h : actMay k a b c = true) : actTurn (turnK k) a c b = (k, a, b, c) := by
  unfold actTurn
  rw [turn_may h, if_pos rfl]
  rcases may_kind h with rfl | rfl | rfl <;> rfl
end Go.Proofs.Ytidgfigfebkieaa
end
section
namespace Go.Proofs.Ytidgfigfebkieaa
open Go.RowKit Go.Sort Go.Proofs.YtidgfigfebkieaaW.PrintWords Go.Proofs.YtidgfigfebkieaaW.PrintLast Go.Proofs.YtidgfigfebkieaaW.PrintMore
open Rf
set_option linter.unusedVariables false
set_option linter.unusedSimpArgs false
theorem srt_eq {l m : List SGPair} (h : l.Perm m) (hl : Srt l) (hm : Srt m) (hu : ∀ a ∈ l, ∀ b ∈ l, a.f0 = b.f0 → a = b) : l = m := by
  refine List.Perm.eq_of_pairwise (le := fun a b => ltKey b a = false) (fun a b ha hb h1 h2 => ?_) hl hm h
  refine hu a ha b (h.mem_iff.2 hb) ?_
  simp only [ltKey, bytesLess_eq, decide_eq_false_iff_not, List.not_lt] at h1 h2
  exact toList_inj.1 (List.le_antisymm h1 h2)
theorem prs_once {cs : List SGCell} (hv : Valid cs) (hu : Used cs) : ∀ a ∈ prs cs, ∀ b ∈ prs cs, a.f0 = b.f0 → a = b := by
  rw [prs_map hu]
  intro a ha b hb hab
  obtain ⟨x, hx, rfl⟩ := List.mem_map.1 ha
  obtain ⟨y, hy, rfl⟩ := List.mem_map.1 hb
  obtain ⟨i, hi, rfl⟩ := List.mem_iff_getElem.1 hx
  obtain ⟨j, hj, rfl⟩ := List.mem_iff_getElem.1 hy
  by_cases e : i = j
  · subst e; rfl
  · exact absurd hab (pw_get hv.once i j hi hj e (hu _ hx) (hu _ hy))
theorem tot_delAt (cs : List SGCell) (j : Nat) (hj : j < cs.length) : tot (delAt cs j) + csz cs[j] = tot cs := by
  unfold delAt
  conv => rhs; rw [← List.take_append_drop j cs, List.drop_eq_getElem_cons hj, tot_append, tot_cons]
  rw [tot_append]; omega
theorem delAt_length (cs : List SGCell) (j : Nat) (hj : j < cs.length) : (delAt cs j).length = cs.length - 1 := by
  unfold delAt
  rw [List.length_append, List.length_take, List.length_drop]; omega
theorem fnd_delAt {cs : List SGCell} (hv : Valid cs) (hu : Used cs) (j : Nat) (hj : j < cs.length) : fnd (delAt cs j) cs[j].f1 < 0 := by
  apply Decidable.byContradiction
  intro hn
  obtain ⟨i, hi, _, hx, hk⟩ := fnd_hit (delAt cs j) cs[j].f1 (by omega)
  have hm : (delAt cs j)[i] ∈ delAt cs j := List.getElem_mem hi
  generalize (delAt cs j)[i] = x at hx hk hm
  have ho := hv.once
  rw [← List.take_append_drop j cs, List.drop_eq_getElem_cons hj, List.pairwise_append] at ho
  obtain ⟨_, h2, h3⟩ := ho
  rw [List.pairwise_cons] at h2
  have hju : cs[j].f0 = true := hu _ (List.getElem_mem hj)
  unfold delAt at hm
  rcases List.mem_append.1 hm with hm | hm
  · exact h3 x hm _ (List.mem_cons_self ..) hx hju hk
  · exact h2.1 x hm hju hx hk.symm
theorem actDo_fail {cs : List SGCell} (hu : Used cs) (k : Int) (a b c : ByteArray) (h : (actDo cs k a b c).2 ≠ 0) : (actDo cs k a b c).1 = cs := by
  unfold actDo at h ⊢
  split at h
  · rename_i hm
    rw [if_pos hm]
    split at h
    · rename_i k1
      rw [if_pos k1]
      rcases ins_cases hu a c with ⟨r0, _, _⟩ | ⟨r, _, _⟩
      · exact absurd r0 h
      · exact r
    · rename_i k1
      rw [if_neg k1]
      split at h
      · rename_i hw
        rw [if_pos hw]
        split at h
        · rename_i k2
          rw [if_pos k2]
          rcases upd_cases a c with ⟨j, r0, _⟩ | ⟨r, _, _⟩
          · exact absurd r0 h
          · exact r
        · rename_i k2
          rw [if_neg k2]
          rcases del_cases hu a with ⟨j, r0, _⟩ | ⟨r, _, _⟩
          · exact absurd r0 h
          · exact r
      · rename_i hw
        rw [if_neg hw]
  · rename_i hm
    rw [if_neg hm]
theorem Used.actDo {cs : List SGCell} (hu : Used cs) (k : Int) (a b c : ByteArray) : Used (actDo cs k a b c).1 := by
  unfold Go.Proofs.Ytidgfigfebkieaa.actDo
  split
  · split
    · exact hu.ins a c
    · split
      · split
        · exact hu.upd a c
        · exact hu.del a
      · exact hu
  · exact hu
theorem was_key {cs : List SGCell} {a b : ByteArray} {j : Nat} (hf : fnd cs a = j) (hj : j < cs.length) (h : wasN cs a b = 0) : cs[j].f2 = b := by
  unfold wasN at h
  rw [hf, if_neg (by omega), rd_get cs j hj] at h
  split at h
  · rename_i he
    rw [beq_toList] at he
    simpa using he
  · exact absurd h (by decide)
theorem was_mk {cs : List SGCell} {a b : ByteArray} {j : Nat} (hf : fnd cs a = j) (hj : j < cs.length) (h : cs[j].f2 = b) : wasN cs a b = 0 := by
  unfold wasN
  rw [hf, if_neg (by omega), rd_get cs j hj, h, if_pos (by simp)]
/-- What is done, and what it is turned round behind it. -/
structure Back (cs : List SGCell) (k : Int) (a b c : ByteArray) : Prop where
  may : actMay k a b c = true
  differ : (prs (actDo cs k a b c).1).Perm (prs cs) ↔ (k = 2 ∧ b = c)
  done : (actDo (actDo cs k a b c).1 (turnK k) a c b).2 = 0
  same : (prs (actDo (actDo cs k a b c).1 (turnK k) a c b).1).Perm (prs cs)
theorem do_back {cs : List SGCell} (hv : Valid cs) (hu : Used cs) (k : Int) (a b c : ByteArray) (h : (actDo cs k a b c).2 = 0) : Back cs k a b c := by
  have hm : actMay k a b c = true := by
    cases hm : actMay k a b c with
    | true => rfl
    | false => unfold actDo at h; rw [hm] at h; simp at h
  have hm2 := turn_may hm
  have hfit := may_fits hm
  rcases may_kind hm with rfl | rfl | rfl
  · have hd : actDo cs 1 a b c = ins cs a c := by unfold actDo; rw [hm]; rfl
    rw [hd] at h
    rcases ins_cases hu a c with ⟨_, rf, rc⟩ | ⟨_, r, _⟩
    · have ht : actDo (cs ++ [cel a c]) (turnK 1) a c b = (cs, 0) := by
        have hw : wasN (cs ++ [cel a c]) a c = 0 := was_mk (j := cs.length) (fnd_append cs a c (by omega)) (by simp) (by simp [cel])
        unfold actDo
        rw [hm2, if_pos rfl, if_neg (by decide), hw, if_pos rfl, if_neg (by decide), del_append cs hu a c (by omega)]
      refine ⟨hm, ⟨fun hp => ?_, fun hk => absurd hk.1 (by decide)⟩, ?_, ?_⟩
      · rw [hd, rc, prs_snoc hu] at hp
        have := hp.length_eq
        simp at this
      · rw [hd, rc, ht]
      · rw [hd, rc, ht]
    · exact absurd h r
  · have hw : wasN cs a b = 0 := by
      apply Decidable.byContradiction
      intro hw
      unfold actDo at h
      rw [hm, if_pos rfl, if_neg (by decide), if_neg hw] at h
      exact hw h
    have hd : actDo cs 2 a b c = upd cs a c := by unfold actDo; rw [hm, if_pos rfl, if_neg (by decide), hw, if_pos rfl, if_pos rfl]
    rw [hd] at h
    rcases upd_cases (cs := cs) a c with ⟨j, r0, rf, hj, rc⟩ | ⟨_, r, _⟩
    · have hb := was_key rf hj hw
      have hka : (rd_TGCell cs j).f1 = a := (fnd_at hv hu a j hj).2 rf
      have hka' : cs[j].f1 = a := by rw [← rd_get cs j hj]; exact hka
      have hju : cs[j].f0 = true := hu _ (List.getElem_mem hj)
      have hv2 : Valid (updAt cs j c) := by have := hv.upd a c; rwa [rc] at this
      have hu2 : Used (updAt cs j c) := by have := hu.upd a c; rwa [rc] at this
      have hl2 : (updAt cs j c).length = cs.length := by unfold updAt; simp
      have hj2 : j < (updAt cs j c).length := by omega
      have hs : updAt cs j c = cs.set j ⟨true, a, c⟩ := by
        unfold updAt
        rw [rd_get cs j hj, hju, hka']
      have hc2 : (updAt cs j c)[j] = ⟨true, a, c⟩ := by simp only [hs, List.getElem_set_self]
      have hf2 : fnd (updAt cs j c) a = j := (fnd_at hv2 hu2 a j hj2).1 (by rw [rd_get _ j hj2, hc2])
      have hpr : rd_TGPair (prs cs) j = ⟨a, b⟩ := by rw [rd_prs hu j hj, rd_get cs j hj, hka', hb]
      have hp : prs (updAt cs j c) = (prs cs).set j ⟨a, c⟩ := by rw [prs_upd hu j hj c, hpr]
      have hjp : j < (prs cs).length := by rw [prs_length hu]; exact hj
      have hpj : (prs cs)[j] = ⟨a, b⟩ := by
        have := hpr
        unfold rd_TGPair at this
        rwa [Int.toNat_natCast, List.getD_eq_getElem?_getD, List.getElem?_eq_getElem hjp] at this
      have hw2 : wasN (updAt cs j c) a c = 0 := was_mk hf2 hj2 (by rw [hc2])
      have hfr : free (updAt cs j c) = free cs - ((c.size : Int) - (b.size : Int)) := by have := updAt_free cs j hj hju c; rw [hb] at this; exact this
      have hup : upd (updAt cs j c) a b = (updAt (updAt cs j c) j b, 0) := by
        unfold upd
        rw [if_pos ((mayB_iff a b).2 ⟨hfit.1, hfit.2.1, hfit.2.2.1⟩), hf2, if_neg (by omega), if_neg (by rw [rd_get _ j hj2, hc2, hfr]; have := hv.room; dsimp only; omega), Int.toNat_natCast]
      have ht : actDo (updAt cs j c) (turnK 2) a c b = (updAt (updAt cs j c) j b, 0) := by
        unfold actDo
        rw [hm2, if_pos rfl, if_neg (by decide), hw2, if_pos rfl, if_pos (by decide), hup]
      have hback : prs (updAt (updAt cs j c) j b) = prs cs := by
        have hr2 : rd_TGPair (prs (updAt cs j c)) j = ⟨a, c⟩ := by rw [rd_prs hu2 j hj2, rd_get _ j hj2, hc2]
        rw [prs_upd hu2 j hj2 b, hr2, hp, List.set_set]
        have := List.set_getElem_self hjp
        rwa [hpj] at this
      refine ⟨hm, ⟨fun hq => ⟨rfl, ?_⟩, fun hq => ?_⟩, ?_, ?_⟩
      · rw [hd, rc, hp] at hq
        have hin : (⟨a, b⟩ : SGPair) ∈ (prs cs).set j ⟨a, c⟩ := hq.mem_iff.2 (by rw [← hpj]; exact List.getElem_mem hjp)
        obtain ⟨i, hi, he⟩ := List.mem_iff_getElem.1 hin
        rw [List.getElem_set] at he
        split at he
        · exact (SGPair.mk.inj he).2.symm
        · rename_i hne
          have hi' : i < (prs cs).length := by simpa using hi
          have hab : (prs cs)[i] = (prs cs)[j] := by rw [he, hpj]
          have hil : i < cs.length := by rwa [prs_length hu] at hi'
          have e1 : rd_TGPair (prs cs) i = ⟨a, b⟩ := by
            unfold rd_TGPair
            rw [Int.toNat_natCast, List.getD_eq_getElem?_getD, List.getElem?_eq_getElem hi']
            exact he
          rw [rd_prs hu i hil] at e1
          have := (fnd_at hv hu a i hil).1 (SGPair.mk.inj e1).1
          rw [rf] at this
          exact absurd (by omega) hne
      · obtain ⟨_, rfl⟩ := hq
        rw [hd, rc, hp]
        have := List.set_getElem_self hjp
        rw [hpj] at this
        rw [this]
      · rw [hd, rc, ht]
      · rw [hd, rc, ht]
        dsimp only
        rw [hback]
    · exact absurd h r
  · have hw : wasN cs a b = 0 := by
      apply Decidable.byContradiction
      intro hw
      unfold actDo at h
      rw [hm, if_pos rfl, if_neg (by decide), if_neg hw] at h
      exact hw h
    have hd : actDo cs 3 a b c = del cs a := by unfold actDo; rw [hm, if_pos rfl, if_neg (by decide), hw, if_pos rfl, if_neg (by decide)]
    rw [hd] at h
    rcases del_cases hu a with ⟨j, r0, rf, hj, rc⟩ | ⟨_, r, _⟩
    · have hb := was_key rf hj hw
      have hka : (rd_TGCell cs j).f1 = a := (fnd_at hv hu a j hj).2 rf
      have hka' : cs[j].f1 = a := by rw [← rd_get cs j hj]; exact hka
      have hju : cs[j].f0 = true := hu _ (List.getElem_mem hj)
      have hu2 : Used (delAt cs j) := hu.sub (delAt_sub _ _)
      have hl2 := delAt_length cs j hj
      have hf2 : fnd (delAt cs j) a < 0 := by have := fnd_delAt hv hu j hj; rwa [hka'] at this
      have htot := tot_delAt cs j hj
      have hcz : csz cs[j] = 1 + a.size + b.size := by unfold csz; rw [if_pos hju, hka', hb]
      have hlen := hv.len
      have hroom := hv.room
      have hfree : free (delAt cs j) = free cs + 4 + (1 + (a.size : Int) + (b.size : Int)) := by
        unfold free
        rw [hl2]; omega
      have ht : actDo (delAt cs j) (turnK 3) a c b = (delAt cs j ++ [cel a b], 0) := by
        have hdd : actDo (delAt cs j) (turnK 3) a c b = ins (delAt cs j) a b := by unfold actDo; rw [hm2, if_pos rfl, if_pos (by decide)]
        rw [hdd]
        rcases ins_room (delAt cs j) hu2 (by omega) a b ((mayB_iff a b).2 ⟨hfit.1, hfit.2.1, hfit.2.2.1⟩) hf2 with ⟨h1, _⟩ | ⟨_, h2, _⟩
        · exfalso; omega
        · exact h2
      have hpr : rd_TGPair (prs cs) j = ⟨a, b⟩ := by rw [rd_prs hu j hj, rd_get cs j hj, hka', hb]
      have hjp : j < (prs cs).length := by rw [prs_length hu]; exact hj
      have hpj : (prs cs)[j] = ⟨a, b⟩ := by
        have := hpr
        unfold rd_TGPair at this
        rwa [Int.toNat_natCast, List.getD_eq_getElem?_getD, List.getElem?_eq_getElem hjp] at this
      have hp2 : (prs (delAt cs j ++ [cel a b])).Perm (prs cs) := by
        rw [prs_snoc hu2, prs_del hu j]
        conv => rhs; rw [← List.take_append_drop j (prs cs), List.drop_eq_getElem_cons hjp, hpj]
        rw [List.append_assoc]
        exact (List.perm_append_left_iff _).2 List.perm_append_comm
      refine ⟨hm, ⟨fun hp => ?_, fun hk => absurd hk.1 (by decide)⟩, ?_, ?_⟩
      · rw [hd, rc] at hp
        have := hp.length_eq
        rw [prs_length hu, prs_length hu2] at this
        omega
      · rw [hd, rc, ht]
      · rw [hd, rc, ht]; exact hp2
    · exact absurd r (by rw [h]; decide)
end Go.Proofs.Ytidgfigfebkieaa
end
section
namespace Go.Proofs.Ytidgfigfebkieaa
open Go.RowKit Go.Sort Go.Proofs.YtidgfigfebkieaaW.PrintWords Go.Proofs.YtidgfigfebkieaaW.PrintLast Go.Proofs.YtidgfigfebkieaaW.PrintMore
open Rf
set_option linter.unusedVariables false
set_option linter.unusedSimpArgs false
section
variable {w0 w : World} {ok : Nat → Prop} {g id lsn : Nat} {cs : List SGCell}
theorem Here.pairs (h : Here w0 w ok g id lsn cs) : Calls Try.prog 26 #[.pointer (some ⟨g, 0, none⟩)] w fun e w' => ∃ A c l, e = .returned (.slice A l.length c) ∧ Kd.R kGPair 79 w' w.heap.size (fun k => w.heap.size ≤ k) (.slice A l.length c) l ∧ l.Perm (prs cs) ∧ Srt l ∧ Here w0 w' ok g id lsn cs ∧ Below w.heap.size w w' := by
  obtain ⟨h1, h2, v, h3, h4⟩ := h.pg
  obtain ⟨A, c, rfl, hlc, hC⟩ := Kd.R_reads h4
  refine (pairs_calls w g id lsn A c cs h3 hC h.val.small.big).mono ?_
  rintro e w' ⟨v, l, rfl, hR, hp, hs, hb⟩
  obtain ⟨A, c, rfl⟩ := Kd.R_slice hR
  exact ⟨A, c, l, rfl, hR, hp, hs, h.next hb, hb⟩
end
theorem pair_at' {w : World} {A : Option Addr} {n : Nat} {xs : List SGPair} (h : Kd.C kGPair w A n xs) (k : Nat) (h1 : k < n) : ∃ ad, A = some ad ∧ w.cell? (ad.add (k * 2)) = some (.string (rd_TGPair xs k).f0) ∧ w.cell? ⟨(ad.add (k * 2)).block, (ad.add (k * 2)).off + 1, none⟩ = some (.string (rd_TGPair xs k).f1) := by
  have := at_TGPair h (k : Int) (by omega) (by omega)
  rwa [Int.toNat_natCast] at this
theorem pair_ext {p q : SGPair} (h : decide (p.f0 = q.f0) = true ∧ decide (p.f1 = q.f1) = true) : p = q := by
  obtain ⟨p0, p1⟩ := p
  obtain ⟨q0, q1⟩ := q
  simp at h
  rw [h.1, h.2]
theorem rdp_get (xs : List SGPair) (k : Nat) (h : k < xs.length) : rd_TGPair xs k = xs[k] := by
  simp [rd_TGPair, List.getD_eq_getElem?_getD, List.getElem?_eq_getElem h]
set_option maxRecDepth 100000 in
set_option maxHeartbeats 1000000 in
theorem same_calls (w : World) (A B : Option Addr) (c d : Nat) (l m : List SGPair) (hl : Kd.C kGPair w A l.length l) (hm : Kd.C kGPair w B m.length m) (hn : l.length ≤ 100000) :
    Calls Try.prog 27 #[.slice A l.length c, .slice B m.length d] w fun e w' => ∃ r : Bool, e = .returned (.bool r) ∧ (r = true ↔ l = m) ∧ Below w.heap.size w w' := by
  have HL := Aside0.mk hl
  have HM := Aside0.mk hm
  clear hl hm
  go_enter Try.func27, Try.ntmps27
  by_cases hlen : l.length = m.length
  · have e1 : ((l.length : Int) != (m.length : Int)) = false := by simp [hlen]
    have HLN := Aside0.mk hlen
    clear hlen
    go_wp2_with fail
    go_loopg [5] l.length (fun gk v3 wr => ∃ k : Nat, Aside0 (k + gk = l.length) ∧ v3 = .int .i64 k ∧ k ≤ l.length ∧ Aside0 (l.take k = m.take k) ∧ Aside0 (Below w.heap.size w wr))
    case atStart => exact ⟨0, ⟨by omega⟩, rfl, by omega, ⟨by simp⟩, ⟨Below.refl _ _⟩⟩
    case round =>
      obtain ⟨k, Hk, rfl, hkl, HE, HB⟩ := hrel
      by_cases hlt : k < l.length
      · have hlt2 : k < m.length := by have := HLN.out; omega
        obtain ⟨ad, rfl, x0, x1⟩ := pair_at' (Kd.C_below HL.out HB.out) k hlt
        obtain ⟨bd, rfl, y0, y1⟩ := pair_at' (Kd.C_below HM.out HB.out) k hlt2
        cases h0 : ((rd_TGPair l k).f0.toList == (rd_TGPair m k).f0.toList) with
        | false =>
          have HD := Aside0.mk h0
          go_wp2_with fail
          go_region_with (fail)
          all_goals
            go_wp2_with fail
            go_ret
            refine ⟨false, rfl, ⟨fun h => absurd h (by decide), fun h => ?_⟩, below_drew HB.out⟩
            have e := HD.out
            rw [h] at e
            simp at e
        | true =>
          cases h1 : ((rd_TGPair l k).f1.toList == (rd_TGPair m k).f1.toList) with
          | false =>
            have HD := Aside0.mk h1
            go_wp2_with fail
            go_region_with (fail)
            all_goals
              go_wp2_with fail
              go_ret
              refine ⟨false, rfl, ⟨fun h => absurd h (by decide), fun h => ?_⟩, below_drew HB.out⟩
              have e := HD.out
              rw [h] at e
              simp at e
          | true =>
            have HD := Aside0.mk (And.intro h0 h1)
            go_wp2_with fail
            go_region_with (fail)
            all_goals
              go_wp2_with fail
              go_roundg (gk - 1)
              case measure => have := Hk.out; omega
              case rel =>
                refine ⟨k + 1, ⟨by have := Hk.out; omega⟩, by simp, by omega, ⟨?_⟩, ⟨below_drew HB.out⟩⟩
                have e := HD.out
                rw [beq_toList, beq_toList] at e
                rw [List.take_succ_eq_append_getElem hlt, List.take_succ_eq_append_getElem hlt2, HE.out, ← rdp_get l k hlt, ← rdp_get m k hlt2]
                have e2 : rd_TGPair l k = rd_TGPair m k := pair_ext e
                rw [e2]
      · have hke : k = l.length := by omega
        subst hke
        go_wp2_with fail
        go_ret
        refine ⟨true, rfl, ⟨fun _ => ?_, fun _ => rfl⟩, HB.out⟩
        have := HE.out
        rwa [List.take_of_length_le (Nat.le_refl _), List.take_of_length_le (by have := HLN.out; omega)] at this
  · have e1 : ((l.length : Int) != (m.length : Int)) = true := by simp; omega
    go_wp2_with fail
    go_ret
    exact ⟨false, rfl, by constructor <;> intro h; exact absurd h (by decide); exact absurd (by rw [h]) hlen, Below.refl _ _⟩
end Go.Proofs.Ytidgfigfebkieaa
end
section
namespace Go.Proofs.Ytidgfigfebkieaa
open Go.RowKit Go.Proofs.YtidgfigfebkieaaW.PrintWords Go.Proofs.YtidgfigfebkieaaW.PrintLast Go.Proofs.YtidgfigfebkieaaW.PrintMore
open Rf
set_option linter.unusedVariables false
set_option linter.unusedSimpArgs false

theorem find_loop (cs : List SGCell) (hl : cs.length ≤ 1000) (id lsn : Int) (key : ByteArray) (d : Nat) : ∀ i : Nat, i + d = cs.length → Ev (fun k => flotillaref06_Find.l0 k key i id lsn cs) (fndN key (cs.drop i) i) := by
  induction d with
  | zero =>
    intro i hi
    refine Ev.step (f := fun _ => some (-1)) (fun k => ?_) ?_
    · simp only [flotillaref06_Find.l0]; rw [if_neg (by omega)]
    · rw [List.drop_eq_nil_of_le (by omega)]; exact Ev.now _
  | succ d ih =>
    intro i hi
    have hlt : i < cs.length := by omega
    rw [fndN_drop key cs i hlt]
    unfold hit
    by_cases hu : (rd_TGCell cs i).f0 = true
    · by_cases hk : (rd_TGCell cs i).f1.toList = key.toList
      · rw [if_pos (by rw [hu, hk]; simp)]
        refine Ev.step (f := fun _ => some (i : Int)) (fun k => ?_) (Ev.now _)
        simp only [flotillaref06_Find.l0]; rw [if_pos (by omega), if_pos (by omega), if_pos hu, if_pos hk]
      · rw [if_neg (by rw [hu]; simpa using hk)]
        refine Ev.step (fun k => ?_) (ih (i + 1) (by omega))
        simp only [flotillaref06_Find.l0]; rw [if_pos (by omega), if_pos (by omega), if_pos hu, if_neg hk, w64 (by omega) (by omega)]; rfl
    · rw [if_neg (by simp [hu])]
      refine Ev.step (fun k => ?_) (ih (i + 1) (by omega))
      simp only [flotillaref06_Find.l0]; rw [if_pos (by omega), if_pos (by omega), if_neg hu, w64 (by omega) (by omega)]; rfl
theorem find_ev (cs : List SGCell) (hl : cs.length ≤ 1000) (id lsn : Int) (key : ByteArray) : Ev (fun k => flotillaref06_Find.f k id lsn cs key) (fnd cs key) := by
  have := find_loop cs hl id lsn key cs.length 0 (by omega)
  rwa [List.drop_zero] at this

theorem trim_ev (id lsn : Int) (cs0 : List SGCell) (d : Nat) : ∀ l : List SGCell, l.length = d → l.length ≤ 1000 → Ev (fun k => flotillaref06_with.l1 k l id lsn cs0) (id, lsn, trimN d l) := by
  induction d with
  | zero =>
    intro l hl _
    refine Ev.step (f := fun _ => some (id, lsn, l)) (fun k => ?_) (Ev.now _)
    simp only [flotillaref06_with.l1]; rw [if_neg (by omega)]
  | succ d ih =>
    intro l hl hm
    have e1 : wrap64 ((l.length : Int) - 1) = (d : Int) := by rw [w64 (by omega) (by omega)]; omega
    by_cases hu : (rd_TGCell l d).f0 = true
    · rw [trimN_used _ l d hl hu]
      refine Ev.step (f := fun _ => some (id, lsn, l)) (fun k => ?_) (Ev.now _)
      simp only [flotillaref06_with.l1]; rw [if_pos (by omega), e1, if_pos (by omega), if_pos (by omega), if_pos hu]
    · rw [trimN_free d l d hl (by simpa using hu)]
      refine Ev.step (fun k => ?_) (ih (l.take d) (by rw [List.length_take]; omega) (by rw [List.length_take]; omega))
      simp only [flotillaref06_with.l1]; rw [if_pos (by omega), e1, if_pos (by omega), if_pos (by omega), if_neg hu, if_pos (by omega)]; rfl

/-- A list whose slot i (one behind the last: a new one) is c. -/
def putAt (cs : List SGCell) (i : Nat) (c : SGCell) : List SGCell := if i = cs.length then cs ++ [c] else cs.set i c
theorem with_loop (cs : List SGCell) (hl : cs.length ≤ 100) (id lsn : Int) (i : Nat) (c : SGCell) (d : Nat) : ∀ j : Nat, j + d = cs.length →
    Ev (fun k => flotillaref06_with.l0 k i ((cs.set i c).take j) j id lsn cs c.f0 c.f1 c.f2) (id, lsn, trim (putAt cs i c)) := by
  induction d with
  | zero =>
    intro j hj
    obtain rfl : j = cs.length := by omega
    by_cases hi : i = cs.length
    · have e : cs.set i c = cs := by rw [hi]; exact List.set_eq_of_length_le (by omega)
      refine Ev.step (f := fun k => flotillaref06_with.j1 k (cs ++ [c]) id lsn cs) (fun k => ?_) ?_
      · simp only [flotillaref06_with.l0]; rw [if_neg (by omega), if_pos (by omega), if_pos (by rw [List.length_take, List.length_set]; omega), e, List.take_length]
      · refine Ev.step (f := fun k => flotillaref06_with.l1 k (cs ++ [c]) id lsn cs) (fun k => rfl) ?_
        unfold putAt trim; rw [if_pos hi]
        exact trim_ev id lsn cs _ _ rfl (by simp; omega)
    · refine Ev.step (f := fun k => flotillaref06_with.j1 k (cs.set i c) id lsn cs) (fun k => ?_) ?_
      · simp only [flotillaref06_with.l0]; rw [if_neg (by omega), if_neg (by omega), List.take_of_length_le (by rw [List.length_set]; omega)]
      · refine Ev.step (f := fun k => flotillaref06_with.l1 k (cs.set i c) id lsn cs) (fun k => rfl) ?_
        unfold putAt trim; rw [if_neg hi]
        exact trim_ev id lsn cs _ _ rfl (by simp; omega)
  | succ d ih =>
    intro j hj
    have hlt : j < cs.length := by omega
    have hs : (cs.set i c).take (j + 1) = (cs.set i c).take j ++ [if i = j then c else rd_TGCell cs j] := by
      rw [List.take_succ_eq_append_getElem (by rw [List.length_set]; exact hlt), List.getElem_set, rd_get cs j hlt]
    have h := ih (j + 1) (by omega)
    rw [hs] at h
    refine Ev.step (fun k => ?_) h
    simp only [flotillaref06_with.l0]
    rw [if_pos (by omega)]
    by_cases e : i = j
    · rw [if_pos (by omega), if_pos (by rw [List.length_take]; omega), w64 (by omega) (by omega), if_pos e]; rfl
    · rw [if_neg (by omega), if_pos (by omega), if_pos (by rw [List.length_take]; omega), w64 (by omega) (by omega), if_neg e]; rfl
theorem with_ev (cs : List SGCell) (hl : cs.length ≤ 100) (id lsn : Int) (i : Nat) (c : SGCell) : Ev (fun k => flotillaref06_with.f k id lsn cs i c.f0 c.f1 c.f2) (id, lsn, trim (putAt cs i c)) := by
  have := with_loop cs hl id lsn i c cs.length 0 (by omega)
  rwa [List.take_zero] at this

theorem trim_last (cs : List SGCell) (h : ∀ c, cs.getLast? = some c → c.f0 = true) : trim cs = cs := by
  unfold trim
  rcases Nat.eq_zero_or_pos cs.length with h0 | h0
  · exact trimN_zero _ _ h0
  · refine trimN_used _ cs (cs.length - 1) (by omega) ?_
    rw [rd_get cs _ (by omega)]
    exact h _ (by rw [List.getLast?_eq_getElem?, List.getElem?_eq_getElem])
theorem putAt_ins (cs : List SGCell) (c : SGCell) : putAt cs (frs cs) c = insAt cs c := rfl
theorem insAt_last (cs : List SGCell) (hv : Valid cs) (key value : ByteArray) : ∀ c, (insAt cs (cel key value)).getLast? = some c → c.f0 = true := by
  intro c hc
  unfold insAt at hc
  split at hc
  · rw [List.getLast?_append] at hc; simp at hc; rw [← hc]; rfl
  · rename_i hne
    have hle := frs_le cs
    rw [List.getLast?_eq_getElem?, List.length_set, List.getElem?_set] at hc
    split at hc
    · split at hc
      · rw [← Option.some.inj hc]; rfl
      · simp at hc
    · rw [← List.getLast?_eq_getElem?] at hc; exact hv.last c hc
theorem small_insAt (cs : List SGCell) (hv : Valid cs) (key value : ByteArray) (hm : mayB key value = true) : Small (insAt cs (cel key value)) := by
  have h := (mayB_iff _ _).1 hm
  have hs := hv.small
  have hl := hv.len
  unfold insAt
  split
  · refine ⟨by simp; omega, fun c hc => ?_⟩
    rcases List.mem_append.1 hc with hc | hc
    · exact hs.2 c hc
    · rw [List.mem_singleton.1 hc]; show key.size ≤ 1000 ∧ value.size ≤ 1000; omega
  · refine ⟨by simp; omega, fun c hc => ?_⟩
    rcases List.mem_or_eq_of_mem_set hc with hc | rfl
    · exact hs.2 c hc
    · show key.size ≤ 1000 ∧ value.size ≤ 1000; omega
theorem may_f (key value : ByteArray) : flotillaref06_May.f key value = some (mayB key value) := by
  unfold flotillaref06_May.f mayB
  by_cases h1 : (key.size : Int) ≥ 1
  · by_cases h2 : (key.size : Int) ≤ 16
    · rw [if_pos h1, if_pos h2]
      congr 1
      rw [Bool.eq_iff_iff]; simp; omega
    · rw [if_pos h1, if_neg h2]
      congr 1
      rw [Bool.eq_iff_iff]; simp; omega
  · rw [if_neg h1]
    congr 1
    rw [Bool.eq_iff_iff]; simp; omega
theorem insj_ev (cs : List SGCell) (hv : Valid cs) (id lsn : Int) (key value : ByteArray) (hm : mayB key value = true) (hf : fnd cs key < 0) :
    Ev (fun k => flotillaref06_Insert.j1 k key value (frs cs : Nat) id lsn cs) (id, lsn, (ins cs key value).1, (ins cs key value).2) := by
  have hl := hv.len
  have hle := frs_le cs
  have hw := with_ev cs (by omega) id lsn (frs cs) (cel key value)
  rw [putAt_ins, trim_last _ (insAt_last cs hv key value)] at hw
  have hfr := insAt_free cs hv.zero key value
  have hfe := free_ev (insAt cs (cel key value)) (small_insAt cs hv key value hm) id lsn
  refine Ev.step (f := fun k => (flotillaref06_with.f k id lsn cs (frs cs : Nat) true key value).bind fun bt163 => (if ((frs cs : Nat) : Int) ≥ 64 then (some (id, lsn, cs, 7)) else ((flotillaref06_Free.f k bt163.1 bt163.2.1 bt163.2.2).bind fun t169 => (if t169 < 0 then (some (id, lsn, cs, 7)) else (some (bt163.1, bt163.2.1, bt163.2.2, 0)))))) (fun k => rfl) ?_
  refine Ev.bind hw ?_
  unfold ins
  rw [if_pos hm, if_neg (by omega)]
  by_cases h64 : frs cs = 64
  · rw [if_pos (.inl h64)]
    simp only [h64]
    exact Ev.now _
  · have e : ¬ ((frs cs : Nat) : Int) ≥ 64 := by omega
    simp only [if_neg e]
    refine Ev.bind hfe ?_
    by_cases hr : free cs < insNeed cs key value
    · simp only [if_pos (show free (insAt cs (cel key value)) < 0 by omega)]
      rw [if_pos (show frs cs = 64 ∨ free cs < insNeed cs key value from .inr hr)]
      exact Ev.now _
    · simp only [if_neg (show ¬ free (insAt cs (cel key value)) < 0 by omega)]
      rw [if_neg (show ¬ (frs cs = 64 ∨ free cs < insNeed cs key value) by omega)]
      exact Ev.now _
theorem insl_ev (cs : List SGCell) (hv : Valid cs) (id lsn : Int) (key value : ByteArray) (hm : mayB key value = true) (hf : fnd cs key < 0) (d : Nat) : ∀ i : Nat, i + d = frs cs →
    Ev (fun k => flotillaref06_Insert.l0 k key value i id lsn cs) (id, lsn, (ins cs key value).1, (ins cs key value).2) := by
  have hl := hv.len
  have hle := frs_le cs
  induction d with
  | zero =>
    intro i hi
    obtain rfl : i = frs cs := by omega
    refine Ev.step (fun k => ?_) (insj_ev cs hv id lsn key value hm hf)
    simp only [flotillaref06_Insert.l0]
    by_cases h : frs cs < cs.length
    · rw [if_pos (by omega), if_pos (by omega), if_neg (by rw [frs_free cs h]; simp)]
    · rw [if_neg (by omega)]
  | succ d ih =>
    intro i hi
    refine Ev.step (fun k => ?_) (ih (i + 1) (by omega))
    simp only [flotillaref06_Insert.l0]
    rw [if_pos (by omega), if_pos (by omega), if_pos (frs_used cs i (by omega)), w64 (by omega) (by omega)]
    rfl
theorem insert_ev (cs : List SGCell) (hv : Valid cs) (id lsn : Int) (key value : ByteArray) : Ev (fun k => flotillaref06_Insert.f k id lsn cs key value) (id, lsn, (ins cs key value).1, (ins cs key value).2) := by
  have hl := hv.len
  unfold flotillaref06_Insert.f
  rw [may_f]
  by_cases hm : mayB key value = true
  · refine Ev.bind (a := mayB key value) (Ev.now _) ?_
    simp only [hm, if_true]
    refine Ev.bind (find_ev cs (by omega) id lsn key) ?_
    by_cases hf : 0 ≤ fnd cs key
    · simp only [if_pos (show fnd cs key ≥ 0 from hf)]
      unfold ins; rw [if_pos hm, if_pos hf]
      exact Ev.now _
    · simp only [if_neg (show ¬ fnd cs key ≥ 0 from hf)]
      exact insl_ev cs hv id lsn key value hm (by omega) (frs cs) 0 (by omega)
  · refine Ev.bind (a := mayB key value) (Ev.now _) ?_
    simp only [hm]
    unfold ins; rw [if_neg hm]
    exact Ev.now _
theorem update_ev (cs : List SGCell) (hv : Valid cs) (id lsn : Int) (key value : ByteArray) : Ev (fun k => flotillaref06_Update.f k id lsn cs key value) (id, lsn, (upd cs key value).1, (upd cs key value).2) := by
  have hl := hv.len
  unfold flotillaref06_Update.f
  rw [may_f]
  by_cases hm : mayB key value = true
  · refine Ev.bind (a := mayB key value) (Ev.now _) ?_
    simp only [hm, if_true]
    refine Ev.bind (find_ev cs (by omega) id lsn key) ?_
    by_cases hf : fnd cs key < 0
    · simp only [if_pos hf]
      unfold upd; rw [if_pos hm, if_pos hf]
      exact Ev.now _
    · simp only [if_neg hf]
      obtain ⟨j, hj, e, hu, hk⟩ := fnd_hit cs key (by omega)
      have hmm := (mayB_iff _ _).1 hm
      have hp : putAt cs j (cel key value) = updAt cs j value := by
        unfold putAt updAt; rw [if_neg (by omega), rd_get cs j hj, hu, hk]; rfl
      have hlast : ∀ c, (updAt cs j value).getLast? = some c → c.f0 = true := by
        intro c hc
        unfold updAt at hc
        rw [List.getLast?_eq_getElem?, List.length_set, List.getElem?_set] at hc
        split at hc
        · rw [← Option.some.inj hc, rd_get cs j hj]; exact hu
        · rw [← List.getLast?_eq_getElem?] at hc; exact hv.last c hc
      have hsm : Small (updAt cs j value) := by
        refine ⟨by unfold updAt; rw [List.length_set]; omega, fun c hc => ?_⟩
        unfold updAt at hc
        rcases List.mem_or_eq_of_mem_set hc with hc | rfl
        · exact hv.small.2 c hc
        · rw [rd_get cs j hj]; exact ⟨(hv.small.2 _ (List.getElem_mem hj)).1, by show value.size ≤ 1000; omega⟩
      have hw := with_ev cs (by omega) id lsn j (cel key value)
      rw [hp, trim_last _ hlast] at hw
      have hfr := updAt_free cs j hj hu value
      rw [e]
      refine Ev.bind hw ?_
      refine Ev.bind (free_ev (updAt cs j value) hsm id lsn) ?_
      unfold upd
      rw [if_pos hm, if_neg hf, e, rd_get cs j hj, Int.toNat_natCast]
      by_cases hr : free cs < (value.size : Int) - (cs[j].f2.size : Int)
      · rw [if_pos hr]
        simp only [if_pos (show free (updAt cs j value) < 0 by omega)]
        exact Ev.now _
      · rw [if_neg hr]
        simp only [if_neg (show ¬ free (updAt cs j value) < 0 by omega)]
        exact Ev.now _
  · refine Ev.bind (a := mayB key value) (Ev.now _) ?_
    simp only [hm]
    unfold upd; rw [if_neg hm]
    exact Ev.now _
end Go.Proofs.Ytidgfigfebkieaa
end
section
namespace Go.Proofs.Ytidgfigfebkieaa
open Go.RowKit Go.Proofs.YtidgfigfebkieaaW.PrintWords Go.Proofs.YtidgfigfebkieaaW.PrintLast Go.Proofs.YtidgfigfebkieaaW.PrintMore
open Rf
set_option linter.unusedVariables false
set_option linter.unusedSimpArgs false
section
variable {w0 w : World} {P : Nat → Prop} {v : Value} {cs : List SGCell}
theorem rfind_calls (A : Option Addr) (c : Nat) (hC : Kd.C kGCell w A cs.length cs) (hc : cs.length ≤ c) (hl : cs.length ≤ 1000) (id lsn : Int) (key : ByteArray) :
    Calls Try.prog 36 #[.agg #[.int .i64 id, .int .u64 lsn, .slice A cs.length c], .string key] w fun e w' => e = .returned (.int .i64 (fnd cs key)) ∧ Below w.heap.size w w' := by
  obtain ⟨k, hk⟩ := find_ev cs hl id lsn key
  exact flotillaref06_Find.calls k id lsn A c cs key _ w hC hc (hk k (Nat.le_refl _))
theorem rins2_calls (hB : Below w0.heap.size w0 w) (hR : Kd.R kGCell 86 w w0.heap.size P v cs) (hv : Valid cs) (id lsn : Int) (key value : ByteArray) :
    Calls Try.prog 31 #[.agg #[.int .i64 id, .int .u64 lsn, v], .string key, .string value] w fun e w' => ∃ v', e = .returned (.tuple #[.agg #[.int .i64 id, .int .u64 lsn, v'], .int .i64 (ins cs key value).2]) ∧
      Kd.R kGCell 86 w' w0.heap.size (fun k => P k ∨ w.heap.size ≤ k) v' (ins cs key value).1 ∧ Below w0.heap.size w0 w' ∧ Kept w w' P ∧ ((ins cs key value).2 ≠ 0 → v' = v) := by
  obtain ⟨k, hk⟩ := insert_ev cs hv id lsn key value
  exact flotillaref06_Insert.calls k id lsn P v cs key value _ _ _ _ w0 w hB hR (hk k (Nat.le_refl _))
theorem rins_calls (hB : Below w0.heap.size w0 w) (hR : Kd.R kGCell 86 w w0.heap.size P v cs) (hv : Valid cs) (id lsn : Int) (key value : ByteArray) :
    Calls Try.prog 31 #[.agg #[.int .i64 id, .int .u64 lsn, v], .string key, .string value] w fun e w' => ∃ v', e = .returned (.tuple #[.agg #[.int .i64 id, .int .u64 lsn, v'], .int .i64 (ins cs key value).2]) ∧
      Kd.R kGCell 86 w' w0.heap.size (fun k => P k ∨ w.heap.size ≤ k) v' (ins cs key value).1 ∧ Below w0.heap.size w0 w' ∧ Kept w w' P := by
  refine (rins2_calls hB hR hv id lsn key value).mono ?_
  rintro e w' ⟨v', rfl, r1, r2, r3, _⟩
  exact ⟨v', rfl, r1, r2, r3⟩
end
end Go.Proofs.Ytidgfigfebkieaa
end
section
namespace Go.Proofs.Ytidgfigfebkieaa
open Go.RowKit Go.Proofs.YtidgfigfebkieaaW.PrintWords Go.Proofs.YtidgfigfebkieaaW.PrintLast Go.Proofs.YtidgfigfebkieaaW.PrintMore
open Rf Go.ChangeMaps
set_option linter.unusedVariables false
set_option linter.unusedSimpArgs false
theorem del_ok (cs : List SGCell) (a : ByteArray) (h : ¬ fnd cs a < 0) : (del cs a).2 = 0 := by
  unfold del
  rw [if_neg h]
section
variable {w0 w : World} {P : Nat → Prop} {v : Value} {cs : List SGCell}
end
end Go.Proofs.Ytidgfigfebkieaa
end
section
namespace Go.Proofs.Ytidgfigfebkieaa
open Go.RowKit Go.Proofs.YtidgfigfebkieaaW.PrintWords Go.Proofs.YtidgfigfebkieaaW.PrintLast Go.Proofs.YtidgfigfebkieaaW.PrintMore
open Rf
set_option linter.unusedVariables false
set_option linter.unusedSimpArgs false
theorem pair_at {w : World} {A : Option Addr} {n : Nat} {xs : List SGPair} (h : Kd.C kGPair w A n xs) (k : Nat) (h1 : k < n) : ∃ ad, A = some ad ∧ w.cell? (ad.add (k * 2)) = some (.string (rd_TGPair xs k).f0) ∧ w.cell? ⟨(ad.add (k * 2)).block, (ad.add (k * 2)).off + 1, none⟩ = some (.string (rd_TGPair xs k).f1) := by
  have := at_TGPair h (k : Int) (by omega) (by omega)
  rwa [Int.toNat_natCast] at this
/-- The page has cs, the document cs'. -/
structure Twin (w0 w : World) (B : Nat → Prop) (g id lsn : Nat) (cs cs' : List SGCell) (v : Value) : Prop where
  both : ∃ ok, Here w0 w ok g id lsn cs ∧ (∀ k, ok k → k < w.heap.size ∧ ¬ B k) ∧ Kd.R kGCell 86 w w0.heap.size (fun k => ¬ ok k ∧ k < w.heap.size ∧ ¬ B k) v cs'
  fix : ∀ k, B k → k < w.heap.size
section
variable {w0 w : World} {B : Nat → Prop} {g id lsn : Nat} {cs cs' : List SGCell} {v : Value}
theorem Twin.next {w' : World} (h : Twin w0 w B g id lsn cs cs' v) (hb : Below w.heap.size w w') : Twin w0 w' B g id lsn cs cs' v := by
  obtain ⟨⟨ok, h1, h2, h3⟩, h4⟩ := h
  have hs := hb.size
  exact ⟨⟨ok, h1.next hb, fun k hk => ⟨by have := (h2 k hk).1; omega, (h2 k hk).2⟩, Kd.R_mono (Kd.R_below h3 hb) (fun k hk => ⟨hk.1, by have := hk.2.1; omega, hk.2.2⟩)⟩, fun k hk => by have := h4 k hk; omega⟩
/-- New blocks are set apart. -/
theorem Twin.apart {w' : World} {B' : Nat → Prop} (h : Twin w0 w B g id lsn cs cs' v) (hb : Below w.heap.size w w') (hB : ∀ k, B' k → B k ∨ (w.heap.size ≤ k ∧ k < w'.heap.size)) : Twin w0 w' B' g id lsn cs cs' v := by
  obtain ⟨⟨ok, h1, h2, h3⟩, h4⟩ := h
  have hs := hb.size
  refine ⟨⟨ok, h1.next hb, fun k hk => ⟨by have := (h2 k hk).1; omega, fun h => ?_⟩, Kd.R_mono (Kd.R_below h3 hb) (fun k hk => ⟨hk.1, by have := hk.2.1; omega, fun h => ?_⟩)⟩, fun k hk => ?_⟩
  · rcases hB k h with h | h
    · exact (h2 k hk).2 h
    · have := (h2 k hk).1; omega
  · rcases hB k h with h | h
    · exact hk.2.2 h
    · have := hk.2.1; omega
  · rcases hB k hk with h | h
    · have := h4 k h; omega
    · exact h.2
theorem Twin.bel (h : Twin w0 w B g id lsn cs cs' v) : Below w0.heap.size w0 w := by
  obtain ⟨⟨ok, h1, _⟩, _⟩ := h
  exact h1.bel
theorem Twin.val (h : Twin w0 w B g id lsn cs cs' v) : Valid cs := by
  obtain ⟨⟨ok, h1, _⟩, _⟩ := h
  exact h1.val
theorem Twin.row (h : Twin w0 w B g id lsn cs cs' v) : ∃ A c, v = .slice A cs'.length c ∧ cs'.length ≤ c ∧ Kd.C kGCell w A cs'.length cs' := by
  obtain ⟨⟨ok, h1, h2, h3⟩, _⟩ := h
  exact Kd.R_reads h3
/-- The page has changed. -/
theorem twin_page {ok : Nat → Prop} {w' : World} {lsn' : Nat} {cs2 : List SGCell} (h2 : ∀ k, ok k → k < w.heap.size ∧ ¬ B k) (h3 : Kd.R kGCell 86 w w0.heap.size (fun k => ¬ ok k ∧ k < w.heap.size ∧ ¬ B k) v cs') (h4 : ∀ k, B k → k < w.heap.size)
    (hh : Here w0 w' (fun k => ok k ∨ w.heap.size ≤ k) g id lsn' cs2) (hk : Kept w w' ok) : Twin w0 w' B g id lsn' cs2 cs' v ∧ ∀ k, B k → w'.heap[k]? = w.heap[k]? := by
  have hs := hk.1
  refine ⟨⟨⟨_, hh.bound, fun k hk => ⟨hk.2, fun h => ?_⟩, Kd.R_mono (Kd.R_kept h3 hk (fun k h => h.1)) (fun k h => ⟨fun h' => ?_, by omega, h.2.2⟩)⟩, fun k hk => by have := h4 k hk; omega⟩, fun k h => hk.2 k (h4 k h) (fun ho => (h2 k ho).2 h)⟩
  · rcases hk.1 with ho | ho
    · exact (h2 k ho).2 h
    · have := h4 k h; omega
  · rcases h'.1 with h' | h'
    · exact h.1 h'
    · omega
/-- The document has changed. -/
theorem twin_doc {ok : Nat → Prop} {w' : World} {v' : Value} {ds : List SGCell} (h1 : Here w0 w ok g id lsn cs) (h2 : ∀ k, ok k → k < w.heap.size ∧ ¬ B k) (h4 : ∀ k, B k → k < w.heap.size)
    (r1 : Kd.R kGCell 86 w' w0.heap.size (fun k => (¬ ok k ∧ k < w.heap.size ∧ ¬ B k) ∨ w.heap.size ≤ k) v' ds) (r2 : Below w0.heap.size w0 w') (r3 : Kept w w' (fun k => ¬ ok k ∧ k < w.heap.size ∧ ¬ B k)) : Twin w0 w' B g id lsn cs ds v' ∧ ∀ k, B k → w'.heap[k]? = w.heap[k]? := by
  have hs := r3.1
  refine ⟨⟨⟨ok, h1.kept r3 (fun k hk h => h.1 hk) r2, fun k hk => ⟨by have := (h2 k hk).1; omega, (h2 k hk).2⟩, Kd.R_mono (Kd.R_bound r1) (fun k hk => ⟨fun ho => ?_, hk.2.2.1, fun hb => ?_⟩)⟩, fun k hk => by have := h4 k hk; omega⟩, fun k h => r3.2 k (h4 k h) (fun hn => hn.2.2 h)⟩
  · rcases hk.1 with h | h
    · exact h.1 ho
    · have := (h2 k ho).1; omega
  · rcases hk.1 with h | h
    · exact h.2.2 hb
    · have := h4 k hb; omega
theorem Twin.insert (h : Twin w0 w B g id lsn cs cs' v) (key value : ByteArray) : Calls Try.prog 30 #[.pointer (some ⟨g, 0, none⟩), .string key, .string value] w fun e w' => e = .returned (.int .i64 (ins cs key value).2) ∧ Twin w0 w' B g id lsn (ins cs key value).1 cs' v ∧ ∀ k, B k → w'.heap[k]? = w.heap[k]? := by
  obtain ⟨⟨ok, h1, h2, h3⟩, h4⟩ := h
  refine (h1.insert key value).mono ?_
  rintro e w' ⟨rfl, hh, hk⟩
  exact ⟨rfl, twin_page h2 h3 h4 hh hk⟩
theorem Twin.rins (h : Twin w0 w B g id lsn cs cs' v) (hv : Valid cs') (key value : ByteArray) : Calls Try.prog 31 #[.agg #[.int .i64 id, .int .u64 lsn, v], .string key, .string value] w fun e w' => ∃ v', e = .returned (.tuple #[.agg #[.int .i64 id, .int .u64 lsn, v'], .int .i64 (ins cs' key value).2]) ∧ Twin w0 w' B g id lsn cs (ins cs' key value).1 v' ∧ ∀ k, B k → w'.heap[k]? = w.heap[k]? := by
  obtain ⟨⟨ok, h1, h2, h3⟩, h4⟩ := h
  refine (rins_calls h1.bel h3 hv id lsn key value).mono ?_
  rintro e w' ⟨v', rfl, r1, r2, r3⟩
  exact ⟨v', rfl, twin_doc h1 h2 h4 r1 r2 r3⟩
end
end Go.Proofs.Ytidgfigfebkieaa
end
section
namespace Go.Proofs.Ytidgfigfebkieaa
open Go.RowKit Go.Proofs.YtidgfigfebkieaaW.PrintWords Go.Proofs.YtidgfigfebkieaaW.PrintLast Go.Proofs.YtidgfigfebkieaaW.PrintMore
open Rf
set_option linter.unusedVariables false
set_option linter.unusedSimpArgs false
theorem Twin.set {w0 w : World} {B : Nat → Prop} {g id lsn : Nat} {cs cs' : List SGCell} {v : Value} (h : Twin w0 w B g id lsn cs cs' v) {q : Addr} (hq : B q.block) (hl : w0.heap.size ≤ q.block) (u : Value) : Twin w0 (w.setCell q u) B g id lsn cs cs' v := by
  obtain ⟨⟨ok, h1, h2, h3⟩, h4⟩ := h
  have hs : (w.setCell q u).heap.size = w.heap.size := by simp [World.setCell]
  refine ⟨⟨ok, h1.kept (Kept.setCell (Kept.refl w (fun k => k = q.block)) (.inl rfl) u) (fun k hk e => (h2 k hk).2 (by rw [e]; exact hq)) (h1.bel.setCell hl u), fun k hk => by rw [hs]; exact h2 k hk, ?_⟩, fun k hk => by rw [hs]; exact h4 k hk⟩
  rw [hs]
  exact Kd.R_far h3 (fun k hk e => hk.2.2 (by rw [e]; exact hq)) u
theorem pair_mem (xs : List SGPair) (k : Nat) (h : k < xs.length) : rd_TGPair xs k ∈ xs := by
  simp [rd_TGPair, List.getD_eq_getElem?_getD, List.getElem?_eq_getElem h]
end Go.Proofs.Ytidgfigfebkieaa
end
section
namespace Go.Proofs.Ytidgfigfebkieaa
open Go.RowKit Go.Proofs.YtidgfigfebkieaaW.PrintWords Go.Proofs.YtidgfigfebkieaaW.PrintLast Go.Proofs.YtidgfigfebkieaaW.PrintMore
open Rf
set_option linter.unusedVariables false
set_option linter.unusedSimpArgs false
set_option maxRecDepth 100000 in
set_option maxHeartbeats 4000000 in
theorem pair2_calls (w : World) (id : Nat) (hid : id < 16) (l : List SGPair) (A : Option Addr) (c : Nat) (hC : Kd.C kGPair w A l.length l) (hl : l.length ≤ 9223372036854775807) (hsz : ∀ x ∈ l, x.f0.size ≤ 140737488351232 ∧ x.f1.size ≤ 140737488351232) :
    Calls Try.prog 17 #[.int .i64 id, .slice A l.length c] w fun e w' => ∃ g cs v, e = .returned (.tuple #[.pointer (some ⟨g, 0, none⟩), .agg #[.int .i64 id, .int .u64 0, v]]) ∧ Twin w w' (fun _ => False) g id 0 cs cs v ∧ Used cs := by
  have HC := Aside0.mk hC
  have HZ := Aside0.mk hsz
  clear hC hsz
  go_enter Try.func17, Try.ntmps17
  go_wp2_with fail
  have hb0 : Below w.heap.size w (w.alloc (.cells #[.int .i64 0, .int .u64 0, .slice none 0 0] 46)) := below_alloc (Below.refl _ _) _
  have hrx := heap_alloc_new w (.cells #[.int .i64 0, .int .u64 0, .slice none 0 0] 46)
  generalize w.alloc (.cells #[.int .i64 0, .int .u64 0, .slice none 0 0] 46) = wb at hb0 hrx ⊢
  refine (new_ok id wb (by omega) (by omega)).mono ?_
  rintro e w1 ⟨rfl, hp, hb⟩
  have hh1 : Here w w1 _ wb.heap.size id 0 [] := ⟨hp _ hb0.size, below_then hb0 hb0.size hb, Valid.nil, hid, by decide⟩
  have hrx1 := blk_below hrx hb
  have hsz1 := hb.size
  have hlt0 := blk_lt hrx
  clear hp hb hb0 hrx
  go_wp2_with fail
  have hb2 : Below w1.heap.size w1 (w1.alloc (.cells #[.int .i64 id, .int .u64 0, .slice none 0 0] 46)) := below_alloc (Below.refl _ _) _
  have hdx := heap_alloc_new w1 (.cells #[.int .i64 id, .int .u64 0, .slice none 0 0] 46)
  have hrx2 := blk_below hrx1 hb2
  generalize w1.alloc (.cells #[.int .i64 id, .int .u64 0, .slice none 0 0] 46) = w2 at hb2 hdx hrx2 ⊢
  obtain ⟨RB, hRB⟩ : ∃ x, x = w.heap.size := ⟨_, rfl⟩
  obtain ⟨DB, hDB⟩ : ∃ x, x = w1.heap.size := ⟨_, rfl⟩
  have HT := Aside0.mk (show Twin w w2 (fun k => k = RB ∨ k = DB) wb.heap.size id 0 [] [] (.slice none 0 0) from by
    have hbd := (hh1.mono (ok' := fun k => wb.heap.size ≤ k) (fun k hk => hk)).bound
    refine Twin.apart (B := fun k => k = RB) (w := w1) ⟨⟨_, hbd, fun k hk => ⟨hk.2, fun e => by have := hk.1; omega⟩, Kd.R_nil _ _ _ _ _⟩, fun k hk => by omega⟩ hb2 (fun k hk => ?_)
    rcases hk with hk | hk
    · exact .inl hk
    · exact .inr ⟨by omega, by have := blk_lt hdx; omega⟩)
  rw [← hRB] at hrx2 ⊢
  rw [← hDB] at hdx ⊢
  have HRX := Aside0.mk hrx2
  have HDX := Aside0.mk hdx
  have HL := Aside0.mk (show w.heap.size ≤ RB ∧ w.heap.size ≤ DB ∧ RB ≠ DB from by omega)
  clear hh1 hrx1 hsz1 hlt0 hb2 hdx hrx2 hRB hDB
  go_wp2_with fail
  go_loopg [9] l.length (fun gk v9 wr => ∃ (k : Nat) (cs : List SGCell) (v : Value), Aside0 (k + gk = l.length ∧ Used cs) ∧ v9 = .int .i64 k ∧ k ≤ l.length ∧ Aside0 (Twin w wr (fun k => k = RB ∨ k = DB) wb.heap.size id 0 cs cs v) ∧ Aside0 (wr.heap[RB]? = some (.cells #[.int .i64 0, .int .u64 0, .slice none 0 0] 46)) ∧ Aside0 (wr.heap[DB]? = some (.cells #[.int .i64 id, .int .u64 0, v] 46)))
  case atStart => exact ⟨0, [], _, ⟨by omega, fun _ h => by simp at h⟩, rfl, by omega, HT, HRX, HDX⟩
  case round =>
    obtain ⟨k, cs, v, Hk, rfl, hkl, HT, HRX, HDX⟩ := hrel
    obtain ⟨Av, cv, rfl, _, _⟩ := HT.out.row
    have d0 := blk_cell HDX.out 0
    have d1 := blk_cell HDX.out 1
    have d2 := blk_cell HDX.out 2
    by_cases hend : k < l.length ∧ k < 70
    · obtain ⟨hlt, h70⟩ := hend
      have hd70 : decide ((k : Int) < 70) = true := by simp; omega
      obtain ⟨ad, rfl, hx0, hx1⟩ := pair_at (Kd.C_below HC.out HT.out.bel) k hlt
      have hz := HZ.out _ (pair_mem l k hlt)
      have hw : IntKind.i64.wrap (((rd_TGPair l k).f0.size : Int) + ((rd_TGPair l k).f1.size : Int)) = ((rd_TGPair l k).f0.size : Int) + ((rd_TGPair l k).f1.size : Int) := i64w (by omega) (by omega)
      have HTd := Aside0.mk (HT.out.next (below_drew (Below.refl _ _)))
      have HRXd := Aside0.mk (blk_drew HRX.out)
      have HDXd := Aside0.mk (blk_drew HDX.out)
      by_cases hs : (rd_TGPair l k).f0.size + (rd_TGPair l k).f1.size ≤ 1000
      · go_wp2_with fail
        go_region_held3 (fun wx => wx.cell? (ad.add (k * 2)) = some (.string (rd_TGPair l k).f0) ∧ wx.cell? ⟨(ad.add (k * 2)).block, (ad.add (k * 2)).off + 1, none⟩ = some (.string (rd_TGPair l k).f1)) (go_keep) (fail)
        all_goals
          go_wp2_with fail
          go_region_held3 (fun wx => wx.cell? (ad.add (k * 2)) = some (.string (rd_TGPair l k).f0) ∧ wx.cell? ⟨(ad.add (k * 2)).block, (ad.add (k * 2)).off + 1, none⟩ = some (.string (rd_TGPair l k).f1)) (go_keep) ((go_at_call 30; refine ((HTd.out.next (below_drew (Below.refl _ _))).insert _ _).mono ?_; rintro e w3 ⟨rfl, hT, hB⟩; have HT2 := Aside0.mk hT; have HRX2 := Aside0.mk ((hB RB (.inl rfl)).trans (blk_drew HRXd.out)); have HDX2 := Aside0.mk ((hB DB (.inr rfl)).trans (blk_drew HDXd.out)); clear hT hB; have q := pair_at (Kd.C_below HC.out HT2.out.bel) k hlt; obtain ⟨ad2, ea2, y0, y1⟩ := q; cases ea2))
          all_goals
            have e0 := blk_cell HDX2.out 0
            have e1 := blk_cell HDX2.out 1
            have e2 := blk_cell HDX2.out 2
            go_wp2_with fail
            have HV := Aside0.mk HT.out.val
            clear e0 e1 e2 d0 d1 d2
            have e0 := blk_cell (blk_drew HDX2.out) 0
            have e1 := blk_cell (blk_drew HDX2.out) 1
            have e2 := blk_cell (blk_drew HDX2.out) 2
            have y0d : w3.drew.cell? (ad.add (k * 2)) = some (.string (rd_TGPair l k).f0) := y0
            have y1d : w3.drew.cell? ⟨(ad.add (k * 2)).block, (ad.add (k * 2)).off + 1, none⟩ = some (.string (rd_TGPair l k).f1) := y1
            go_region_with ((go_at_call 31; refine ((HT2.out.next (below_drew (Below.refl _ _))).rins HV.out _ _).mono ?_; rintro e w5 ⟨v5, rfl, hT, hB⟩; have q := hT.row; obtain ⟨A5, c5, rfl, _, _⟩ := q; have HT5 := Aside0.mk hT; have HRX5 := Aside0.mk ((hB RB (.inl rfl)).trans (blk_drew HRX2.out)); have HDX5 := Aside0.mk ((hB DB (.inr rfl)).trans (blk_drew HDX2.out)); have u0 := blk_cell HDX5.out 0; have u1 := blk_cell HDX5.out 1; have u2 := blk_cell HDX5.out 2; have s0 := blk_frozen HDX5.out 0; have s1 := blk_frozen HDX5.out 1; have s2 := blk_frozen HDX5.out 2; clear hT hB))
            all_goals
              go_wp2_with fail
              go_roundg (gk - 1)
              case measure => have := Hk.out.1; omega
              case rel => exact ⟨k + 1, _, _, ⟨by have := Hk.out.1; omega, Hk.out.2.ins _ _⟩, by simp, by omega, ⟨(Twin.set (Twin.set (Twin.set HT5.out (q := ⟨DB, 0, none⟩) (.inr rfl) HL.out.2.1 (.int .i64 id)) (q := ⟨DB, 1, none⟩) (.inr rfl) HL.out.2.1 (.int .u64 0)) (q := ⟨DB, 2, none⟩) (.inr rfl) HL.out.2.1 (.slice A5 (ins cs (rd_TGPair l k).f0 (rd_TGPair l k).f1).1.length c5))⟩, ⟨(blk_far (blk_far (blk_far HRX5.out (p := ⟨DB, 0, none⟩) HL.out.2.2 (.int .i64 id)) (p := ⟨DB, 1, none⟩) HL.out.2.2 (.int .u64 0)) (p := ⟨DB, 2, none⟩) HL.out.2.2 (.slice A5 (ins cs (rd_TGPair l k).f0 (rd_TGPair l k).f1).1.length c5))⟩, ⟨(blk_put (cs' := #[.int .i64 id, .int .u64 0, .slice A5 (ins cs (rd_TGPair l k).f0 (rd_TGPair l k).f1).1.length c5]) (blk_put (cs' := #[.int .i64 id, .int .u64 0, .slice Av cs.length cv]) (blk_put (cs' := #[.int .i64 id, .int .u64 0, .slice Av cs.length cv]) HDX5.out 0 (.int .i64 id) rfl) 1 (.int .u64 0) rfl) 2 (.slice A5 (ins cs (rd_TGPair l k).f0 (rd_TGPair l k).f1).1.length c5) rfl)⟩⟩
      · go_wp2_with fail
        go_region_held3 (fun wx => wx.cell? (ad.add (k * 2)) = some (.string (rd_TGPair l k).f0) ∧ wx.cell? ⟨(ad.add (k * 2)).block, (ad.add (k * 2)).off + 1, none⟩ = some (.string (rd_TGPair l k).f1)) (go_keep) (fail)
        all_goals
          go_wp2_with fail
          go_roundg (gk - 1)
          case measure => have := Hk.out.1; omega
          case rel => exact ⟨k + 1, cs, _, ⟨by have := Hk.out.1; omega, Hk.out.2⟩, by simp, by omega, HTd, HRXd, HDXd⟩
    · have hend2 : ¬ k < l.length ∨ ¬ k < 70 := by omega
      have r0 := blk_cell HRX.out 0
      have r1 := blk_cell HRX.out 1
      have r2 := blk_cell HRX.out 2
      have g0 := blk_frozen HRX.out 0
      have g1 := blk_frozen HRX.out 1
      have g2 := blk_frozen HRX.out 2
      go_wp2_with fail
      all_goals
        go_region_with (fail)
        all_goals
          go_wp2_with fail
          refine bodyPost_ret (results_tc rfl _ _ RB 46 #[.int .i64 id, .int .u64 0, .slice Av cs.length cv] (0, 0) _ rfl (by first | exact (blk_put (cs' := #[.int .i64 id, .int .u64 0, .slice Av cs.length cv]) (blk_put (cs' := #[.int .i64 id, .int .u64 0, .slice none 0 0]) (blk_put (cs' := #[.int .i64 id, .int .u64 0, .slice none 0 0]) (blk_drew HRX.out) 0 (.int .i64 id) rfl) 1 (.int .u64 0) rfl) 2 (.slice Av cs.length cv) rfl) | exact blk_drew (blk_put (cs' := #[.int .i64 id, .int .u64 0, .slice Av cs.length cv]) (blk_put (cs' := #[.int .i64 id, .int .u64 0, .slice none 0 0]) (blk_put (cs' := #[.int .i64 id, .int .u64 0, .slice none 0 0]) HRX.out 0 (.int .i64 id) rfl) 1 (.int .u64 0) rfl) 2 (.slice Av cs.length cv) rfl)) Try.underlying46 rfl (by kernel_rfl)) rfl ?_
          refine ⟨wb.heap.size, cs, .slice Av cs.length cv, rfl, ?_, Hk.out.2⟩
          have HTE := (Twin.set (Twin.set (Twin.set HT.out (q := ⟨RB, 0, none⟩) (.inl rfl) HL.out.1 (.int .i64 id)) (q := ⟨RB, 1, none⟩) (.inl rfl) HL.out.1 (.int .u64 0)) (q := ⟨RB, 2, none⟩) (.inl rfl) HL.out.1 (.slice Av cs.length cv))
          exact HTE.apart (below_drew (Below.refl _ _)) (fun k h => h.elim)
end Go.Proofs.Ytidgfigfebkieaa
end
section
namespace Go.Proofs.Ytidgfigfebkieaa
open Go.RowKit Go.Proofs.YtidgfigfebkieaaW.PrintWords Go.Proofs.YtidgfigfebkieaaW.PrintLast Go.Proofs.YtidgfigfebkieaaW.PrintMore
open Rf
set_option linter.unusedVariables false
set_option linter.unusedSimpArgs false
/-- The page has cs, the row of kind K (elements' type e) has xs. -/
structure Duo {α : Type} (K : Kd α) (e : TypeId) (w0 w : World) (B : Nat → Prop) (g id lsn : Nat) (cs : List SGCell) (v : Value) (xs : List α) : Prop where
  both : ∃ ok, Here w0 w ok g id lsn cs ∧ (∀ k, ok k → k < w.heap.size ∧ ¬ B k) ∧ Kd.R K e w w0.heap.size (fun k => ¬ ok k ∧ ¬ B k) v xs
  fix : ∀ k, B k → k < w.heap.size
section
variable {α : Type} {K : Kd α} {e : TypeId} {w0 w : World} {B : Nat → Prop} {g id lsn : Nat} {cs : List SGCell} {v : Value} {xs : List α}
theorem Duo.start {ok : Nat → Prop} (h : Here w0 w ok g id lsn cs) : Duo K e w0 w (fun _ => False) g id lsn cs (.slice none 0 0) [] :=
  ⟨⟨_, h.bound, fun k hk => ⟨hk.2, fun h => h⟩, Kd.R_nil _ _ _ _ _⟩, fun k h => h.elim⟩
theorem Duo.bel (h : Duo K e w0 w B g id lsn cs v xs) : Below w0.heap.size w0 w := by
  obtain ⟨⟨ok, h1, _⟩, _⟩ := h
  exact h1.bel
theorem Duo.val (h : Duo K e w0 w B g id lsn cs v xs) : Valid cs := by
  obtain ⟨⟨ok, h1, _⟩, _⟩ := h
  exact h1.val
theorem Duo.here (h : Duo K e w0 w B g id lsn cs v xs) : ∃ ok, Here w0 w ok g id lsn cs := by
  obtain ⟨⟨ok, h1, _⟩, _⟩ := h
  exact ⟨ok, h1⟩
theorem Duo.row (h : Duo K e w0 w B g id lsn cs v xs) : ∃ A c, v = .slice A xs.length c ∧ xs.length ≤ c ∧ Kd.C K w A xs.length xs := by
  obtain ⟨⟨ok, h1, h2, h3⟩, _⟩ := h
  exact Kd.R_reads h3
theorem Duo.fewer {B' : Nat → Prop} (h : Duo K e w0 w B g id lsn cs v xs) (hB : ∀ k, B' k → B k) : Duo K e w0 w B' g id lsn cs v xs := by
  obtain ⟨⟨ok, h1, h2, h3⟩, h4⟩ := h
  exact ⟨⟨ok, h1, fun k hk => ⟨(h2 k hk).1, fun h => (h2 k hk).2 (hB k h)⟩, Kd.R_mono h3 (fun k hk => ⟨hk.1, fun h => hk.2 (hB k h)⟩)⟩, fun k hk => h4 k (hB k hk)⟩
theorem Duo.next {w' : World} (h : Duo K e w0 w B g id lsn cs v xs) (hb : Below w.heap.size w w') : Duo K e w0 w' B g id lsn cs v xs := by
  obtain ⟨⟨ok, h1, h2, h3⟩, h4⟩ := h
  have hs := hb.size
  exact ⟨⟨ok, h1.next hb, fun k hk => ⟨by have := (h2 k hk).1; omega, (h2 k hk).2⟩, Kd.R_below h3 hb⟩, fun k hk => by have := h4 k hk; omega⟩
/-- New blocks are set apart. -/
theorem Duo.apart {w' : World} {B' : Nat → Prop} (h : Duo K e w0 w B g id lsn cs v xs) (hb : Below w.heap.size w w') (hB : ∀ k, B' k → B k ∨ (w.heap.size ≤ k ∧ k < w'.heap.size)) : Duo K e w0 w' B' g id lsn cs v xs := by
  obtain ⟨⟨ok, h1, h2, h3⟩, h4⟩ := h
  have hs := hb.size
  refine ⟨⟨ok, h1.next hb, fun k hk => ⟨by have := (h2 k hk).1; omega, fun h => ?_⟩, Kd.R_mono (Kd.R_below (Kd.R_bound h3) hb) (fun k hk => ⟨hk.1.1, fun h => ?_⟩)⟩, fun k hk => ?_⟩
  · rcases hB k h with h | h
    · exact (h2 k hk).2 h
    · have := (h2 k hk).1; omega
  · rcases hB k h with h | h
    · exact hk.1.2 h
    · have := hk.2.2.1; omega
  · rcases hB k hk with h | h
    · have := h4 k h; omega
    · exact h.2
/-- The page has changed. -/
theorem Duo.page {ok : Nat → Prop} {w' : World} {lsn' : Nat} {cs2 : List SGCell} (h2 : ∀ k, ok k → k < w.heap.size ∧ ¬ B k) (h3 : Kd.R K e w w0.heap.size (fun k => ¬ ok k ∧ ¬ B k) v xs) (h4 : ∀ k, B k → k < w.heap.size)
    (hA : After w0 w w' ok g id lsn' cs2) : Duo K e w0 w' B g id lsn' cs2 v xs ∧ ∀ k, B k → w'.heap[k]? = w.heap[k]? := by
  have hs := hA.kept.1
  refine ⟨⟨⟨_, hA.here.bound, fun k hk => ⟨hk.2, fun h => ?_⟩, Kd.R_mono (Kd.R_kept (Kd.R_bound h3) hA.kept (fun k h => h.1.1)) (fun k hk => ⟨fun ho => ?_, hk.1.2⟩)⟩, fun k hk => by have := h4 k hk; omega⟩, fun k h => hA.kept.2 k (h4 k h) (fun ho => (h2 k ho).2 h)⟩
  · rcases hk.1 with ho | ho
    · exact (h2 k ho).2 h
    · have := h4 k h; omega
  · rcases ho.1 with h | h
    · exact hk.1.1 h
    · have := hk.2.2.1; omega
theorem Duo.do_ (h : Duo K e w0 w B g id lsn cs v xs) (k : Int) (a b c : ByteArray) (ha : a.size ≤ 140737488351232) (hb : b.size ≤ 140737488351232) (hc : c.size ≤ 140737488351232) :
    Calls Try.prog 21 #[.pointer (some ⟨g, 0, none⟩), .agg #[.int .i64 k, .string a, .string b, .string c]] w fun e' w' => e' = .returned (.int .i64 (actDo cs k a b c).2) ∧ Duo K e w0 w' B g id lsn (actDo cs k a b c).1 v xs ∧ ∀ k, B k → w'.heap[k]? = w.heap[k]? := by
  obtain ⟨⟨ok, h1, h2, h3⟩, h4⟩ := h
  refine (do_calls h1 k a b c ha hb hc).mono ?_
  rintro e' w' ⟨rfl, hA⟩
  exact ⟨rfl, Duo.page h2 h3 h4 hA⟩
/-- A row that came behind the page. -/
theorem Duo.of {ok : Nat → Prop} {w' : World} (h : Here w0 w ok g id lsn cs) (hk : ∀ k, ok k → k < w.heap.size) (hb : Below w.heap.size w w') (hr : Kd.R K e w' w.heap.size (fun k => w.heap.size ≤ k) v xs) : Duo K e w0 w' (fun _ => False) g id lsn cs v xs :=
  ⟨⟨ok, h.next hb, fun k ho => ⟨by have := hk k ho; have := hb.size; omega, fun h => h⟩, Kd.R_mono (Kd.R_lower hr h.bel.size) (fun k hk' => ⟨fun ho => by have := hk k ho; omega, fun h => h⟩)⟩, fun k h => h.elim⟩
/-- The row changes, the page is kept. -/
theorem Duo.grow (h : Duo K e w0 w B g id lsn cs v xs) : ∃ ok : Nat → Prop, (∀ k, w.heap.size ≤ k → ok k) ∧ Kd.R K e w w0.heap.size ok v xs ∧
    ∀ w' v' ys, w.grownBy w' v.ownBlock → Kd.R K e w' w0.heap.size ok v' ys → Duo K e w0 w' B g id lsn cs v' ys := by
  obtain ⟨⟨ok, h1, h2, h3⟩, h4⟩ := h
  refine ⟨_, fun k hk => ⟨fun ho => by have := (h2 k ho).1; omega, fun hb => by have := h4 k hb; omega⟩, h3, fun w' v' ys hg hr => ⟨⟨ok, h1.grown hg (fun k hk => ⟨(h3.1 k hk).1, ((Kd.R_bound h3).1 k hk).2.1⟩), fun k hk => ⟨by have := (h2 k hk).1; have := hg.size; omega, (h2 k hk).2⟩, hr⟩, fun k hk => by have := h4 k hk; have := hg.size; omega⟩⟩
end
end Go.Proofs.Ytidgfigfebkieaa
end
section
namespace Go.Proofs.Ytidgfigfebkieaa
open Go.RowKit Go.Proofs.YtidgfigfebkieaaW.PrintWords Go.Proofs.YtidgfigfebkieaaW.PrintLast Go.Proofs.YtidgfigfebkieaaW.PrintMore
open Rf Go.ChangeMaps
set_option linter.unusedVariables false
set_option linter.unusedSimpArgs false
section
variable {w0 w : World} {ok : Nat → Prop} {g id lsn : Nat} {cs : List SGCell}
end
end Go.Proofs.Ytidgfigfebkieaa
end
section
namespace Go.Proofs.Ytidgfigfebkieaa
open Go.RowKit Go.Proofs.YtidgfigfebkieaaW.PrintWords Go.Proofs.YtidgfigfebkieaaW.PrintLast Go.Proofs.YtidgfigfebkieaaW.PrintMore
open Rf
set_option linter.unusedVariables false
set_option linter.unusedSimpArgs false
theorem act_at {w : World} {A : Option Addr} {n : Nat} {xs : List SGAct} (h : Kd.C kGAct w A n xs) (k : Nat) (h1 : k < n) : ∃ ad, A = some ad ∧ w.cell? (ad.add (k * 4)) = some (.int .i64 (rd_TGAct xs k).f0) ∧ w.cell? ⟨(ad.add (k * 4)).block, (ad.add (k * 4)).off + 1, none⟩ = some (.string (rd_TGAct xs k).f1) ∧ w.cell? ⟨(ad.add (k * 4)).block, (ad.add (k * 4)).off + 2, none⟩ = some (.string (rd_TGAct xs k).f2) ∧ w.cell? ⟨(ad.add (k * 4)).block, (ad.add (k * 4)).off + 3, none⟩ = some (.string (rd_TGAct xs k).f3) := by
  have := at_TGAct h (k : Int) (by omega) (by omega)
  rwa [Int.toNat_natCast] at this
theorem act_mem (xs : List SGAct) (k : Nat) (h : k < xs.length) : rd_TGAct xs k ∈ xs := by
  simp [rd_TGAct, List.getD_eq_getElem?_getD, List.getElem?_eq_getElem h]
theorem Twin.here {w0 w : World} {B : Nat → Prop} {g id lsn : Nat} {cs cs' : List SGCell} {v : Value} (h : Twin w0 w B g id lsn cs cs' v) : ∃ ok, Here w0 w ok g id lsn cs := by
  obtain ⟨⟨ok, h1, _⟩, _⟩ := h
  exact ⟨ok, h1⟩
theorem cell_lt {w : World} {a : Addr} {u : Value} (h : w.cell? a = some u) : a.block < w.heap.size := by
  apply Decidable.byContradiction
  intro hn
  have hnone : w.heap[a.block]? = none := Array.getElem?_eq_none (by omega)
  simp [World.cell?, hnone] at h
theorem far3 {w : World} {q : Addr} {g : Nat} {x y z u : Value} (hne : q.block ≠ g) (h : w.cell? q = some u) : (((w.setCell ⟨g, 0, none⟩ x).setCell ⟨g, 1, none⟩ y).setCell ⟨g, 2, none⟩ z).cell? q = some u := by
  have ne : ∀ i, (⟨g, i, none⟩ : Addr) ≠ q := fun i e => hne (by rw [← e])
  rw [World.cell?_setCell_other (h := ne 2), World.cell?_setCell_other (h := ne 1), World.cell?_setCell_other (h := ne 0)]
  exact h
end Go.Proofs.Ytidgfigfebkieaa
end
