/- Layer 6: PageNews' walk. 
Where the functions, types and variables that sort.Slice reaches lie at this dump. 
sort.Slice as Pairs calls it: what it leaves, at whatever length. 
A row of pairs as sort.Slice sees it, and back. 
sort.Slice over an own row of pairs, whatever its length. 
A nil page's answers. 
The call of page's Pairs. 
PLAIN: the document's Pairs sorts the slots' pairs; SamePairs of a row with itself. 
More of a page that stands: Clone, Pairs, Stamp; what is kept; rows of pairs written. 
What Parse answers to a page's own bytes, under its id, under another one, and with one byte turned. 
A page of the call's own and the document's beside it; blocks B that neither touches. -/
import Derived.Test.YtidkdbohkbfhbaaZMgRr3
import Derived.Shelf.GgSortFunc.Lays
import Derived.Test.YtidkdbohkbfhbaaProg
import Derived.Test.YtidkdbohkbfhbaaZRfT
import Derived.Deep.QuietTactic
import Derived.Shelf.SlSortFuncK.WholeK
import Derived.Shelf.GgSortFunc.Tiny
import Derived.Sort.OwnSorted
import Derived.Test.YtidkdbohkbfhbaaZMgRr1
import Derived.Test.YtidkdbohkbfhbaaZMgRr4
import Derived.Test.YtidkdbohkbfhbaaZRf6
import Derived.Test.YtidkdbohkbfhbaaZMgRr2
import Derived.Test.YtidkdbohkbfhbaaZMgRr5
section
namespace Go.Proofs.Ytidkdbohkbfhbaa
open Go.RowKit Go.Proofs.YtidkdbohkbfhbaaW.PrintWords Go.Proofs.YtidkdbohkbfhbaaW.PrintLast Go.Proofs.YtidkdbohkbfhbaaW.PrintMore
open Rf
set_option linter.unusedVariables false
set_option linter.unusedSimpArgs false

theorem new_here (id : Nat) (w : World) (h : id < 16) :
    Calls Try.prog 10 #[.int .i64 id] w fun e w' => e = .returned (.tuple #[.pointer (some ⟨w.heap.size, 0, none⟩), .int .i64 0]) ∧ Here w w' (fun k => w.heap.size ≤ k) w.heap.size id 0 [] := by
  refine (new_ok id w (by omega) (by omega)).mono ?_
  rintro e w' ⟨rfl, hp, hb⟩
  exact ⟨rfl, ⟨hp _ (Nat.le_refl _), hb, Valid.nil, h, by decide⟩⟩

end Go.Proofs.Ytidkdbohkbfhbaa
end
section
namespace Go.Proofs.Ytidkdbohkbfhbaa
open Go.Shelf Go.Proofs
def Try.sl6_ren : Go.Shelf.Ren := ⟨fun | 6 => 49 | 10 => 59 | 11 => 60 | 12 => 61 | 13 => 62 | 14 => 63 | 24 => 75 | 25 => 76 | 26 => 77 | 27 => 78 | 28 => 79 | 29 => 80 | 30 => 81 | 31 => 82 | 32 => 83 | 33 => 84 | 34 => 85 | 35 => 86 | 36 => 87 | 37 => 88 | 38 => 89 | 39 => 90 | n => n, fun | 20 => 20 | 26 => 89 | 35 => 100 | 0 => 0 | 37 => 102 | 3 => 3 | 41 => 55 | 44 => 107 | 49 => 76 | 51 => 29 | 4 => 4 | 54 => 118 | 53 => 117 | 58 => 122 | 5 => 5 | 9 => 9 | 60 => 124 | 64 => 128 | 66 => 130 | 67 => 131 | 17 => 17 | 32 => 97 | 33 => 98 | 82 => 146 | 12 => 12 | 75 => 139 | 76 => 140 | 77 => 141 | 78 => 142 | 79 => 143 | 80 => 144 | n => n, fun n => n⟩
theorem Try.sl6 : LaysGg.n6 Try.prog Try.sl6_ren := {
  mixed := by kernel_rfl,
  f6 := Try.func49.trans (congrArg some (by kernel_rfl)),
  f10 := Try.func59.trans (congrArg some (by kernel_rfl)),
  f11 := Try.func60.trans (congrArg some (by kernel_rfl)),
  f12 := Try.func61.trans (congrArg some (by kernel_rfl)),
  f13 := Try.func62.trans (congrArg some (by kernel_rfl)),
  f14 := Try.func63.trans (congrArg some (by kernel_rfl)),
  f24 := Try.func75.trans (congrArg some (by kernel_rfl)),
  f25 := Try.func76.trans (congrArg some (by kernel_rfl)),
  f26 := Try.func77.trans (congrArg some (by kernel_rfl)),
  f27 := Try.func78.trans (congrArg some (by kernel_rfl)),
  f28 := Try.func79.trans (congrArg some (by kernel_rfl)),
  f29 := Try.func80.trans (congrArg some (by kernel_rfl)),
  f30 := Try.func81.trans (congrArg some (by kernel_rfl)),
  f31 := Try.func82.trans (congrArg some (by kernel_rfl)),
  f32 := Try.func83.trans (congrArg some (by kernel_rfl)),
  f33 := Try.func84.trans (congrArg some (by kernel_rfl)),
  f34 := Try.func85.trans (congrArg some (by kernel_rfl)),
  f35 := Try.func86.trans (congrArg some (by kernel_rfl)),
  f36 := Try.func87.trans (congrArg some (by kernel_rfl)),
  f37 := Try.func88.trans (congrArg some (by kernel_rfl)),
  f38 := Try.func89.trans (congrArg some (by kernel_rfl)),
  f39 := Try.func90.trans (congrArg some (by kernel_rfl)),
  t0 := Try.underlying0,
  a0 := Try.isAgg0,
  z0 := Try.sizeOf0,
  v0 := Try.zeroValue0,
  i0 := by kernel_rfl,
  t3 := Try.underlying3,
  a3 := Try.isAgg3,
  z3 := Try.sizeOf3,
  v3 := Try.zeroValue3,
  i3 := by kernel_rfl,
  t4 := Try.underlying4,
  a4 := Try.isAgg4,
  z4 := Try.sizeOf4,
  v4 := Try.zeroValue4,
  i4 := by kernel_rfl,
  t5 := Try.underlying5,
  a5 := Try.isAgg5,
  z5 := Try.sizeOf5,
  v5 := Try.zeroValue5,
  i5 := by kernel_rfl,
  t9 := Try.underlying9,
  a9 := Try.isAgg9,
  z9 := Try.sizeOf9,
  v9 := Try.zeroValue9,
  i9 := by kernel_rfl,
  t12 := Try.underlying12,
  a12 := Try.isAgg12,
  z12 := Try.sizeOf12,
  v12 := Try.zeroValue12,
  i12 := by kernel_rfl,
  t17 := Try.underlying17,
  a17 := Try.isAgg17,
  z17 := Try.sizeOf17,
  v17 := Try.zeroValue17,
  i17 := by kernel_rfl,
  t20 := Try.underlying20,
  a20 := Try.isAgg20,
  z20 := Try.sizeOf20,
  v20 := Try.zeroValue20,
  i20 := by kernel_rfl,
  t26 := Try.underlying89,
  a26 := Try.isAgg89,
  z26 := Try.sizeOf89,
  v26 := Try.zeroValue89,
  i26 := by kernel_rfl,
  t32 := Try.underlying97,
  a32 := Try.isAgg97,
  z32 := Try.sizeOf97,
  v32 := Try.zeroValue97,
  i32 := by kernel_rfl,
  t33 := Try.underlying98,
  a33 := Try.isAgg98,
  z33 := Try.sizeOf98,
  v33 := Try.zeroValue98,
  i33 := by kernel_rfl,
  t35 := Try.underlying100,
  a35 := Try.isAgg100,
  z35 := Try.sizeOf100,
  v35 := Try.zeroValue100,
  i35 := by kernel_rfl,
  t37 := Try.underlying102,
  a37 := Try.isAgg102,
  z37 := Try.sizeOf102,
  v37 := Try.zeroValue102,
  i37 := by kernel_rfl,
  t41 := Try.underlying55,
  a41 := Try.isAgg55,
  z41 := Try.sizeOf55,
  v41 := Try.zeroValue55,
  i41 := by kernel_rfl,
  t44 := Try.underlying107,
  a44 := Try.isAgg107,
  z44 := Try.sizeOf107,
  v44 := Try.zeroValue107,
  i44 := by kernel_rfl,
  t49 := Try.underlying76,
  a49 := Try.isAgg76,
  z49 := Try.sizeOf76,
  v49 := Try.zeroValue76,
  i49 := by kernel_rfl,
  t51 := Try.underlying29,
  a51 := Try.isAgg29,
  z51 := Try.sizeOf29,
  v51 := Try.zeroValue29,
  i51 := by kernel_rfl,
  t53 := Try.underlying117,
  a53 := Try.isAgg117,
  z53 := Try.sizeOf117,
  v53 := Try.zeroValue117,
  i53 := by kernel_rfl,
  t54 := Try.underlying118,
  a54 := Try.isAgg118,
  z54 := Try.sizeOf118,
  v54 := Try.zeroValue118,
  i54 := by kernel_rfl,
  t58 := Try.underlying122,
  a58 := Try.isAgg122,
  z58 := Try.sizeOf122,
  v58 := Try.zeroValue122,
  i58 := by kernel_rfl,
  t60 := Try.underlying124,
  a60 := Try.isAgg124,
  z60 := Try.sizeOf124,
  v60 := Try.zeroValue124,
  i60 := by kernel_rfl,
  t64 := Try.underlying128,
  a64 := Try.isAgg128,
  z64 := Try.sizeOf128,
  v64 := Try.zeroValue128,
  i64 := by kernel_rfl,
  t66 := Try.underlying130,
  a66 := Try.isAgg130,
  z66 := Try.sizeOf130,
  v66 := Try.zeroValue130,
  i66 := by kernel_rfl,
  t67 := Try.underlying131,
  a67 := Try.isAgg131,
  z67 := Try.sizeOf131,
  v67 := Try.zeroValue131,
  i67 := by kernel_rfl,
  t75 := Try.underlying139,
  a75 := Try.isAgg139,
  z75 := Try.sizeOf139,
  v75 := Try.zeroValue139,
  i75 := by kernel_rfl,
  t76 := Try.underlying140,
  a76 := Try.isAgg140,
  z76 := Try.sizeOf140,
  v76 := Try.zeroValue140,
  i76 := by kernel_rfl,
  t77 := Try.underlying141,
  a77 := Try.isAgg141,
  z77 := Try.sizeOf141,
  v77 := Try.zeroValue141,
  i77 := by kernel_rfl,
  t78 := Try.underlying142,
  a78 := Try.isAgg142,
  z78 := Try.sizeOf142,
  v78 := Try.zeroValue142,
  i78 := by kernel_rfl,
  t79 := Try.underlying143,
  a79 := Try.isAgg143,
  z79 := Try.sizeOf143,
  v79 := Try.zeroValue143,
  i79 := by kernel_rfl,
  t80 := Try.underlying144,
  a80 := Try.isAgg144,
  z80 := Try.sizeOf144,
  v80 := Try.zeroValue144,
  i80 := by kernel_rfl,
  t82 := Try.underlying146,
  a82 := Try.isAgg146,
  z82 := Try.sizeOf146,
  v82 := Try.zeroValue146,
  i82 := by kernel_rfl }
end Go.Proofs.Ytidkdbohkbfhbaa
end
section
namespace Go.Proofs.Ytidkdbohkbfhbaa
open Go.Shelf Go.RowKit Go.Lib Go.Sort Go.Proofs
open Rf
set_option linter.unusedVariables false

instance instInhabSGPair : Inhabited SGPair := ⟨zGPair⟩
noncomputable def svT : TypeInfo := (Try.prog.info? 57).get (by kernel_rfl)
noncomputable def svE : TypeInfo := (Try.prog.info? 36).get (by kernel_rfl)
theorem svK (n : Nat) (h2 : 2 ≤ n) : Lib.swapperK n svE 25 = 9 := by
  have a : svE.hasPointers = true := by kernel_rfl
  have b : svE.bytes = 32 := by kernel_rfl
  have c : (n == 0) = false := by simp; omega
  have d : (n == 1) = false := by simp; omega
  simp [Lib.swapperK, a, b, c, d]
/-- A Pair: its two cells. -/
def encP (p : SGPair) : List Value := [.string p.f0, .string p.f1]
/-- less: by the key's bytes. -/
def ltKey (a b : SGPair) : Bool := Op.bytesLess a.f0.toList b.f0.toList
theorem swo_ltKey : SWO ltKey where
  irrefl x := by simp [ltKey, bytesLess_eq, List.lt_irrefl]
  trans x y z h1 h2 := by simp only [ltKey, bytesLess_eq, decide_eq_true_eq] at *; exact List.lt_trans h1 h2
  ntrans x y z h1 h2 := by
    simp only [ltKey, bytesLess_eq, decide_eq_false_iff_not, List.not_lt] at *
    exact List.le_trans h2 h1
theorem less_calls (blk off c Bs size : Nat) (W : World) (G : Nat → ByteArray) (hs : W.cell? ⟨Bs, 0, none⟩ = some (.slice (some ⟨blk, off, none⟩) size c))
    (hc : ∀ t, t < size → W.cell? ⟨blk, off + t * 2, none⟩ = some (.string (G t))) (i j : Nat) (hi : i < size) (hj : j < size) (_hsz : size < 4611686018427387904) :
    Calls Try.prog 50 #[.int .i64 i, .int .i64 j, .pointer (some ⟨Bs, 0, none⟩)] W fun e w' => e = .returned (.bool (Op.bytesLess (G i).toList (G j).toList)) ∧ ∃ q, w' = W.drewN q := by
  have ci := hc i hi
  have cj := hc j hj
  go_enter Try.func50, Try.ntmps50
  go_wp2
  go_quiet (fail)
  go_wp2
  go_ret
  exact ⟨rfl, nq, rfl⟩
/-- Two or more. -/
theorem sort_calls (blk off c Bs : Nat) (d : Array SGPair) (h2 : 2 ≤ d.size) (hsz : d.size < 4611686018427387904) (w : World) (hH : HoldsK encP 2 w blk off d) (hblk : blk < w.heap.size)
    (hBs : w.cell? ⟨Bs, 0, none⟩ = some (.slice (some ⟨blk, off, none⟩) d.size c)) (hB1 : Bs < w.heap.size) (hB2 : Bs ≠ blk) :
    Calls Try.prog 49 #[.iface 57 (.slice (some ⟨blk, off, none⟩) d.size c), .func (.func 50) #[] #[.pointer (some ⟨Bs, 0, none⟩)]] w fun e w' =>
      e = .returned (.tuple #[]) ∧ ∃ d' n os, PermIn 0 d.size d d' ∧ SortedIn ltKey 0 d.size d' ∧ w' = grow (putRowK encP 2 (Sort.ahead w n) blk off d') os := by
  have hless : LessReadsK Try.prog 50 #[.pointer (some ⟨Bs, 0, none⟩)] encP 2 ltKey blk off d.size w := by
    intro m os dk hs i j hi hj
    have e : sortWorldK encP 2 w blk off m dk os = putRowK encP 2 (grow (Sort.ahead w m) os) blk off dk := by
      unfold sortWorldK; rw [putRowK_grow _ _ (Sort.ahead w m) _ blk off _ hblk]
    have hHg : HoldsK encP 2 (grow (Sort.ahead w m) os) blk off d := holdsK_grow _ _ _ _ blk off d hblk (holdsK_ahead _ _ _ _ _ _ _ hH)
    refine less_calls blk off c Bs d.size _ (fun t => dk[t]!.f0) ?_ (fun t ht => ?_) i j hi hj (by omega)
    · rw [e, cell?_putRowK_other _ _ _ blk off dk _ (by exact hB2), cell?_grow _ _ _ (by exact hB1)]; exact hBs
    · rw [e]; exact ((holdsK_putRowK _ _ _ blk off d dk hHg hs).cell (i := t) (c := 0) (by omega) (by omega)).1
  exact Any.sort_Slice_cells_sorted Try.sl6 57 36 svT svE (by kernel_rfl) (by kernel_rfl) (by kernel_rfl) (by kernel_rfl) 25 (fun _ => by kernel_rfl) encP 2 (fun _ => rfl) (by kernel_rfl) (fun _ => by kernel_rfl)
    (fun x v hv => by simp [encP] at hv; rcases hv with rfl | rfl <;> rfl) ltKey swo_ltKey 50 _
    (enters_of Try.func50 (by kernel_rfl) rfl) blk off c d h2 hsz 74 (by rw [svK _ h2]; kernel_rfl) false
    (fun args W => run_callFunc_extern Try.func74 (by kernel_rfl) (by kernel_rfl) (by kernel_rfl) (e := Extern.ReflectliteSwapper.swap false) (by kernel_rfl) args W) w hless hH hblk
end Go.Proofs.Ytidkdbohkbfhbaa
end
section
namespace Go.Proofs.Ytidkdbohkbfhbaa
open Go.Shelf Go.RowKit Go.Lib Go.Sort Go.Proofs
open Go.Proofs.YtidkdbohkbfhbaaW.PrintWords Go.Proofs.YtidkdbohkbfhbaaW.PrintLast Go.Proofs.YtidkdbohkbfhbaaW.PrintMore
open Rf
set_option linter.unusedVariables false
set_option linter.unusedSimpArgs false

def flatP (l : List SGPair) : List Value := l.flatMap encP
theorem flatP_length (l : List SGPair) : (flatP l).length = l.length * 2 := by
  induction l with
  | nil => rfl
  | cons c l ih => have h : (List.flatMap encP l).length = l.length * 2 := ih; simp only [flatP, List.flatMap_cons, List.length_append, List.length_cons, h]; simp [encP]; omega
theorem flatP_get (l : List SGPair) (t : Nat) (h : t < l.length * 2) : (flatP l)[t]? = some ((encP (l[t / 2]'(by omega)))[t % 2]!) := by
  induction l generalizing t with
  | nil => simp at h
  | cons c l ih =>
    rcases t with _ | _ | t
    · rfl
    · rfl
    · have h2 : t < l.length * 2 := by simp at h; omega
      have e1 : (t + 1 + 1) / 2 = t / 2 + 1 := by omega
      have e2 : (t + 1 + 1) % 2 = t % 2 := by omega
      have hh := ih t h2
      show (flatP l)[t]? = _
      rw [hh]
      simp only [e1, e2, List.getElem_cons_succ]
theorem flatK_toList (d : Array SGPair) : (flatK encP 2 d).toList = flatP d.toList := by
  apply List.ext_getElem?
  intro t
  by_cases ht : t < d.size * 2
  · have h1 := get_flatK encP 2 d t ht
    have hl : t < (flatK encP 2 d).size := by simpa using ht
    rw [getElem!_pos _ t hl] at h1
    rw [flatP_get d.toList t (by simpa using ht), Array.getElem?_toList, Array.getElem?_eq_getElem hl, h1]
    congr 2
    rw [getElem!_pos d (t / 2) (by omega)]
    simp
  · rw [List.getElem?_eq_none (by simp; omega), List.getElem?_eq_none (by rw [flatP_length]; simp; omega)]
theorem take_putId (cur F : Array Value) (h : F.size ≤ cur.size) : (putCells id 0 F cur).toList.take F.size = F.toList := by
  apply List.ext_getElem?
  intro j
  by_cases hj : j < F.size
  · rw [List.getElem?_take_of_lt hj, Array.getElem?_toList]
    simp [putCells, hj, show j < cur.size by omega]
  · rw [List.getElem?_take_eq_none (by omega), List.getElem?_eq_none (by simp; omega)]
theorem heap_put {w : World} {g n : Nat} {e : TypeId} {cur : Array Value} (d : Array SGPair) (os : Array Obj) (hb : w.heap[g]? = some (.cells cur e (0, 0))) :
    (grow (putRowK encP 2 (Sort.ahead w n) g 0 d) os).heap[g]? = some (.cells (putCells id 0 (flatK encP 2 d) cur) e (0, 0)) := by
  have hlt : g < w.heap.size := (Array.getElem?_eq_some_iff.1 hb).1
  rw [heap_grow_old _ _ (by simpa [putRowK, putRow, mapBlock, Sort.ahead] using hlt)]
  simp [putRowK, putRow, mapBlock, Sort.ahead, Array.getElem?_modify, hb, onCells]
theorem owns_sorted {w : World} {base g cap n m : Nat} {e : TypeId} (d d' : Array SGPair) (os : Array Obj) (hs : d'.size = d.size) (h : w.ownsRow base e 2 (.slice (some ⟨g, 0, none⟩) n cap) n (flatP d.toList)) (hn : n = d.size) (hp : 0 < n) :
    (grow (putRowK encP 2 (Sort.ahead w m) g 0 d') os).ownsRow base e 2 (.slice (some ⟨g, 0, none⟩) n cap) n (flatP d'.toList) := by
  obtain ⟨hl, h⟩ := h
  rcases h with ⟨_, h0⟩ | ⟨g', cap', cur, he, hb, hg, h1, h2, h3, h4⟩
  · omega
  · injection he with e1 _ e3
    injection e1 with e1
    injection e1 with e1 _ _
    subst e1; subst e3
    refine ⟨by rw [flatP_length]; simp [hs, hn], .inr ⟨g, cap, _, rfl, hb, heap_put d' os hg, h1, h2, by simp [putCells, h3], ?_⟩⟩
    rw [← flatK_toList, ← take_putId cur (flatK encP 2 d') (by simp [hs, h3]; omega)]
    congr 1
    simp [hs, hn]
theorem reps_flatP {R : SGPair → List Value → Prop} (hR : ∀ p c, R p c → c = encP p) (cs : List SGPair) (xs : List Value) (h : Reps R 2 cs xs) : xs = flatP cs := by
  induction cs generalizing xs with
  | nil => have := h.1; simp at this; subst this; rfl
  | cons c cs ih =>
    have h0 := hR _ _ (h.2 0 c rfl)
    simp only [Nat.zero_mul, List.drop_zero] at h0
    have hl := h.1
    simp only [List.length_cons] at hl
    have h1 : Reps R 2 cs (xs.drop 2) := by
      refine ⟨by rw [List.length_drop]; omega, fun j p hj => ?_⟩
      have := h.2 (j + 1) p hj
      rw [List.drop_drop]
      rw [Nat.add_mul, Nat.add_comm] at this
      exact this
    rw [← List.take_append_drop 2 xs, h0, ih _ h1]
    rfl
theorem flatP_drop (cs : List SGPair) (k : Nat) (hk : k ≤ cs.length) : flatP (cs.drop k) = (flatP cs).drop (k * 2) := by
  have h : flatP cs = flatP (cs.take k) ++ flatP (cs.drop k) := by simp only [flatP]; rw [← List.flatMap_append, List.take_append_drop]
  rw [h, List.drop_left' (by rw [flatP_length, List.length_take]; congr 1; omega)]
theorem flatP_reps {R : SGPair → List Value → Prop} (hR : ∀ p, R p (encP p)) (cs : List SGPair) : Reps R 2 cs (flatP cs) := by
  refine ⟨flatP_length cs, fun j p hj => ?_⟩
  obtain ⟨hl, hp⟩ := List.getElem?_eq_some_iff.1 hj
  rw [← flatP_drop cs j (by omega), List.drop_eq_getElem_cons hl]
  show R p ((encP cs[j] ++ flatP (cs.drop (j + 1))).take 2)
  rw [hp]
  exact hR p
theorem RP_flat {e : TypeId} {w : World} {base : Nat} {ok : Nat → Prop} {v : Value} {cs : List SGPair} (h : Kd.R kGPair e w base ok v cs) : w.ownsRow base e 2 v cs.length (flatP cs) := by
  obtain ⟨_, inner, ho, hr⟩ := h
  have := reps_flatP (fun p c hc => kGPair_openM hc) cs inner hr
  subst this
  exact ho
theorem RP_of_flat {e : TypeId} {w : World} {base : Nat} {ok : Nat → Prop} {v : Value} {cs : List SGPair} (hok : ∀ k, v.ownBlock = some k → ok k) (h : w.ownsRow base e 2 v cs.length (flatP cs)) : Kd.R kGPair e w base ok v cs :=
  ⟨hok, flatP cs, h, flatP_reps (fun p => kGPair_mkM _ _ _ p) cs⟩
/-- The row that is sorted holds what is asked. -/
theorem holds_of_R {e : TypeId} {w : World} {base g n cap : Nat} {ok : Nat → Prop} {l : List SGPair} (h : Kd.R kGPair e w base ok (.slice (some ⟨g, 0, none⟩) n cap) l) : HoldsK encP 2 w g 0 l.toArray := by
  have hn := (Kd.R_reads' h).1
  intro t ht
  have ht2 : t < l.length * 2 := by simpa using ht
  obtain ⟨c, hc, hM, hcell, hfr⟩ := Kd.R_elem h zGPair ((t / 2 : Nat) : Int) (by omega) (by omega)
  have hsz : kGPair.sz = 2 := rfl
  rw [Int.toNat_natCast, hsz] at hcell hfr
  rw [Int.toNat_natCast] at hM
  have hce := kGPair_openM hM
  have e1 : l.getD (t / 2) zGPair = l.toArray[t / 2]! := by
    rw [getElem!_pos _ _ (by simpa using (by omega : t / 2 < l.length))]
    simp [List.getD_eq_getElem?_getD, List.getElem?_eq_getElem (by omega : t / 2 < l.length)]
  have e2 : t / 2 * 2 + t % 2 = t := by omega
  have h1 := hcell (t % 2) ((encP l.toArray[t / 2]!)[t % 2]!) (by
    rw [hce, e1]
    rcases Nat.mod_two_eq_zero_or_one t with hm | hm <;> rw [hm] <;> rfl)
  have h2 := hfr (t % 2)
  rw [e2] at h1 h2
  rw [Nat.zero_add, get_flatK encP 2 _ t ht2]
  exact ⟨h1, h2⟩
theorem R_sorted {w : World} {base g cap n m : Nat} {e : TypeId} {ok : Nat → Prop} {l : List SGPair} (d' : Array SGPair) (os : Array Obj) (hs : d'.size = l.length) (h : Kd.R kGPair e w base ok (.slice (some ⟨g, 0, none⟩) n cap) l) (hp : 0 < n) :
    Kd.R kGPair e (grow (putRowK encP 2 (Sort.ahead w m) g 0 d') os) base ok (.slice (some ⟨g, 0, none⟩) n cap) d'.toList := by
  have hn : l.length = n := (Kd.R_reads' h).1.symm
  have ho := RP_flat h
  rw [hn] at ho
  have := owns_sorted (m := m) l.toArray d' os (by simpa using hs) (by simpa using ho) (by simpa using hn.symm) hp
  refine RP_of_flat h.1 ?_
  rw [Array.length_toList, hs, hn]
  exact this
end Go.Proofs.Ytidkdbohkbfhbaa
end
section
namespace Go.Proofs.Ytidkdbohkbfhbaa
open Go.Shelf Go.RowKit Go.Lib Go.Sort Go.Proofs
open Go.Proofs.YtidkdbohkbfhbaaW.PrintWords Go.Proofs.YtidkdbohkbfhbaaW.PrintLast Go.Proofs.YtidkdbohkbfhbaaW.PrintMore
open Rf
set_option linter.unusedVariables false
set_option linter.unusedSimpArgs false

theorem grow_grown {w : World} {g n : Nat} (d : Array SGPair) (os : Array Obj) : w.grownBy (grow (putRowK encP 2 (Sort.ahead w n) g 0 d) os) (some g) := by
  refine ⟨rfl, rfl, rfl, by simp [putRowK, putRow, mapBlock, Sort.ahead, grow], fun k hk hne => ?_⟩
  rw [heap_grow_old _ _ (by simpa [putRowK, putRow, mapBlock, Sort.ahead] using hk)]
  have : g ≠ k := fun e => hne (by rw [e])
  simp [putRowK, putRow, mapBlock, Sort.ahead, Array.getElem?_modify, this]
theorem grow_only {w : World} (os : Array Obj) : w.grownBy (grow w os) none := by
  refine ⟨rfl, rfl, rfl, by simp [grow], fun k hk hne => ?_⟩
  rw [heap_grow_old _ _ hk]
/-- By rising keys. -/
def Srt (l : List SGPair) : Prop := l.Pairwise fun a b => ltKey b a = false
theorem srt_of {d : Array SGPair} {n : Nat} (h : SortedIn ltKey 0 n d) (hn : d.size = n) : Srt d.toList := by
  refine List.pairwise_iff_getElem.mpr fun i j hi hj hij => ?_
  have hi' : i < d.size := by simpa using hi
  have hj' : j < d.size := by simpa using hj
  have := h i j (Nat.zero_le _) hij (by omega)
  rw [getElem!_pos d i hi', getElem!_pos d j hj'] at this
  simpa using this
theorem sort_row (w : World) (base Bs n cap : Nat) (A : Option Addr) (ok : Nat → Prop) (l : List SGPair) (hR : Kd.R kGPair 36 w base ok (.slice A n cap) l) (hl : l.length ≤ 1000)
    (hx : w.heap[Bs]? = some (.cells #[.slice A n cap] 57)) (hne : ∀ k, ok k → k ≠ Bs) :
    Calls Try.prog 49 #[.iface 57 (.slice A n cap), .func (.func 50) #[] #[.pointer (some ⟨Bs, 0, none⟩)]] w fun e w' =>
      e = .returned (.tuple #[]) ∧ ∃ l', l'.Perm l ∧ Srt l' ∧ Kd.R kGPair 36 w' base ok (.slice A n cap) l' ∧ w.grownBy w' (Value.slice A n cap).ownBlock ∧ w'.heap[Bs]? = some (.cells #[.slice A n cap] 57) := by
  have hn : l.length = n := (Kd.R_reads' hR).1.symm
  by_cases h2 : 2 ≤ l.length
  · obtain ⟨g, cap', he, hb, hlt, _⟩ := Kd.R_form hR (by omega)
    injection he with e1 e2 e3
    subst e1
    have hg : ok g := hR.1 g rfl
    have hd : l.toArray.size = n := by simpa using hn
    have h := sort_calls g 0 cap Bs l.toArray (by simpa using h2) (by simp; omega) w (holds_of_R hR) hlt (by rw [hd]; exact blk_cell hx 0) (blk_lt hx) (fun e => hne g hg e.symm)
    rw [hd] at h
    refine h.mono ?_
    rintro e w' ⟨rfl, d', m, os, hp, hs, rfl⟩
    have hsz : d'.size = l.length := by have := hp.1; simpa using this
    refine ⟨rfl, d'.toList, ?_, srt_of hs (by rw [hsz]; exact hn), R_sorted d' os hsz hR (by omega), grow_grown d' os, blk_grown hx (grow_grown d' os) (fun e => hne g hg (by injection e with e; exact e.symm))⟩
    have hq := hp.2.2
    have e1 : d'.extract 0 n = d' := by rw [← hn, ← hsz]; exact Array.extract_size
    have e2 : l.toArray.extract 0 n = l.toArray := by rw [← hd]; exact Array.extract_size
    rw [e1, e2] at hq
    exact hq
  · have key : ∃ f, Try.prog.funcs.findIdx? (·.name == "internal/reflectlite" ++ ".Swapper$" ++ toString (Lib.swapperK n svE 25)) = some f := by
      rcases (by omega : n = 0 ∨ n = 1) with rfl | rfl
      · exact ⟨66, by rw [show Lib.swapperK 0 svE 25 = 1 from rfl]; kernel_rfl⟩
      · exact ⟨67, by rw [show Lib.swapperK 1 svE 25 = 2 from rfl]; kernel_rfl⟩
    obtain ⟨f, hf⟩ := key
    have h := Any.sort_Slice_tiny Try.sl6 57 36 svT svE (by kernel_rfl) (by kernel_rfl) (by kernel_rfl) (by kernel_rfl) 25 (fun _ => by kernel_rfl) A n cap (by omega) f hf (.func 50) #[] #[.pointer (some ⟨Bs, 0, none⟩)] w
    refine h.mono ?_
    rintro e w' ⟨rfl, os, rfl⟩
    have hg := grow_only (w := w) os
    refine ⟨rfl, l, List.Perm.refl _, ?_, Kd.R_grown hR hg (by simp), ⟨hg.os, hg.tape, hg.output, hg.size, fun k hk _ => hg.block k hk (by simp)⟩, blk_grown hx hg (by simp)⟩
    match l, hn with
    | [], _ => exact List.Pairwise.nil
    | [a], _ => exact List.pairwise_singleton _ _
    | a :: b :: r, hn => simp at h2
end Go.Proofs.Ytidkdbohkbfhbaa
end
section
namespace Go.Proofs.Ytidkdbohkbfhbaa
open Go.RowKit Go.Proofs.YtidkdbohkbfhbaaW.PrintWords Go.Proofs.YtidkdbohkbfhbaaW.PrintLast Go.Proofs.YtidkdbohkbfhbaaW.PrintMore
open Rf
set_option linter.unusedVariables false
set_option linter.unusedSimpArgs false

end Go.Proofs.Ytidkdbohkbfhbaa
end
section
namespace Go.Proofs.Ytidkdbohkbfhbaa
open Go.RowKit Go.Sort Go.Proofs.YtidkdbohkbfhbaaW.PrintWords Go.Proofs.YtidkdbohkbfhbaaW.PrintLast Go.Proofs.YtidkdbohkbfhbaaW.PrintMore
open Rf
set_option linter.unusedVariables false
set_option linter.unusedSimpArgs false

/-- The pairs of the used slots, in the slots' order. -/
def prs (cs : List SGCell) : List SGPair := (cs.filter (·.f0)).map fun c => ⟨c.f1, c.f2⟩
theorem prs_used (cs : List SGCell) (k : Nat) (hk : k < cs.length) (hu : (rd_TGCell cs k).f0 = true) : prs (cs.take k) ++ [⟨(rd_TGCell cs k).f1, (rd_TGCell cs k).f2⟩] = prs (cs.take (k + 1)) := by
  rw [rd_get cs k hk] at hu ⊢
  unfold prs
  conv => rhs; rw [List.take_succ_eq_append_getElem hk, List.filter_append, List.map_append]
  simp [hu]
theorem prs_free (cs : List SGCell) (k : Nat) (hk : k < cs.length) (hu : ¬ (rd_TGCell cs k).f0 = true) : prs (cs.take k) = prs (cs.take (k + 1)) := by
  rw [rd_get cs k hk] at hu
  unfold prs
  conv => rhs; rw [List.take_succ_eq_append_getElem hk, List.filter_append, List.map_append]
  simp [hu]
set_option maxRecDepth 100000 in
set_option maxHeartbeats 1000000 in
theorem pairs_calls (w : World) (g : Nat) (id lsn : Int) (A : Option Addr) (c : Nat) (cs : List SGCell)
    (hp : PgAt w g id lsn (.slice A cs.length c)) (hC : Kd.C kGCell w A cs.length cs) (hl : cs.length ≤ 1000) :
    Calls Try.prog 27 #[.pointer (some ⟨g, 0, none⟩)] w fun e w' => ∃ v l, e = .returned v ∧ Kd.R kGPair 36 w' w.heap.size (fun k => w.heap.size ≤ k) v l ∧ l.Perm (prs cs) ∧ Srt l ∧ Below w.heap.size w w' := by
  have HP := Aside0.mk hp
  have HC := Aside0.mk hC
  clear hp hC
  go_enter Try.func27, Try.ntmps27
  go_wp2_with fail
  have hb0 : Below w.heap.size w ((w.alloc (.cells #[] 36)).alloc (.cells #[.slice (some ⟨w.heap.size, 0, none⟩) 0 0] 57)) := below_alloc (below_alloc (Below.refl _ _) _) _
  have hbx : ((w.alloc (.cells #[] 36)).alloc (.cells #[.slice (some ⟨w.heap.size, 0, none⟩) 0 0] 57)).heap[w.heap.size + 1]? = some (.cells #[.slice (some ⟨w.heap.size, 0, none⟩) 0 0] 57) := by
    have := heap_alloc_new (w.alloc (.cells #[] 36)) (.cells #[.slice (some ⟨w.heap.size, 0, none⟩) 0 0] 57)
    simpa using this
  have hrw : Kd.R kGPair 36 ((w.alloc (.cells #[] 36)).alloc (.cells #[.slice (some ⟨w.heap.size, 0, none⟩) 0 0] 57)) w.heap.size (fun k => w.heap.size ≤ k ∧ k ≠ w.heap.size + 1) (.slice (some ⟨w.heap.size, 0, none⟩) 0 0) [] := by
    refine Kd.R_alloc ?_ _
    refine RP_of_flat (fun k hk => ?_) ?_
    · have : w.heap.size = k := by simpa [Value.ownBlock] using hk
      omega
    · exact World.ownsRow_lit (base := w.heap.size) (e := 36) (size := 2) w #[] 0 (Nat.le_refl _) (by simp [maxLen]) rfl
  generalize (w.alloc (.cells #[] 36)).alloc (.cells #[.slice (some ⟨w.heap.size, 0, none⟩) 0 0] 57) = w2 at hb0 hbx hrw ⊢
  refine (cells_calls w2 g id lsn A c cs (HP.out.below hb0) (Kd.C_below HC.out hb0) hl).mono ?_
  rintro e w3 ⟨v, rfl, hR, hb⟩
  obtain ⟨As, ca, rfl⟩ := Kd.R_slice hR
  have hsz2 := hb0.size
  have hsz3 := hb.size
  have hlt2 := blk_lt hbx
  have HB := Aside0.mk (below_then hb0 hb0.size hb)
  have HX := Aside0.mk ((hb.block _ (blk_lt hbx)).trans hbx)
  have HO := Aside0.mk (show Kd.R kGCell 46 w3 w.heap.size (fun q => q ≠ w.heap.size + 1 ∧ some q ≠ (Value.slice (some ⟨w.heap.size, 0, none⟩) 0 0).ownBlock) (.slice As cs.length ca) cs from Kd.R_lower (Kd.R_mono hR (fun q hq => ⟨by omega, by simp [Value.ownBlock]; omega⟩)) hsz2)
  have hne : ∀ q, (Value.slice As cs.length ca).ownBlock = some q → w2.heap.size ≤ q := fun q hq => hR.1 q hq
  have HR := Aside0.mk (show Kd.R kGPair 36 w3 w.heap.size (fun q => (w.heap.size ≤ q ∧ q ≠ w.heap.size + 1) ∧ some q ≠ (Value.slice As cs.length ca).ownBlock) (.slice (some ⟨w.heap.size, 0, none⟩) 0 0) (prs (cs.take 0)) from Kd.R_mono (Kd.R_below (Kd.R_bound hrw) hb) (fun q hq => ⟨hq.1, fun he => by have := hne q he.symm; have := hq.2.2.1; omega⟩))
  clear hb0 hbx hrw hR hb
  go_wp2_with fail
  go_loopg [5, 10] cs.length (fun gk v5 v10 wr => ∃ (k : Nat) (v : Value), Aside0 (k + gk = cs.length) ∧ v10 = .int .i64 k ∧ k ≤ cs.length ∧ Aside0 (Kd.R kGPair 36 wr w.heap.size (fun q => (w.heap.size ≤ q ∧ q ≠ w.heap.size + 1) ∧ some q ≠ (Value.slice As cs.length ca).ownBlock) v (prs (cs.take k))) ∧ Aside0 (wr.heap[w.heap.size + 1]? = some (.cells #[v] 57)) ∧ Aside0 (Kd.R kGCell 46 wr w.heap.size (fun q => q ≠ w.heap.size + 1 ∧ some q ≠ v.ownBlock) (.slice As cs.length ca) cs) ∧ Aside0 (Below w.heap.size w wr))
  case atStart => exact ⟨0, _, ⟨by omega⟩, rfl, by omega, HR, HX, HO, HB⟩
  case round =>
    obtain ⟨k, v, Hk, rfl, hkl, HR, HX, HO, HB⟩ := hrel
    by_cases hlt : k < cs.length
    · obtain ⟨ad, ea, hx0, hx1, hx2⟩ := cell_at (Kd.R_reads' HO.out).2.2 k hlt
      cases ea
      by_cases hu : (rd_TGCell cs k).f0 = true
      · rw [hu] at hx0
        have hbx0 : ∀ o, (wr.alloc o).cell? ⟨w.heap.size + 1, 0, none⟩ = some v := fun o => blk_cell (blk_alloc HX.out o) 0
        have HPL := Aside0.mk (show (prs (cs.take k)).length ≤ 1000 by unfold prs; rw [List.length_map]; refine Nat.le_trans (List.length_filter_le _ _) ?_; rw [List.length_take]; omega)
        have HAL := Aside0.mk (show ∀ q, (Value.slice (some ad) cs.length ca).ownBlock = some q → q < wr.heap.size from Kd.R_lt HO.out)
        have HSW := Aside0.mk HB.out.size
        have HBL := Aside0.mk (blk_lt HX.out)
        clear hne hsz2 hsz3 hlt2
        go_wp2_with (at_builtin; refine Kd.R_append kGPair (w0 := w) w.heap.size rfl (.tmp 16) (.tmp 22) 57 36 (.agg #[(.string ⟨#[]⟩), (.string ⟨#[]⟩)]) 32 rfl Try.underlying57 Rf.info36 rfl (by decide) (by omega) v (prs (cs.take k)) ⟨(rd_TGCell cs k).f1, (rd_TGCell cs k).f2⟩ [.string (rd_TGCell cs k).f1, .string (rd_TGCell cs k).f2] (fun q => (w.heap.size ≤ q ∧ q ≠ w.heap.size + 1) ∧ some q ≠ (Value.slice (some ad) cs.length ca).ownBlock) (fun _ => False) rfl (by first | rfl | (go_simp; done) | (simp [Act.eval, World.alloc]; done)) (kGPair_mkM _ _ _ ⟨_, _⟩) (fun _ h => h.elim) (fun q hq => ⟨⟨by have := HSW.out; simp at hq; omega, by have := HBL.out; simp at hq; omega⟩, fun he => by have := HAL.out q he.symm; simp at hq; omega⟩) (Kd.R_alloc HR.out _) (below_alloc HB.out _) (by have := HSW.out; simp; omega) (by have := HPL.out; omega) ?_; intro v1 w1 ho hb hg hat; obtain ⟨A1, c1, rfl⟩ := Kd.R_slice ho; have HX1 := Aside0.mk (blk_grown (blk_alloc HX.out _) hg (fun he => ((HR.out.1 _ he.symm).1.2 rfl))); have q0 : w1.cell? ⟨w.heap.size + 1, 0, none⟩ = some v := blk_cell HX1.out 0; have qf := blk_frozen HX1.out 0; have HR1 := Aside0.mk ho; have HB1 := Aside0.mk hb; have HO1 := Aside0.mk (Kd.R_after (Kd.R_alloc HO.out _) hg hat); have HL1 := Aside0.mk hg.size; clear ho hb hg hat)
        go_roundg (gk - 1)
        case measure => have := Hk.out; omega
        case rel =>
          refine ⟨k + 1, _, ⟨by have := Hk.out; omega⟩, by simp, by omega, ⟨?_⟩, ⟨blk_set HX1.out 0 _⟩, ⟨by have h := Kd.R_far (p := ⟨w.heap.size + 1, 0, none⟩) HO1.out (fun _ hk => hk.1) (.slice A1 ((prs (cs.take k)).length + 1) c1); simp only [List.length_append, List.length_singleton] at h; exact h⟩, ⟨below_set HB1.out (by show w.heap.size ≤ w.heap.size + 1; omega)⟩⟩
          rw [← prs_used cs k hlt hu]
          have h := Kd.R_far (p := ⟨w.heap.size + 1, 0, none⟩) HR1.out (fun _ hk => hk.1.2) (.slice A1 ((prs (cs.take k)).length + 1) c1)
          simp only [List.length_append, List.length_singleton] at h
          exact h
      · have hu2 : (rd_TGCell cs k).f0 = false := by simpa using hu
        rw [hu2] at hx0
        go_wp2_with fail
        go_roundg (gk - 1)
        case measure => have := Hk.out; omega
        case rel =>
          refine ⟨k + 1, v, ⟨by have := Hk.out; omega⟩, by simp, by omega, ⟨?_⟩, ⟨blk_alloc HX.out _⟩, ⟨Kd.R_alloc HO.out _⟩, ⟨below_alloc HB.out _⟩⟩
          rw [← prs_free cs k hlt hu]
          exact Kd.R_alloc HR.out _
    · obtain rfl : k = cs.length := by omega
      have HR2 := HR.out
      rw [List.take_length] at HR2
      obtain ⟨Al, cl, rfl⟩ := Kd.R_slice HR2
      have hq0 : wr.cell? ⟨w.heap.size + 1, 0, none⟩ = some (.slice Al (prs cs).length cl) := blk_cell HX.out 0
      have HRR := Aside0.mk HR2
      clear HR2
      have HSL := Aside0.mk (show (prs cs).length ≤ 1000 by unfold prs; rw [List.length_map]; exact Nat.le_trans (List.length_filter_le _ _) hl)
      go_wp2_with fail
      refine (sort_row wr w.heap.size (w.heap.size + 1) _ cl Al _ (prs cs) HRR.out HSL.out HX.out (fun k hk => hk.1.2)).mono ?_
      rintro e w5 ⟨rfl, l', hperm, hsrt, hR', hg, hx'⟩
      have q5 : w5.cell? ⟨w.heap.size + 1, 0, none⟩ = some (.slice Al (prs cs).length cl) := blk_cell hx' 0
      have HB5 := Aside0.mk (HB.out.grown hg HB.out.size (fun g hg' => (hR'.1 g hg').1.1))
      have HR5 := Aside0.mk hR'
      have HP5 := Aside0.mk hperm
      have HS5 := Aside0.mk hsrt
      clear hR' hperm hsrt hg hx'
      go_wp2
      go_ret
      exact ⟨_, l', rfl, Kd.R_mono HR5.out (fun q hq => hq.1.1), HP5.out, HS5.out, HB5.out⟩
end Go.Proofs.Ytidkdbohkbfhbaa
end
section
namespace Go.Proofs.Ytidkdbohkbfhbaa
open Go.RowKit Go.Sort Go.Proofs.YtidkdbohkbfhbaaW.PrintWords Go.Proofs.YtidkdbohkbfhbaaW.PrintLast Go.Proofs.YtidkdbohkbfhbaaW.PrintMore
open Rf
set_option linter.unusedVariables false
set_option linter.unusedSimpArgs false
theorem lt_asymm {a b : SGPair} (h : ltKey a b = true) : ltKey b a = false := by
  cases h2 : ltKey b a with
  | false => rfl
  | true =>
    have := swo_ltKey.trans a b a h h2
    rw [swo_ltKey.irrefl] at this
    cases this
theorem le_trans' {a b c : SGPair} (h1 : ltKey b a = false) (h2 : ltKey c b = false) : ltKey c a = false := by
  simp only [ltKey, bytesLess_eq, decide_eq_false_iff_not, List.not_lt] at *
  exact List.le_trans h1 h2
theorem rd_at (l : List SGPair) (i : Nat) (h : i < l.length) : rd_TGPair l i = l[i] := by
  unfold rd_TGPair
  simp [List.getD_eq_getElem?_getD, h]
section
variable (cs : List SGCell) (id lsn : Int) (i : Nat) (u : Bool) (ky vl : ByteArray)
theorem down_ev (n : Nat) : ∀ a b : List SGPair, a.length = n → a.length + b.length ≤ 1000 → Srt (a ++ b) → (∀ y ∈ b, ltKey ⟨ky, vl⟩ y = true) →
    ∃ r', r'.Perm (⟨ky, vl⟩ :: (a ++ b)) ∧ Srt r' ∧ ∀ r, Ev (fun k => flotillaref06_Pairs.l0 k r' (wrap64 ((i : Int) + 1)) id lsn cs) r →
      Ev (fun k => flotillaref06_Pairs.l1 k (a ++ ⟨ky, vl⟩ :: b) i (a.length : Int) id lsn cs u ky vl) r := by
  induction n with
  | zero =>
    intro a b ha hl hs hb
    obtain rfl : a = [] := List.eq_nil_of_length_eq_zero ha
    refine ⟨⟨ky, vl⟩ :: b, List.Perm.refl _, List.pairwise_cons.2 ⟨fun y hy => lt_asymm (hb y hy), hs⟩, fun r hr => ?_⟩
    refine Ev.step (fun k => ?_) hr
    simp only [flotillaref06_Pairs.l1]
    rw [if_neg (by simp)]
    rfl
  | succ n ih =>
    intro a b ha hl hs hb
    obtain ⟨a1, y, rfl⟩ : ∃ a1 y, a = a1 ++ [y] := ⟨a.dropLast, a.getLast (by intro h; rw [h] at ha; simp at ha), (List.dropLast_concat_getLast _).symm⟩
    have hn : a1.length = n := by simpa using ha
    have hlen : (a1 ++ [y] ++ (⟨ky, vl⟩ : SGPair) :: b).length = a1.length + 1 + 1 + b.length := by simp; omega
    have hl' : a1.length + 1 + b.length ≤ 1000 := by simpa using hl
    have e0 : ((a1 ++ [y]).length : Int) = (a1.length : Int) + 1 := by simp
    have e1 : wrap64 ((a1.length : Int) + 1 - 1) = (a1.length : Int) := by rw [w64 (by omega) (by omega)]; omega
    have g1 : rd_TGPair (a1 ++ [y] ++ (⟨ky, vl⟩ : SGPair) :: b) (a1.length : Nat) = y := by
      rw [rd_at _ _ (by rw [hlen]; omega)]
      simp
    have g2 : rd_TGPair (a1 ++ [y] ++ (⟨ky, vl⟩ : SGPair) :: b) ((a1.length : Int) + 1) = ⟨ky, vl⟩ := by
      have := rd_at (a1 ++ [y] ++ (⟨ky, vl⟩ : SGPair) :: b) (a1.length + 1) (by rw [hlen]; omega)
      rw [show ((a1.length : Int) + 1) = ((a1.length + 1 : Nat) : Int) from rfl, this]
      simp
    have gs : ((a1 ++ [y] ++ (⟨ky, vl⟩ : SGPair) :: b).set ((a1.length : Int) + 1).toNat y).set ((a1.length : Int)).toNat ⟨ky, vl⟩ = a1 ++ ⟨ky, vl⟩ :: (y :: b) := by
      rw [show ((a1.length : Int) + 1).toNat = a1.length + 1 from by omega, show ((a1.length : Int)).toNat = a1.length from by omega]
      rw [List.append_assoc, List.set_append_right _ _ (by omega), List.set_append_right _ _ (by omega)]
      rw [show a1.length + 1 - a1.length = 1 from by omega, Nat.sub_self]
      rfl
    by_cases hlt : ltKey ⟨ky, vl⟩ y = true
    · obtain ⟨r', hp, hs', hr'⟩ := ih a1 (y :: b) hn (by simp; omega) (by simpa using hs) (fun z hz => by
        rcases List.mem_cons.1 hz with rfl | hz
        · exact hlt
        · exact hb z hz)
      refine ⟨r', by simpa using hp, hs', fun r hr => ?_⟩
      refine Ev.step (fun k => ?_) (hr' r hr)
      simp only [flotillaref06_Pairs.l1]
      rw [e0, e1, if_pos (by omega), if_pos (by omega), if_pos (by rw [hlen]; omega), g1, if_pos (show Op.bytesLess ky.toList y.f0.toList = true from hlt), if_pos (by omega), if_pos (by rw [hlen]; omega), g2]
      exact congrArg (fun x => flotillaref06_Pairs.l1 k x i (a1.length : Int) id lsn cs u ky vl) gs
    · have hle : ltKey ⟨ky, vl⟩ y = false := by simpa using hlt
      refine ⟨a1 ++ [y] ++ ⟨ky, vl⟩ :: b, List.perm_middle, ?_, fun r hr => ?_⟩
      · have h1 := List.pairwise_append.1 hs
        refine List.pairwise_append.2 ⟨h1.1, List.pairwise_cons.2 ⟨fun z hz => lt_asymm (hb z hz), h1.2.1⟩, fun z hz w hw => ?_⟩
        rcases List.mem_cons.1 hw with rfl | hw
        · rcases List.mem_append.1 hz with hz | hz
          · exact le_trans' ((List.pairwise_append.1 h1.1).2.2 z hz y (by simp)) hle
          · rw [List.mem_singleton.1 hz]; exact hle
        · exact h1.2.2 z hz w hw
      · refine Ev.step (fun k => ?_) hr
        simp only [flotillaref06_Pairs.l1]
        rw [e0, e1, if_pos (by omega), if_pos (by omega), if_pos (by rw [hlen]; omega), g1, if_neg (show ¬ Op.bytesLess ky.toList y.f0.toList = true from hlt)]
end
theorem up_ev (cs : List SGCell) (hl : cs.length ≤ 900) (id lsn : Int) (d : Nat) : ∀ (i : Nat) (l : List SGPair), i + d = cs.length → l.Perm (prs (cs.take i)) → Srt l →
    ∃ r, Ev (fun k => flotillaref06_Pairs.l0 k l i id lsn cs) r ∧ r.Perm (prs cs) ∧ Srt r := by
  induction d with
  | zero =>
    intro i l hi hp hs
    refine ⟨l, Ev.step (f := fun _ => some l) (fun k => ?_) (Ev.now _), by rwa [List.take_of_length_le (by omega)] at hp, hs⟩
    simp only [flotillaref06_Pairs.l0]
    rw [if_neg (by omega)]
  | succ d ih =>
    intro i l hi hp hs
    have hil : i < cs.length := by omega
    have hll : l.length ≤ 900 := by
      rw [hp.length_eq]
      unfold prs
      rw [List.length_map]
      exact Nat.le_trans (List.length_filter_le _ _) (by rw [List.length_take]; omega)
    by_cases hu : (rd_TGCell cs i).f0 = true
    · obtain ⟨r', hp', hs', hr'⟩ := down_ev cs id lsn i (rd_TGCell cs i).f0 (rd_TGCell cs i).f1 (rd_TGCell cs i).f2 l.length l [] rfl (by simpa using (by omega : l.length ≤ 1000)) (by simpa using hs) (by simp)
      rw [List.append_nil] at hp'
      obtain ⟨r, hr, hrp, hrs⟩ := ih (i + 1) r' (by omega) (by
        rw [← prs_used cs i hil hu]
        refine hp'.trans ?_
        refine (List.Perm.cons _ hp).trans ?_
        exact (List.perm_append_singleton _ _).symm) hs'
      refine ⟨r, ?_, hrp, hrs⟩
      refine Ev.step (fun k => ?_) (hr' r (by rw [w64 (by omega) (by omega)]; exact hr))
      simp only [flotillaref06_Pairs.l0]
      rw [if_pos (by omega), if_pos (by omega), if_pos hu, if_pos (by omega)]
    · obtain ⟨r, hr, hrp, hrs⟩ := ih (i + 1) l (by omega) (by rw [← prs_free cs i hil hu]; exact hp) hs
      refine ⟨r, ?_, hrp, hrs⟩
      refine Ev.step (fun k => ?_) hr
      simp only [flotillaref06_Pairs.l0]
      rw [if_pos (by omega), if_pos (by omega), if_neg hu, w64 (by omega) (by omega)]
      rfl
theorem prs_key {cs : List SGCell} (h : cs.Pairwise fun a b => a.f0 = true → b.f0 = true → a.f1 ≠ b.f1) : (prs cs).Pairwise fun a b => a.f0 ≠ b.f0 := by
  unfold prs
  rw [List.pairwise_map]
  refine List.Pairwise.imp_of_mem ?_ (h.filter _)
  intro a b ha hb hab
  exact hab (by simpa using (List.mem_filter.1 ha).2) (by simpa using (List.mem_filter.1 hb).2)
theorem pairs_same {cs : List SGCell} (hv : Valid cs) {l m : List SGPair} (h1 : l.Perm (prs cs)) (h2 : m.Perm (prs cs)) (s1 : Srt l) (s2 : Srt m) : l = m := by
  refine List.Perm.eq_of_pairwise (le := fun a b => ltKey b a = false) (fun a b ha hb k1 k2 => ?_) s1 s2 (h1.trans h2.symm)
  have hk : a.f0 = b.f0 := by
    simp only [ltKey, bytesLess_eq, decide_eq_false_iff_not, List.not_lt] at k1 k2
    have := List.le_antisymm k1 k2
    rw [ByteArray.toList_eq, ByteArray.toList_eq] at this
    exact ByteArray.ext (Array.ext' this)
  have ha' := h1.subset ha
  have hb' := h2.subset hb
  have hp := prs_key hv.once
  obtain ⟨i, hi, rfl⟩ := List.mem_iff_getElem.1 ha'
  obtain ⟨j, hj, rfl⟩ := List.mem_iff_getElem.1 hb'
  rcases Nat.lt_trichotomy i j with h | rfl | h
  · exact absurd hk (List.pairwise_iff_getElem.1 hp i j hi hj h)
  · rfl
  · exact absurd hk.symm (List.pairwise_iff_getElem.1 hp j i hj hi h)
theorem rpairs_calls (w : World) (id lsn : Int) (A : Option Addr) (c : Nat) (cs : List SGCell) (l : List SGPair) (hC : Kd.C kGCell w A cs.length cs) (hc : cs.length ≤ c) (hv : Valid cs) (hp : l.Perm (prs cs)) (hs : Srt l) :
    Calls Try.prog 33 #[.agg #[.int .i64 id, .int .u64 lsn, .slice A cs.length c]] w fun e w' => ∃ v, e = .returned v ∧ Kd.R kGPair 36 w' w.heap.size (fun _ => True) v l ∧ Below w.heap.size w w' := by
  obtain ⟨r, hr, hrp, hrs⟩ := up_ev cs (by have := hv.len; omega) id lsn cs.length 0 [] (by omega) (by simp [prs]) List.Pairwise.nil
  obtain rfl := pairs_same hv hrp hp hrs hs
  exact flotillaref06_Pairs.calls _ id lsn A c cs r w hC hc (hr.rounds.choose_spec)
theorem same_ev (l : List SGPair) (hl : l.length ≤ 1000) (d : Nat) : ∀ i : Nat, i + d = l.length → Ev (fun k => flotillaref06_SamePairs.l0 k l l i) true := by
  induction d with
  | zero =>
    intro i hi
    refine Ev.step (f := fun _ => some true) (fun k => ?_) (Ev.now _)
    simp only [flotillaref06_SamePairs.l0]
    rw [if_neg (by omega)]
  | succ d ih =>
    intro i hi
    refine Ev.step (fun k => ?_) (ih (i + 1) (by omega))
    simp only [flotillaref06_SamePairs.l0]
    rw [if_pos (by omega), if_pos (by omega), if_pos (by omega), if_neg (by simp), w64 (by omega) (by omega)]
    rfl
theorem rsamep_calls (w : World) (A B : Option Addr) (c d : Nat) (l : List SGPair) (hA : Kd.C kGPair w A l.length l) (hc : l.length ≤ c) (hB : Kd.C kGPair w B l.length l) (hd : l.length ≤ d) (hl : l.length ≤ 1000) :
    Calls Try.prog 32 #[.slice A l.length c, .slice B l.length d] w fun e w' => e = .returned (.bool true) ∧ Below w.heap.size w w' := by
  obtain ⟨k, h⟩ := (same_ev l hl l.length 0 (by omega)).rounds
  exact (flotillaref06_SamePairs.calls k A c l B d l true w hA hc hB hd (by unfold flotillaref06_SamePairs.f; rw [if_pos rfl]; exact h)).mono (by rintro e w' ⟨rfl, hd⟩; exact ⟨rfl, hd.below⟩)
end Go.Proofs.Ytidkdbohkbfhbaa
end
section
namespace Go.Proofs.Ytidkdbohkbfhbaa
open Go.RowKit Go.Proofs.YtidkdbohkbfhbaaW.PrintWords Go.Proofs.YtidkdbohkbfhbaaW.PrintLast Go.Proofs.YtidkdbohkbfhbaaW.PrintMore
open Rf
set_option linter.unusedVariables false
set_option linter.unusedSimpArgs false

section
variable {w0 w : World} {ok : Nat → Prop} {g id lsn : Nat} {cs : List SGCell}
theorem Here.bound (h : Here w0 w ok g id lsn cs) : Here w0 w (fun k => ok k ∧ k < w.heap.size) g id lsn cs := by
  obtain ⟨⟨h1, h2, v, h3, h4⟩, hb, hv, hi, hl⟩ := h
  exact ⟨⟨h1, ⟨h2, blk_lt h3⟩, v, h3, Kd.R_mono (Kd.R_bound h4) (fun k hk => ⟨⟨hk.1.1, hk.2.2.1⟩, hk.1.2⟩)⟩, hb, hv, hi, hl⟩
theorem Here.mono {ok' : Nat → Prop} (h : Here w0 w ok g id lsn cs) (hk : ∀ k, ok k → ok' k) : Here w0 w ok' g id lsn cs := ⟨h.pg.mono hk, h.bel, h.val, h.id16, h.lsn64⟩
theorem Here.kept {w' : World} {S : Nat → Prop} (h : Here w0 w ok g id lsn cs) (hk : Kept w w' S) (hne : ∀ k, ok k → ¬ S k) (hb : Below w0.heap.size w0 w') : Here w0 w' ok g id lsn cs :=
  ⟨h.pg.kept hk hne, hb, h.val, h.id16, h.lsn64⟩
theorem Here.clone (h : Here w0 w ok g id lsn cs) : Calls Try.prog 29 #[.pointer (some ⟨g, 0, none⟩)] w fun e w' => ∃ g', e = .returned (.pointer (some ⟨g', 0, none⟩)) ∧ Here w0 w' (fun k => w.heap.size ≤ k) g' id lsn cs ∧ Below w.heap.size w w' := by
  obtain ⟨h1, h2, v, h3, h4⟩ := h.pg
  obtain ⟨A, c, rfl, hlc, hC⟩ := Kd.R_reads h4
  refine (clone_calls w0 w g id lsn A c cs h.bel h3 hC h.val.small.big).mono ?_
  rintro e w' ⟨g', rfl, hp, hb⟩
  exact ⟨g', rfl, ⟨hp, below_then h.bel h.bel.size hb, h.val, h.id16, h.lsn64⟩, hb⟩
theorem Here.pairs (h : Here w0 w ok g id lsn cs) : Calls Try.prog 27 #[.pointer (some ⟨g, 0, none⟩)] w fun e w' => ∃ A c l, e = .returned (.slice A l.length c) ∧ Kd.R kGPair 36 w' w.heap.size (fun k => w.heap.size ≤ k) (.slice A l.length c) l ∧ l.Perm (prs cs) ∧ Srt l ∧ Here w0 w' ok g id lsn cs ∧ Below w.heap.size w w' := by
  obtain ⟨h1, h2, v, h3, h4⟩ := h.pg
  obtain ⟨A, c, rfl, hlc, hC⟩ := Kd.R_reads h4
  refine (pairs_calls w g id lsn A c cs h3 hC h.val.small.big).mono ?_
  rintro e w' ⟨v, l, rfl, hR, hp, hs, hb⟩
  obtain ⟨A, c, rfl⟩ := Kd.R_slice hR
  exact ⟨A, c, l, rfl, hR, hp, hs, h.next hb, hb⟩
theorem Here.stamp (h : Here w0 w ok g id lsn cs) (l : Nat) (hl : l < 18446744073709551616) : Calls Try.prog 30 #[.pointer (some ⟨g, 0, none⟩), .int .u64 l] w fun e w' => e = .returned (.tuple #[]) ∧ Here w0 w' ok g id l cs ∧ Kept w w' ok := by
  obtain ⟨h1, h2, v, h3, h4⟩ := h.pg
  refine (stamp_calls w g id lsn l v h3).mono ?_
  rintro e w' ⟨rfl, rfl⟩
  exact ⟨rfl, ⟨⟨h1, h2, v, blk_set h3 1 _, Kd.R_far (p := ⟨g, 1, none⟩) h4 (fun _ hk => hk.2) _⟩, below_set h.bel h1, h.val, h.id16, hl⟩, Kept.setCell (Kept.refl w ok) (p := ⟨g, 1, none⟩) (.inl h2) _⟩
end
end Go.Proofs.Ytidkdbohkbfhbaa
end
section
namespace Go.Proofs.Ytidkdbohkbfhbaa
open Go.RowKit Go.Proofs.YtidkdbohkbfhbaaW.PrintWords Go.Proofs.YtidkdbohkbfhbaaW.PrintLast Go.Proofs.YtidkdbohkbfhbaaW.PrintMore
open Rf
set_option linter.unusedVariables false
set_option linter.unusedSimpArgs false
theorem le_inj {a b : Nat} (ha : a < 4294967296) (hb : b < 4294967296) (h : le a 4 = le b 4) : a = b := by
  have := congrArg val h
  rwa [val_le 4 a (by simpa using ha), val_le 4 b (by simpa using hb)] at this
theorem all_zero {L : List UInt8} (h : L.all (· == 0) = true) : L = List.replicate L.length 0 := by
  rw [List.eq_replicate_iff]
  refine ⟨rfl, fun x hx => ?_⟩
  have := List.all_eq_true.1 h x hx
  simpa using this
theorem pg_sum (id lsn : Nat) {cs : List SGCell} (hv : Valid cs) : (pgB id lsn cs).take 4 = le (Crc.sum ((pgB id lsn cs).drop 4)) 4 := (pgB_sum id lsn cs hv.room4).2
theorem pg_some (id lsn : Nat) {cs : List SGCell} (hv : Valid cs) : (pgB id lsn cs).all (· == 0) = false := by
  cases h : (pgB id lsn cs).all (· == 0) with
  | false => rfl
  | true =>
    have hl := pgB_length id lsn cs hv.room4
    have hz := all_zero h
    rw [hl] at hz
    have hs := pg_sum id lsn hv
    rw [hz] at hs
    have e : (List.replicate 512 (0 : UInt8)).drop 4 = List.replicate 508 0 := by rw [List.drop_replicate]
    have e2 : (List.replicate 512 (0 : UInt8)).take 4 = le 0 4 := by rw [List.take_replicate]; rfl
    rw [e, e2] at hs
    exact absurd (le_inj (by decide) (Crc.sum_lt _) hs).symm Crc.sum_noughts
theorem parsed_self {w w' : World} {id lsn : Nat} {cs : List SGCell} {v : Value} {er : Int} (hv : Valid cs) (hi : id < 16) (hl : lsn < 18446744073709551616) (h : Parsed w w' id (pgB id lsn cs) v er) : er = 0 ∧ Made w w' id lsn cs v := by
  have hid : (0 : Int) ≤ (id : Int) ∧ (id : Int) < 16 := by omega
  rcases h.page hid (pgB_length id lsn cs hv.room4) (pg_some id lsn hv) (pg_sum id lsn hv) with ⟨lsn', cs', h1, h2, h3, h4, h5⟩ | ⟨h1, _⟩
  · rw [Int.toNat_natCast] at h3
    obtain ⟨_, rfl, rfl⟩ := pgB_inj h2 hv (by omega) (by omega) h1 hl h3
    exact ⟨h4, h5⟩
  · exact absurd ⟨lsn, cs, hl, hv, by rw [Int.toNat_natCast]⟩ h1
end Go.Proofs.Ytidkdbohkbfhbaa
end
section
namespace Go.Proofs.Ytidkdbohkbfhbaa
open Go.RowKit Go.Proofs.YtidkdbohkbfhbaaW.PrintWords Go.Proofs.YtidkdbohkbfhbaaW.PrintLast Go.Proofs.YtidkdbohkbfhbaaW.PrintMore
open Rf
set_option linter.unusedVariables false
set_option linter.unusedSimpArgs false
/-- The page has cs, the document cs'. -/
structure Twin (w0 w : World) (B : Nat → Prop) (g id lsn : Nat) (cs cs' : List SGCell) (v : Value) : Prop where
  both : ∃ ok, Here w0 w ok g id lsn cs ∧ (∀ k, ok k → k < w.heap.size ∧ ¬ B k) ∧ Kd.R kGCell 46 w w0.heap.size (fun k => ¬ ok k ∧ k < w.heap.size ∧ ¬ B k) v cs'
  fix : ∀ k, B k → k < w.heap.size
section
variable {w0 w : World} {B : Nat → Prop} {g id lsn : Nat} {cs cs' : List SGCell} {v : Value}
theorem Twin.next {w' : World} (h : Twin w0 w B g id lsn cs cs' v) (hb : Below w.heap.size w w') : Twin w0 w' B g id lsn cs cs' v := by
  obtain ⟨⟨ok, h1, h2, h3⟩, h4⟩ := h
  have hs := hb.size
  exact ⟨⟨ok, h1.next hb, fun k hk => ⟨by have := (h2 k hk).1; omega, (h2 k hk).2⟩, Kd.R_mono (Kd.R_below h3 hb) (fun k hk => ⟨hk.1, by have := hk.2.1; omega, hk.2.2⟩)⟩, fun k hk => by have := h4 k hk; omega⟩
/-- New blocks are set apart. -/
theorem Twin.apart {w' : World} {B' : Nat → Prop} (h : Twin w0 w B g id lsn cs cs' v) (hb : Below w.heap.size w w') (hB : ∀ k, B' k → B k ∨ (w.heap.size ≤ k ∧ k < w'.heap.size)) : Twin w0 w' B' g id lsn cs cs' v := by
  obtain ⟨⟨ok, h1, h2, h3⟩, h4⟩ := h
  have hs := hb.size
  refine ⟨⟨ok, h1.next hb, fun k hk => ⟨by have := (h2 k hk).1; omega, fun h => ?_⟩, Kd.R_mono (Kd.R_below h3 hb) (fun k hk => ⟨hk.1, by have := hk.2.1; omega, fun h => ?_⟩)⟩, fun k hk => ?_⟩
  · rcases hB k h with h | h
    · exact (h2 k hk).2 h
    · have := (h2 k hk).1; omega
  · rcases hB k h with h | h
    · exact hk.2.2 h
    · have := hk.2.1; omega
  · rcases hB k hk with h | h
    · have := h4 k h; omega
    · exact h.2
theorem Twin.bel (h : Twin w0 w B g id lsn cs cs' v) : Below w0.heap.size w0 w := by
  obtain ⟨⟨ok, h1, _⟩, _⟩ := h
  exact h1.bel
theorem Twin.val (h : Twin w0 w B g id lsn cs cs' v) : Valid cs := by
  obtain ⟨⟨ok, h1, _⟩, _⟩ := h
  exact h1.val
theorem Twin.row (h : Twin w0 w B g id lsn cs cs' v) : ∃ A c, v = .slice A cs'.length c ∧ cs'.length ≤ c ∧ Kd.C kGCell w A cs'.length cs' := by
  obtain ⟨⟨ok, h1, h2, h3⟩, _⟩ := h
  exact Kd.R_reads h3
/-- The page has changed. -/
theorem twin_page {ok : Nat → Prop} {w' : World} {lsn' : Nat} {cs2 : List SGCell} (h2 : ∀ k, ok k → k < w.heap.size ∧ ¬ B k) (h3 : Kd.R kGCell 46 w w0.heap.size (fun k => ¬ ok k ∧ k < w.heap.size ∧ ¬ B k) v cs') (h4 : ∀ k, B k → k < w.heap.size)
    (hh : Here w0 w' (fun k => ok k ∨ w.heap.size ≤ k) g id lsn' cs2) (hk : Kept w w' ok) : Twin w0 w' B g id lsn' cs2 cs' v ∧ ∀ k, B k → w'.heap[k]? = w.heap[k]? := by
  have hs := hk.1
  refine ⟨⟨⟨_, hh.bound, fun k hk => ⟨hk.2, fun h => ?_⟩, Kd.R_mono (Kd.R_kept h3 hk (fun k h => h.1)) (fun k h => ⟨fun h' => ?_, by omega, h.2.2⟩)⟩, fun k hk => by have := h4 k hk; omega⟩, fun k h => hk.2 k (h4 k h) (fun ho => (h2 k ho).2 h)⟩
  · rcases hk.1 with ho | ho
    · exact (h2 k ho).2 h
    · have := h4 k h; omega
  · rcases h'.1 with h' | h'
    · exact h.1 h'
    · omega
/-- The document has changed. -/
theorem twin_doc {ok : Nat → Prop} {w' : World} {v' : Value} {ds : List SGCell} (h1 : Here w0 w ok g id lsn cs) (h2 : ∀ k, ok k → k < w.heap.size ∧ ¬ B k) (h4 : ∀ k, B k → k < w.heap.size)
    (r1 : Kd.R kGCell 46 w' w0.heap.size (fun k => (¬ ok k ∧ k < w.heap.size ∧ ¬ B k) ∨ w.heap.size ≤ k) v' ds) (r2 : Below w0.heap.size w0 w') (r3 : Kept w w' (fun k => ¬ ok k ∧ k < w.heap.size ∧ ¬ B k)) : Twin w0 w' B g id lsn cs ds v' ∧ ∀ k, B k → w'.heap[k]? = w.heap[k]? := by
  have hs := r3.1
  refine ⟨⟨⟨ok, h1.kept r3 (fun k hk h => h.1 hk) r2, fun k hk => ⟨by have := (h2 k hk).1; omega, (h2 k hk).2⟩, Kd.R_mono (Kd.R_bound r1) (fun k hk => ⟨fun ho => ?_, hk.2.2.1, fun hb => ?_⟩)⟩, fun k hk => by have := h4 k hk; omega⟩, fun k h => r3.2 k (h4 k h) (fun hn => hn.2.2 h)⟩
  · rcases hk.1 with h | h
    · exact h.1 ho
    · have := (h2 k ho).1; omega
  · rcases hk.1 with h | h
    · exact h.2.2 hb
    · have := h4 k hb; omega
theorem Twin.insert (h : Twin w0 w B g id lsn cs cs' v) (key value : ByteArray) : Calls Try.prog 19 #[.pointer (some ⟨g, 0, none⟩), .string key, .string value] w fun e w' => e = .returned (.int .i64 (ins cs key value).2) ∧ Twin w0 w' B g id lsn (ins cs key value).1 cs' v ∧ ∀ k, B k → w'.heap[k]? = w.heap[k]? := by
  obtain ⟨⟨ok, h1, h2, h3⟩, h4⟩ := h
  refine (h1.insert key value).mono ?_
  rintro e w' ⟨rfl, hh, hk⟩
  exact ⟨rfl, twin_page h2 h3 h4 hh hk⟩
theorem Twin.rins (h : Twin w0 w B g id lsn cs cs' v) (hv : Valid cs') (key value : ByteArray) : Calls Try.prog 51 #[.agg #[.int .i64 id, .int .u64 lsn, v], .string key, .string value] w fun e w' => ∃ v', e = .returned (.tuple #[.agg #[.int .i64 id, .int .u64 lsn, v'], .int .i64 (ins cs' key value).2]) ∧ Twin w0 w' B g id lsn cs (ins cs' key value).1 v' ∧ ∀ k, B k → w'.heap[k]? = w.heap[k]? := by
  obtain ⟨⟨ok, h1, h2, h3⟩, h4⟩ := h
  refine (rins_calls h1.bel h3 hv id lsn key value).mono ?_
  rintro e w' ⟨v', rfl, r1, r2, r3⟩
  exact ⟨v', rfl, twin_doc h1 h2 h4 r1 r2 r3⟩
theorem Twin.here (h : Twin w0 w B g id lsn cs cs' v) : ∃ ok, Here w0 w ok g id lsn cs := by
  obtain ⟨⟨ok, h1, _⟩, _⟩ := h
  exact ⟨ok, h1⟩
theorem Twin.update (h : Twin w0 w B g id lsn cs cs' v) (key value : ByteArray) : Calls Try.prog 26 #[.pointer (some ⟨g, 0, none⟩), .string key, .string value] w fun e w' => e = .returned (.int .i64 (upd cs key value).2) ∧ Twin w0 w' B g id lsn (upd cs key value).1 cs' v ∧ ∀ k, B k → w'.heap[k]? = w.heap[k]? := by
  obtain ⟨⟨ok, h1, h2, h3⟩, h4⟩ := h
  refine (h1.update key value).mono ?_
  rintro e w' ⟨rfl, hh, hk⟩
  exact ⟨rfl, twin_page h2 h3 h4 hh hk⟩
theorem Twin.delete (h : Twin w0 w B g id lsn cs cs' v) (key : ByteArray) : Calls Try.prog 20 #[.pointer (some ⟨g, 0, none⟩), .string key] w fun e w' => e = .returned (.int .i64 (del cs key).2) ∧ Twin w0 w' B g id lsn (del cs key).1 cs' v ∧ ∀ k, B k → w'.heap[k]? = w.heap[k]? := by
  obtain ⟨⟨ok, h1, h2, h3⟩, h4⟩ := h
  refine (h1.delete key).mono ?_
  rintro e w' ⟨rfl, hh, hk⟩
  exact ⟨rfl, twin_page h2 h3 h4 hh hk⟩
theorem Twin.rupd (h : Twin w0 w B g id lsn cs cs' v) (hv : Valid cs') (key value : ByteArray) : Calls Try.prog 52 #[.agg #[.int .i64 id, .int .u64 lsn, v], .string key, .string value] w fun e w' => ∃ v', e = .returned (.tuple #[.agg #[.int .i64 id, .int .u64 lsn, v'], .int .i64 (upd cs' key value).2]) ∧ Twin w0 w' B g id lsn cs (upd cs' key value).1 v' ∧ ∀ k, B k → w'.heap[k]? = w.heap[k]? := by
  obtain ⟨⟨ok, h1, h2, h3⟩, h4⟩ := h
  refine (rupd_calls h1.bel h3 hv id lsn key value).mono ?_
  rintro e w' ⟨v', rfl, r1, r2, r3⟩
  exact ⟨v', rfl, twin_doc h1 h2 h4 r1 r2 r3⟩
theorem Twin.rdel (h : Twin w0 w B g id lsn cs cs' v) (hv : Valid cs') (key : ByteArray) : Calls Try.prog 53 #[.agg #[.int .i64 id, .int .u64 lsn, v], .string key] w fun e w' => ∃ v', e = .returned (.tuple #[.agg #[.int .i64 id, .int .u64 lsn, v'], .int .i64 (del cs' key).2]) ∧ Twin w0 w' B g id lsn cs (del cs' key).1 v' ∧ ∀ k, B k → w'.heap[k]? = w.heap[k]? := by
  obtain ⟨⟨ok, h1, h2, h3⟩, h4⟩ := h
  refine (rdel_calls h1.bel h3 (by have := hv.len; omega) id lsn key).mono ?_
  rintro e w' ⟨v', rfl, r1, r2, r3⟩
  exact ⟨v', rfl, twin_doc h1 h2 h4 r1 r2 r3⟩
theorem Twin.stamp (h : Twin w0 w B g id lsn cs cs' v) (l : Nat) (hl : l < 18446744073709551616) : Calls Try.prog 30 #[.pointer (some ⟨g, 0, none⟩), .int .u64 l] w fun e w' => e = .returned (.tuple #[]) ∧ Twin w0 w' B g id l cs cs' v ∧ ∀ k, B k → w'.heap[k]? = w.heap[k]? := by
  obtain ⟨⟨ok, h1, h2, h3⟩, h4⟩ := h
  refine (h1.stamp l hl).mono ?_
  rintro e w' ⟨rfl, hh, hk⟩
  exact ⟨rfl, twin_page h2 h3 h4 (hh.mono (fun k hk => .inl hk)) hk⟩
/-- Another page in the page's place. -/
theorem twin_new {w' : World} {g' id' lsn' : Nat} {cs2 : List SGCell} (h : Twin w0 w B g id lsn cs cs' v) (hh : Here w0 w' (fun k => w.heap.size ≤ k) g' id' lsn' cs2) (hb : Below w.heap.size w w') : Twin w0 w' B g' id' lsn' cs2 cs' v := by
  obtain ⟨⟨ok, h1, h2, h3⟩, h4⟩ := h
  have hs := hb.size
  refine ⟨⟨_, hh.bound, fun k hk => ⟨hk.2, fun h => ?_⟩, Kd.R_mono (Kd.R_bound (Kd.R_below h3 hb)) (fun k hk => ⟨fun h => ?_, hk.2.2.1, hk.1.2.2⟩)⟩, fun k hk => by have := h4 k hk; omega⟩
  · have := h4 k h; have := hk.1; omega
  · have := hk.1.2.1; have := h.1; omega
theorem Twin.clone (h : Twin w0 w B g id lsn cs cs' v) : Calls Try.prog 29 #[.pointer (some ⟨g, 0, none⟩)] w fun e w' => ∃ g', e = .returned (.pointer (some ⟨g', 0, none⟩)) ∧ Twin w0 w' B g' id lsn cs cs' v ∧ Below w.heap.size w w' := by
  obtain ⟨ok, h1⟩ := h.here
  refine h1.clone.mono ?_
  rintro e w' ⟨g', rfl, hh, hb⟩
  exact ⟨g', rfl, twin_new h hh hb, hb⟩
theorem Twin.bytes (h : Twin w0 w B g id lsn cs cs' v) : Calls Try.prog 15 #[.pointer (some ⟨g, 0, none⟩)] w fun e w' => ∃ gb, e = .returned (.slice (some ⟨gb, 0, none⟩) 512 512) ∧ BufAt w' gb (pgB id lsn cs) ∧ Twin w0 w' B g id lsn cs cs' v ∧ Below w.heap.size w w' := by
  obtain ⟨ok, h1⟩ := h.here
  refine h1.bytes.mono ?_
  rintro e w' ⟨rfl, hbuf, hh, hb⟩
  exact ⟨_, rfl, hbuf, h.next hb, hb⟩
theorem Twin.rowC {A : Option Addr} {n c : Nat} (h : Twin w0 w B g id lsn cs cs' (.slice A n c)) : n = cs'.length ∧ cs'.length ≤ c ∧ Kd.C kGCell w A cs'.length cs' := by
  obtain ⟨⟨ok, h1, h2, h3⟩, h4⟩ := h
  obtain ⟨e1, e2, e3⟩ := Kd.R_reads' h3
  exact ⟨e1, by omega, e3⟩
theorem Twin.get (h : Twin w0 w B g id lsn cs cs' v) (key : ByteArray) : Calls Try.prog 18 #[.pointer (some ⟨g, 0, none⟩), .string key] w fun e w' => e = .returned (.tuple #[.string (if fnd cs key < 0 then ⟨#[]⟩ else (rd_TGCell cs (fnd cs key)).f2), .bool (decide (0 ≤ fnd cs key))]) ∧ Twin w0 w' B g id lsn cs cs' v ∧ Below w.heap.size w w' := by
  obtain ⟨ok, h1⟩ := h.here
  refine (h1.get key).mono ?_
  rintro e w' ⟨rfl, hh, hb⟩
  exact ⟨rfl, h.next hb, hb⟩
theorem Twin.parse (h : Twin w0 w B g id lsn cs cs' v) {gb : Nat} (hbuf : BufAt w gb (pgB id lsn cs)) : Calls Try.prog 21 #[.int .i64 id, .slice (some ⟨gb, 0, none⟩) 512 512] w fun e w' => ∃ g', e = .returned (.tuple #[.pointer (some ⟨g', 0, none⟩), .int .i64 0]) ∧ Twin w0 w' B g' id lsn cs cs' v ∧ Below w.heap.size w w' := by
  obtain ⟨ok, h1⟩ := h.here
  have hl := pgB_length id lsn cs h1.val.room4
  have hpc := parse_calls w (id : Int) gb 512 (pgB id lsn cs) hbuf (by rw [hl]; omega) (by rw [hl]; omega)
  rw [hl] at hpc
  refine hpc.mono ?_
  rintro e w' ⟨v2, er, rfl, hp⟩
  obtain ⟨rfl, hm⟩ := parsed_self h1.val h1.id16 h1.lsn64 hp
  obtain ⟨g', rfl, hg, hp1, hp2, v3, hp3, hp4⟩ := hm
  exact ⟨g', rfl, twin_new h ⟨⟨Nat.le_trans h1.bel.size hg, hp2, v3, hp3, Kd.R_lower hp4 h1.bel.size⟩, below_then h1.bel h1.bel.size hp.bel, h1.val, h1.id16, h1.lsn64⟩ hp.bel, hp.bel⟩
theorem Twin.fewer {B' : Nat → Prop} (h : Twin w0 w B g id lsn cs cs' v) (hB : ∀ k, B' k → B k) : Twin w0 w B' g id lsn cs cs' v := by
  obtain ⟨⟨ok, h1, h2, h3⟩, h4⟩ := h
  exact ⟨⟨ok, h1, fun k hk => ⟨(h2 k hk).1, fun h => (h2 k hk).2 (hB k h)⟩, Kd.R_mono h3 (fun k hk => ⟨hk.1, hk.2.1, fun h => hk.2.2 (hB k h)⟩)⟩, fun k hk => h4 k (hB k hk)⟩
end
theorem Twin.set {w0 w : World} {B : Nat → Prop} {g id lsn : Nat} {cs cs' : List SGCell} {v : Value} (h : Twin w0 w B g id lsn cs cs' v) {q : Addr} (hq : B q.block) (hl : w0.heap.size ≤ q.block) (u : Value) : Twin w0 (w.setCell q u) B g id lsn cs cs' v := by
  obtain ⟨⟨ok, h1, h2, h3⟩, h4⟩ := h
  have hs : (w.setCell q u).heap.size = w.heap.size := by simp [World.setCell]
  refine ⟨⟨ok, h1.kept (Kept.setCell (Kept.refl w (fun k => k = q.block)) (.inl rfl) u) (fun k hk e => (h2 k hk).2 (by rw [e]; exact hq)) (h1.bel.setCell hl u), fun k hk => by rw [hs]; exact h2 k hk, ?_⟩, fun k hk => by rw [hs]; exact h4 k hk⟩
  rw [hs]
  exact Kd.R_far h3 (fun k hk e => hk.2.2 (by rw [e]; exact hq)) u
end Go.Proofs.Ytidkdbohkbfhbaa
end
