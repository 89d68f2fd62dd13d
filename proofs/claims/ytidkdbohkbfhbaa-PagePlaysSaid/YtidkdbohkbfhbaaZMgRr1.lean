/- PLAIN: pages as lists of cells: what find, insert, update, delete and free are. 
The calls of page's reading functions: size, may, Free, find, Get, ID, Lsn. 
The calls of page's writing functions: Insert, Update, Delete. 
The call of page's Update. 
The call of page's Delete. 
The calls of page's New, Cells, Clone. 
PLAIN: the sum of bytes: two four-bit steps out of the table are eight one-bit steps; a change of one byte changes the sum. 
The calls of crc: steps, More, Sum. 
PLAIN: a page's bytes. -/
import Derived.Test.YtidkdbohkbfhbaaZRfT
import Derived.Test.YtidkdbohkbfhbaaZRf0
import Derived.BigRegion
import Derived.Deep.RegionLaw
import Derived.Deep.RegionHeld3
import Derived.Laws.BitsAllLaws
import Derived.Laws.Tables
import Derived.Laws.CopyOwn
section
namespace Go.Proofs.Ytidkdbohkbfhbaa
open Go.RowKit Go.Proofs.YtidkdbohkbfhbaaW.PrintWords Go.Proofs.YtidkdbohkbfhbaaW.PrintLast Go.Proofs.YtidkdbohkbfhbaaW.PrintMore
open Rf

theorem w64 {x : Int} (h0 : -9223372036854775808 ≤ x) (h1 : x < 9223372036854775808) : wrap64 x = x := by unfold wrap64; omega
theorem i64w {x : Int} (h0 : -9223372036854775808 ≤ x) (h1 : x < 9223372036854775808) : IntKind.i64.wrap x = x := (i64_w x).trans (w64 h0 h1)
theorem u64w {x : Int} (h0 : 0 ≤ x) (h1 : x < 18446744073709551616) : IntKind.u64.wrap x = x := by
  simp [IntKind.wrap, IntKind.bits, IntKind.signed]; omega
theorem toList_inj {a b : ByteArray} : a.toList = b.toList ↔ a = b := by
  rw [ByteArray.toList_eq, ByteArray.toList_eq]
  constructor
  · intro h; exact ByteArray.ext (Array.toList_inj.1 h)
  · rintro rfl; rfl
theorem beq_toList {a b : ByteArray} : (a.toList == b.toList) = decide (a = b) := by
  rw [Bool.eq_iff_iff]; simp [toList_inj]

/-- How many bytes a cell has. -/
def csz (c : SGCell) : Nat := if c.f0 = true then 1 + c.f1.size + c.f2.size else 0
def tot (cs : List SGCell) : Nat := (cs.map csz).sum
def free (cs : List SGCell) : Int := 496 - 4 * (cs.length : Int) - (tot cs : Int)
/-- Cells of which no sum wraps. -/
def Small (cs : List SGCell) : Prop := cs.length ≤ 100 ∧ ∀ c ∈ cs, c.f1.size ≤ 1000 ∧ c.f2.size ≤ 1000

theorem csz_le {cs : List SGCell} (h : Small cs) (c : SGCell) (hc : c ∈ cs) : csz c ≤ 2001 := by
  have := h.2 c hc; unfold csz; split <;> omega
theorem rd_get (cs : List SGCell) (k : Nat) (hk : k < cs.length) : rd_TGCell cs k = cs[k] := by
  simp [rd_TGCell, List.getD_eq_getElem?_getD, List.getElem?_eq_getElem hk]
theorem rd_mem (cs : List SGCell) (k : Nat) (hk : k < cs.length) : rd_TGCell cs k ∈ cs := by rw [rd_get cs k hk]; exact List.getElem_mem hk
theorem tot_nil : tot [] = 0 := rfl
theorem tot_cons (c : SGCell) (cs : List SGCell) : tot (c :: cs) = csz c + tot cs := by simp [tot]
theorem tot_append (a b : List SGCell) : tot (a ++ b) = tot a + tot b := by simp [tot]
theorem tot_take_succ (cs : List SGCell) (k : Nat) (hk : k < cs.length) : tot (cs.take (k + 1)) = tot (cs.take k) + csz (rd_TGCell cs k) := by
  rw [rd_get cs k hk, List.take_succ_eq_append_getElem hk, tot_append, tot_cons, tot_nil]; omega
theorem tot_take_le (cs : List SGCell) (h : Small cs) (k : Nat) : tot (cs.take k) ≤ 2001 * k := by
  induction k with
  | zero => simp [tot]
  | succ k ih =>
    rcases Nat.lt_or_ge k cs.length with hk | hk
    · rw [tot_take_succ cs k hk]
      have := csz_le h (rd_TGCell cs k) (rd_mem cs k hk)
      omega
    · rw [List.take_of_length_le (by omega)]; rw [List.take_of_length_le hk] at ih; omega
theorem tot_le (cs : List SGCell) (h : Small cs) : tot cs ≤ 200100 := by
  have := tot_take_le cs h cs.length
  rw [List.take_of_length_le (Nat.le_refl _)] at this
  have := h.1; omega
theorem Small.take {cs : List SGCell} (h : Small cs) (k : Nat) : Small (cs.take k) :=
  ⟨by have := h.1; rw [List.length_take]; omega, fun c hc => h.2 c (List.mem_of_mem_take hc)⟩

/-- The slot of a key; -1: there is none. -/
def hit (key : ByteArray) (c : SGCell) : Bool := c.f0 && (c.f1.toList == key.toList)
def fndN (key : ByteArray) : List SGCell → Nat → Int
  | [], _ => -1
  | c :: r, i => if hit key c = true then (i : Int) else fndN key r (i + 1)
def fnd (cs : List SGCell) (key : ByteArray) : Int := fndN key cs 0
theorem fndN_drop (key : ByteArray) (cs : List SGCell) (k : Nat) (hk : k < cs.length) : fndN key (cs.drop k) k = if hit key (rd_TGCell cs k) = true then (k : Int) else fndN key (cs.drop (k + 1)) (k + 1) := by
  rw [List.drop_eq_getElem_cons hk, rd_get cs k hk]; rfl
theorem fndN_or (key : ByteArray) (cs : List SGCell) (i : Nat) : fndN key cs i = -1 ∨ ((i : Int) ≤ fndN key cs i ∧ fndN key cs i < i + cs.length) := by
  induction cs generalizing i with
  | nil => exact .inl rfl
  | cons c r ih =>
    unfold fndN
    split
    · right; simp; omega
    · rcases ih (i + 1) with h | h
      · exact .inl h
      · right; simp at h ⊢; omega
theorem fnd_or (cs : List SGCell) (key : ByteArray) : fnd cs key = -1 ∨ (0 ≤ fnd cs key ∧ fnd cs key < cs.length) := by
  have := fndN_or key cs 0; unfold fnd; simpa using this
theorem fnd_lt (cs : List SGCell) (key : ByteArray) : -1 ≤ fnd cs key ∧ fnd cs key < cs.length := by
  rcases fnd_or cs key with h | h <;> omega

/-- The first slot that is free (the number of slots: none is). -/
def frs : List SGCell → Nat
  | [] => 0
  | c :: r => if c.f0 = true then frs r + 1 else 0
theorem frs_le (cs : List SGCell) : frs cs ≤ cs.length := by
  induction cs with
  | nil => exact Nat.le_refl _
  | cons c r ih => unfold frs; split <;> simp; omega
theorem frs_used (cs : List SGCell) (k : Nat) (hk : k < frs cs) : (rd_TGCell cs k).f0 = true := by
  induction cs generalizing k with
  | nil => simp [frs] at hk
  | cons c r ih =>
    unfold frs at hk
    split at hk
    · rename_i hc
      cases k with
      | zero => simpa [rd_TGCell] using hc
      | succ k => have := ih k (by omega); simpa [rd_TGCell] using this
    · omega
theorem frs_free (cs : List SGCell) (h : frs cs < cs.length) : (rd_TGCell cs (frs cs : Nat)).f0 = false := by
  induction cs with
  | nil => simp at h
  | cons c r ih =>
    unfold frs at h ⊢
    split
    · rename_i hc
      rw [if_pos hc] at h
      have := ih (by simpa using h)
      simpa [rd_TGCell] using this
    · rename_i hc; simpa [rd_TGCell] using hc

/-- May a page have a key and its value? -/
def mayB (key value : ByteArray) : Bool := decide (1 ≤ key.size) && (decide (key.size ≤ 16) && decide (value.size ≤ 32))
def cel (key value : ByteArray) : SGCell := ⟨true, key, value⟩
theorem mayB_iff (key value : ByteArray) : mayB key value = true ↔ 1 ≤ key.size ∧ key.size ≤ 16 ∧ value.size ≤ 32 := by simp [mayB]
theorem csz_cel (key value : ByteArray) : csz (cel key value) = 1 + key.size + value.size := rfl

/-- Insert. -/
def insAt (cs : List SGCell) (c : SGCell) : List SGCell := if frs cs = cs.length then cs ++ [c] else cs.set (frs cs) c
def insNeed (cs : List SGCell) (key value : ByteArray) : Int := 1 + (key.size : Int) + (value.size : Int) + (if frs cs = cs.length then 4 else 0)
def ins (cs : List SGCell) (key value : ByteArray) : List SGCell × Int :=
  if mayB key value = true then
    if 0 ≤ fnd cs key then (cs, 9)
    else if frs cs = 64 ∨ free cs < insNeed cs key value then (cs, 7)
    else (insAt cs (cel key value), 0)
  else (cs, 1)
/-- Update. -/
def updAt (cs : List SGCell) (i : Nat) (value : ByteArray) : List SGCell := cs.set i ⟨(rd_TGCell cs i).f0, (rd_TGCell cs i).f1, value⟩
def upd (cs : List SGCell) (key value : ByteArray) : List SGCell × Int :=
  if mayB key value = true then
    if fnd cs key < 0 then (cs, 8)
    else if free cs < (value.size : Int) - ((rd_TGCell cs (fnd cs key)).f2.size : Int) then (cs, 7)
    else (updAt cs (fnd cs key).toNat value, 0)
  else (cs, 1)
/-- Free slots at the end go. -/
def trimN : Nat → List SGCell → List SGCell
  | 0, cs => cs
  | n + 1, cs => if cs.length = 0 then cs else if (rd_TGCell cs ((cs.length : Int) - 1)).f0 = true then cs else trimN n (cs.take (cs.length - 1))
theorem trimN_zero (n : Nat) (cs : List SGCell) (h : cs.length = 0) : trimN n cs = cs := by cases n with | zero => rfl | succ n => unfold trimN; rw [if_pos h]
theorem trimN_used (n : Nat) (cs : List SGCell) (m : Nat) (h : cs.length = m + 1) (hu : (rd_TGCell cs m).f0 = true) : trimN n cs = cs := by
  cases n with
  | zero => rfl
  | succ n => unfold trimN; rw [if_neg (by omega), if_pos (by rw [h, show ((m + 1 : Nat) : Int) - 1 = m by omega]; exact hu)]
theorem trimN_free (n : Nat) (cs : List SGCell) (m : Nat) (h : cs.length = m + 1) (hu : (rd_TGCell cs m).f0 = false) : trimN (n + 1) cs = trimN n (cs.take m) := by
  conv => lhs; unfold trimN
  rw [if_neg (by omega), if_neg (by rw [h, show ((m + 1 : Nat) : Int) - 1 = m by omega, hu]; simp), h, Nat.add_sub_cancel]
def trim (cs : List SGCell) : List SGCell := trimN cs.length cs
/-- Delete. -/
def delAt (cs : List SGCell) (i : Nat) : List SGCell := cs.take i ++ cs.drop (i + 1)
def del (cs : List SGCell) (key : ByteArray) : List SGCell × Int :=
  if fnd cs key < 0 then (cs, 8) else (trim (delAt cs (fnd cs key).toNat), 0)

/-- Of cells that a page has. -/
structure Valid (cs : List SGCell) : Prop where
  len : cs.length ≤ 64
  may : ∀ c ∈ cs, c.f0 = true → mayB c.f1 c.f2 = true
  zero : ∀ c ∈ cs, c.f0 = false → c = zGCell
  once : cs.Pairwise fun a b => a.f0 = true → b.f0 = true → a.f1 ≠ b.f1
  last : ∀ c, cs.getLast? = some c → c.f0 = true
  room : 0 ≤ free cs
theorem Valid.small {cs : List SGCell} (h : Valid cs) : Small cs := by
  refine ⟨by have := h.len; omega, fun c hc => ?_⟩
  cases hf : c.f0 with
  | true => have := (mayB_iff _ _).1 (h.may c hc hf); omega
  | false => rw [h.zero c hc hf]; exact ⟨by decide, by decide⟩
theorem Valid.nil : Valid [] := ⟨by simp, by simp, by simp, by simp, by simp, by decide⟩
end Go.Proofs.Ytidkdbohkbfhbaa
end
section
namespace Go.Proofs.Ytidkdbohkbfhbaa
open Go.RowKit Go.Proofs.YtidkdbohkbfhbaaW.PrintWords Go.Proofs.YtidkdbohkbfhbaaW.PrintLast Go.Proofs.YtidkdbohkbfhbaaW.PrintMore
open Rf
set_option linter.unusedVariables false
set_option linter.unusedSimpArgs false

/-- A page's own block. -/
def PgAt (w : World) (g : Nat) (id lsn : Int) (v : Value) : Prop := w.heap[g]? = some (.cells #[.int .i64 id, .int .u64 lsn, v] 71 (0, 0))

theorem bel_trans {w w1 w2 : World} (h : Below w.heap.size w w1) (k : Below w1.heap.size w1 w2) : Below w.heap.size w w2 := below_then h h.size k
section
variable {P : Program} {ops : Array Oper} {o : Oper} {a : Act} {Q : Exit → Act → World → Prop} {Kc : Act → World → Prop} {α : Type}
/-- An append of one element in a region that draws its order. -/
theorem R_append_drew (d : Kd α) {w0 W : World} (base : Nat) (hw : Region.wanted o (yielded ops a.tmps) = true) (s x : Operand) (t e : TypeId) (z : Value) (bytes : Nat)
    (ho : o.op = .call { callee := .builtin .append, args := #[s, x], argTypes := #[t, t] })
    (ht : P.underlying t = some (.slice e)) (hinfo : (P.info? e).map (fun i => (i.zero, i.size, i.bytes)) = some (some z, d.sz, bytes)) (hz : z.cells.size = d.sz) (hs0 : 0 < d.sz) (hb0 : 0 < bytes)
    (v : Value) (xs : List α) (p : α) (cs : List Value) (ok okp : Nat → Prop) (hs : a.eval s = v) (hx : a.eval x = .slice (some ⟨W.heap.size, 0, none⟩) 1 1) (hp : d.M W base okp p cs) (hokp : ∀ k, okp k → ok k ∧ some k ≠ v.ownBlock) (hfresh : ∀ k, W.heap.size ≤ k → ok k)
    (HO : d.R e W base ok v xs) (HB : Below base w0 W) (hbase : base ≤ W.heap.size) (hl : (xs.length + 1) * bytes ≤ 140737488355328)
    (h : ∀ v1 w1, d.R e w1 base ok v1 (xs ++ [p]) → Below base w0 w1 → W.grownBy w1 v.ownBlock → (v1.ownBlock = v.ownBlock ∨ ∃ b, v1.ownBlock = some b ∧ W.heap.size ≤ b) → Kc (a.put o.dst v1) w1) :
    if Region.wanted o (yielded ops a.tmps) = true then Oper.wp P o a (W.alloc (.cells cs.toArray e)).drew Kc Q else Kc (a.put o.dst undef) (W.alloc (.cells cs.toArray e)).drew :=
  Kd.R_append_step (W := W.drew) d base hw s x t e z bytes ho ht hinfo hz hs0 hb0 v xs p cs ok okp hs hx (Kd.M_below hp (below_drew (Below.refl _ _))) hokp hfresh (Kd.R_drew (w := W) HO) (below_drew1 (W := W) HB) hbase hl (fun v1 w1 h1 h2 hg h4 => h v1 w1 h1 h2 ⟨hg.os, hg.tape, hg.output, hg.size, hg.block⟩ h4)
end
theorem PgAt.below {w w' : World} {g : Nat} {id lsn : Int} {v : Value} (h : PgAt w g id lsn v) (hb : Below w.heap.size w w') : PgAt w' g id lsn v := (hb.block g (blk_lt h)).trans h

theorem cell_at {w : World} {A : Option Addr} {n : Nat} {xs : List SGCell} (h : Kd.C kGCell w A n xs) (k : Nat) (h1 : k < n) : ∃ ad, A = some ad ∧ w.cell? (ad.add (k * 3)) = some (.bool (rd_TGCell xs k).f0) ∧ w.cell? ⟨(ad.add (k * 3)).block, (ad.add (k * 3)).off + 1, none⟩ = some (.string (rd_TGCell xs k).f1) ∧ w.cell? ⟨(ad.add (k * 3)).block, (ad.add (k * 3)).off + 2, none⟩ = some (.string (rd_TGCell xs k).f2) := by
  have := at_TGCell h (k : Int) (by omega) (by omega)
  rwa [Int.toNat_natCast] at this

theorem size_calls (c : SGCell) (w : World) (h1 : c.f1.size ≤ 1000) (h2 : c.f2.size ≤ 1000) :
    Calls Try.prog 37 #[.agg #[.bool c.f0, .string c.f1, .string c.f2]] w fun e w' => e = .returned (.int .i64 (csz c)) ∧ Below w.heap.size w w' := by
  refine page_size.calls _ _ _ _ _ ?_
  unfold page_size.f csz
  by_cases hc : c.f0 = true
  · rw [if_pos hc, if_pos hc, w64 (x := 1 + (c.f1.size : Int)) (by omega) (by omega), w64 (by omega) (by omega)]
    simp
  · rw [if_neg hc, if_neg hc]; rfl

theorem may_calls (k v : ByteArray) (w : World) :
    Calls Try.prog 40 #[.string k, .string v] w fun e w' => e = .returned (.bool (mayB k v)) ∧ Drawn0 w w' := by
  refine page_may.calls _ _ _ _ ?_
  unfold page_may.f mayB
  by_cases h1 : 1 ≤ k.size
  · rw [if_pos (by omega)]
    by_cases h2 : k.size ≤ 16
    · rw [if_pos (by omega)]; simp [h1, h2]; omega
    · rw [if_neg (by omega)]; simp [h2]
  · rw [if_neg (by omega)]; simp [h1]

set_option maxHeartbeats 400000 in
theorem free_calls (w : World) (g : Nat) (id lsn : Int) (A : Option Addr) (c : Nat) (cs : List SGCell)
    (hp : PgAt w g id lsn (.slice A cs.length c)) (hC : Kd.C kGCell w A cs.length cs) (hS : Small cs) :
    Calls Try.prog 16 #[.pointer (some ⟨g, 0, none⟩)] w fun e w' => e = .returned (.int .i64 (free cs)) ∧ Below w.heap.size w w' := by
  have hg2 : w.cell? ⟨g, 2, none⟩ = some (.slice A cs.length c) := blk_cell hp 2
  have hl := hS.1
  have HC := Aside0.mk hC
  have HS := Aside0.mk hS
  clear hC hS hp
  go_enter Try.func16, Try.ntmps16
  go_wp2
  go_loopg [3, 20] cs.length (fun gk v3 v20 wr => ∃ k : Nat, Aside0 (k + gk = cs.length) ∧ v20 = .int .i64 k ∧ v3 = .int .i64 (496 - 4 * (cs.length : Int) - (tot (cs.take k) : Int)) ∧ Aside0 (Below w.heap.size w wr))
  case atStart => exact ⟨0, ⟨by omega⟩, rfl, by simp [tot], ⟨Below.refl _ _⟩⟩
  case round =>
    obtain ⟨k, Hk, rfl, rfl, HB⟩ := hrel
    have hkl : k ≤ cs.length := by have := Hk.out; omega
    have ht := tot_take_le cs HS.out k
    by_cases hlt : k < cs.length
    · obtain ⟨ad, ea, hx0, hx1, hx2⟩ := cell_at (Kd.C_below HC.out HB.out) k (by omega)
      cases ea
      have hm := HS.out.2 _ (rd_mem cs k hlt)
      have hz := csz_le HS.out _ (rd_mem cs k hlt)
      have HT := Aside0.mk (tot_take_succ cs k hlt)
      go_wp2_with (go_at_call 37; refine (size_calls _ _ hm.1 hm.2).mono ?_; rintro e w' ⟨rfl, hb'⟩)
      go_roundg (gk - 1)
      case measure => have := Hk.out; omega
      case rel => exact ⟨k + 1, ⟨by have := Hk.out; omega⟩, by go_num, by rw [HT.out]; go_num, ⟨below_then (below_alloc HB.out _) (by simp; have := HB.out.size; omega) hb'⟩⟩
    · have hke : cs.take k = cs := List.take_of_length_le (by omega)
      rw [hke]
      go_wp2
      go_ret
      exact ⟨rfl, HB.out⟩

set_option maxHeartbeats 400000 in
theorem find_calls (w : World) (g : Nat) (id lsn : Int) (A : Option Addr) (c : Nat) (cs : List SGCell) (key : ByteArray)
    (hp : PgAt w g id lsn (.slice A cs.length c)) (hC : Kd.C kGCell w A cs.length cs) (hl : cs.length ≤ 1000) :
    Calls Try.prog 39 #[.pointer (some ⟨g, 0, none⟩), .string key] w fun e w' => e = .returned (.int .i64 (fnd cs key)) ∧ Below w.heap.size w w' := by
  have hg2 : w.cell? ⟨g, 2, none⟩ = some (.slice A cs.length c) := blk_cell hp 2
  have HC := Aside0.mk hC
  clear hC hp
  go_enter Try.func39, Try.ntmps39
  go_wp2
  go_loopg [14] cs.length (fun gk v14 wr => ∃ k : Nat, Aside0 (k + gk = cs.length) ∧ v14 = .int .i64 k ∧ Aside0 (fnd cs key = fndN key (cs.drop k) k) ∧ Aside0 (Below w.heap.size w wr))
  case atStart => exact ⟨0, ⟨by omega⟩, rfl, ⟨rfl⟩, ⟨Below.refl _ _⟩⟩
  case round =>
    obtain ⟨k, Hk, rfl, HF, HB⟩ := hrel
    have hkl : k ≤ cs.length := by have := Hk.out; omega
    by_cases hlt : k < cs.length
    · obtain ⟨ad, ea, hx0, hx1, hx2⟩ := cell_at (Kd.C_below HC.out HB.out) k (by omega)
      cases ea
      have HD := Aside0.mk (fndN_drop key cs k hlt)
      cases hu : (rd_TGCell cs k).f0 with
      | false =>
        rw [hu] at hx0
        have Hu := Aside0.mk hu
        clear hu
        go_wp2
        go_roundg (gk - 1)
        case measure => have := Hk.out; omega
        case rel => exact ⟨k + 1, ⟨by have := Hk.out; omega⟩, by go_num, ⟨by rw [HF.out, HD.out, if_neg (by simp [hit, Hu.out])]⟩, ⟨below_alloc HB.out _⟩⟩
      | true =>
        rw [hu] at hx0
        have Hu := Aside0.mk hu
        clear hu
        by_cases he : ((rd_TGCell cs k).f1.toList == key.toList) = true
        · have HE := Aside0.mk (show fnd cs key = k by rw [HF.out, HD.out, if_pos (by simp only [hit, Hu.out, he, Bool.and_self])])
          go_wp2
          go_ret
          exact ⟨by rw [HE.out]; rfl, below_alloc HB.out _⟩
        · have he' : ((rd_TGCell cs k).f1.toList == key.toList) = false := by simpa using he
          have HE := Aside0.mk (show fnd cs key = fndN key (cs.drop (k + 1)) (k + 1) by rw [HF.out, HD.out, if_neg (by simp only [hit, Hu.out, he', Bool.and_false]; simp)])
          clear he
          go_wp2
          go_roundg (gk - 1)
          case measure => have := Hk.out; omega
          case rel => exact ⟨k + 1, ⟨by have := Hk.out; omega⟩, by go_num, HE, ⟨below_alloc HB.out _⟩⟩
    · have HE := Aside0.mk (show fnd cs key = -1 by rw [HF.out, List.drop_eq_nil_of_le (by omega)]; rfl)
      go_wp2
      go_ret
      exact ⟨by rw [HE.out]; rfl, HB.out⟩

set_option maxHeartbeats 400000 in
theorem get_calls (w : World) (g : Nat) (id lsn : Int) (A : Option Addr) (c : Nat) (cs : List SGCell) (key : ByteArray)
    (hp : PgAt w g id lsn (.slice A cs.length c)) (hC : Kd.C kGCell w A cs.length cs) (hl : cs.length ≤ 1000) :
    Calls Try.prog 18 #[.pointer (some ⟨g, 0, none⟩), .string key] w fun e w' => e = .returned (.tuple #[.string (if fnd cs key < 0 then ⟨#[]⟩ else (rd_TGCell cs (fnd cs key)).f2), .bool (decide (0 ≤ fnd cs key))]) ∧ Below w.heap.size w w' := by
  have HP := Aside0.mk hp
  have HC := Aside0.mk hC
  have hf := fnd_lt cs key
  by_cases hn : fnd cs key < 0
  · clear hC hp
    go_enter Try.func18, Try.ntmps18
    go_wp2_with (go_at_call 39; refine (find_calls _ _ _ _ _ _ _ _ HP.out HC.out hl).mono ?_; rintro e w' ⟨rfl, hb⟩)
    go_ret2
    exact ⟨by simp [hn], hb⟩
  · clear hC hp
    obtain ⟨j, hj⟩ := Int.eq_ofNat_of_zero_le (show 0 ≤ fnd cs key by omega)
    rw [hj] at hn hf
    have HJ := Aside0.mk hj
    go_enter Try.func18, Try.ntmps18
    go_wp2_with fail
    refine (find_calls _ _ _ _ _ _ _ _ HP.out HC.out hl).mono ?_
    rintro e w' ⟨rfl, hb⟩
    obtain ⟨ad, ea, hx0, hx1, hx2⟩ := cell_at (Kd.C_below HC.out hb) j (by omega)
    cases ea
    have hg2 : w'.cell? ⟨g, 2, none⟩ = some (.slice (some ad) cs.length c) := pw_cell_below hb (blk_cell HP.out 2)
    rw [HJ.out]
    go_wp2
    go_ret2
    exact ⟨by simp [HJ.out], hb⟩

theorem id_calls (w : World) (g : Nat) (id lsn : Int) (v : Value) (hp : PgAt w g id lsn v) :
    Calls Try.prog 25 #[.pointer (some ⟨g, 0, none⟩)] w fun e w' => e = .returned (.int .i64 id) ∧ w = w' := by
  have h0 : w.cell? ⟨g, 0, none⟩ = some (.int .i64 id) := blk_cell hp 0
  clear hp
  go_enter Try.func25, Try.ntmps25
  go_wp2
  go_ret
  exact ⟨rfl, rfl⟩
theorem lsn_calls (w : World) (g : Nat) (id lsn : Int) (v : Value) (hp : PgAt w g id lsn v) :
    Calls Try.prog 24 #[.pointer (some ⟨g, 0, none⟩)] w fun e w' => e = .returned (.int .u64 lsn) ∧ w = w' := by
  have h0 : w.cell? ⟨g, 1, none⟩ = some (.int .u64 lsn) := blk_cell hp 1
  clear hp
  go_enter Try.func24, Try.ntmps24
  go_wp2
  go_ret
  exact ⟨rfl, rfl⟩
theorem stamp_calls (w : World) (g : Nat) (id lsn l : Int) (v : Value) (hp : PgAt w g id lsn v) :
    Calls Try.prog 30 #[.pointer (some ⟨g, 0, none⟩), .int .u64 l] w fun e w' => e = .returned (.tuple #[]) ∧ w.setCell ⟨g, 1, none⟩ (.int .u64 l) = w' := by
  have h0 : w.cell? ⟨g, 1, none⟩ = some (.int .u64 lsn) := blk_cell hp 1
  have hf := blk_frozen hp 1
  clear hp
  go_enter Try.func30, Try.ntmps30
  go_wp2
  go_end0
  exact ⟨rfl, rfl⟩
end Go.Proofs.Ytidkdbohkbfhbaa
end
section
namespace Go.Proofs.Ytidkdbohkbfhbaa
open Go.RowKit Go.Proofs.YtidkdbohkbfhbaaW.PrintWords Go.Proofs.YtidkdbohkbfhbaaW.PrintLast Go.Proofs.YtidkdbohkbfhbaaW.PrintMore
open Rf
set_option linter.unusedVariables false
set_option linter.unusedSimpArgs false

/-- A page of the call's own, at block g. -/
structure IsPg (w : World) (base : Nat) (ok : Nat → Prop) (g : Nat) (id lsn : Int) (cs : List SGCell) : Prop where
  low : base ≤ g
  mine : ok g
  held : ∃ v, PgAt w g id lsn v ∧ Kd.R kGCell 46 w base (fun k => ok k ∧ k ≠ g) v cs

theorem IsPg.stored {w : World} {base : Nat} {ok : Nat → Prop} {g : Nat} {id lsn : Int} {v v1 : Value} {cs : List SGCell} (hlow : base ≤ g) (hm : ok g) (h : PgAt w g id lsn v)
    (hR : Kd.R kGCell 46 w base (fun k => ok k ∧ k ≠ g) v1 cs) : IsPg (w.setCell ⟨g, 2, none⟩ v1) base ok g id lsn cs :=
  ⟨hlow, hm, v1, blk_set h 2 v1, Kd.R_far (p := ⟨g, 2, none⟩) hR (fun _ hk => hk.2) v1⟩
theorem IsPg.mono {w : World} {base : Nat} {ok ok' : Nat → Prop} {g : Nat} {id lsn : Int} {cs : List SGCell} (h : IsPg w base ok g id lsn cs) (hok : ∀ k, ok k → ok' k) : IsPg w base ok' g id lsn cs := by
  obtain ⟨h1, h2, v, h3, h4⟩ := h
  exact ⟨h1, hok _ h2, v, h3, Kd.R_mono h4 (fun k hk => ⟨hok k hk.1, hk.2⟩)⟩
theorem IsPg.below {w w' : World} {base : Nat} {ok : Nat → Prop} {g : Nat} {id lsn : Int} {cs : List SGCell} (h : IsPg w base ok g id lsn cs) (hb : Below w.heap.size w w') : IsPg w' base ok g id lsn cs := by
  obtain ⟨h1, h2, v, h3, h4⟩ := h
  exact ⟨h1, h2, v, h3.below hb, Kd.R_below h4 hb⟩
theorem IsPg.kept {w w' : World} {base : Nat} {ok S : Nat → Prop} {g : Nat} {id lsn : Int} {cs : List SGCell} (h : IsPg w base ok g id lsn cs) (hk : Kept w w' S) (hne : ∀ k, ok k → ¬ S k) : IsPg w' base ok g id lsn cs := by
  obtain ⟨h1, h2, v, h3, h4⟩ := h
  exact ⟨h1, h2, v, blk_kept h3 hk (hne g h2), Kd.R_kept h4 hk (fun k hk => hne k hk.1)⟩

/-- A whole element of a row is written. -/
theorem row_put {w : World} {base go n c : Nat} {ok : Nat → Prop} {cs : List SGCell} (h : Kd.R kGCell 46 w base ok (.slice (some ⟨go, 0, none⟩) n c) cs) (i : Nat) (hi : i < cs.length) (x : SGCell) :
    Kd.R kGCell 46 (((w.setCell ⟨go, i * 3, none⟩ (.bool x.f0)).setCell ⟨go, i * 3 + 1, none⟩ (.string x.f1)).setCell ⟨go, i * 3 + 2, none⟩ (.string x.f2)) base ok (.slice (some ⟨go, 0, none⟩) n c) (cs.set i x) ∧
      w.grownBy (((w.setCell ⟨go, i * 3, none⟩ (.bool x.f0)).setCell ⟨go, i * 3 + 1, none⟩ (.string x.f1)).setCell ⟨go, i * 3 + 2, none⟩ (.string x.f2)) (some go) := by
  have hn := (Kd.R_reads' h).1
  obtain ⟨ad, ea, hx0, hx1, hx2⟩ := cell_at (Kd.R_reads' h).2.2 i hi
  cases ea
  simp only [add_plain] at hx0 hx1 hx2
  have hs := Kd.R_seg (okp := fun _ => False) (seg := [.bool x.f0, .string x.f1, .string x.f2]) (j := 0) (c := [.bool (rd_TGCell cs i).f0, .string (rd_TGCell cs i).f1, .string (rd_TGCell cs i).f2]) (x' := x) h (i : Int) (by omega) (by omega) rfl
    (fun j u hu => by
      rw [Int.toNat_natCast]
      match j, hu with
      | 0, hu => rw [← Option.some.inj hu]; exact hx0
      | 1, hu => rw [← Option.some.inj hu]; exact hx1
      | 2, hu => rw [← Option.some.inj hu]; exact hx2) (Nat.le_refl 3) (kGCell_mkM _ _ _ x) (fun _ hk => hk.elim)
  rw [Int.toNat_natCast] at hs
  exact hs

/-- Nothing was changed. -/
theorem IsPg.same {w0 w w' : World} {ok : Nat → Prop} {g : Nat} {id lsn : Int} {cs : List SGCell} (h : IsPg w w0.heap.size ok g id lsn cs) (hB : Below w0.heap.size w0 w) (hb : Below w.heap.size w w') :
    IsPg w' w0.heap.size (fun k => ok k ∨ w.heap.size ≤ k) g id lsn cs ∧ Below w0.heap.size w0 w' ∧ Kept w w' ok :=
  ⟨(h.below hb).mono (fun _ hk => .inl hk), below_then hB hB.size hb, Kept.of_below hb ok⟩

set_option maxHeartbeats 1000000 in
theorem insert_calls (w0 w : World) (ok : Nat → Prop) (g : Nat) (id lsn : Int) (cs : List SGCell) (key value : ByteArray)
    (hB : Below w0.heap.size w0 w) (hp : IsPg w w0.heap.size ok g id lsn cs) (hS : Small cs) (hl : cs.length ≤ 64) :
    Calls Try.prog 19 #[.pointer (some ⟨g, 0, none⟩), .string key, .string value] w fun e w' => e = .returned (.int .i64 (ins cs key value).2) ∧
      IsPg w' w0.heap.size (fun k => ok k ∨ w.heap.size ≤ k) g id lsn (ins cs key value).1 ∧ Below w0.heap.size w0 w' ∧ Kept w w' ok := by
  have HP := Aside0.mk hp
  obtain ⟨hlow, hmine, v, hat, hR⟩ := hp
  obtain ⟨A, c, rfl, hlc, hC⟩ := Kd.R_reads hR
  have HAT := Aside0.mk hat
  have HR := Aside0.mk hR
  have HC := Aside0.mk hC
  have HS := Aside0.mk hS
  have HB := Aside0.mk hB
  have hg2 : w.cell? ⟨g, 2, none⟩ = some (.slice A cs.length c) := blk_cell HAT.out 2
  clear hat hR hC hB hS
  by_cases hm : mayB key value = true
  · by_cases hf : 0 ≤ fnd cs key
    · have HI := Aside0.mk (show ins cs key value = (cs, 9) by unfold ins; rw [if_pos hm, if_pos hf])
      have hf' : decide (0 ≤ fnd cs key) = true := by simpa using hf
      go_enter Try.func19, Try.ntmps19
      go_wp2_with fail
      refine (may_calls _ _ _).mono ?_
      rintro e w1 ⟨rfl, hd1⟩
      rw [hm]
      go_wp2_with fail
      refine (find_calls w1 g id lsn A c cs key (HAT.out.below hd1.below) (Kd.C_below HC.out hd1.below) (by omega)).mono ?_
      rintro e w2 ⟨rfl, hb2⟩
      have HB2 := Aside0.mk (bel_trans hd1.below hb2)
      go_wp2
      go_ret
      rw [HI.out]
      exact ⟨rfl, HP.out.same HB.out HB2.out⟩
    · go_enter Try.func19, Try.ntmps19
      go_wp2_with fail
      refine (may_calls _ _ _).mono ?_
      rintro e w1 ⟨rfl, hd1⟩
      rw [hm]
      go_wp2_with fail
      refine (find_calls w1 g id lsn A c cs key (HAT.out.below hd1.below) (Kd.C_below HC.out hd1.below) (by omega)).mono ?_
      rintro e w2 ⟨rfl, hb2⟩
      have HB2 := Aside0.mk (bel_trans hd1.below hb2)
      have HAT2 := Aside0.mk (HAT.out.below HB2.out)
      have HC2 := Aside0.mk (Kd.C_below HC.out HB2.out)
      have hg2' : w2.cell? ⟨g, 2, none⟩ = some (.slice A cs.length c) := blk_cell HAT2.out 2
      go_wp2
      go_loopg [7] cs.length (fun gk v7 wr => ∃ k : Nat, Aside0 (k + gk = cs.length) ∧ v7 = .int .i64 k ∧ k ≤ frs cs ∧ Aside0 (w2 = wr))
      case atStart => exact ⟨0, ⟨by omega⟩, rfl, by omega, ⟨rfl⟩⟩
      case round =>
        obtain ⟨k, Hk, rfl, hkf, Hw⟩ := hrel
        obtain rfl := Hw.out
        clear Hw
        have hfl := frs_le cs
        by_cases hlt : k < frs cs
        · obtain ⟨ad, ea, hx0, hx1, hx2⟩ := cell_at HC2.out k (by omega)
          cases ea
          rw [frs_used cs k hlt] at hx0
          have hlt' : k < cs.length := by omega
          go_wp2
          go_roundg (gk - 1)
          case measure => have := Hk.out; omega
          case rel => exact ⟨k + 1, ⟨by have := Hk.out; omega⟩, by go_num, by omega, ⟨rfl⟩⟩
        · obtain rfl : k = frs cs := by omega
          clear hlt hkf hfl
          -- the slot is known: the two ways part on whether it is a new one
          have hfr : frs cs ≤ cs.length := frs_le cs
          have hz : csz (cel key value) ≤ 100 := by have := (mayB_iff key value).1 hm; rw [csz_cel]; omega
          have hkz : (cel key value).f1.size ≤ 1000 := by have := (mayB_iff key value).1 hm; show key.size ≤ 1000; omega
          have hvz : (cel key value).f2.size ≤ 1000 := by have := (mayB_iff key value).1 hm; show value.size ≤ 1000; omega
          by_cases hend : cs.length ≤ frs cs
          · have hend2 : frs cs = cs.length := by omega
            have HE := Aside0.mk hend2
            rw [hend2]
            clear hend hend2 hfr
            go_wp2_with fail
            refine (size_calls (cel key value) _ hkz hvz).mono ?_
            rintro e w3 ⟨rfl, hb3⟩
            have HB3 := Aside0.mk (bel_trans HB2.out (bel_trans (below_alloc (Below.refl _ w2) _) hb3))
            have HX3 := Aside0.mk (show w3.heap[w2.heap.size]? = some (.cells #[.bool true, .string key, .string value] 46 (0, 0)) from (hb3.block _ (by simp)).trans (heap_alloc_new w2 _))
            clear hb3
            have HAT3 := Aside0.mk (HAT.out.below HB3.out)
            have HC3 := Aside0.mk (Kd.C_below HC.out HB3.out)
            have hg3 : w3.cell? ⟨g, 2, none⟩ = some (.slice A cs.length c) := blk_cell HAT3.out 2
            by_cases h64 : cs.length = 64
            · have HI := Aside0.mk (show ins cs key value = (cs, 7) by
                unfold ins
                rw [if_pos hm, if_neg (by omega), if_pos (.inl (by rw [HE.out]; exact h64))])
              have h64' : ((cs.length : Int) == 64) = true := by simp; omega
              clear h64
              go_wp2
              go_ret
              rw [HI.out]
              exact ⟨rfl, HP.out.same HB.out HB3.out⟩
            · have h64' : ((cs.length : Int) == 64) = false := by simp; omega
              have H64 := Aside0.mk h64
              clear h64
              go_wp2_with fail
              refine (free_calls w3 g id lsn A c cs HAT3.out HC3.out HS.out).mono ?_
              rintro e w4 ⟨rfl, hb4⟩
              have HB4 := Aside0.mk (bel_trans HB3.out hb4)
              have HX4 := Aside0.mk ((hb4.block _ (blk_lt HX3.out)).trans HX3.out)
              clear hb4
              have HAT4 := Aside0.mk (HAT.out.below HB4.out)
              have HR4 := Aside0.mk (Kd.R_mono (Kd.R_below HR.out HB4.out) (fun k hk => (⟨.inl hk.1, hk.2⟩ : (ok k ∨ w.heap.size ≤ k) ∧ k ≠ g)))
              have HBw4 := Aside0.mk (below_then HB.out HB.out.size HB4.out)
              have hsz := HBw4.out.size
              have hg4 : w4.cell? ⟨g, 2, none⟩ = some (.slice A cs.length c) := blk_cell HAT4.out 2
              have hy0 := blk_cell HX4.out 0
              have hy1 := blk_cell HX4.out 1
              have hy2 := blk_cell HX4.out 2
              by_cases hroom : free cs < (csz (cel key value) : Int) + 4
              · have HI := Aside0.mk (show ins cs key value = (cs, 7) by
                  unfold ins insNeed
                  rw [if_pos hm, if_neg (by omega), if_pos (.inr (by rw [if_pos HE.out]; rw [csz_cel] at hroom; omega))])
                go_wp2
                go_ret
                rw [HI.out]
                exact ⟨rfl, HP.out.same HB.out HB4.out⟩
              · have HI := Aside0.mk (show ins cs key value = (cs ++ [cel key value], 0) by
                  unfold ins insAt insNeed
                  rw [if_pos hm, if_neg (by omega), if_neg (by rw [if_pos HE.out, HE.out]; rw [csz_cel] at hroom; have := H64.out; omega), if_pos HE.out])
                have hg4a : ∀ o, (w4.alloc o).cell? ⟨g, 2, none⟩ = some (.slice A cs.length c) := fun o => blk_cell (blk_alloc HAT4.out o) 2
                have hlen : (cs ++ [cel key value]).length = cs.length + 1 := by simp
                go_wp2_with fail
                go_region_law (refine R_append_drew kGCell (w0 := w0) (W := w4) w0.heap.size (by rfl) (.tmp 74) (.tmp 76) 31 46 (.agg #[(.bool false), (.string ⟨#[]⟩), (.string ⟨#[]⟩)]) 40 (by rfl) Try.underlying31 Rf.info46 rfl (by decide) (by omega) (.slice A cs.length c) cs (cel key value) [.bool true, .string key, .string value] (fun k => (ok k ∨ w.heap.size ≤ k) ∧ k ≠ g) (fun _ => False) (by rfl) (by rfl) (kGCell_mkM _ _ _ (cel key value)) (fun _ hk => hk.elim) ?hfr HR4.out HBw4.out hsz (by omega) ?_; (case hfr => intro k hk; exact ⟨.inr (by have := HB4.out.size; omega), by have := blk_lt HAT4.out; omega⟩); intro v1 w5 ho hb hg hat; obtain ⟨A1, c1, hv1⟩ := Kd.R_slice ho; rw [hlen] at hv1; rw [hv1]; rw [hv1] at ho; have HAT5 := Aside0.mk (blk_grown HAT4.out hg (Kd.R_ne HR4.out HAT4.out (by decide))); have hg5 : w5.cell? ⟨g, 2, none⟩ = some (.slice A cs.length c) := blk_cell HAT5.out 2; have hf5 := blk_frozen HAT5.out 2; have HO := Aside0.mk ho; have HG5 := Aside0.mk hg; have HB5 := Aside0.mk hb; clear ho hat hv1 hg hb)
                all_goals
                  go_wp2
                  go_ret
                  rw [HI.out]
                  refine ⟨rfl, IsPg.stored hlow (.inl hmine) HAT5.out HO.out, HB5.out.setCell hlow _, ?_⟩
                  exact ((Kept.of_grown HG5.out (Kept.of_below HB4.out ok) (fun k hk => .inl (HR.out.1 k hk).1)).setCell (.inl hmine) _)
          · obtain ⟨go, cap, ev, hgo, hgl, cells, hgc⟩ := Kd.R_form HR.out (by omega)
            obtain ⟨rfl, rfl⟩ : A = some ⟨go, 0, none⟩ ∧ c = cap := by injection ev with e1 e2 e3; exact ⟨e1, e3⟩
            clear ev
            obtain ⟨ad, ea, hx0, hx1, hx2⟩ := cell_at HC2.out (frs cs) (by omega)
            cases ea
            simp only [add_plain] at hx0 hx1 hx2
            rw [frs_free cs (by omega)] at hx0
            have hend' : frs cs < cs.length := by omega
            have hne : ((frs cs : Int) == (cs.length : Int)) = false := by simp; omega
            have hne' : (frs cs == cs.length) = false := by simp; omega
            go_wp2_with fail
            refine (size_calls (cel key value) _ hkz hvz).mono ?_
            rintro e w3 ⟨rfl, hb3⟩
            have HB3 := Aside0.mk (bel_trans HB2.out (bel_trans (below_alloc (Below.refl _ w2) _) hb3))
            have HX3 := Aside0.mk (show w3.heap[w2.heap.size]? = some (.cells #[.bool true, .string key, .string value] 46 (0, 0)) from (hb3.block _ (by simp)).trans (heap_alloc_new w2 _))
            clear hb3
            have HAT3 := Aside0.mk (HAT.out.below HB3.out)
            have HC3 := Aside0.mk (Kd.C_below HC.out HB3.out)
            have hg3 : w3.cell? ⟨g, 2, none⟩ = some (.slice (some ⟨go, 0, none⟩) cs.length c) := blk_cell HAT3.out 2
            have h64 : ((frs cs : Int) == 64) = false := by simp; omega
            go_wp2_with fail
            refine (free_calls w3 g id lsn (some ⟨go, 0, none⟩) c cs HAT3.out HC3.out HS.out).mono ?_
            rintro e w4 ⟨rfl, hb4⟩
            have HB4 := Aside0.mk (bel_trans HB3.out hb4)
            have HX4 := Aside0.mk ((hb4.block _ (blk_lt HX3.out)).trans HX3.out)
            clear hb4
            have HAT4 := Aside0.mk (HAT.out.below HB4.out)
            have HR4 := Aside0.mk (Kd.R_mono (Kd.R_below HR.out HB4.out) (fun k hk => (⟨.inl hk.1, hk.2⟩ : (ok k ∨ w.heap.size ≤ k) ∧ k ≠ g)))
            have HBw4 := Aside0.mk (below_then HB.out HB.out.size HB4.out)
            have hsz := HBw4.out.size
            have hg4 : w4.cell? ⟨g, 2, none⟩ = some (.slice (some ⟨go, 0, none⟩) cs.length c) := blk_cell HAT4.out 2
            have hy0 := blk_cell HX4.out 0
            have hy1 := blk_cell HX4.out 1
            have hy2 := blk_cell HX4.out 2
            by_cases hroom : free cs < (csz (cel key value) : Int)
            · have HI := Aside0.mk (show ins cs key value = (cs, 7) by
                unfold ins insNeed
                rw [if_pos hm, if_neg (by omega), if_pos (.inr (by rw [if_neg (by omega)]; rw [csz_cel] at hroom; omega))])
              go_wp2
              go_ret
              rw [HI.out]
              exact ⟨rfl, HP.out.same HB.out HB4.out⟩
            · obtain ⟨ad, ea, hz0, hz1, hz2⟩ := cell_at (Kd.R_reads' HR4.out).2.2 (frs cs) (by omega)
              cases ea
              simp only [add_plain] at hz0 hz1 hz2
              have hgc4 : w4.heap[go]? = some (.cells cells 46 (0, 0)) := (HB4.out.block go hgl).trans hgc
              have hf0 := blk_frozen hgc4 (frs cs * 3)
              have hf1 := blk_frozen hgc4 (frs cs * 3 + 1)
              have hf2 := blk_frozen hgc4 (frs cs * 3 + 2)
              go_wp2
              go_region
              all_goals
                go_wp2
                go_ret
                have HI : ins cs key value = (cs.set (frs cs) (cel key value), 0) := by
                  unfold ins insAt insNeed
                  rw [if_pos hm, if_neg (by omega), if_neg (by rw [if_neg (by omega)]; rw [csz_cel] at hroom; omega), if_neg (by omega)]
                rw [HI]
                have hrow := row_put HR4.out (frs cs) (by omega) (cel key value)
                refine ⟨rfl, ⟨hlow, .inl hmine, _, blk_drew (blk_grown HAT4.out hrow.2 (Kd.R_ne HR4.out HAT4.out (by decide))), Kd.R_drew hrow.1⟩, (HBw4.out.grown hrow.2 hsz (fun k hk => by injection hk with hk; omega)).drew, ?_⟩
                exact (Kept.of_grown hrow.2 (Kept.of_below HB4.out ok) (fun k hk => .inl (HR.out.1 k hk).1)).drew
  · have hm' : mayB key value = false := by simpa using hm
    have HI := Aside0.mk (show ins cs key value = (cs, 1) by unfold ins; rw [if_neg hm])
    go_enter Try.func19, Try.ntmps19
    go_wp2_with fail
    refine (may_calls _ _ _).mono ?_
    rintro e w1 ⟨rfl, hd1⟩
    rw [hm']
    go_wp2
    go_ret
    rw [HI.out]
    exact ⟨rfl, HP.out.same HB.out hd1.below⟩
end Go.Proofs.Ytidkdbohkbfhbaa
end
section
namespace Go.Proofs.Ytidkdbohkbfhbaa
open Go.RowKit Go.Proofs.YtidkdbohkbfhbaaW.PrintWords Go.Proofs.YtidkdbohkbfhbaaW.PrintLast Go.Proofs.YtidkdbohkbfhbaaW.PrintMore
open Rf
set_option linter.unusedVariables false
set_option linter.unusedSimpArgs false

/-- The third cell of an element is written. -/
theorem row_put2 {w : World} {base go n c : Nat} {ok : Nat → Prop} {cs : List SGCell} (h : Kd.R kGCell 46 w base ok (.slice (some ⟨go, 0, none⟩) n c) cs) (i : Nat) (hi : i < cs.length) (v : ByteArray) :
    Kd.R kGCell 46 (w.setCell ⟨go, i * 3 + 2, none⟩ (.string v)) base ok (.slice (some ⟨go, 0, none⟩) n c) (updAt cs i v) ∧
      w.grownBy (w.setCell ⟨go, i * 3 + 2, none⟩ (.string v)) (some go) := by
  have hn := (Kd.R_reads' h).1
  obtain ⟨ad, ea, hx0, hx1, hx2⟩ := cell_at (Kd.R_reads' h).2.2 i hi
  cases ea
  simp only [add_plain] at hx0 hx1 hx2
  have hs := Kd.R_seg (okp := fun _ => False) (seg := [.string v]) (j := 2) (c := [.bool (rd_TGCell cs i).f0, .string (rd_TGCell cs i).f1, .string (rd_TGCell cs i).f2]) (x' := ⟨(rd_TGCell cs i).f0, (rd_TGCell cs i).f1, v⟩) h (i : Int) (by omega) (by omega) rfl
    (fun j u hu => by
      rw [Int.toNat_natCast]
      match j, hu with
      | 0, hu => rw [← Option.some.inj hu]; exact hx0
      | 1, hu => rw [← Option.some.inj hu]; exact hx1
      | 2, hu => rw [← Option.some.inj hu]; exact hx2) (Nat.le_refl 3) (kGCell_mkM _ _ _ _) (fun _ hk => hk.elim)
  rw [Int.toNat_natCast] at hs
  exact hs

set_option maxHeartbeats 1000000 in
theorem update_calls (w0 w : World) (ok : Nat → Prop) (g : Nat) (id lsn : Int) (cs : List SGCell) (key value : ByteArray)
    (hB : Below w0.heap.size w0 w) (hp : IsPg w w0.heap.size ok g id lsn cs) (hS : Small cs) :
    Calls Try.prog 26 #[.pointer (some ⟨g, 0, none⟩), .string key, .string value] w fun e w' => e = .returned (.int .i64 (upd cs key value).2) ∧
      IsPg w' w0.heap.size (fun k => ok k ∨ w.heap.size ≤ k) g id lsn (upd cs key value).1 ∧ Below w0.heap.size w0 w' ∧ Kept w w' ok := by
  have HP := Aside0.mk hp
  obtain ⟨hlow, hmine, v, hat, hR⟩ := hp
  obtain ⟨A, c, rfl, hlc, hC⟩ := Kd.R_reads hR
  have HAT := Aside0.mk hat
  have HR := Aside0.mk hR
  have HC := Aside0.mk hC
  have HS := Aside0.mk hS
  have HB := Aside0.mk hB
  have hl := hS.1
  have hg2 : w.cell? ⟨g, 2, none⟩ = some (.slice A cs.length c) := blk_cell HAT.out 2
  clear hat hR hC hB hS
  by_cases hm : mayB key value = true
  · by_cases hf : fnd cs key < 0
    · have HI := Aside0.mk (show upd cs key value = (cs, 8) by unfold upd; rw [if_pos hm, if_pos hf])
      go_enter Try.func26, Try.ntmps26
      go_wp2_with fail
      refine (may_calls _ _ _).mono ?_
      rintro e w1 ⟨rfl, hd1⟩
      rw [hm]
      go_wp2_with fail
      refine (find_calls w1 g id lsn A c cs key (HAT.out.below hd1.below) (Kd.C_below HC.out hd1.below) (by omega)).mono ?_
      rintro e w2 ⟨rfl, hb2⟩
      have HB2 := Aside0.mk (bel_trans hd1.below hb2)
      go_wp2
      go_ret
      rw [HI.out]
      exact ⟨rfl, HP.out.same HB.out HB2.out⟩
    · have hfl := fnd_lt cs key
      obtain ⟨j, hj⟩ := Int.eq_ofNat_of_zero_le (show 0 ≤ fnd cs key by omega)
      have HJ := Aside0.mk hj
      rw [hj] at hfl hf
      obtain ⟨go, cap, ev, hgo, hgl, cells, hgc⟩ := Kd.R_form HR.out (by omega)
      obtain ⟨rfl, rfl⟩ : A = some ⟨go, 0, none⟩ ∧ c = cap := by injection ev with e1 e2 e3; exact ⟨e1, e3⟩
      clear ev hj
      have hjl : j < cs.length := by omega
      have hvz : value.size ≤ 32 := ((mayB_iff key value).1 hm).2.2
      have hoz : (rd_TGCell cs j).f2.size ≤ 1000 := (HS.out.2 _ (rd_mem cs j hjl)).2
      have htl := tot_le cs HS.out
      go_enter Try.func26, Try.ntmps26
      go_wp2_with fail
      refine (may_calls _ _ _).mono ?_
      rintro e w1 ⟨rfl, hd1⟩
      rw [hm]
      go_wp2_with fail
      refine (find_calls w1 g id lsn _ c cs key (HAT.out.below hd1.below) (Kd.C_below HC.out hd1.below) (by omega)).mono ?_
      rintro e w2 ⟨rfl, hb2⟩
      have HB2 := Aside0.mk (bel_trans hd1.below hb2)
      clear hd1 hb2
      rw [HJ.out]
      have HAT2 := Aside0.mk (HAT.out.below HB2.out)
      have HC2 := Aside0.mk (Kd.C_below HC.out HB2.out)
      have hg2' : w2.cell? ⟨g, 2, none⟩ = some (.slice (some ⟨go, 0, none⟩) cs.length c) := blk_cell HAT2.out 2
      obtain ⟨ad, ea, hz0, hz1, hz2⟩ := cell_at HC2.out j hjl
      cases ea
      simp only [add_plain] at hz0 hz1 hz2
      clear hz0 hz1
      have hwr : IntKind.i64.wrap ((value.size : Int) - ((rd_TGCell cs j).f2.size : Int)) = (value.size : Int) - ((rd_TGCell cs j).f2.size : Int) := i64w (by omega) (by omega)
      go_wp2_with fail
      go_region_held3 (fun w' => w'.cell? ⟨g, 2, none⟩ = some (.slice (some ⟨go, 0, none⟩) cs.length c) ∧ w'.cell? ⟨go, j * 3 + 2, none⟩ = some (.string (rd_TGCell cs j).f2)) (first | go_keep | (go_split_ands; exact ⟨pw_cell_below hb4 hg2', pw_cell_below hb4 hz2⟩))
        (first | (go_at_call 16; refine (free_calls _ g id lsn _ c cs (blk_drew HAT2.out) (Kd.C_below HC2.out (below_drew (Below.refl _ _))) HS.out).mono ?_; rintro e w4 ⟨rfl, hb4⟩))
      clear hwr
      have HB4 := Aside0.mk (bel_trans HB2.out (below_then (below_drew (Below.refl _ _)) (Nat.le_refl _) hb4))
      have HAT4 := Aside0.mk (HAT.out.below HB4.out)
      have HR4 := Aside0.mk (Kd.R_mono (Kd.R_below HR.out HB4.out) (fun k hk => (⟨.inl hk.1, hk.2⟩ : (ok k ∨ w.heap.size ≤ k) ∧ k ≠ g)))
      have HBw4 := Aside0.mk (below_then HB.out HB.out.size HB4.out)
      have hsz := HBw4.out.size
      have hg4 : w4.cell? ⟨g, 2, none⟩ = some (.slice (some ⟨go, 0, none⟩) cs.length c) := blk_cell HAT4.out 2
      have hgc4 : w4.heap[go]? = some (.cells cells 46 (0, 0)) := (HB4.out.block go hgl).trans hgc
      have hf2 := blk_frozen hgc4 (j * 3 + 2)
      obtain ⟨ad, ea, hq0, hq1, hq2⟩ := cell_at (Kd.R_reads' HR4.out).2.2 j hjl
      cases ea
      simp only [add_plain] at hq0 hq1 hq2
      clear hq0 hq1
      by_cases hroom : free cs < (value.size : Int) - ((rd_TGCell cs j).f2.size : Int)
      · have HI := Aside0.mk (show upd cs key value = (cs, 7) by
          unfold upd
          rw [if_pos hm, HJ.out, if_neg (by omega), if_pos hroom])
        go_wp2
        go_ret
        rw [HI.out]
        exact ⟨rfl, HP.out.same HB.out HB4.out⟩
      · have HI := Aside0.mk (show upd cs key value = (updAt cs j value, 0) by
          unfold upd
          rw [if_pos hm, HJ.out, if_neg (by omega), if_neg hroom, Int.toNat_natCast])
        go_wp2
        go_ret
        rw [HI.out]
        have hrow := row_put2 HR4.out j hjl value
        refine ⟨rfl, ⟨hlow, .inl hmine, _, blk_grown HAT4.out hrow.2 (Kd.R_ne HR4.out HAT4.out (by decide)), hrow.1⟩, HBw4.out.grown hrow.2 hsz (fun k hk => by injection hk with hk; omega), ?_⟩
        exact Kept.of_grown hrow.2 (Kept.of_below HB4.out ok) (fun k hk => .inl (HR.out.1 k hk).1)
  · have hm' : mayB key value = false := by simpa using hm
    have HI := Aside0.mk (show upd cs key value = (cs, 1) by unfold upd; rw [if_neg hm])
    go_enter Try.func26, Try.ntmps26
    go_wp2_with fail
    refine (may_calls _ _ _).mono ?_
    rintro e w1 ⟨rfl, hd1⟩
    rw [hm']
    go_wp2
    go_ret
    rw [HI.out]
    exact ⟨rfl, HP.out.same HB.out hd1.below⟩
end Go.Proofs.Ytidkdbohkbfhbaa
end
section
namespace Go.Proofs.Ytidkdbohkbfhbaa
open Go.RowKit Go.Proofs.YtidkdbohkbfhbaaW.PrintWords Go.Proofs.YtidkdbohkbfhbaaW.PrintLast Go.Proofs.YtidkdbohkbfhbaaW.PrintMore
open Rf
set_option linter.unusedVariables false
set_option linter.unusedSimpArgs false

/-! A row of cells as one list of values. -/
def cv (c : SGCell) : List Value := [.bool c.f0, .string c.f1, .string c.f2]
def flat (cs : List SGCell) : List Value := cs.flatMap cv
theorem flat_length (cs : List SGCell) : (flat cs).length = cs.length * 3 := by
  induction cs with
  | nil => rfl
  | cons c cs ih => simp only [flat, List.flatMap_cons, List.length_append, List.length_cons]; have : (List.flatMap cv cs).length = cs.length * 3 := ih; rw [this]; simp [cv]; omega
theorem flat_append (a b : List SGCell) : flat (a ++ b) = flat a ++ flat b := by simp [flat]
theorem flat_take (cs : List SGCell) (k : Nat) (hk : k ≤ cs.length) : flat (cs.take k) = (flat cs).take (k * 3) := by
  have h : flat cs = flat (cs.take k) ++ flat (cs.drop k) := by rw [← flat_append, List.take_append_drop]
  rw [h, List.take_left' (by rw [flat_length, List.length_take]; congr 1; omega)]
theorem flat_drop (cs : List SGCell) (k : Nat) (hk : k ≤ cs.length) : flat (cs.drop k) = (flat cs).drop (k * 3) := by
  have h : flat cs = flat (cs.take k) ++ flat (cs.drop k) := by rw [← flat_append, List.take_append_drop]
  rw [h, List.drop_left' (by rw [flat_length, List.length_take]; congr 1; omega)]
theorem flat_one (cs : List SGCell) : ∀ u ∈ flat cs, u.oneCell' = true := by
  intro u hu
  simp only [flat, List.mem_flatMap] at hu
  obtain ⟨c, _, hc⟩ := hu
  simp only [cv, List.mem_cons, List.not_mem_nil, or_false] at hc
  rcases hc with rfl | rfl | rfl <;> rfl
theorem reps_flat {R : SGCell → List Value → Prop} (hR : ∀ p c, R p c → c = cv p) (cs : List SGCell) (xs : List Value) (h : Reps R 3 cs xs) : xs = flat cs := by
  induction cs generalizing xs with
  | nil => have := h.1; simp at this; subst this; rfl
  | cons c cs ih =>
    have h0 := hR _ _ (h.2 0 c rfl)
    simp only [Nat.zero_mul, List.drop_zero] at h0
    have hl := h.1
    simp only [List.length_cons] at hl
    have h1 : Reps R 3 cs (xs.drop 3) := by
      refine ⟨by rw [List.length_drop]; omega, fun j p hj => ?_⟩
      have := h.2 (j + 1) p hj
      rw [List.drop_drop]
      rw [Nat.add_mul, Nat.add_comm] at this
      exact this
    rw [← List.take_append_drop 3 xs, h0, ih _ h1]
    rfl
theorem flat_reps {R : SGCell → List Value → Prop} (hR : ∀ p, R p (cv p)) (cs : List SGCell) : Reps R 3 cs (flat cs) := by
  refine ⟨flat_length cs, fun j p hj => ?_⟩
  obtain ⟨hl, hp⟩ := List.getElem?_eq_some_iff.1 hj
  rw [← flat_drop cs j (by omega), List.drop_eq_getElem_cons hl]
  show R p ((cv cs[j] ++ flat (cs.drop (j + 1))).take 3)
  rw [hp]
  exact hR p
theorem R_flat {e : TypeId} {w : World} {base : Nat} {ok : Nat → Prop} {v : Value} {cs : List SGCell} (h : Kd.R kGCell e w base ok v cs) : w.ownsRow base e 3 v cs.length (flat cs) := by
  obtain ⟨_, inner, ho, hr⟩ := h
  have := reps_flat (fun p c hc => kGCell_openM hc) cs inner hr
  subst this
  exact ho
theorem R_of_flat {e : TypeId} {w : World} {base : Nat} {ok : Nat → Prop} {v : Value} {cs : List SGCell} (hok : ∀ k, v.ownBlock = some k → ok k) (h : w.ownsRow base e 3 v cs.length (flat cs)) : Kd.R kGCell e w base ok v cs :=
  ⟨hok, flat cs, h, flat_reps (fun p => kGCell_mkM _ _ _ p) cs⟩

/-- The elements behind j go one to the front. -/
theorem row_del {w : World} {base go n c : Nat} {ok : Nat → Prop} {cs : List SGCell} (h : Kd.R kGCell 46 w base ok (.slice (some ⟨go, 0, none⟩) n c) cs) (j : Nat) (hj : j < cs.length) :
    Kd.R kGCell 46 (w.setCells go (j * 3) (flat (cs.drop (j + 1)))) base ok (.slice (some ⟨go, 0, none⟩) (n - 1) c) (delAt cs j) ∧
      w.grownBy (w.setCells go (j * 3) (flat (cs.drop (j + 1)))) (some go) ∧
      (∀ q u, (flat (cs.drop (j + 1)))[q]? = some u → w.cell? ⟨go, (j + 1) * 3 + q, none⟩ = some u) ∧
      (∀ q, q < (flat (cs.drop (j + 1))).length → (w.cell? ⟨go, j * 3 + q, none⟩).isSome = true ∧ w.frozen? ⟨go, j * 3 + q, none⟩ = false) := by
  have hn := (Kd.R_reads' h).1
  have hf := R_flat h
  have hok := h.1
  obtain ⟨hlen, hrest⟩ := hf
  rcases hrest with ⟨hv, _⟩ | ⟨g', cap, cur, hv, hb, hh, hnc, hcm, hcs, ht⟩
  · cases hv
  injection hv with ha hnn hc
  injection ha with ha
  injection ha with hg
  subst hg; subst hc
  have hdl : (delAt cs j).length = n - 1 := by simp [delAt]; omega
  have hml : (flat (cs.drop (j + 1))).length = (n - (j + 1)) * 3 := by rw [flat_length, List.length_drop, hn]
  have hcs' : cur.toList.length = c * 3 := by rw [Array.length_toList, hcs]
  have hfit : j * 3 + (flat (cs.drop (j + 1))).length ≤ cur.size := by
    rw [hml, hcs]
    have : n * 3 ≤ c * 3 := Nat.mul_le_mul_right _ (by omega)
    omega
  have hcell : ∀ i, i < n * 3 → w.cell? ⟨go, i, none⟩ = (flat cs)[i]? := by
    intro i hi
    rw [cell_of_row w go i cur 46 (0, 0) hh, ← ht, List.getElem?_take, if_pos (by rw [← hn]; omega)]
    simp
  obtain ⟨cur', h3, h4, h5⟩ := setCells_row (flat (cs.drop (j + 1))) (j * 3) w cur hh hfit
  obtain ⟨s1, s2, s3, s4⟩ := setCells_same go (flat (cs.drop (j + 1))) (j * 3) w
  refine ⟨R_of_flat (fun k hk => hok k hk) ⟨by rw [flat_length], .inr ⟨go, c, cur', by rw [hdl], hb, h3, by omega, hcm, by rw [h4, hcs], ?_⟩⟩,
    ⟨s1, s2, s3, by rw [s4]; exact Nat.le_refl _, fun k _ hk => setCells_far _ _ k (fun he => hk (by rw [he]))⟩, ?_, ?_⟩
  · rw [h5, hdl]
    have e1 : cur.toList.take (j * 3) = flat (cs.take j) := by
      rw [flat_take cs j (by omega), ← ht, List.take_take]
      congr 1
      have : j * 3 ≤ cs.length * 3 := Nat.mul_le_mul_right _ (by omega)
      omega
    rw [e1, show delAt cs j = cs.take j ++ cs.drop (j + 1) from rfl, flat_append]
    rw [List.take_left' (by rw [List.length_append, hml, flat_length, List.length_take]; omega)]
  · intro q u hu
    have hq : q < (flat (cs.drop (j + 1))).length := (List.getElem?_eq_some_iff.1 hu).1
    rw [hcell _ (by rw [hml] at hq; omega)]
    rw [flat_drop cs (j + 1) (by omega), List.getElem?_drop] at hu
    exact hu
  · intro q hq
    refine ⟨?_, blk_frozen hh _⟩
    rw [hcell _ (by rw [hml] at hq; omega), List.getElem?_eq_getElem (by rw [flat_length]; rw [hml] at hq; omega)]
    rfl

set_option maxHeartbeats 1000000 in
theorem delete_calls (w0 w : World) (ok : Nat → Prop) (g : Nat) (id lsn : Int) (cs : List SGCell) (key : ByteArray)
    (hB : Below w0.heap.size w0 w) (hp : IsPg w w0.heap.size ok g id lsn cs) (hl : cs.length ≤ 1000) :
    Calls Try.prog 20 #[.pointer (some ⟨g, 0, none⟩), .string key] w fun e w' => e = .returned (.int .i64 (del cs key).2) ∧
      IsPg w' w0.heap.size (fun k => ok k ∨ w.heap.size ≤ k) g id lsn (del cs key).1 ∧ Below w0.heap.size w0 w' ∧ Kept w w' ok := by
  have HP := Aside0.mk hp
  obtain ⟨hlow, hmine, v, hat, hR⟩ := hp
  obtain ⟨A, c, rfl, hlc, hC⟩ := Kd.R_reads hR
  have HAT := Aside0.mk hat
  have HR := Aside0.mk hR
  have HC := Aside0.mk hC
  have HB := Aside0.mk hB
  have hg2 : w.cell? ⟨g, 2, none⟩ = some (.slice A cs.length c) := blk_cell HAT.out 2
  clear hat hR hC hB
  by_cases hf : fnd cs key < 0
  · have HI := Aside0.mk (show del cs key = (cs, 8) by unfold del; rw [if_pos hf])
    go_enter Try.func20, Try.ntmps20
    go_wp2_with fail
    refine (find_calls w g id lsn A c cs key HAT.out HC.out (by omega)).mono ?_
    rintro e w2 ⟨rfl, hb2⟩
    go_wp2
    go_ret
    rw [HI.out]
    exact ⟨rfl, HP.out.same HB.out hb2⟩
  · have hfl := fnd_lt cs key
    obtain ⟨j, hj⟩ := Int.eq_ofNat_of_zero_le (show 0 ≤ fnd cs key by omega)
    have HJ := Aside0.mk hj
    rw [hj] at hfl hf
    obtain ⟨go, cap, ev, hgo, hgl, cells, hgc⟩ := Kd.R_form HR.out (by omega)
    obtain ⟨rfl, rfl⟩ : A = some ⟨go, 0, none⟩ ∧ c = cap := by injection ev with e1 e2 e3; exact ⟨e1, e3⟩
    clear ev hj
    have hjl : j < cs.length := by omega
    obtain ⟨i0, hi0, hz0, hz1, hz2⟩ := info_parts Rf.info46
    have HI0 := Aside0.mk hi0
    have HZ1 := Aside0.mk hz1
    clear hi0 hz0 hz1 hz2
    have hwr : IntKind.i64.wrap ((j : Int) + 1) = (j : Int) + 1 := i64w (by omega) (by omega)
    have hp0 : (0 : Int) ≤ (j : Int) + 1 := by omega
    have hp1 : (j : Int) + 1 ≤ (cs.length : Int) := by omega
    have hp2 : ((j : Int) + 1).toNat = j + 1 := by omega
    have hjc : j ≤ c := by omega
    go_enter Try.func20, Try.ntmps20
    go_wp2_with fail
    refine (find_calls w g id lsn _ c cs key HAT.out HC.out (by omega)).mono ?_
    rintro e w2 ⟨rfl, hb2⟩
    have HB2 := Aside0.mk hb2
    clear hb2
    rw [HJ.out]
    have HAT2 := Aside0.mk (HAT.out.below HB2.out)
    have hg2' : w2.cell? ⟨g, 2, none⟩ = some (.slice (some ⟨go, 0, none⟩) cs.length c) := blk_cell HAT2.out 2
    have HR2 := Aside0.mk (Kd.R_drew (Kd.R_mono (Kd.R_below HR.out HB2.out) (fun k hk => (⟨.inl hk.1, hk.2⟩ : (ok k ∨ w.heap.size ≤ k) ∧ k ≠ g))))
    obtain ⟨hrow, hgr, hnews, hspare⟩ := row_del HR2.out j hjl
    have HROW := Aside0.mk hrow
    have HGR := Aside0.mk hgr
    have HSP := Aside0.mk hspare
    obtain ⟨A2, hA2, hcells⟩ : ∃ A2 : Addr, (if c = j + 1 then some (⟨go, 0, none⟩ : Addr) else some ⟨go, (j + 1) * 3, none⟩) = some A2 ∧ ∀ q u, (flat (cs.drop (j + 1)))[q]? = some u → w2.drew.cell? (A2.add q) = some u := by
      by_cases hcj : c = j + 1
      · exact ⟨_, by rw [if_pos hcj], fun q u hu => by rw [List.drop_eq_nil_of_le (by omega)] at hu; simp [flat] at hu⟩
      · exact ⟨_, by rw [if_neg hcj], fun q u hu => by
          have := hnews q u hu
          unfold Addr.add
          split
          · rename_i hq; subst hq; simpa using this
          · exact this⟩
    have HCE := Aside0.mk hcells
    have HONE := Aside0.mk (flat_one (cs.drop (j + 1)))
    have HLEN := Aside0.mk (show (flat (cs.drop (j + 1))).length = (cs.length - (j + 1)) * 3 by rw [flat_length, List.length_drop])
    obtain ⟨w5, hw5⟩ : ∃ w5, w2.drew.setCells go (j * 3) (flat (cs.drop (j + 1))) = w5 := ⟨_, rfl⟩
    rw [hw5] at hrow hgr
    clear HROW HGR
    have HROW := Aside0.mk hrow
    have HGR := Aside0.mk hgr
    have HW5 := Aside0.mk hw5
    have HAT5 := Aside0.mk (blk_grown (blk_drew HAT2.out) hgr (Kd.R_ne HR2.out (blk_drew HAT2.out) (by decide)))
    have hg5 : w5.cell? ⟨g, 2, none⟩ = some (.slice (some ⟨go, 0, none⟩) cs.length c) := blk_cell HAT5.out 2
    have hf5 := blk_frozen HAT5.out 2
    clear hrow hgr hw5 hnews hspare hcells
    have hroom : j + (cs.length - (j + 1)) ≤ c := by omega
    go_wp2_with fail
    go_region_law (refine step_append_room rfl (.tmp 20) (.tmp 27) 31 rfl 46 i0 3 Try.underlying31 HI0.out HZ1.out go 0 j c (by simp [Act.eval, Act.put]) A2 (cs.length - (j + 1)) (c - (j + 1)) (flat (cs.drop (j + 1))) (by simp [Act.eval, Act.put, hA2]) HLEN.out HCE.out HONE.out hroom (by rw [Nat.zero_add]; exact HSP.out) ?_; rw [Nat.zero_add, HW5.out])
    all_goals
      have hm : j + (cs.length - (j + 1)) = (delAt cs j).length := by simp [delAt]; omega
      have hm2 : cs.length - 1 = (delAt cs j).length := by simp [delAt]; omega
      rw [hm]
      obtain ⟨w6, hw6⟩ : ∃ w6, w5.setCell ⟨g, 2, none⟩ (.slice (some ⟨go, 0, none⟩) (delAt cs j).length c) = w6 := ⟨_, rfl⟩
      rw [hw6]
      have hB5 : Below w0.heap.size w0 w5 := (below_drew (below_then HB.out HB.out.size HB2.out)).grown HGR.out (below_then HB.out HB.out.size HB2.out).size (fun k hk => by injection hk with hk; omega)
      have HAT6 : Aside0 (PgAt w6 g id lsn (.slice (some ⟨go, 0, none⟩) (delAt cs j).length c)) := ⟨by rw [← hw6]; exact blk_set HAT5.out 2 _⟩
      have HR6 : Aside0 (Kd.R kGCell 46 w6 w0.heap.size (fun k => (ok k ∨ w.heap.size ≤ k) ∧ k ≠ g) (.slice (some ⟨go, 0, none⟩) (delAt cs j).length c) (delAt cs j)) := ⟨by rw [← hw6, ← hm2]; exact Kd.R_far (p := ⟨g, 2, none⟩) HROW.out (fun _ hk => hk.2) _⟩
      have HB6 : Aside0 (Below w0.heap.size w0 w6) := ⟨by rw [← hw6]; exact hB5.setCell hlow _⟩
      have HK6 : Aside0 (Kept w w6 ok) := ⟨by rw [← hw6]; exact (Kept.of_grown HGR.out (Kept.of_below HB2.out ok).drew (fun k hk => .inl (HR.out.1 k hk).1)).setCell (.inl hmine) _⟩
      have HD := Aside0.mk (show del cs key = (trim (delAt cs j), 0) by unfold del; rw [HJ.out, if_neg (by omega), Int.toNat_natCast])
      have hdl : (delAt cs j).length ≤ 1000 := by omega
      have hg6 : w6.cell? ⟨g, 2, none⟩ = some (.slice (some ⟨go, 0, none⟩) (delAt cs j).length c) := blk_cell HAT6.out 2
      clear HW5 HAT5 hg5 hf5 HROW HGR hw6 hm hm2 hB5 HCE HONE HLEN HSP hA2 hroom
      go_wp2
      go_loopg [6] (delAt cs j).length (fun gk v6 wr => ∃ cs' : List SGCell, v6 = .int .i64 cs'.length ∧ cs'.length ≤ 1000 ∧ Aside0 (cs'.length = gk) ∧ Aside0 (trim (delAt cs j) = trimN gk cs') ∧ Aside0 (PgAt wr g id lsn (.slice (some ⟨go, 0, none⟩) cs'.length c)) ∧ Aside0 (Kd.R kGCell 46 wr w0.heap.size (fun k => (ok k ∨ w.heap.size ≤ k) ∧ k ≠ g) (.slice (some ⟨go, 0, none⟩) cs'.length c) cs') ∧ Aside0 (Below w0.heap.size w0 wr) ∧ Aside0 (Kept w wr ok))
      case atStart => exact ⟨_, rfl, hdl, ⟨rfl⟩, ⟨rfl⟩, HAT6, HR6, HB6, HK6⟩
      case round =>
        clear HAT6 HR6 HB6 HK6 hg6
        obtain ⟨cs', rfl, hl', Hn, HT, HATr, HRr, HBr, HKr⟩ := hrel
        have hgr : wr.cell? ⟨g, 2, none⟩ = some (.slice (some ⟨go, 0, none⟩) cs'.length c) := blk_cell HATr.out 2
        have hfr := blk_frozen HATr.out 2
        by_cases hz : cs'.length = 0
        · have HF := Aside0.mk (show del cs key = (cs', 0) by rw [HD.out, HT.out, trimN_zero _ _ hz])
          rw [hz]
          go_wp2
          go_ret
          rw [HF.out]
          exact ⟨rfl, ⟨hlow, .inl hmine, _, HATr.out, HRr.out⟩, HBr.out, HKr.out⟩
        · obtain ⟨m, hm⟩ : ∃ m, cs'.length = m + 1 := ⟨cs'.length - 1, by omega⟩
          have HM := Aside0.mk hm
          have hmc : m < c := by have := (Kd.R_reads' HRr.out).2.1; omega
          obtain ⟨ad, ea, hq0, hq1, hq2⟩ := cell_at (Kd.R_reads' HRr.out).2.2 m (by omega)
          cases ea
          simp only [add_plain] at hq0 hq1 hq2
          clear hq1 hq2
          rw [hm] at hgr hl'
          rw [hm]
          clear hz hm
          cases hu : (rd_TGCell cs' m).f0 with
          | true =>
            rw [hu] at hq0
            have HF := Aside0.mk (show del cs key = (cs', 0) by rw [HD.out, HT.out, trimN_used _ _ m HM.out hu])
            clear hu
            go_wp2
            go_ret
            rw [HF.out]
            exact ⟨rfl, ⟨hlow, .inl hmine, _, HATr.out, HRr.out⟩, HBr.out, HKr.out⟩
          | false =>
            rw [hu] at hq0
            have HU := Aside0.mk hu
            clear hu
            go_wp2
            go_roundg (gk - 1)
            case measure => have := Hn.out; have := HM.out; omega
            case rel =>
              have htl : (cs'.take m).length = m := by rw [List.length_take]; have := HM.out; omega
              refine ⟨cs'.take m, by rw [htl], by omega, ⟨by have := Hn.out; have := HM.out; omega⟩, ⟨?_⟩, ⟨?_⟩, ⟨?_⟩, ⟨HBr.out.setCell hlow _⟩, ⟨HKr.out.setCell (.inl hmine) _⟩⟩
              · rw [HT.out, show gk = (gk - 1) + 1 by have := Hn.out; have := HM.out; omega, trimN_free _ _ m HM.out HU.out, Nat.add_sub_cancel]
              · rw [htl]; exact blk_set HATr.out 2 _
              · rw [htl]; exact Kd.R_far (p := ⟨g, 2, none⟩) (Kd.R_take HRr.out (by have := HM.out; omega)) (fun _ hk => hk.2) _
end Go.Proofs.Ytidkdbohkbfhbaa
end
section
namespace Go.Proofs.Ytidkdbohkbfhbaa
open Go.RowKit Go.Proofs.YtidkdbohkbfhbaaW.PrintWords Go.Proofs.YtidkdbohkbfhbaaW.PrintLast Go.Proofs.YtidkdbohkbfhbaaW.PrintMore
open Rf
set_option linter.unusedVariables false
set_option linter.unusedSimpArgs false

theorem R_empty (w : World) (base e : Nat) (hb : base ≤ w.heap.size) (ok : Nat → Prop) (hok : ok w.heap.size) :
    Kd.R kGCell e (w.alloc (.cells #[] e)) base ok (.slice (some ⟨w.heap.size, 0, none⟩) 0 0) [] := by
  refine R_of_flat (fun k hk => ?_) ?_
  · have : w.heap.size = k := by simpa [Value.ownBlock] using hk
    rw [← this]; exact hok
  · exact World.ownsRow_lit (base := base) (e := e) (size := 3) w #[] 0 hb (by simp [maxLen]) rfl

theorem new_bad (id : Int) (w : World) (h : id < 0 ∨ 16 ≤ id) :
    Calls Try.prog 10 #[.int .i64 id] w fun e w' => e = .returned (.tuple #[.pointer none, .int .i64 1]) ∧ w = w' := by
  by_cases h0 : id < 0
  · go_enter Try.func10, Try.ntmps10
    go_wp2
    go_ret2
    exact ⟨rfl, rfl⟩
  · have h1 : 16 ≤ id := by omega
    go_enter Try.func10, Try.ntmps10
    go_wp2
    go_ret2
    exact ⟨rfl, rfl⟩
theorem new_raw (id : Int) (w : World) (h0 : 0 ≤ id) (h1 : id < 16) :
    Calls Try.prog 10 #[.int .i64 id] w fun e w' => e = .returned (.tuple #[.pointer (some ⟨w.heap.size, 0, none⟩), .int .i64 0]) ∧ w.alloc (.cells #[.int .i64 id, .int .u64 0, .slice none 0 0] 71) = w' := by
  go_enter Try.func10, Try.ntmps10
  go_wp2
  go_ret2
  exact ⟨rfl, rfl⟩
theorem new_ok (id : Int) (w : World) (h0 : 0 ≤ id) (h1 : id < 16) :
    Calls Try.prog 10 #[.int .i64 id] w fun e w' => e = .returned (.tuple #[.pointer (some ⟨w.heap.size, 0, none⟩), .int .i64 0]) ∧
      (∀ base, base ≤ w.heap.size → IsPg w' base (fun k => w.heap.size ≤ k) w.heap.size id 0 []) ∧ Below w.heap.size w w' := by
  refine (new_raw id w h0 h1).mono ?_
  rintro e w' ⟨rfl, rfl⟩
  exact ⟨rfl, fun base hb => ⟨hb, Nat.le_refl _, _, heap_alloc_new w _, Kd.R_nil _ _ _ _ _⟩, below_alloc (Below.refl _ _) _⟩

set_option maxHeartbeats 400000 in
theorem cells_calls (w : World) (g : Nat) (id lsn : Int) (A : Option Addr) (c : Nat) (cs : List SGCell)
    (hp : PgAt w g id lsn (.slice A cs.length c)) (hC : Kd.C kGCell w A cs.length cs) (hl : cs.length ≤ 1000) :
    Calls Try.prog 17 #[.pointer (some ⟨g, 0, none⟩)] w fun e w' => ∃ v, e = .returned v ∧ Kd.R kGCell 46 w' w.heap.size (fun k => w.heap.size ≤ k) v cs ∧ Below w.heap.size w w' := by
  have hg2 : ∀ o, (w.alloc o).cell? ⟨g, 2, none⟩ = some (.slice A cs.length c) := fun o => blk_cell (blk_alloc hp o) 2
  have HC := Aside0.mk hC
  clear hC hp
  go_enter Try.func17, Try.ntmps17
  go_wp2_with (at_builtin; refine Kd.R_append_rows kGCell (w0 := w) w.heap.size rfl (.tmp 5) (.tmp 9) 31 46 (.agg #[(.bool false), (.string ⟨#[]⟩), (.string ⟨#[]⟩)]) 40 rfl Try.underlying31 Rf.info46 rfl (by decide) (by omega) (.slice (some ⟨w.heap.size, 0, none⟩) 0 0) [] cs A cs.length c (fun k => w.heap.size ≤ k) (fun _ => False) rfl rfl (R_empty w _ _ (Nat.le_refl _) _ (Nat.le_refl _)) (Kd.C_below HC.out (below_alloc (Below.refl _ _) _)) (fun x cs h => by rw [kGCell_open h]; exact kGCell_mkM _ _ _ x) (fun _ hk => hk.elim) (fun k hk => by simp at hk; omega) (below_alloc (Below.refl _ _) _) (by simp) (by simp; omega) ?_; intro v1 w1 ho hb hg hat)
  go_ret
  exact ⟨_, rfl, ho, hb⟩

set_option maxHeartbeats 1000000 in
theorem clone_calls (w0 w : World) (g : Nat) (id lsn : Int) (A : Option Addr) (c : Nat) (cs : List SGCell) (hB : Below w0.heap.size w0 w)
    (hp : PgAt w g id lsn (.slice A cs.length c)) (hC : Kd.C kGCell w A cs.length cs) (hl : cs.length ≤ 1000) :
    Calls Try.prog 29 #[.pointer (some ⟨g, 0, none⟩)] w fun e w' => ∃ g', e = .returned (.pointer (some ⟨g', 0, none⟩)) ∧ IsPg w' w0.heap.size (fun k => w.heap.size ≤ k) g' id lsn cs ∧ Below w.heap.size w w' := by
  have HAT := Aside0.mk hp
  have HB := Aside0.mk hB
  have HC := Aside0.mk hC
  have hg0 : w.cell? ⟨g, 0, none⟩ = some (.int .i64 id) := blk_cell hp 0
  have hg1 : w.cell? ⟨g, 1, none⟩ = some (.int .u64 lsn) := blk_cell hp 1
  have hg2 : w.cell? ⟨g, 2, none⟩ = some (.slice A cs.length c) := blk_cell hp 2
  have ha0 : ∀ o, (w.alloc o).cell? ⟨g, 0, none⟩ = some (.int .i64 id) := fun o => blk_cell (blk_alloc hp o) 0
  have ha1 : ∀ o, (w.alloc o).cell? ⟨g, 1, none⟩ = some (.int .u64 lsn) := fun o => blk_cell (blk_alloc hp o) 1
  have ha2 : ∀ o, (w.alloc o).cell? ⟨g, 2, none⟩ = some (.slice A cs.length c) := fun o => blk_cell (blk_alloc hp o) 2
  have hsz := hB.size
  clear hC hp hB
  go_enter Try.func29, Try.ntmps29
  go_wp2_with fail
  go_region_held3 (fun w' => w'.cell? ⟨g, 0, none⟩ = some (.int .i64 id) ∧ w'.cell? ⟨g, 1, none⟩ = some (.int .u64 lsn) ∧ w'.cell? ⟨g, 2, none⟩ = some (.slice A cs.length c)) (go_keep) ((refine Kd.R_append_rows_step kGCell (w0 := w) w.heap.size (by rfl) (.tmp 13) (.tmp 17) 31 46 (.agg #[(.bool false), (.string ⟨#[]⟩), (.string ⟨#[]⟩)]) 40 (by rfl) Try.underlying31 Rf.info46 rfl (by decide) (by omega) (.slice (some ⟨w.heap.size, 0, none⟩) 0 0) [] cs A cs.length c (fun k => w.heap.size ≤ k) (fun _ => False) (by rfl) (by rfl) (Kd.R_drew (R_empty w _ _ (Nat.le_refl _) _ (Nat.le_refl _))) (Kd.C_below HC.out (below_drew (below_alloc (Below.refl _ _) _))) (fun x cs h => by rw [kGCell_open h]; exact kGCell_mkM _ _ _ x) (fun _ hk => hk.elim) (fun k hk => by simp at hk; omega) (below_drew (below_alloc (Below.refl _ _) _)) (by simp) (by simp; omega) ?_; intro v1 w1 ho hb hg hat; rw [List.nil_append] at ho; obtain ⟨A1, c1, hv1⟩ := Kd.R_slice ho; rw [hv1]; rw [hv1] at ho; have HAT1 := Aside0.mk (HAT.out.below hb); have q0 := blk_cell HAT1.out 0; have q1 := blk_cell HAT1.out 1; have q2 := blk_cell HAT1.out 2; have HO := Aside0.mk ho; have HBB := Aside0.mk hb; clear ho hb hg hat hv1))
  all_goals
    go_wp2
    go_ret
    refine ⟨_, rfl, ⟨by have := HBB.out.size; omega, HBB.out.size, _, heap_alloc_new w1 _, ?_⟩, below_alloc HBB.out _⟩
    exact Kd.R_lower (Kd.R_mono (Kd.R_alloc (Kd.R_bound HO.out) _) (fun k hk => ⟨hk.1, by have := hk.2.2.1; omega⟩)) hsz
end Go.Proofs.Ytidkdbohkbfhbaa
end
section
namespace Go.Proofs.Ytidkdbohkbfhbaa
namespace Crc

/-- One bit of the register. -/
def step1 (n : Nat) : Nat := if n % 2 = 1 then n / 2 ^^^ 2197175160 else n / 2
def stepN : Nat → Nat → Nat
  | 0, n => n
  | k + 1, n => stepN k (step1 n)
def byte (n x : Nat) : Nat := stepN 8 (n ^^^ x)
def more (n : Nat) (bs : List UInt8) : Nat := bs.foldl (fun m b => byte m b.toNat) n
/-- The sum of bytes. -/
def sum (bs : List UInt8) : Nat := 4294967295 - more 4294967295 bs

theorem step1_lt {n : Nat} (h : n < 4294967296) : step1 n < 4294967296 := by
  unfold step1
  split
  · exact Nat.xor_lt_two_pow (n := 32) (by omega) (by decide)
  · omega
theorem stepN_lt {n : Nat} (k : Nat) (h : n < 4294967296) : stepN k n < 4294967296 := by
  induction k generalizing n with
  | zero => exact h
  | succ k ih => exact ih (step1_lt h)
theorem byte_lt {n x : Nat} (h : n < 4294967296) (hx : x < 256) : byte n x < 4294967296 :=
  stepN_lt 8 (Nat.xor_lt_two_pow (n := 32) h (by omega))
theorem sum_lt (bs : List UInt8) : sum bs < 4294967296 := by unfold sum; omega

theorem xor_cancel_mid (a b p : Nat) : (a ^^^ p) ^^^ (b ^^^ p) = a ^^^ b := by
  rw [Nat.xor_comm b p, ← Nat.xor_assoc, Nat.xor_assoc a p p, Nat.xor_self, Nat.xor_zero]
theorem step1_xor (a b : Nat) : step1 (a ^^^ b) = step1 a ^^^ step1 b := by
  have hd : (a ^^^ b) / 2 = a / 2 ^^^ b / 2 := Nat.xor_div_two
  have hm := Nat.xor_mod_two_eq_one (a := a) (b := b)
  unfold step1
  by_cases ha : a % 2 = 1 <;> by_cases hb : b % 2 = 1
  · rw [if_neg (by rw [hm]; simp [ha, hb]), if_pos ha, if_pos hb, hd, xor_cancel_mid]
  · rw [if_pos (by rw [hm]; simp [ha, hb]), if_pos ha, if_neg hb, hd]
    rw [Nat.xor_assoc, Nat.xor_assoc, Nat.xor_comm (b / 2)]
  · rw [if_pos (by rw [hm]; simp [ha, hb]), if_neg ha, if_pos hb, hd, Nat.xor_assoc]
  · rw [if_neg (by rw [hm]; simp [ha, hb]), if_neg ha, if_neg hb, hd]
theorem stepN_xor (k a b : Nat) : stepN k (a ^^^ b) = stepN k a ^^^ stepN k b := by
  induction k generalizing a b with
  | zero => rfl
  | succ k ih => simp only [stepN]; rw [step1_xor, ih]
theorem step1_double (m : Nat) : step1 (2 * m) = m := by unfold step1; rw [if_neg (by omega)]; omega
theorem stepN_add (j k n : Nat) : stepN (j + k) n = stepN k (stepN j n) := by
  induction j generalizing n with
  | zero => simp [stepN]
  | succ j ih => rw [Nat.succ_add]; simp only [stepN]; exact ih _
theorem four_16 (m : Nat) : stepN 4 (16 * m) = m := by
  simp only [stepN]
  rw [show 16 * m = 2 * (8 * m) from by omega, step1_double, show 8 * m = 2 * (4 * m) from by omega, step1_double, show 4 * m = 2 * (2 * m) from by omega, step1_double, step1_double]
theorem split16 (n : Nat) : n = 16 * (n / 16) ^^^ n % 16 := by
  have h : 16 * (n / 16) ^^^ n % 16 = 16 * (n / 16) + n % 16 := by
    apply Nat.eq_of_testBit_eq
    intro i
    rw [Nat.testBit_xor, show 16 * (n / 16) + n % 16 = 2 ^ 4 * (n / 16) + n % 16 from rfl, Nat.testBit_two_pow_mul_add _ (by omega), show 16 * (n / 16) = 2 ^ 4 * (n / 16) from rfl, Nat.testBit_two_pow_mul, show n % 16 = n % 2 ^ 4 from rfl, Nat.testBit_mod_two_pow]
    by_cases hi : i < 4
    · simp [hi, Nat.not_le.2 hi]
    · simp [hi, Nat.not_lt.1 hi]
  rw [h]; omega
/-- The table's step. -/
theorem four_table (n : Nat) : stepN 4 n = n / 16 ^^^ stepN 4 (n % 16) := by
  conv => lhs; rw [split16 n, stepN_xor, four_16]
/-- A byte by the table, twice. -/
theorem byte_table (n x : Nat) : byte n x = (let m := n ^^^ x; let k := m / 16 ^^^ stepN 4 (m % 16); k / 16 ^^^ stepN 4 (k % 16)) := by
  show stepN (4 + 4) (n ^^^ x) = _
  rw [stepN_add]
  simp only
  rw [← four_table (n ^^^ x), ← four_table]

theorem not32 (s : Nat) (h : s < 4294967296) : 4294967295 ^^^ s = 4294967295 - s := by
  apply Nat.eq_of_testBit_eq
  intro i
  have h2 := Nat.testBit_two_pow_sub_succ (n := 32) (x := s) h i
  rw [show (2 : Nat) ^ 32 - (s + 1) = 4294967295 - s by omega] at h2
  rw [h2, Nat.testBit_xor, show (4294967295 : Nat) = 2 ^ 32 - 1 from rfl, Nat.testBit_two_pow_sub_one]
  by_cases hi : i < 32
  · simp [hi]
  · have : s.testBit i = false := Nat.testBit_lt_two_pow (Nat.lt_of_lt_of_le h (by rw [show (4294967296 : Nat) = 2 ^ 32 from rfl]; exact Nat.pow_le_pow_right (by decide) (by omega)))
    simp [hi, this]

/-! The document's way: bit by bit, the register and the byte apart. -/
def rstep (n x : Nat) : Nat := if n % 2 = x % 2 then n / 2 else n / 2 ^^^ 2197175160
def rN : Nat → Nat → Nat → Nat
  | 0, n, _ => n
  | k + 1, n, x => rN k (rstep n x) (x / 2)
theorem rstep_xor (n x : Nat) : rstep n x ^^^ x / 2 = step1 (n ^^^ x) := by
  have hd : (n ^^^ x) / 2 = n / 2 ^^^ x / 2 := Nat.xor_div_two
  have hm := Nat.xor_mod_two_eq_one (a := n) (b := x)
  unfold rstep step1
  by_cases h : n % 2 = x % 2
  · rw [if_pos h, if_neg (by rw [hm]; simp [h]), hd]
  · rw [if_neg h, if_pos (by rw [hm]; omega), hd, Nat.xor_assoc, Nat.xor_assoc, Nat.xor_comm (x / 2)]
theorem rN_xor (k n x : Nat) : rN k n x ^^^ x / 2 ^ k = stepN k (n ^^^ x) := by
  induction k generalizing n x with
  | zero => simp [rN, stepN]
  | succ k ih =>
    simp only [rN, stepN]
    rw [← rstep_xor, ← ih, Nat.div_div_eq_div_mul, Nat.pow_succ, Nat.mul_comm 2]
theorem rN_8 (n x : Nat) (hx : x < 256) : rN 8 n x = byte n x := by
  have h := rN_xor 8 n x
  rw [Nat.div_eq_of_lt (by omega), Nat.xor_zero] at h
  exact h

/-! One byte changed: the sum is another. -/
theorem more_append (n : Nat) (a b : List UInt8) : more n (a ++ b) = more (more n a) b := by simp [more, List.foldl_append]
set_option maxRecDepth 100000 in
/-- The sum of 508 noughts is none. -/
theorem sum_noughts : sum (List.replicate 508 0) ≠ 0 := by decide +kernel
end Crc
end Go.Proofs.Ytidkdbohkbfhbaa
end
section
namespace Go.Proofs.Ytidkdbohkbfhbaa
open Go.RowKit Go.Proofs.YtidkdbohkbfhbaaW.PrintWords Go.Proofs.YtidkdbohkbfhbaaW.PrintLast Go.Proofs.YtidkdbohkbfhbaaW.PrintMore
open Rf
set_option linter.unusedVariables false
set_option linter.unusedSimpArgs false

/-- The table of the sixteen, filled up to i. -/
def tabN (i : Nat) : List Nat := (List.range 16).map fun k => if k < i then Crc.stepN 4 k else 0
def tabV (i : Nat) : Array Value := ((tabN i).map fun (n : Nat) => Value.int .u32 (n : Int)).toArray
theorem tabV_size (i : Nat) : (tabV i).size = 16 := by simp [tabV, tabN]
theorem tabN_get (i k : Nat) (hk : k < 16) : (tabN i)[k]? = some (if k < i then Crc.stepN 4 k else 0) := by
  simp [tabN, hk]
theorem tabV_get (i k : Nat) (hk : k < 16) : (tabV i)[k]? = some (.int .u32 ((if k < i then Crc.stepN 4 k else 0 : Nat) : Int)) := by
  simp only [tabV, List.getElem?_toArray, List.getElem?_map, tabN_get i k hk, Option.map_some]
theorem tabV_set (i : Nat) (hi : i < 16) : (tabV i).setIfInBounds i (.int .u32 (Crc.stepN 4 i : Int)) = tabV (i + 1) := by
  apply Array.ext_getElem?
  intro k
  rw [Array.getElem?_setIfInBounds]
  by_cases hk : k < 16
  · rw [tabV_get (i + 1) k hk]
    by_cases h : i = k
    · subst h; rw [if_pos rfl, if_pos (by rw [tabV_size]; omega), if_pos (by omega)]
    · rw [if_neg h, tabV_get i k hk]
      by_cases h2 : k < i
      · rw [if_pos h2, if_pos (by omega)]
      · rw [if_neg h2, if_neg (by omega)]
  · rw [if_neg (by omega), Array.getElem?_eq_none (by rw [tabV_size]; omega), Array.getElem?_eq_none (by rw [tabV_size]; omega)]
theorem tab0 : tabV 0 = #[.int .u32 0, .int .u32 0, .int .u32 0, .int .u32 0, .int .u32 0, .int .u32 0, .int .u32 0, .int .u32 0, .int .u32 0, .int .u32 0, .int .u32 0, .int .u32 0, .int .u32 0, .int .u32 0, .int .u32 0, .int .u32 0] := rfl
theorem stepN_last (k n : Nat) : Crc.stepN (k + 1) n = Crc.step1 (Crc.stepN k n) := by rw [Crc.stepN_add k 1]; rfl

set_option maxHeartbeats 1000000 in
theorem steps_calls (w : World) :
    Calls Try.prog 65 #[] w fun e w' => e = .returned (.agg (tabV 16)) ∧ Below w.heap.size w w' := by
  go_enter Try.func65, Try.ntmps65
  go_wp2
  go_loopg [2, 3, 4, 9] 16 (fun gk v2 v3 v4 v9 wr => ∃ i : Nat, Aside0 (i + gk = 16) ∧ i ≤ 16 ∧ v4 = .int .i64 i ∧ Aside0 (wr.heap[w.heap.size]? = some (.cells (tabV 0) 109 (0, 0))) ∧ Aside0 (wr.heap[w.heap.size + 1]? = some (.cells (tabV i) 109 (0, 0))) ∧ Aside0 (Below w.heap.size w wr))
  case atStart =>
    refine ⟨0, ⟨rfl⟩, by omega, rfl, ⟨?_⟩, ⟨?_⟩, ⟨below_alloc (below_alloc (Below.refl _ _) _) _⟩⟩
    · rw [tab0]; exact blk_alloc (heap_alloc_new w _) _
    · rw [tab0, show w.heap.size + 1 = (w.alloc (.cells #[.int .u32 0, .int .u32 0, .int .u32 0, .int .u32 0, .int .u32 0, .int .u32 0, .int .u32 0, .int .u32 0, .int .u32 0, .int .u32 0, .int .u32 0, .int .u32 0, .int .u32 0, .int .u32 0, .int .u32 0, .int .u32 0] 109)).heap.size by simp]; exact heap_alloc_new _ _
  case round =>
    obtain ⟨i, Hi, hi, rfl, H0, H1, HB⟩ := hrel
    by_cases hlt : i < 16
    · have hc1 : wr.cell? ⟨w.heap.size + 1, i, none⟩ = some (.int .u32 ((if i < i then Crc.stepN 4 i else 0 : Nat) : Int)) := (blk_cell H1.out i).trans (tabV_get i i hlt)
      have hf1 := blk_frozen H1.out i
      go_wp2
      go_loopg [3, 9] 4 (fun gj v3 v9 wj => ∃ j n : Nat, Aside0 (j + gj = 4) ∧ j ≤ 4 ∧ v9 = .int .i64 j ∧ v3 = .int .u32 n ∧ n < 4294967296 ∧ Aside0 (n = Crc.stepN j i) ∧ Aside0 (wr = wj))
      case atStart => exact ⟨0, i, ⟨rfl⟩, by omega, rfl, by first | rfl | (congr 1; omega), by omega, ⟨rfl⟩, ⟨rfl⟩⟩
      case round =>
        obtain ⟨j, n, Hj, hj, rfl, rfl, hn, HN, Hw⟩ := hrel
        obtain rfl := Hw.out
        clear Hw
        by_cases hj4 : j < 4
        · have hand : bits .and .u32 (n : Int) 1 = ((n % 2 : Nat) : Int) := by
            rw [show (1 : Int) = ((1 : Nat) : Int) from rfl, u32_and_nat n 1 hn (by decide), Nat.and_one_is_mod]
          have hxor : bits .xor .u32 ((n : Int) / 2) 2197175160 = ((n / 2 ^^^ 2197175160 : Nat) : Int) := by
            rw [show (n : Int) / 2 = ((n / 2 : Nat) : Int) by omega, show (2197175160 : Int) = ((2197175160 : Nat) : Int) from rfl, u32_xor_nat _ _ (by omega) (by decide)]
          have hs := Crc.step1_lt hn
          have HL := Aside0.mk (show Crc.step1 n = Crc.stepN (j + 1) i by rw [stepN_last, ← HN.out])
          by_cases hodd : n % 2 = 1
          · have HS := Aside0.mk (show Crc.step1 n = n / 2 ^^^ 2197175160 by unfold Crc.step1; rw [if_pos hodd])
            go_wp2
            go_roundg (4 - j - 1)
            case measure => have := Hj.out; omega
            case rel => exact ⟨j + 1, Crc.step1 n, ⟨by omega⟩, by omega, by go_num, by rw [HS.out], hs, HL, ⟨rfl⟩⟩
          · have hev : n % 2 = 0 := by omega
            have HS := Aside0.mk (show Crc.step1 n = n / 2 by unfold Crc.step1; rw [if_neg hodd])
            clear hodd
            go_wp2
            go_roundg (4 - j - 1)
            case measure => have := Hj.out; omega
            case rel => exact ⟨j + 1, Crc.step1 n, ⟨by omega⟩, by omega, by go_num, by rw [HS.out]; go_num, hs, HL, ⟨rfl⟩⟩
        · have HN4 := Aside0.mk (show n = Crc.stepN 4 i by rw [HN.out]; congr 1; omega)
          go_wp2
          go_roundg (16 - i - 1)
          case measure => have := Hi.out; omega
          case rel =>
            refine ⟨i + 1, ⟨by omega⟩, by omega, by go_num, ⟨blk_far H0.out (by simp) _⟩, ⟨?_⟩, ⟨HB.out.setCell (by simp) _⟩⟩
            have h := blk_set H1.out i (.int .u32 (n : Int))
            rw [HN4.out, tabV_set i hlt] at h
            rw [HN4.out]
            exact h
    · obtain rfl : i = 16 := by omega
      have hinf : ∀ k, (Try.prog.info? 109).map (·.size) = some (tabV k).size := fun k => by rw [tabV_size]; kernel_rfl
      have hall : (tabV 16).all (·.oneCell') = true := by simp [tabV, Value.oneCell']
      have HA := Aside0.mk hall
      have HI := Aside0.mk hinf
      clear hall hinf hlt
      go_wp2_with (first | ((with_reducible refine gate_ (.load 109 (.tmp 1)) rfl ?_); refine wpList_load_row rfl 109 (.tmp 1) rfl (w.heap.size + 1) rfl 109 (tabV 16) (0, 0) _ H1.out Try.underlying109 rfl (HI.out 16) ?_) | ((with_reducible refine gate_ (.store 109 (.tmp 0) (.tmp 24)) rfl ?_); refine wpList_store_row rfl 109 (.tmp 0) (.tmp 24) rfl w.heap.size (tabV 16) rfl rfl 109 (tabV 0) H0.out (HI.out 16) (by rw [tabV_size, tabV_size]) HA.out ?_))
      refine bodyPost_ret (v := .agg (tabV 16)) (results_cell_row rfl _ _ w.heap.size 109 (tabV 16) (0, 0) _ rfl (setRow_heap wr w.heap.size (tabV 0) (tabV 16) 109 (0, 0) H0.out) Try.underlying109 rfl (HI.out 16)) rfl ⟨rfl, ?_⟩
      exact HB.out.trans ⟨rfl, rfl, rfl, by simp [World.setRow], fun k hk => setRow_other wr w.heap.size k _ (by omega)⟩

/-- Bytes as the numbers in a row. -/
def ints (bs : List UInt8) : List Int := bs.map fun b => (b.toNat : Int)
theorem ints_length (bs : List UInt8) : (ints bs).length = bs.length := by simp [ints]
theorem ints_get (bs : List UInt8) (i : Nat) (h : i < bs.length) : (ints bs).getD i 0 = ((bs[i].toNat : Nat) : Int) := by
  simp [ints, List.getD_eq_getElem?_getD, h]
theorem crc_take (n : Nat) (bs : List UInt8) (i : Nat) (h : i < bs.length) : Crc.more n (bs.take (i + 1)) = Crc.byte (Crc.more n (bs.take i)) (bs[i].toNat) := by
  rw [List.take_succ_eq_append_getElem h, Crc.more_append]; rfl

set_option maxHeartbeats 1000000 in
theorem more_calls (w : World) (sum : Nat) (hsum : sum < 4294967296) (A : Option Addr) (n c : Nat) (bs : List UInt8) (hR : ReadsInt w .u8 A n (ints bs)) (hn : n ≤ 1000000) :
    Calls Try.prog 56 #[.int .u32 sum, .slice A n c] w fun e w' => e = .returned (.int .u32 ((4294967295 - Crc.more (4294967295 - sum) bs : Nat) : Int)) ∧ Below w.heap.size w w' := by
  have hl : bs.length = n := by have := hR.1; rw [ints_length] at this; exact this
  have HR := Aside0.mk hR
  have HL := Aside0.mk hl
  clear hR hl
  have hnot : bits .xor .u32 IntKind.u32.max (sum : Int) = ((4294967295 - sum : Nat) : Int) := by
    rw [show IntKind.u32.max = (4294967295 : Int) from rfl, show (4294967295 : Int) = ((4294967295 : Nat) : Int) from rfl, u32_xor_nat _ _ (by decide) hsum, Crc.not32 sum hsum]
  have HNOT := Aside0.mk hnot
  clear hnot
  have hinf : ∀ k, (Try.prog.info? 109).map (·.size) = some (tabV k).size := fun k => by rw [tabV_size]; kernel_rfl
  have hall : (tabV 16).all (·.oneCell') = true := by simp [tabV, Value.oneCell']
  have HA := Aside0.mk hall
  have HI := Aside0.mk hinf
  clear hall hinf
  go_enter Try.func56, Try.ntmps56
  go_wp2_with fail
  refine (steps_calls _).mono ?_
  rintro e w1 ⟨rfl, hb1⟩
  have HB1 := Aside0.mk hb1
  clear hb1
  go_wp2_with (((with_reducible refine gate_ (.store 109 (.tmp 5) (.tmp 9)) rfl ?_); refine wpList_store_row rfl 109 (.tmp 5) (.tmp 9) rfl w1.heap.size (tabV 16) rfl rfl 109 #[.int .u32 0, .int .u32 0, .int .u32 0, .int .u32 0, .int .u32 0, .int .u32 0, .int .u32 0, .int .u32 0, .int .u32 0, .int .u32 0, .int .u32 0, .int .u32 0, .int .u32 0, .int .u32 0, .int .u32 0, .int .u32 0] (heap_alloc_new w1 _) (HI.out 16) (by rw [tabV_size]; rfl) HA.out ?_; have HX := Aside0.mk (setRow_heap (w1.alloc (.cells #[.int .u32 0, .int .u32 0, .int .u32 0, .int .u32 0, .int .u32 0, .int .u32 0, .int .u32 0, .int .u32 0, .int .u32 0, .int .u32 0, .int .u32 0, .int .u32 0, .int .u32 0, .int .u32 0, .int .u32 0, .int .u32 0] 109)) w1.heap.size #[.int .u32 0, .int .u32 0, .int .u32 0, .int .u32 0, .int .u32 0, .int .u32 0, .int .u32 0, .int .u32 0, .int .u32 0, .int .u32 0, .int .u32 0, .int .u32 0, .int .u32 0, .int .u32 0, .int .u32 0, .int .u32 0] (tabV 16) 109 (0, 0) (heap_alloc_new w1 _)); have HBX := Aside0.mk (bel_trans HB1.out (below_setRow (below_alloc (Below.refl _ w1) (.cells #[.int .u32 0, .int .u32 0, .int .u32 0, .int .u32 0, .int .u32 0, .int .u32 0, .int .u32 0, .int .u32 0, .int .u32 0, .int .u32 0, .int .u32 0, .int .u32 0, .int .u32 0, .int .u32 0, .int .u32 0, .int .u32 0] 109)) (Nat.le_refl _) (tabV 16)))))
  obtain ⟨w2, hw2⟩ : ∃ w2, (w1.alloc (.cells #[.int .u32 0, .int .u32 0, .int .u32 0, .int .u32 0, .int .u32 0, .int .u32 0, .int .u32 0, .int .u32 0, .int .u32 0, .int .u32 0, .int .u32 0, .int .u32 0, .int .u32 0, .int .u32 0, .int .u32 0, .int .u32 0] 109)).setRow w1.heap.size (tabV 16) = w2 := ⟨_, rfl⟩
  rw [hw2] at HX HBX ⊢
  clear hw2
  rw [HNOT.out]
  have hfx : ∀ k, w2.frozen? ⟨w1.heap.size, k, none⟩ = false := fun k => blk_frozen HX.out k
  go_loopg [6, 14] n (fun gk v6 v14 wr => ∃ i m : Nat, Aside0 (i + gk = n) ∧ i ≤ n ∧ v14 = .int .i64 i ∧ v6 = .int .u32 m ∧ m < 4294967296 ∧ Aside0 (m = Crc.more (4294967295 - sum) (bs.take i)) ∧ Aside0 (w2 = wr))
  case atStart => exact ⟨0, 4294967295 - sum, ⟨by omega⟩, by omega, rfl, rfl, by omega, ⟨by simp [Crc.more]⟩, ⟨rfl⟩⟩
  case round =>
    obtain ⟨i, m, Hi, hi, rfl, rfl, hm, HM, Hw⟩ := hrel
    obtain rfl := Hw.out
    clear Hw
    by_cases hlt : i < n
    · obtain ⟨ad, ea, hcx⟩ := HR.out.2.2 (by omega)
      cases ea
      have hib : i < bs.length := by have := HL.out; omega
      have hc := hcx i hlt
      rw [ints_get bs i hib] at hc
      clear hcx
      have hbx : w.heap.size ≤ w1.heap.size := HB1.out.size
      have hc2 : w2.cell? (ad.add i) = some (.int .u8 ((bs[i].toNat : Nat) : Int)) := pw_cell_below HBX.out hc
      generalize hx : bs[i].toNat = x at hc hc2
      have hx256 : x < 256 := by rw [← hx]; exact bs[i].toNat_lt
      have HXX := Aside0.mk hx
      clear hx hc
      have e1 : bits .xor .u32 (m : Int) (x : Int) = ((m ^^^ x : Nat) : Int) := u32_xor_nat m x hm (by omega)
      generalize hy : m ^^^ x = y at e1
      have hy32 : y < 4294967296 := by rw [← hy]; exact Nat.xor_lt_two_pow (n := 32) hm (by omega)
      have e2 : bits .and .u32 (y : Int) 15 = ((y % 16 : Nat) : Int) := by
        rw [show (15 : Int) = ((15 : Nat) : Int) from rfl, u32_and_nat y 15 hy32 (by decide), show (15 : Nat) = 2 ^ 4 - 1 from rfl, Nat.and_two_pow_sub_one_eq_mod]
      have hc3 : w2.cell? ⟨w1.heap.size, y % 16, none⟩ = some (.int .u32 ((Crc.stepN 4 (y % 16) : Nat) : Int)) := by
        rw [blk_cell HX.out, tabV_get 16 (y % 16) (by omega), if_pos (by omega)]
      generalize hs1 : Crc.stepN 4 (y % 16) = s1 at hc3
      have hs1b : s1 < 4294967296 := by rw [← hs1]; exact Crc.stepN_lt 4 (by omega)
      have e3 : bits .xor .u32 ((y : Int) / 16) (s1 : Int) = ((y / 16 ^^^ s1 : Nat) : Int) := by
        rw [show (y : Int) / 16 = ((y / 16 : Nat) : Int) by omega]; exact u32_xor_nat _ _ (by omega) hs1b
      generalize hz : y / 16 ^^^ s1 = z at e3
      have hz32 : z < 4294967296 := by rw [← hz]; exact Nat.xor_lt_two_pow (n := 32) (by omega) hs1b
      have e4 : bits .and .u32 (z : Int) 15 = ((z % 16 : Nat) : Int) := by
        rw [show (15 : Int) = ((15 : Nat) : Int) from rfl, u32_and_nat z 15 hz32 (by decide), show (15 : Nat) = 2 ^ 4 - 1 from rfl, Nat.and_two_pow_sub_one_eq_mod]
      have hc4 : w2.cell? ⟨w1.heap.size, z % 16, none⟩ = some (.int .u32 ((Crc.stepN 4 (z % 16) : Nat) : Int)) := by
        rw [blk_cell HX.out, tabV_get 16 (z % 16) (by omega), if_pos (by omega)]
      generalize hs2 : Crc.stepN 4 (z % 16) = s2 at hc4
      have hs2b : s2 < 4294967296 := by rw [← hs2]; exact Crc.stepN_lt 4 (by omega)
      have e5 : bits .xor .u32 ((z : Int) / 16) (s2 : Int) = ((z / 16 ^^^ s2 : Nat) : Int) := by
        rw [show (z : Int) / 16 = ((z / 16 : Nat) : Int) by omega]; exact u32_xor_nat _ _ (by omega) hs2b
      have HB := Aside0.mk (show Crc.byte m x = z / 16 ^^^ s2 by rw [Crc.byte_table]; simp only; rw [hy, hs1, hz, hs2])
      clear hy hs1 hz hs2
      have hw32 : z / 16 ^^^ s2 < 4294967296 := Nat.xor_lt_two_pow (n := 32) (by omega) hs2b
      go_wp2
      go_roundg (n - i - 1)
      case measure => have := Hi.out; omega
      case rel => exact ⟨i + 1, z / 16 ^^^ s2, ⟨by have := Hi.out; omega⟩, by omega, by go_num, rfl, hw32, ⟨by rw [crc_take _ bs i hib, ← HM.out, HXX.out, HB.out]⟩, ⟨rfl⟩⟩
    · have HM2 := Aside0.mk (show m = Crc.more (4294967295 - sum) bs by rw [HM.out, List.take_of_length_le (by have := HL.out; omega)])
      have e6 : bits .xor .u32 IntKind.u32.max (m : Int) = ((4294967295 - m : Nat) : Int) := by
        rw [show IntKind.u32.max = (4294967295 : Int) from rfl, show (4294967295 : Int) = ((4294967295 : Nat) : Int) from rfl, u32_xor_nat _ _ (by decide) hm, Crc.not32 m hm]
      go_wp2
      go_ret
      exact ⟨by rw [← HM2.out]; rfl, HBX.out⟩

theorem sum_calls (w : World) (A : Option Addr) (n c : Nat) (bs : List UInt8) (hR : ReadsInt w .u8 A n (ints bs)) (hn : n ≤ 1000000) :
    Calls Try.prog 38 #[.slice A n c] w fun e w' => e = .returned (.int .u32 (Crc.sum bs : Int)) ∧ Below w.heap.size w w' := by
  have HR := Aside0.mk hR
  clear hR
  go_enter Try.func38, Try.ntmps38
  go_wp2_with fail
  refine (more_calls w 0 (by decide) A n c bs HR.out hn).mono ?_
  rintro e w1 ⟨rfl, hb⟩
  go_wp2
  go_ret
  exact ⟨rfl, hb⟩
end Go.Proofs.Ytidkdbohkbfhbaa
end
section
namespace Go.Proofs.Ytidkdbohkbfhbaa
open Go.RowKit Go.Proofs.YtidkdbohkbfhbaaW.PrintWords Go.Proofs.YtidkdbohkbfhbaaW.PrintLast Go.Proofs.YtidkdbohkbfhbaaW.PrintMore
open Rf
set_option linter.unusedVariables false
set_option linter.unusedSimpArgs false

/-- A number's lowest bytes, the lowest first. -/
def le (x : Nat) (m : Nat) : List UInt8 := (List.range m).map fun i => UInt8.ofNat (x / 2 ^ (8 * i))
theorem le_length (x m : Nat) : (le x m).length = m := by simp [le]
theorem le_succ (x m : Nat) : le x (m + 1) = le x m ++ [UInt8.ofNat (x / 2 ^ (8 * m))] := by simp [le, List.range_succ]
/-- L with cs from off on. -/
def put (L : List UInt8) (off : Nat) (cs : List UInt8) : List UInt8 := L.take off ++ (cs ++ L.drop (off + cs.length))
theorem put_length (L : List UInt8) (off : Nat) (cs : List UInt8) (h : off + cs.length ≤ L.length) : (put L off cs).length = L.length := by
  simp [put]; omega
theorem put_nil (L : List UInt8) (off : Nat) : put L off [] = L := by simp [put]
theorem put_snoc (L : List UInt8) (off : Nat) (cs : List UInt8) (x : UInt8) (h : off + cs.length < L.length) : (put L off cs).set (off + cs.length) x = put L off (cs ++ [x]) := by
  unfold put
  have h1 : (L.take off).length = off := by rw [List.length_take]; omega
  rw [List.set_append_right _ _ (by omega), h1, Nat.add_sub_cancel_left, List.set_append_right _ _ (Nat.le_refl _), Nat.sub_self, List.drop_eq_getElem_cons h, List.set_cons_zero]
  simp [Nat.add_assoc]
theorem le_val (x i : Nat) : (x : Int) / 2 ^ (8 * i) % 256 = (((UInt8.ofNat (x / 2 ^ (8 * i))).toNat : Nat) : Int) := by
  have h : (UInt8.ofNat (x / 2 ^ (8 * i))).toNat = x / 2 ^ (8 * i) % 256 := rfl
  rw [h, Int.natCast_emod, Int.natCast_ediv, Int.natCast_pow]
  rfl


theorem put_one (L : List UInt8) (off : Nat) (x : UInt8) (h : off < L.length) : L.set off x = put L off [x] := by
  have := put_snoc L off [] x (by simpa using h)
  rw [put_nil] at this
  simpa using this
theorem put_put (L : List UInt8) (off : Nat) (cs ds : List UInt8) (h : off + cs.length + ds.length ≤ L.length) : put (put L off cs) (off + cs.length) ds = put L off (cs ++ ds) := by
  unfold put
  have h1 : (L.take off).length = off := by rw [List.length_take]; omega
  rw [← List.append_assoc (L.take off) cs, List.take_left' (by rw [List.length_append, h1])]
  rw [List.append_assoc (L.take off) cs, List.drop_append, List.drop_append, h1]
  rw [List.drop_eq_nil_of_le (by rw [h1]; omega), List.drop_eq_nil_of_le (by omega), List.nil_append, List.nil_append, List.drop_drop]
  simp only [List.append_assoc, List.length_append, h1]
  congr 4
  omega
theorem put_front (A B : List UInt8) (z : Nat) (cs : List UInt8) (h : cs.length ≤ z) : put (A ++ List.replicate z 0 ++ B) A.length cs = (A ++ cs) ++ List.replicate (z - cs.length) 0 ++ B := by
  unfold put
  rw [List.append_assoc A, List.take_left, List.drop_append, List.drop_eq_nil_of_le (by omega), List.nil_append, Nat.add_sub_cancel_left, List.drop_append, List.drop_replicate, List.length_replicate]
  rw [show cs.length - z = 0 by omega, List.drop_zero]
  simp only [List.append_assoc]
theorem put_back (A B : List UInt8) (z : Nat) (cs : List UInt8) (h : cs.length ≤ z) : put (A ++ List.replicate z 0 ++ B) (A.length + z - cs.length) cs = A ++ List.replicate (z - cs.length) 0 ++ (cs ++ B) := by
  unfold put
  have e : A ++ List.replicate z 0 ++ B = (A ++ List.replicate (z - cs.length) 0) ++ (List.replicate cs.length 0 ++ B) := by
    simp only [List.append_assoc]
    rw [← List.append_assoc (List.replicate (z - cs.length) (0 : UInt8)), List.replicate_append_replicate, Nat.sub_add_cancel h]
  have hl : (A ++ List.replicate (z - cs.length) 0).length = A.length + z - cs.length := by rw [List.length_append, List.length_replicate]; omega
  rw [e, List.take_left' hl, List.drop_append, List.drop_eq_nil_of_le (by omega), List.nil_append, hl, Nat.add_sub_cancel_left, List.drop_left' (by rw [List.length_replicate])]

/-- A cell's bytes. -/
def cellB (c : SGCell) : List UInt8 := if c.f0 = true then UInt8.ofNat c.f1.size :: (c.f1.data.toList ++ c.f2.data.toList) else []
theorem cellB_length (c : SGCell) : (cellB c).length = csz c := by
  unfold cellB csz
  split
  · rw [List.length_cons, List.length_append, data_length, data_length]; omega
  · rfl
def slotB (c : SGCell) (e : Nat) : List UInt8 := if c.f0 = true then le e 2 ++ le (csz c) 2 else [0, 0, 0, 0]
theorem slotB_length (c : SGCell) (e : Nat) : (slotB c e).length = 4 := by
  unfold slotB; split
  · rw [List.length_append, le_length, le_length]
  · rfl
/-- The slots, the cells' end at first being e. -/
def slotsB : List SGCell → Nat → List UInt8
  | [], _ => []
  | c :: r, e => slotB c (e - csz c) ++ slotsB r (e - csz c)
theorem slotsB_length (cs : List SGCell) (e : Nat) : (slotsB cs e).length = 4 * cs.length := by
  induction cs generalizing e with
  | nil => rfl
  | cons c r ih => simp only [slotsB, List.length_append, slotB_length, ih, List.length_cons]; omega
theorem slotsB_snoc (cs : List SGCell) (c : SGCell) (e : Nat) : slotsB (cs ++ [c]) e = slotsB cs e ++ slotB c (e - tot cs - csz c) := by
  induction cs generalizing e with
  | nil => simp [slotsB, tot_nil]
  | cons d r ih => simp only [List.cons_append, slotsB, ih, tot_cons, List.append_assoc]; congr 3; omega
def cellsB : List SGCell → List UInt8
  | [] => []
  | c :: r => cellsB r ++ cellB c
theorem cellsB_length (cs : List SGCell) : (cellsB cs).length = tot cs := by
  induction cs with
  | nil => rfl
  | cons c r ih => simp only [cellsB, List.length_append, ih, cellB_length, tot_cons]; omega
theorem cellsB_snoc (cs : List SGCell) (c : SGCell) : cellsB (cs ++ [c]) = cellB c ++ cellsB cs := by
  induction cs with
  | nil => simp [cellsB]
  | cons d r ih => simp only [List.cons_append, cellsB, ih, List.append_assoc]
/-- Slots, noughts, cells. -/
def layB (cs : List SGCell) : List UInt8 := slotsB cs 512 ++ List.replicate (496 - 4 * cs.length - tot cs) 0 ++ cellsB cs
theorem layB_length (cs : List SGCell) (h : 4 * cs.length + tot cs ≤ 496) : (layB cs).length = 496 := by
  simp only [layB, List.length_append, slotsB_length, List.length_replicate, cellsB_length]; omega
def hdB (id lsn n : Nat) : List UInt8 := le lsn 8 ++ le id 2 ++ le n 2
theorem hdB_length (id lsn n : Nat) : (hdB id lsn n).length = 12 := by simp [hdB, le_length]
/-- What stands behind the sum. -/
def bodyB (id lsn : Nat) (cs : List SGCell) : List UInt8 := hdB id lsn cs.length ++ layB cs
theorem bodyB_length (id lsn : Nat) (cs : List SGCell) (h : 4 * cs.length + tot cs ≤ 496) : (bodyB id lsn cs).length = 508 := by
  rw [bodyB, List.length_append, hdB_length, layB_length cs h]
/-- A page's bytes. -/
def pgB (id lsn : Nat) (cs : List SGCell) : List UInt8 := le (Crc.sum (bodyB id lsn cs)) 4 ++ bodyB id lsn cs
theorem pgB_length (id lsn : Nat) (cs : List SGCell) (h : 4 * cs.length + tot cs ≤ 496) : (pgB id lsn cs).length = 512 := by
  rw [pgB, List.length_append, le_length, bodyB_length id lsn cs h]

/-! The buffer as Bytes fills it. -/
def bufB (id lsn n : Nat) (cs : List SGCell) : List UInt8 := List.replicate 4 0 ++ hdB id lsn n ++ layB cs
theorem bufB_start (id lsn n : Nat) : put (put (put (List.replicate 512 0) 4 (le lsn 8)) 12 (le id 2)) 14 (le n 2) = bufB id lsn n [] := by
  have e0 : (List.replicate 512 (0 : UInt8)) = List.replicate 4 0 ++ List.replicate 508 0 ++ [] := by rw [List.append_nil, List.replicate_append_replicate]
  have e1 := put_front (List.replicate 4 0) [] 508 (le lsn 8) (by rw [le_length]; omega)
  rw [List.length_replicate, ← e0, le_length] at e1
  have e2 := put_front (List.replicate 4 0 ++ le lsn 8) [] 500 (le id 2) (by rw [le_length]; omega)
  rw [List.length_append, List.length_replicate, le_length, le_length] at e2
  have e3 := put_front (List.replicate 4 0 ++ le lsn 8 ++ le id 2) [] 498 (le n 2) (by rw [le_length]; omega)
  simp only [List.length_append, List.length_replicate, le_length] at e3
  rw [e1, e2, e3]
  simp only [bufB, hdB, layB, slotsB, cellsB, tot_nil, List.nil_append, List.append_nil, List.append_assoc, List.length_nil]
theorem bufB_pre (id lsn n : Nat) (cs : List SGCell) : bufB id lsn n cs = (List.replicate 4 0 ++ hdB id lsn n ++ slotsB cs 512) ++ List.replicate (496 - 4 * cs.length - tot cs) 0 ++ cellsB cs := by
  simp only [bufB, layB, List.append_assoc]
theorem bufB_length (id lsn n : Nat) (cs : List SGCell) (h : 4 * cs.length + tot cs ≤ 496) : (bufB id lsn n cs).length = 512 := by
  simp only [bufB, List.length_append, List.length_replicate, hdB_length, layB_length cs h]
/-- A slot that is free. -/
theorem bufB_free (id lsn n : Nat) (cs : List SGCell) (c : SGCell) (hc : c.f0 = false) (h : 4 * (cs.length + 1) + tot cs ≤ 496) : bufB id lsn n (cs ++ [c]) = bufB id lsn n cs := by
  have hz : csz c = 0 := by unfold csz; rw [if_neg (by rw [hc]; simp)]
  rw [bufB_pre, bufB_pre, slotsB_snoc, cellsB_snoc, tot_append, tot_cons, tot_nil, hz]
  have hs : slotB c (512 - tot cs - 0) = List.replicate 4 0 := by unfold slotB; rw [if_neg (by rw [hc]; simp)]; rfl
  have hb : cellB c = [] := by unfold cellB; rw [if_neg (by rw [hc]; simp)]
  rw [hs, hb, List.nil_append, List.length_append, List.length_singleton]
  have e : List.replicate (496 - 4 * cs.length - tot cs) (0 : UInt8) = List.replicate 4 0 ++ List.replicate (496 - 4 * (cs.length + 1) - (tot cs + (0 + 0))) 0 := by
    rw [List.replicate_append_replicate]; congr 1; omega
  rw [e]
  simp only [List.append_assoc]
/-- One that isn't: its place, its length, its cell. -/
theorem bufB_used (id lsn n : Nat) (cs : List SGCell) (c : SGCell) (hc : c.f0 = true) (h : 4 * (cs.length + 1) + tot cs + csz c ≤ 496) :
    put (put (put (bufB id lsn n cs) (16 + 4 * cs.length) (le (512 - tot cs - csz c) 2)) (16 + 4 * cs.length + 2) (le (csz c) 2)) (512 - tot cs - csz c) (cellB c) = bufB id lsn n (cs ++ [c]) := by
  have hA : (List.replicate 4 0 ++ hdB id lsn n ++ slotsB cs 512).length = 16 + 4 * cs.length := by
    simp only [List.length_append, List.length_replicate, hdB_length, slotsB_length]
  have hs : slotB c (512 - tot cs - csz c) = le (512 - tot cs - csz c) 2 ++ le (csz c) 2 := by unfold slotB; rw [if_pos hc]
  have e1 := put_put (bufB id lsn n cs) (16 + 4 * cs.length) (le (512 - tot cs - csz c) 2) (le (csz c) 2) (by rw [bufB_length _ _ _ _ (by omega), le_length, le_length]; omega)
  rw [le_length] at e1
  rw [e1, ← hs, bufB_pre]
  have e2 := put_front (List.replicate 4 0 ++ hdB id lsn n ++ slotsB cs 512) (cellsB cs) (496 - 4 * cs.length - tot cs) (slotB c (512 - tot cs - csz c)) (by rw [slotB_length]; omega)
  rw [hA, slotB_length] at e2
  rw [e2]
  have e3 := put_back ((List.replicate 4 0 ++ hdB id lsn n ++ slotsB cs 512) ++ slotB c (512 - tot cs - csz c)) (cellsB cs) (496 - 4 * cs.length - tot cs - 4) (cellB c) (by rw [cellB_length]; omega)
  rw [List.length_append, hA, slotB_length, cellB_length, show 16 + 4 * cs.length + 4 + (496 - 4 * cs.length - tot cs - 4) - csz c = 512 - tot cs - csz c by omega] at e3
  rw [e3, bufB_pre, slotsB_snoc, cellsB_snoc, tot_append, tot_cons, tot_nil, List.length_append, List.length_singleton]
  simp only [List.append_assoc]
  rw [show 496 - 4 * cs.length - tot cs - 4 - csz c = 496 - 4 * (cs.length + 1) - (tot cs + (csz c + 0)) by omega]
/-- The sum is laid last. -/
theorem bufB_end (id lsn : Nat) (cs : List SGCell) (h : 4 * cs.length + tot cs ≤ 496) :
    (bufB id lsn cs.length cs).drop 4 = bodyB id lsn cs ∧ put (bufB id lsn cs.length cs) 0 (le (Crc.sum (bodyB id lsn cs)) 4) = pgB id lsn cs := by
  have e : bufB id lsn cs.length cs = List.replicate 4 0 ++ bodyB id lsn cs := by simp only [bufB, bodyB, List.append_assoc]
  refine ⟨by rw [e]; rfl, ?_⟩
  rw [e]
  unfold put pgB
  rw [le_length, List.take_zero, List.nil_append]
  rfl
end Go.Proofs.Ytidkdbohkbfhbaa
end
