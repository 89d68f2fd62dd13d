/- PLAIN: pages as lists of cells: what find, insert, update, delete and free are. -/
import Derived.Test.YtidkdbohkbfhbaaRfT
namespace Go.Proofs.Ytidkdbohkbfhbaa
open Go.RowKit Go.Proofs.YtidkdbohkbfhbaaW.PrintWords Go.Proofs.YtidkdbohkbfhbaaW.PrintLast Go.Proofs.YtidkdbohkbfhbaaW.PrintMore
open Rf

theorem w64 {x : Int} (h0 : -9223372036854775808 ≤ x) (h1 : x < 9223372036854775808) : wrap64 x = x := by unfold wrap64; omega
theorem i64w {x : Int} (h0 : -9223372036854775808 ≤ x) (h1 : x < 9223372036854775808) : IntKind.i64.wrap x = x := (i64_w x).trans (w64 h0 h1)
theorem u64w {x : Int} (h0 : 0 ≤ x) (h1 : x < 18446744073709551616) : IntKind.u64.wrap x = x := by
  simp [IntKind.wrap, IntKind.bits, IntKind.signed]; omega
theorem toList_inj {a b : ByteArray} : a.toList = b.toList ↔ a = b := by
  rw [ByteArray.toList_eq, ByteArray.toList_eq]
  constructor
  · intro h; exact ByteArray.ext (Array.toList_inj.1 h)
  · rintro rfl; rfl
theorem beq_toList {a b : ByteArray} : (a.toList == b.toList) = decide (a = b) := by
  rw [Bool.eq_iff_iff]; simp [toList_inj]

/-- How many bytes a cell has. -/
def csz (c : SGCell) : Nat := if c.f0 = true then 1 + c.f1.size + c.f2.size else 0
def tot (cs : List SGCell) : Nat := (cs.map csz).sum
def free (cs : List SGCell) : Int := 496 - 4 * (cs.length : Int) - (tot cs : Int)
/-- Cells of which no sum wraps. -/
def Small (cs : List SGCell) : Prop := cs.length ≤ 100 ∧ ∀ c ∈ cs, c.f1.size ≤ 1000 ∧ c.f2.size ≤ 1000

theorem csz_le {cs : List SGCell} (h : Small cs) (c : SGCell) (hc : c ∈ cs) : csz c ≤ 2001 := by
  have := h.2 c hc; unfold csz; split <;> omega
theorem rd_get (cs : List SGCell) (k : Nat) (hk : k < cs.length) : rd_TGCell cs k = cs[k] := by
  simp [rd_TGCell, List.getD_eq_getElem?_getD, List.getElem?_eq_getElem hk]
theorem rd_mem (cs : List SGCell) (k : Nat) (hk : k < cs.length) : rd_TGCell cs k ∈ cs := by rw [rd_get cs k hk]; exact List.getElem_mem hk
theorem tot_nil : tot [] = 0 := rfl
theorem tot_cons (c : SGCell) (cs : List SGCell) : tot (c :: cs) = csz c + tot cs := by simp [tot]
theorem tot_append (a b : List SGCell) : tot (a ++ b) = tot a + tot b := by simp [tot]
theorem tot_take_succ (cs : List SGCell) (k : Nat) (hk : k < cs.length) : tot (cs.take (k + 1)) = tot (cs.take k) + csz (rd_TGCell cs k) := by
  rw [rd_get cs k hk, List.take_succ_eq_append_getElem hk, tot_append, tot_cons, tot_nil]; omega
theorem tot_take_le (cs : List SGCell) (h : Small cs) (k : Nat) : tot (cs.take k) ≤ 2001 * k := by
  induction k with
  | zero => simp [tot]
  | succ k ih =>
    rcases Nat.lt_or_ge k cs.length with hk | hk
    · rw [tot_take_succ cs k hk]
      have := csz_le h (rd_TGCell cs k) (rd_mem cs k hk)
      omega
    · rw [List.take_of_length_le (by omega)]; rw [List.take_of_length_le hk] at ih; omega
theorem tot_le (cs : List SGCell) (h : Small cs) : tot cs ≤ 200100 := by
  have := tot_take_le cs h cs.length
  rw [List.take_of_length_le (Nat.le_refl _)] at this
  have := h.1; omega
theorem Small.take {cs : List SGCell} (h : Small cs) (k : Nat) : Small (cs.take k) :=
  ⟨by have := h.1; rw [List.length_take]; omega, fun c hc => h.2 c (List.mem_of_mem_take hc)⟩

/-- The slot of a key; -1: there is none. -/
def hit (key : ByteArray) (c : SGCell) : Bool := c.f0 && (c.f1.toList == key.toList)
def fndN (key : ByteArray) : List SGCell → Nat → Int
  | [], _ => -1
  | c :: r, i => if hit key c = true then (i : Int) else fndN key r (i + 1)
def fnd (cs : List SGCell) (key : ByteArray) : Int := fndN key cs 0
theorem fndN_drop (key : ByteArray) (cs : List SGCell) (k : Nat) (hk : k < cs.length) : fndN key (cs.drop k) k = if hit key (rd_TGCell cs k) = true then (k : Int) else fndN key (cs.drop (k + 1)) (k + 1) := by
  rw [List.drop_eq_getElem_cons hk, rd_get cs k hk]; rfl
theorem fndN_or (key : ByteArray) (cs : List SGCell) (i : Nat) : fndN key cs i = -1 ∨ ((i : Int) ≤ fndN key cs i ∧ fndN key cs i < i + cs.length) := by
  induction cs generalizing i with
  | nil => exact .inl rfl
  | cons c r ih =>
    unfold fndN
    split
    · right; simp; omega
    · rcases ih (i + 1) with h | h
      · exact .inl h
      · right; simp at h ⊢; omega
theorem fnd_or (cs : List SGCell) (key : ByteArray) : fnd cs key = -1 ∨ (0 ≤ fnd cs key ∧ fnd cs key < cs.length) := by
  have := fndN_or key cs 0; unfold fnd; simpa using this
theorem fnd_lt (cs : List SGCell) (key : ByteArray) : -1 ≤ fnd cs key ∧ fnd cs key < cs.length := by
  rcases fnd_or cs key with h | h <;> omega

/-- The first slot that is free (the number of slots: none is). -/
def frs : List SGCell → Nat
  | [] => 0
  | c :: r => if c.f0 = true then frs r + 1 else 0
theorem frs_le (cs : List SGCell) : frs cs ≤ cs.length := by
  induction cs with
  | nil => exact Nat.le_refl _
  | cons c r ih => unfold frs; split <;> simp; omega
theorem frs_used (cs : List SGCell) (k : Nat) (hk : k < frs cs) : (rd_TGCell cs k).f0 = true := by
  induction cs generalizing k with
  | nil => simp [frs] at hk
  | cons c r ih =>
    unfold frs at hk
    split at hk
    · rename_i hc
      cases k with
      | zero => simpa [rd_TGCell] using hc
      | succ k => have := ih k (by omega); simpa [rd_TGCell] using this
    · omega
theorem frs_free (cs : List SGCell) (h : frs cs < cs.length) : (rd_TGCell cs (frs cs : Nat)).f0 = false := by
  induction cs with
  | nil => simp at h
  | cons c r ih =>
    unfold frs at h ⊢
    split
    · rename_i hc
      rw [if_pos hc] at h
      have := ih (by simpa using h)
      simpa [rd_TGCell] using this
    · rename_i hc; simpa [rd_TGCell] using hc

/-- May a page have a key and its value? -/
def mayB (key value : ByteArray) : Bool := decide (1 ≤ key.size) && (decide (key.size ≤ 16) && decide (value.size ≤ 32))
def cel (key value : ByteArray) : SGCell := ⟨true, key, value⟩
theorem mayB_iff (key value : ByteArray) : mayB key value = true ↔ 1 ≤ key.size ∧ key.size ≤ 16 ∧ value.size ≤ 32 := by simp [mayB]
theorem csz_cel (key value : ByteArray) : csz (cel key value) = 1 + key.size + value.size := rfl

/-- Insert. -/
def insAt (cs : List SGCell) (c : SGCell) : List SGCell := if frs cs = cs.length then cs ++ [c] else cs.set (frs cs) c
def insNeed (cs : List SGCell) (key value : ByteArray) : Int := 1 + (key.size : Int) + (value.size : Int) + (if frs cs = cs.length then 4 else 0)
def ins (cs : List SGCell) (key value : ByteArray) : List SGCell × Int :=
  if mayB key value = true then
    if 0 ≤ fnd cs key then (cs, 9)
    else if frs cs = 64 ∨ free cs < insNeed cs key value then (cs, 7)
    else (insAt cs (cel key value), 0)
  else (cs, 1)
/-- Update. -/
def updAt (cs : List SGCell) (i : Nat) (value : ByteArray) : List SGCell := cs.set i ⟨(rd_TGCell cs i).f0, (rd_TGCell cs i).f1, value⟩
def upd (cs : List SGCell) (key value : ByteArray) : List SGCell × Int :=
  if mayB key value = true then
    if fnd cs key < 0 then (cs, 8)
    else if free cs < (value.size : Int) - ((rd_TGCell cs (fnd cs key)).f2.size : Int) then (cs, 7)
    else (updAt cs (fnd cs key).toNat value, 0)
  else (cs, 1)
/-- Free slots at the end go. -/
def trimN : Nat → List SGCell → List SGCell
  | 0, cs => cs
  | n + 1, cs => if cs.length = 0 then cs else if (rd_TGCell cs ((cs.length : Int) - 1)).f0 = true then cs else trimN n (cs.take (cs.length - 1))
theorem trimN_zero (n : Nat) (cs : List SGCell) (h : cs.length = 0) : trimN n cs = cs := by cases n with | zero => rfl | succ n => unfold trimN; rw [if_pos h]
theorem trimN_used (n : Nat) (cs : List SGCell) (m : Nat) (h : cs.length = m + 1) (hu : (rd_TGCell cs m).f0 = true) : trimN n cs = cs := by
  cases n with
  | zero => rfl
  | succ n => unfold trimN; rw [if_neg (by omega), if_pos (by rw [h, show ((m + 1 : Nat) : Int) - 1 = m by omega]; exact hu)]
theorem trimN_free (n : Nat) (cs : List SGCell) (m : Nat) (h : cs.length = m + 1) (hu : (rd_TGCell cs m).f0 = false) : trimN (n + 1) cs = trimN n (cs.take m) := by
  conv => lhs; unfold trimN
  rw [if_neg (by omega), if_neg (by rw [h, show ((m + 1 : Nat) : Int) - 1 = m by omega, hu]; simp), h, Nat.add_sub_cancel]
def trim (cs : List SGCell) : List SGCell := trimN cs.length cs
/-- Delete. -/
def delAt (cs : List SGCell) (i : Nat) : List SGCell := cs.take i ++ cs.drop (i + 1)
def del (cs : List SGCell) (key : ByteArray) : List SGCell × Int :=
  if fnd cs key < 0 then (cs, 8) else (trim (delAt cs (fnd cs key).toNat), 0)

/-- Of cells that a page has. -/
structure Valid (cs : List SGCell) : Prop where
  len : cs.length ≤ 64
  may : ∀ c ∈ cs, c.f0 = true → mayB c.f1 c.f2 = true
  zero : ∀ c ∈ cs, c.f0 = false → c = zGCell
  once : cs.Pairwise fun a b => a.f0 = true → b.f0 = true → a.f1 ≠ b.f1
  last : ∀ c, cs.getLast? = some c → c.f0 = true
  room : 0 ≤ free cs
theorem Valid.small {cs : List SGCell} (h : Valid cs) : Small cs := by
  refine ⟨by have := h.len; omega, fun c hc => ?_⟩
  cases hf : c.f0 with
  | true => have := (mayB_iff _ _).1 (h.may c hc hf); omega
  | false => rw [h.zero c hc hf]; exact ⟨by decide, by decide⟩
theorem Valid.nil : Valid [] := ⟨by simp, by simp, by simp, by simp, by simp, by decide⟩
end Go.Proofs.Ytidkdbohkbfhbaa
