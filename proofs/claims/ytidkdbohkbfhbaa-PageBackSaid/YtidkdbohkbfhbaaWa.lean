/- The calls of page's reading functions: size, may, Free, find, Get, ID, Lsn. -/
import Derived.Test.YtidkdbohkbfhbaaRf0
import Derived.Test.YtidkdbohkbfhbaaPg
namespace Go.Proofs.Ytidkdbohkbfhbaa
open Go.RowKit Go.Proofs.YtidkdbohkbfhbaaW.PrintWords Go.Proofs.YtidkdbohkbfhbaaW.PrintLast Go.Proofs.YtidkdbohkbfhbaaW.PrintMore
open Rf
set_option linter.unusedVariables false
set_option linter.unusedSimpArgs false

/-- A page's own block. -/
def PgAt (w : World) (g : Nat) (id lsn : Int) (v : Value) : Prop := w.heap[g]? = some (.cells #[.int .i64 id, .int .u64 lsn, v] 71 (0, 0))

theorem bel_trans {w w1 w2 : World} (h : Below w.heap.size w w1) (k : Below w1.heap.size w1 w2) : Below w.heap.size w w2 := below_then h h.size k
section
variable {P : Program} {ops : Array Oper} {o : Oper} {a : Act} {Q : Exit → Act → World → Prop} {Kc : Act → World → Prop} {α : Type}
/-- An append of one element in a region that draws its order. -/
theorem R_append_drew (d : Kd α) {w0 W : World} (base : Nat) (hw : Region.wanted o (yielded ops a.tmps) = true) (s x : Operand) (t e : TypeId) (z : Value) (bytes : Nat)
    (ho : o.op = .call { callee := .builtin .append, args := #[s, x], argTypes := #[t, t] })
    (ht : P.underlying t = some (.slice e)) (hinfo : (P.info? e).map (fun i => (i.zero, i.size, i.bytes)) = some (some z, d.sz, bytes)) (hz : z.cells.size = d.sz) (hs0 : 0 < d.sz) (hb0 : 0 < bytes)
    (v : Value) (xs : List α) (p : α) (cs : List Value) (ok okp : Nat → Prop) (hs : a.eval s = v) (hx : a.eval x = .slice (some ⟨W.heap.size, 0, none⟩) 1 1) (hp : d.M W base okp p cs) (hokp : ∀ k, okp k → ok k ∧ some k ≠ v.ownBlock) (hfresh : ∀ k, W.heap.size ≤ k → ok k)
    (HO : d.R e W base ok v xs) (HB : Below base w0 W) (hbase : base ≤ W.heap.size) (hl : (xs.length + 1) * bytes ≤ 140737488355328)
    (h : ∀ v1 w1, d.R e w1 base ok v1 (xs ++ [p]) → Below base w0 w1 → W.grownBy w1 v.ownBlock → (v1.ownBlock = v.ownBlock ∨ ∃ b, v1.ownBlock = some b ∧ W.heap.size ≤ b) → Kc (a.put o.dst v1) w1) :
    if Region.wanted o (yielded ops a.tmps) = true then Oper.wp P o a (W.alloc (.cells cs.toArray e)).drew Kc Q else Kc (a.put o.dst undef) (W.alloc (.cells cs.toArray e)).drew :=
  Kd.R_append_step (W := W.drew) d base hw s x t e z bytes ho ht hinfo hz hs0 hb0 v xs p cs ok okp hs hx (Kd.M_below hp (below_drew (Below.refl _ _))) hokp hfresh (Kd.R_drew (w := W) HO) (below_drew1 (W := W) HB) hbase hl (fun v1 w1 h1 h2 hg h4 => h v1 w1 h1 h2 ⟨hg.os, hg.tape, hg.output, hg.size, hg.block⟩ h4)
end
theorem PgAt.below {w w' : World} {g : Nat} {id lsn : Int} {v : Value} (h : PgAt w g id lsn v) (hb : Below w.heap.size w w') : PgAt w' g id lsn v := (hb.block g (blk_lt h)).trans h

theorem cell_at {w : World} {A : Option Addr} {n : Nat} {xs : List SGCell} (h : Kd.C kGCell w A n xs) (k : Nat) (h1 : k < n) : ∃ ad, A = some ad ∧ w.cell? (ad.add (k * 3)) = some (.bool (rd_TGCell xs k).f0) ∧ w.cell? ⟨(ad.add (k * 3)).block, (ad.add (k * 3)).off + 1, none⟩ = some (.string (rd_TGCell xs k).f1) ∧ w.cell? ⟨(ad.add (k * 3)).block, (ad.add (k * 3)).off + 2, none⟩ = some (.string (rd_TGCell xs k).f2) := by
  have := at_TGCell h (k : Int) (by omega) (by omega)
  rwa [Int.toNat_natCast] at this

theorem size_calls (c : SGCell) (w : World) (h1 : c.f1.size ≤ 1000) (h2 : c.f2.size ≤ 1000) :
    Calls Try.prog 37 #[.agg #[.bool c.f0, .string c.f1, .string c.f2]] w fun e w' => e = .returned (.int .i64 (csz c)) ∧ Below w.heap.size w w' := by
  refine page_size.calls _ _ _ _ _ ?_
  unfold page_size.f csz
  by_cases hc : c.f0 = true
  · rw [if_pos hc, if_pos hc, w64 (x := 1 + (c.f1.size : Int)) (by omega) (by omega), w64 (by omega) (by omega)]
    simp
  · rw [if_neg hc, if_neg hc]; rfl

theorem may_calls (k v : ByteArray) (w : World) :
    Calls Try.prog 40 #[.string k, .string v] w fun e w' => e = .returned (.bool (mayB k v)) ∧ Drawn0 w w' := by
  refine page_may.calls _ _ _ _ ?_
  unfold page_may.f mayB
  by_cases h1 : 1 ≤ k.size
  · rw [if_pos (by omega)]
    by_cases h2 : k.size ≤ 16
    · rw [if_pos (by omega)]; simp [h1, h2]; omega
    · rw [if_neg (by omega)]; simp [h2]
  · rw [if_neg (by omega)]; simp [h1]

set_option maxHeartbeats 400000 in
theorem free_calls (w : World) (g : Nat) (id lsn : Int) (A : Option Addr) (c : Nat) (cs : List SGCell)
    (hp : PgAt w g id lsn (.slice A cs.length c)) (hC : Kd.C kGCell w A cs.length cs) (hS : Small cs) :
    Calls Try.prog 16 #[.pointer (some ⟨g, 0, none⟩)] w fun e w' => e = .returned (.int .i64 (free cs)) ∧ Below w.heap.size w w' := by
  have hg2 : w.cell? ⟨g, 2, none⟩ = some (.slice A cs.length c) := blk_cell hp 2
  have hl := hS.1
  have HC := Aside0.mk hC
  have HS := Aside0.mk hS
  clear hC hS hp
  go_enter Try.func16, Try.ntmps16
  go_wp2
  go_loopg [3, 20] cs.length (fun gk v3 v20 wr => ∃ k : Nat, Aside0 (k + gk = cs.length) ∧ v20 = .int .i64 k ∧ v3 = .int .i64 (496 - 4 * (cs.length : Int) - (tot (cs.take k) : Int)) ∧ Aside0 (Below w.heap.size w wr))
  case atStart => exact ⟨0, ⟨by omega⟩, rfl, by simp [tot], ⟨Below.refl _ _⟩⟩
  case round =>
    obtain ⟨k, Hk, rfl, rfl, HB⟩ := hrel
    have hkl : k ≤ cs.length := by have := Hk.out; omega
    have ht := tot_take_le cs HS.out k
    by_cases hlt : k < cs.length
    · obtain ⟨ad, ea, hx0, hx1, hx2⟩ := cell_at (Kd.C_below HC.out HB.out) k (by omega)
      cases ea
      have hm := HS.out.2 _ (rd_mem cs k hlt)
      have hz := csz_le HS.out _ (rd_mem cs k hlt)
      have HT := Aside0.mk (tot_take_succ cs k hlt)
      go_wp2_with (go_at_call 37; refine (size_calls _ _ hm.1 hm.2).mono ?_; rintro e w' ⟨rfl, hb'⟩)
      go_roundg (gk - 1)
      case measure => have := Hk.out; omega
      case rel => exact ⟨k + 1, ⟨by have := Hk.out; omega⟩, by go_num, by rw [HT.out]; go_num, ⟨below_then (below_alloc HB.out _) (by simp; have := HB.out.size; omega) hb'⟩⟩
    · have hke : cs.take k = cs := List.take_of_length_le (by omega)
      rw [hke]
      go_wp2
      go_ret
      exact ⟨rfl, HB.out⟩

set_option maxHeartbeats 400000 in
theorem find_calls (w : World) (g : Nat) (id lsn : Int) (A : Option Addr) (c : Nat) (cs : List SGCell) (key : ByteArray)
    (hp : PgAt w g id lsn (.slice A cs.length c)) (hC : Kd.C kGCell w A cs.length cs) (hl : cs.length ≤ 1000) :
    Calls Try.prog 39 #[.pointer (some ⟨g, 0, none⟩), .string key] w fun e w' => e = .returned (.int .i64 (fnd cs key)) ∧ Below w.heap.size w w' := by
  have hg2 : w.cell? ⟨g, 2, none⟩ = some (.slice A cs.length c) := blk_cell hp 2
  have HC := Aside0.mk hC
  clear hC hp
  go_enter Try.func39, Try.ntmps39
  go_wp2
  go_loopg [14] cs.length (fun gk v14 wr => ∃ k : Nat, Aside0 (k + gk = cs.length) ∧ v14 = .int .i64 k ∧ Aside0 (fnd cs key = fndN key (cs.drop k) k) ∧ Aside0 (Below w.heap.size w wr))
  case atStart => exact ⟨0, ⟨by omega⟩, rfl, ⟨rfl⟩, ⟨Below.refl _ _⟩⟩
  case round =>
    obtain ⟨k, Hk, rfl, HF, HB⟩ := hrel
    have hkl : k ≤ cs.length := by have := Hk.out; omega
    by_cases hlt : k < cs.length
    · obtain ⟨ad, ea, hx0, hx1, hx2⟩ := cell_at (Kd.C_below HC.out HB.out) k (by omega)
      cases ea
      have HD := Aside0.mk (fndN_drop key cs k hlt)
      cases hu : (rd_TGCell cs k).f0 with
      | false =>
        rw [hu] at hx0
        have Hu := Aside0.mk hu
        clear hu
        go_wp2
        go_roundg (gk - 1)
        case measure => have := Hk.out; omega
        case rel => exact ⟨k + 1, ⟨by have := Hk.out; omega⟩, by go_num, ⟨by rw [HF.out, HD.out, if_neg (by simp [hit, Hu.out])]⟩, ⟨below_alloc HB.out _⟩⟩
      | true =>
        rw [hu] at hx0
        have Hu := Aside0.mk hu
        clear hu
        by_cases he : ((rd_TGCell cs k).f1.toList == key.toList) = true
        · have HE := Aside0.mk (show fnd cs key = k by rw [HF.out, HD.out, if_pos (by simp only [hit, Hu.out, he, Bool.and_self])])
          go_wp2
          go_ret
          exact ⟨by rw [HE.out]; rfl, below_alloc HB.out _⟩
        · have he' : ((rd_TGCell cs k).f1.toList == key.toList) = false := by simpa using he
          have HE := Aside0.mk (show fnd cs key = fndN key (cs.drop (k + 1)) (k + 1) by rw [HF.out, HD.out, if_neg (by simp only [hit, Hu.out, he', Bool.and_false]; simp)])
          clear he
          go_wp2
          go_roundg (gk - 1)
          case measure => have := Hk.out; omega
          case rel => exact ⟨k + 1, ⟨by have := Hk.out; omega⟩, by go_num, HE, ⟨below_alloc HB.out _⟩⟩
    · have HE := Aside0.mk (show fnd cs key = -1 by rw [HF.out, List.drop_eq_nil_of_le (by omega)]; rfl)
      go_wp2
      go_ret
      exact ⟨by rw [HE.out]; rfl, HB.out⟩

set_option maxHeartbeats 400000 in
theorem get_calls (w : World) (g : Nat) (id lsn : Int) (A : Option Addr) (c : Nat) (cs : List SGCell) (key : ByteArray)
    (hp : PgAt w g id lsn (.slice A cs.length c)) (hC : Kd.C kGCell w A cs.length cs) (hl : cs.length ≤ 1000) :
    Calls Try.prog 18 #[.pointer (some ⟨g, 0, none⟩), .string key] w fun e w' => e = .returned (.tuple #[.string (if fnd cs key < 0 then ⟨#[]⟩ else (rd_TGCell cs (fnd cs key)).f2), .bool (decide (0 ≤ fnd cs key))]) ∧ Below w.heap.size w w' := by
  have HP := Aside0.mk hp
  have HC := Aside0.mk hC
  have hf := fnd_lt cs key
  by_cases hn : fnd cs key < 0
  · clear hC hp
    go_enter Try.func18, Try.ntmps18
    go_wp2_with (go_at_call 39; refine (find_calls _ _ _ _ _ _ _ _ HP.out HC.out hl).mono ?_; rintro e w' ⟨rfl, hb⟩)
    go_ret2
    exact ⟨by simp [hn], hb⟩
  · clear hC hp
    obtain ⟨j, hj⟩ := Int.eq_ofNat_of_zero_le (show 0 ≤ fnd cs key by omega)
    rw [hj] at hn hf
    have HJ := Aside0.mk hj
    go_enter Try.func18, Try.ntmps18
    go_wp2_with fail
    refine (find_calls _ _ _ _ _ _ _ _ HP.out HC.out hl).mono ?_
    rintro e w' ⟨rfl, hb⟩
    obtain ⟨ad, ea, hx0, hx1, hx2⟩ := cell_at (Kd.C_below HC.out hb) j (by omega)
    cases ea
    have hg2 : w'.cell? ⟨g, 2, none⟩ = some (.slice (some ad) cs.length c) := pw_cell_below hb (blk_cell HP.out 2)
    rw [HJ.out]
    go_wp2
    go_ret2
    exact ⟨by simp [HJ.out], hb⟩

theorem id_calls (w : World) (g : Nat) (id lsn : Int) (v : Value) (hp : PgAt w g id lsn v) :
    Calls Try.prog 25 #[.pointer (some ⟨g, 0, none⟩)] w fun e w' => e = .returned (.int .i64 id) ∧ w = w' := by
  have h0 : w.cell? ⟨g, 0, none⟩ = some (.int .i64 id) := blk_cell hp 0
  clear hp
  go_enter Try.func25, Try.ntmps25
  go_wp2
  go_ret
  exact ⟨rfl, rfl⟩
theorem lsn_calls (w : World) (g : Nat) (id lsn : Int) (v : Value) (hp : PgAt w g id lsn v) :
    Calls Try.prog 24 #[.pointer (some ⟨g, 0, none⟩)] w fun e w' => e = .returned (.int .u64 lsn) ∧ w = w' := by
  have h0 : w.cell? ⟨g, 1, none⟩ = some (.int .u64 lsn) := blk_cell hp 1
  clear hp
  go_enter Try.func24, Try.ntmps24
  go_wp2
  go_ret
  exact ⟨rfl, rfl⟩
theorem stamp_calls (w : World) (g : Nat) (id lsn l : Int) (v : Value) (hp : PgAt w g id lsn v) :
    Calls Try.prog 30 #[.pointer (some ⟨g, 0, none⟩), .int .u64 l] w fun e w' => e = .returned (.tuple #[]) ∧ w.setCell ⟨g, 1, none⟩ (.int .u64 l) = w' := by
  have h0 : w.cell? ⟨g, 1, none⟩ = some (.int .u64 lsn) := blk_cell hp 1
  have hf := blk_frozen hp 1
  clear hp
  go_enter Try.func30, Try.ntmps30
  go_wp2
  go_end0
  exact ⟨rfl, rfl⟩
end Go.Proofs.Ytidkdbohkbfhbaa
