/- Kind: api.Record (its rows stay what they are); the call of act's Redo. 
PLAIN: the references' Find, with, Insert, Update: what they come to. 
PLAIN: the reference's Delete: what it comes to. 
The document's Find, Insert, Update, Delete, as calls, by the plain laws. -/
import Derived.Test.YtidgfigfebkieaaMgDo2
import Derived.Deep.Slices
import Derived.Test.YtidgfigfebkieaaRf3
import Derived.Test.YtidgfigfebkieaaRf4
import Derived.Test.YtidgfigfebkieaaRf5
section
namespace Go.Proofs.Ytidgfigfebkieaa.Rf
open Go.RowKit Go.Proofs.YtidgfigfebkieaaW.PrintWords Go.Proofs.YtidgfigfebkieaaW.PrintLast Go.Proofs.YtidgfigfebkieaaW.PrintMore
set_option linter.unusedVariables false
/-- A slice's head, whatever it leads to. -/
def kHead : Kd (Option Addr × Nat × Nat) where
  sz := 1
  E := []
  K := fun _ x cs => cs = [.slice x.1 x.2.1 x.2.2]
  M := fun _ _ _ x cs => cs = [.slice x.1 x.2.1 x.2.2]
  K_len := by rintro w x cs rfl; rfl
  K_one := by rintro w x cs rfl u hu; simp at hu; subst hu; rfl
  K_below := fun _ h => h
  K_of_M := fun h => h
  M_mono := fun _ h => h
  M_bound := fun h => h
  M_move := fun _ h => h
  M_lower := fun _ h => h
structure SGRec where
  f0 : Int
  f1 : Int
  f2 : Int
  f3 : Int
  f4 : Int
  f5 : Int
  f6 : Int
  f7 : ByteArray
  f8 : ByteArray
  f9 : ByteArray
  f10 : Option Addr × Nat × Nat
  f11 : Option Addr × Nat × Nat
def SGRec.out (x : SGRec) : List Value := [.int .i64 x.f0, .int .u64 x.f1, .int .i64 x.f2, .int .u64 x.f3, .int .u64 x.f4, .int .i64 x.f5, .int .i64 x.f6, .string x.f7, .string x.f8, .string x.f9, .slice x.f10.1 x.f10.2.1 x.f10.2.2, .slice x.f11.1 x.f11.2.1 x.f11.2.2]
def zGRec : SGRec := ⟨0, 0, 0, 0, 0, 0, 0, (⟨#[]⟩ : ByteArray), (⟨#[]⟩ : ByteArray), (⟨#[]⟩ : ByteArray), (none, 0, 0), (none, 0, 0)⟩
def kGRec : Kd SGRec := Kd.iso (Kd.pair (Kd.int .i64) (Kd.pair (Kd.int .u64) (Kd.pair (Kd.int .i64) (Kd.pair (Kd.int .u64) (Kd.pair (Kd.int .u64) (Kd.pair (Kd.int .i64) (Kd.pair (Kd.int .i64) (Kd.pair Kd.string (Kd.pair Kd.string (Kd.pair Kd.string (Kd.pair kHead kHead))))))))))) (fun x : SGRec => (x.f0, x.f1, x.f2, x.f3, x.f4, x.f5, x.f6, x.f7, x.f8, x.f9, x.f10, x.f11))
theorem kGRec_open {w : World} {x : SGRec} {cs : List Value} (h : kGRec.K w x cs) : cs = x.out := by
  obtain ⟨_, _, rfl, rfl, ⟨_, _, rfl, rfl, ⟨_, _, rfl, rfl, ⟨_, _, rfl, rfl, ⟨_, _, rfl, rfl, ⟨_, _, rfl, rfl, ⟨_, _, rfl, rfl, ⟨_, _, rfl, rfl, ⟨_, _, rfl, rfl, ⟨_, _, rfl, rfl, ⟨_, _, rfl, rfl, rfl⟩⟩⟩⟩⟩⟩⟩⟩⟩⟩⟩ := h
  exact rfl
theorem kGRec_mk (w : World) (x : SGRec) : kGRec.K w x x.out :=
  ⟨[_], _, rfl, rfl, [_], _, rfl, rfl, [_], _, rfl, rfl, [_], _, rfl, rfl, [_], _, rfl, rfl, [_], _, rfl, rfl, [_], _, rfl, rfl, [_], _, rfl, rfl, [_], _, rfl, rfl, [_], _, rfl, rfl, [_], _, rfl, rfl, rfl⟩
theorem kGRec_mkM (w : World) (base : Nat) (ok : Nat → Prop) (x : SGRec) : kGRec.M w base ok x x.out :=
  ⟨[_], _, rfl, rfl, [_], _, rfl, rfl, [_], _, rfl, rfl, [_], _, rfl, rfl, [_], _, rfl, rfl, [_], _, rfl, rfl, [_], _, rfl, rfl, [_], _, rfl, rfl, [_], _, rfl, rfl, [_], _, rfl, rfl, [_], _, rfl, rfl, rfl⟩
def rd_TGRec (xs : List SGRec) (i : Int) : SGRec := xs.getD i.toNat zGRec
/-- A record's cells at an address. -/
def RecAt (w : World) (ad : Addr) (x : SGRec) : Prop := ∀ j u, x.out[j]? = some u → w.cell? (ad.add j) = some u
theorem at_TGRec {w : World} {A : Option Addr} {n : Nat} {xs : List SGRec} (h : Kd.C kGRec w A n xs) (i : Nat) (h1 : i < n) : ∃ ad : Addr, A = some ad ∧ RecAt w (ad.add (i * 12)) (rd_TGRec xs i) := by
  obtain ⟨ad, c, e, _, hK, hc0⟩ := Kd.C_get h zGRec i (by omega) (by omega)
  obtain rfl := kGRec_open hK
  rw [Int.toNat_natCast] at hc0
  refine ⟨ad, e, fun j u hj => ?_⟩
  rw [Go.Deep.add_add]
  exact hc0 j u hj
end Go.Proofs.Ytidgfigfebkieaa.Rf
namespace Go.Proofs.Ytidgfigfebkieaa
open Go.RowKit Go.Proofs.YtidgfigfebkieaaW.PrintWords Go.Proofs.YtidgfigfebkieaaW.PrintLast Go.Proofs.YtidgfigfebkieaaW.PrintMore
open Rf Go.ChangeMaps
set_option linter.unusedVariables false
set_option linter.unusedSimpArgs false
/-- What Redo makes of a page: its cells, its LSN, whether it was done, the error. -/
def redoP (id lsn : Nat) (cs : List SGCell) (r : SGRec) : List SGCell × Nat × Bool × Int :=
  if (r.f0 ≠ 1 ∧ r.f0 ≠ 2) ∨ r.f5 ≠ id then (cs, lsn, false, 1)
  else if r.f1 ≤ lsn then (cs, lsn, false, 0)
  else if (actDo cs r.f6 r.f7 r.f8 r.f9).2 ≠ 0 then ((actDo cs r.f6 r.f7 r.f8 r.f9).1, lsn, false, (actDo cs r.f6 r.f7 r.f8 r.f9).2)
  else ((actDo cs r.f6 r.f7 r.f8 r.f9).1, r.f1.toNat, true, 0)
theorem skip_ {b : Bool} {A B : Prop} (h : b = false) (hB : B) : if b = true then A else B := by subst h; exact hB
theorem yund : yielded.match_1 (fun _ => Option Bool) (some undef) (fun b => some b) (fun _ => none) = none := rfl
attribute [local go_sem high] yund
section
variable {w0 w : World} {ok : Nat → Prop} {g id lsn : Nat} {cs : List SGCell}
theorem Here.id_ (h : Here w0 w ok g id lsn cs) : Calls Try.prog 41 #[.pointer (some ⟨g, 0, none⟩)] w fun e w' => e = .returned (.int .i64 id) ∧ Here w0 w' ok g id lsn cs ∧ Below w.heap.size w w' := by
  obtain ⟨_, _, v, h3, _⟩ := h.pg
  exact (id_calls w g id lsn v h3).mono (by rintro e w' ⟨rfl, rfl⟩; exact ⟨rfl, h, Below.refl _ _⟩)
theorem Here.lsn_ (h : Here w0 w ok g id lsn cs) : Calls Try.prog 42 #[.pointer (some ⟨g, 0, none⟩)] w fun e w' => e = .returned (.int .u64 lsn) ∧ Here w0 w' ok g id lsn cs ∧ Below w.heap.size w w' := by
  obtain ⟨_, _, v, h3, _⟩ := h.pg
  exact (lsn_calls w g id lsn v h3).mono (by rintro e w' ⟨rfl, rfl⟩; exact ⟨rfl, h, Below.refl _ _⟩)
theorem Here.stamp' (h : Here w0 w ok g id lsn cs) (l : Int) (h0 : 0 ≤ l) (hl : l < 18446744073709551616) : Calls Try.prog 43 #[.pointer (some ⟨g, 0, none⟩), .int .u64 l] w fun e w' => e = .returned (.tuple #[]) ∧ Here w0 w' ok g id l.toNat cs ∧ Kept w w' ok := by
  obtain ⟨n, rfl⟩ : ∃ n : Nat, l = n := ⟨l.toNat, by omega⟩
  rw [Int.toNat_natCast]
  exact h.stamp n (by omega)
set_option maxRecDepth 100000 in
set_option maxHeartbeats 4000000 in
theorem redo_calls (h : Here w0 w ok g id lsn cs) (r : SGRec) (h0 : 0 ≤ r.f1) (hl : r.f1 < 18446744073709551616) (ha : r.f7.size ≤ 140737488351232) (hb : r.f8.size ≤ 140737488351232) (hc : r.f9.size ≤ 140737488351232) :
    Calls Try.prog 25 #[.pointer (some ⟨g, 0, none⟩), .agg r.out.toArray] w fun e w' => e = .returned (.tuple #[.bool (redoP id lsn cs r).2.2.1, .int .i64 (redoP id lsn cs r).2.2.2]) ∧ After w0 w w' ok g id (redoP id lsn cs r).2.1 (redoP id lsn cs r).1 := by
  have HH := Aside0.mk h
  have H := Aside0.mk h.bound
  clear h
  obtain ⟨k, ls, tx, pv, un, pg, ak, a, b, c, ⟨At, lt, ct⟩, ⟨Ad, ld, cd⟩⟩ := r
  dsimp only [SGRec.out] at *
  go_enter Try.func25, Try.ntmps25
  go_wp2_with fail
  have hb0 : Below w.heap.size w (w.alloc (.cells #[.int .i64 k, .int .u64 ls, .int .i64 tx, .int .u64 pv, .int .u64 un, .int .i64 pg, .int .i64 ak, .string a, .string b, .string c, .slice At lt ct, .slice Ad ld cd] 34)) := below_alloc (Below.refl _ _) _
  have hbx := heap_alloc_new w (.cells #[.int .i64 k, .int .u64 ls, .int .i64 tx, .int .u64 pv, .int .u64 un, .int .i64 pg, .int .i64 ak, .string a, .string b, .string c, .slice At lt ct, .slice Ad ld cd] 34)
  generalize w.alloc (.cells #[.int .i64 k, .int .u64 ls, .int .i64 tx, .int .u64 pv, .int .u64 un, .int .i64 pg, .int .i64 ak, .string a, .string b, .string c, .slice At lt ct, .slice Ad ld cd] 34) = w1 at hb0 hbx ⊢
  have H1 := Aside0.mk (H.out.next hb0)
  have HB0 := Aside0.mk hb0
  have HX := Aside0.mk hbx
  have x0 := blk_cell hbx 0
  have x1 := blk_cell hbx 1
  have x5 := blk_cell hbx 5
  have x6 := blk_cell hbx 6
  have x7 := blk_cell hbx 7
  have x8 := blk_cell hbx 8
  have x9 := blk_cell hbx 9
  clear hbx hb0
  -- BEGIN
  by_cases k1 : k = 1
  · subst k1
    refine start_ (n := 19) (S := fun wx => wx.cell? ⟨w.heap.size, 0, none⟩ = some (.int .i64 1) ∧ wx.cell? ⟨w.heap.size, 5, none⟩ = some (.int .i64 pg)) (ds := []) #[false, false, false, false, false, false, false, false, false, false, false, false, false, false, false, false, false, false, false] (by kernel_rfl) rfl rfl (⟨x0, x5⟩) (fun hHeld => ?_)
    refine pure_ (i := 0) (N := some 7) (v := ?_) (a' := ?_) #[true, false, false, false, false, false, false, false, false, false, false, false, false, false, false, false, false, false, false] rfl rfl (by kernel_rfl) (fun _ _ _ h => h) (Or.inl ⟨by rfl, ?_⟩) ?_ ?_
    rotate_left
    · intro w'
      go_simp
      all_goals (with_reducible rfl)
    rotate_left
    · simp only [Act.put, List.setIfInBounds_toArray, List.set_cons_zero, List.set_cons_succ, i64_w, i32_w]
      rfl
    refine pure_ (i := 1) (N := some 8) (v := ?_) (a' := ?_) #[true, true, false, false, false, false, false, false, false, false, false, false, false, false, false, false, false, false, false] rfl rfl (by kernel_rfl) (fun _ _ _ h => h) (Or.inl ⟨by rfl, ?_⟩) ?_ ?_
    rotate_left
    · intro w'
      go_simp
      all_goals (with_reducible rfl)
    rotate_left
    · simp only [Act.put, List.setIfInBounds_toArray, List.set_cons_zero, List.set_cons_succ, i64_w, i32_w]
      rfl
    refine pure_ (i := 2) (N := some 9) (v := ?_) (a' := ?_) #[true, true, true, false, false, false, false, false, false, false, false, false, false, false, false, false, false, false, false] rfl rfl (by kernel_rfl) (fun _ _ _ h => h) (Or.inl ⟨by rfl, ?_⟩) ?_ ?_
    rotate_left
    · intro w'
      go_simp
      all_goals (with_reducible rfl)
    rotate_left
    · simp only [Act.put, List.setIfInBounds_toArray, List.set_cons_zero, List.set_cons_succ, i64_w, i32_w]
      rfl
    refine pure_ (i := 3) (N := some 10) (v := ?_) (a' := ?_) #[true, true, true, true, false, false, false, false, false, false, false, false, false, false, false, false, false, false, false] rfl rfl (by kernel_rfl) (fun _ _ _ h => h) (Or.inl ⟨by rfl, ?_⟩) ?_ ?_
    rotate_left
    · intro w'
      go_simp
      all_goals (with_reducible rfl)
    rotate_left
    · simp only [Act.put, List.setIfInBounds_toArray, List.set_cons_zero, List.set_cons_succ, i64_w, i32_w]
      rfl
    refine take_ (i := 4) (N := some 11) (v := ?_) (a' := ?_) #[true, true, true, true, true, false, false, false, false, false, false, false, false, false, false, false, false, false, false] rfl rfl (by kernel_rfl) (fun _ _ _ h => h) (Or.inl ⟨by rfl, ?_⟩) hHeld ?_ ?_
    rotate_left
    · intro w' hSw
      (try dsimp only at hSw)
      go_simp
      all_goals (with_reducible rfl)
    rotate_left
    · simp only [Act.put, List.setIfInBounds_toArray, List.set_cons_zero, List.set_cons_succ, i64_w, i32_w]
      rfl
    refine pure_ (i := 5) (N := some 12) (v := ?_) (a' := ?_) #[true, true, true, true, true, true, false, false, false, false, false, false, false, false, false, false, false, false, false] rfl rfl (by kernel_rfl) (fun _ _ _ h => h) (Or.inl ⟨by rfl, ?_⟩) ?_ ?_
    rotate_left
    · intro w'
      go_simp
      all_goals (with_reducible rfl)
    rotate_left
    · simp only [Act.put, List.setIfInBounds_toArray, List.set_cons_zero, List.set_cons_succ, i64_w, i32_w]
      rfl
    refine pure_ (i := 6) (N := some 13) (v := ?_) (a' := ?_) #[true, true, true, true, true, true, true, false, false, false, false, false, false, false, false, false, false, false, false] rfl rfl (by kernel_rfl) (fun _ _ _ h => h) (Or.inl ⟨by rfl, ?_⟩) ?_ ?_
    rotate_left
    · intro w'
      go_simp
      all_goals (with_reducible rfl)
    rotate_left
    · simp only [Act.put, List.setIfInBounds_toArray, List.set_cons_zero, List.set_cons_succ, i64_w, i32_w]
      rfl
    refine pure_ (i := 7) (N := some 14) (v := undef) (a' := ?_) #[true, true, true, true, true, true, true, true, false, false, false, false, false, false, false, false, false, false, false] rfl rfl (by kernel_rfl) (fun _ _ _ h => h) (Or.inr ⟨by rfl, rfl⟩) ?_ ?_
    rotate_left
    · simp only [Act.put, List.setIfInBounds_toArray, List.set_cons_zero, List.set_cons_succ, i64_w, i32_w]
      rfl
    refine pure_ (i := 8) (N := some 15) (v := undef) (a' := ?_) #[true, true, true, true, true, true, true, true, true, false, false, false, false, false, false, false, false, false, false] rfl rfl (by kernel_rfl) (fun _ _ _ h => h) (Or.inr ⟨by rfl, rfl⟩) ?_ ?_
    rotate_left
    · simp only [Act.put, List.setIfInBounds_toArray, List.set_cons_zero, List.set_cons_succ, i64_w, i32_w]
      rfl
    refine pure_ (i := 9) (N := some 16) (v := undef) (a' := ?_) #[true, true, true, true, true, true, true, true, true, true, false, false, false, false, false, false, false, false, false] rfl rfl (by kernel_rfl) (fun _ _ _ h => h) (Or.inr ⟨by rfl, rfl⟩) ?_ ?_
    rotate_left
    · simp only [Act.put, List.setIfInBounds_toArray, List.set_cons_zero, List.set_cons_succ, i64_w, i32_w]
      rfl
    refine pure_ (i := 10) (N := some 17) (v := ?_) (a' := ?_) #[true, true, true, true, true, true, true, true, true, true, true, false, false, false, false, false, false, false, false] rfl rfl (by kernel_rfl) (fun _ _ _ h => h) (Or.inl ⟨by rfl, ?_⟩) ?_ ?_
    rotate_left
    · intro w'
      go_simp
      all_goals (with_reducible rfl)
    rotate_left
    · simp only [Act.put, List.setIfInBounds_toArray, List.set_cons_zero, List.set_cons_succ, i64_w, i32_w]
      rfl
    refine pure_ (i := 11) (N := some 18) (v := ?_) (a' := ?_) #[true, true, true, true, true, true, true, true, true, true, true, true, false, false, false, false, false, false, false] rfl rfl (by kernel_rfl) (fun _ _ _ h => h) (Or.inl ⟨by rfl, ?_⟩) ?_ ?_
    rotate_left
    · intro w'
      go_simp
      all_goals (with_reducible rfl)
    rotate_left
    · simp only [Act.put, List.setIfInBounds_toArray, List.set_cons_zero, List.set_cons_succ, i64_w, i32_w]
      rfl
    refine pure_ (i := 12) (N := some 19) (v := ?_) (a' := ?_) #[true, true, true, true, true, true, true, true, true, true, true, true, true, false, false, false, false, false, false] rfl rfl (by kernel_rfl) (fun _ _ _ h => h) (Or.inl ⟨by rfl, ?_⟩) ?_ ?_
    rotate_left
    · intro w'
      go_simp
      all_goals (with_reducible rfl)
    rotate_left
    · simp only [Act.put, List.setIfInBounds_toArray, List.set_cons_zero, List.set_cons_succ, i64_w, i32_w]
      rfl
    refine pure_ (i := 13) (N := some 20) (v := ?_) (a' := ?_) #[true, true, true, true, true, true, true, true, true, true, true, true, true, true, false, false, false, false, false] rfl rfl (by kernel_rfl) (fun _ _ _ h => h) (Or.inl ⟨by rfl, ?_⟩) ?_ ?_
    rotate_left
    · intro w'
      go_simp
      all_goals (with_reducible rfl)
    rotate_left
    · simp only [Act.put, List.setIfInBounds_toArray, List.set_cons_zero, List.set_cons_succ, i64_w, i32_w]
      rfl
    refine pure_ (i := 15) (N := some 22) (v := ?_) (a' := ?_) #[true, true, true, true, true, true, true, true, true, true, true, true, true, true, false, true, false, false, false] rfl rfl (by kernel_rfl) (fun _ _ _ h => h) (Or.inl ⟨by rfl, ?_⟩) ?_ ?_
    rotate_left
    · intro w'
      go_simp
      all_goals (with_reducible rfl)
    rotate_left
    · simp only [Act.put, List.setIfInBounds_toArray, List.set_cons_zero, List.set_cons_succ, i64_w, i32_w]
      rfl
    refine take_ (i := 14) (N := some 21) (v := ?_) (a' := ?_) #[true, true, true, true, true, true, true, true, true, true, true, true, true, true, true, true, false, false, false] rfl rfl (by kernel_rfl) (fun _ _ _ h => h) (Or.inl ⟨by rfl, ?_⟩) hHeld ?_ ?_
    rotate_left
    · intro w' hSw
      (try dsimp only at hSw)
      go_simp
      all_goals (with_reducible rfl)
    rotate_left
    · simp only [Act.put, List.setIfInBounds_toArray, List.set_cons_zero, List.set_cons_succ, i64_w, i32_w]
      rfl
    refine one_ (i := 16) (N := some 23) #[true, true, true, true, true, true, true, true, true, true, true, true, true, true, true, true, true, false, false] rfl rfl (by kernel_rfl) (by decide) (fun K hK => ?_)
    go_simp
    go_at_call 41
    refine (H1.out.drew.id_).mono ?_
    rintro e wq ⟨rfl, hh, hb⟩
    have H2 := Aside0.mk hh
    have HX2 := Aside0.mk (blk_below (blk_drew HX.out) hb)
    have HB2 := Aside0.mk (below_then (below_drew HB0.out) (below_drew HB0.out).size hb)
    clear hh hb x0 x1 x5 x6 x7 x8 x9
    have x0 := blk_cell HX2.out 0
    have x1 := blk_cell HX2.out 1
    have x5 := blk_cell HX2.out 5
    have x6 := blk_cell HX2.out 6
    have x7 := blk_cell HX2.out 7
    have x8 := blk_cell HX2.out 8
    have x9 := blk_cell HX2.out 9
    (try go_wp2_with fail)
    refine hK.out _ _ (⟨x0, x5⟩) (fun hHeld => ?_)
    clear hK K
    (try simp only [Act.put, List.setIfInBounds_toArray, List.set_cons_zero, List.set_cons_succ])
    refine pure_ (i := 17) (N := some 24) (v := ?_) (a' := ?_) #[true, true, true, true, true, true, true, true, true, true, true, true, true, true, true, true, true, true, false] rfl rfl (by kernel_rfl) (fun _ _ _ h => h) (Or.inl ⟨by rfl, ?_⟩) ?_ ?_
    rotate_left
    · intro w'
      go_simp
      all_goals (with_reducible rfl)
    rotate_left
    · simp only [Act.put, List.setIfInBounds_toArray, List.set_cons_zero, List.set_cons_succ, i64_w, i32_w]
      rfl
    refine pure_ (i := 18) (N := some 25) (v := ?_) (a' := ?_) #[true, true, true, true, true, true, true, true, true, true, true, true, true, true, true, true, true, true, true] rfl rfl (by kernel_rfl) (fun _ _ _ h => h) (Or.inl ⟨by rfl, ?_⟩) ?_ ?_
    rotate_left
    · intro w'
      go_simp
      all_goals (with_reducible rfl)
    rotate_left
    · simp only [Act.put, List.setIfInBounds_toArray, List.set_cons_zero, List.set_cons_succ, i64_w, i32_w]
      rfl
    refine done_ (by kernel_rfl) ?_
    by_cases hp : pg = id
    · subst hp
      have e5 : ((id : Int) != (id : Int)) = false := by simp
      by_cases hll : ls ≤ lsn
      · have hv : redoP id lsn cs ⟨1, ls, tx, pv, un, id, ak, a, b, c, (At, lt, ct), (Ad, ld, cd)⟩ = (cs, lsn, false, 0) := by unfold redoP; rw [if_neg (by simp), if_pos hll]
        have e6 : decide (ls ≤ (lsn : Int)) = true := by simpa using hll
        go_wp2_with fail
        go_region_with ((go_at_call 42; refine (H2.out.drew.lsn_).mono ?_; rintro e wr ⟨rfl, hh, hb⟩; have HB3 := Aside0.mk (below_then (below_drew HB2.out) (below_drew HB2.out).size hb); have HX3 := Aside0.mk (blk_below (blk_drew HX2.out) hb); clear hh hb; have y1 := blk_cell HX3.out 1))
        all_goals
          go_wp2_with fail
          go_ret2
          rw [hv]
          exact ⟨rfl, HH.out.same HB3.out⟩
      · have e6 : decide (ls ≤ (lsn : Int)) = false := by simpa using hll
        go_wp2_with fail
        go_region_with ((go_at_call 42; refine (H2.out.drew.lsn_).mono ?_; rintro e wr ⟨rfl, hh, hb⟩; have HB3 := Aside0.mk (below_then (below_drew HB2.out) (below_drew HB2.out).size hb); have HX3 := Aside0.mk (blk_below (blk_drew HX2.out) hb); have H3 := Aside0.mk hh; clear hh hb; have y1 := blk_cell HX3.out 1))
        all_goals
          clear x0 x1 x5 x6 x7 x8 x9
          have x1 := blk_cell HX3.out 1
          have x6 := blk_cell HX3.out 6
          have x7 := blk_cell HX3.out 7
          have x8 := blk_cell HX3.out 8
          have x9 := blk_cell HX3.out 9
          go_wp2_with fail
          by_cases hd : (actDo cs ak a b c).2 = 0
          · have hv : redoP id lsn cs ⟨1, ls, tx, pv, un, id, ak, a, b, c, (At, lt, ct), (Ad, ld, cd)⟩ = ((actDo cs ak a b c).1, ls.toNat, true, 0) := by unfold redoP; rw [if_neg (by simp), if_neg (by simp; omega), if_neg (by simpa using hd)]
            refine (do_calls H3.out ak a b c ha hb hc).mono ?_
            rintro e w4 ⟨rfl, hA⟩
            have HX4 := Aside0.mk (blk_kept HX3.out hA.kept (fun h => absurd h.2 (by omega)))
            have HA := Aside0.mk (After.pre HB3.out hA)
            rw [hd]
            clear hA x1 x6 x7 x8 x9
            have x1 := blk_cell HX4.out 1
            go_wp2_with fail
            refine (Here.stamp' HA.out.here ls h0 hl).mono ?_
            rintro e w5 ⟨rfl, hh, hk⟩
            have HF := Aside0.mk (show After w0 w w5 ok g id ls.toNat (actDo cs ak a b c).1 from ⟨(hh.bound.mono (fun k hk => hk.1)).mono (fun k hk => by rcases hk with hk | hk; exact .inl hk.1; exact .inr hk), ((HA.out.mono (ok' := ok) (fun k hk => hk.1)).kept).then_ hk (fun k hk => hk.elim (fun h => .inl h.1) .inr)⟩)
            clear hh hk
            go_wp2_with fail
            go_ret2
            rw [hv]
            exact ⟨rfl, HF.out⟩
          · have hv : redoP id lsn cs ⟨1, ls, tx, pv, un, id, ak, a, b, c, (At, lt, ct), (Ad, ld, cd)⟩ = ((actDo cs ak a b c).1, lsn, false, (actDo cs ak a b c).2) := by unfold redoP; rw [if_neg (by simp), if_neg (by simp; omega), if_pos hd]
            refine (do_calls H3.out ak a b c ha hb hc).mono ?_
            rintro e w4 ⟨rfl, hA⟩
            have HA := Aside0.mk (After.pre HB3.out hA)
            have HE := Aside0.mk hv
            have e7 : ((actDo cs ak a b c).2 != 0) = true := by simpa using hd
            clear hA hv hd
            generalize (actDo cs ak a b c).2 = er at e7 HE ⊢
            go_wp2_with fail
            go_ret2
            rw [HE.out]
            exact ⟨rfl, HA.out.mono (fun k hk => hk.1)⟩
    · have e5 : (pg != (id : Int)) = true := by simpa using hp
      have hv : redoP id lsn cs ⟨1, ls, tx, pv, un, pg, ak, a, b, c, (At, lt, ct), (Ad, ld, cd)⟩ = (cs, lsn, false, 1) := by unfold redoP; rw [if_pos (.inr hp)]
      go_wp2_with fail
      go_ret2
      rw [hv]
      exact ⟨rfl, HH.out.same HB2.out⟩

  · by_cases k2 : k = 2
    · subst k2
      refine start_ (n := 19) (S := fun wx => wx.cell? ⟨w.heap.size, 0, none⟩ = some (.int .i64 2) ∧ wx.cell? ⟨w.heap.size, 5, none⟩ = some (.int .i64 pg)) (ds := []) #[false, false, false, false, false, false, false, false, false, false, false, false, false, false, false, false, false, false, false] (by kernel_rfl) rfl rfl (⟨x0, x5⟩) (fun hHeld => ?_)
      refine pure_ (i := 0) (N := some 7) (v := ?_) (a' := ?_) #[true, false, false, false, false, false, false, false, false, false, false, false, false, false, false, false, false, false, false] rfl rfl (by kernel_rfl) (fun _ _ _ h => h) (Or.inl ⟨by rfl, ?_⟩) ?_ ?_
      rotate_left
      · intro w'
        go_simp
        all_goals (with_reducible rfl)
      rotate_left
      · simp only [Act.put, List.setIfInBounds_toArray, List.set_cons_zero, List.set_cons_succ, i64_w, i32_w]
        rfl
      refine pure_ (i := 1) (N := some 8) (v := ?_) (a' := ?_) #[true, true, false, false, false, false, false, false, false, false, false, false, false, false, false, false, false, false, false] rfl rfl (by kernel_rfl) (fun _ _ _ h => h) (Or.inl ⟨by rfl, ?_⟩) ?_ ?_
      rotate_left
      · intro w'
        go_simp
        all_goals (with_reducible rfl)
      rotate_left
      · simp only [Act.put, List.setIfInBounds_toArray, List.set_cons_zero, List.set_cons_succ, i64_w, i32_w]
        rfl
      refine pure_ (i := 2) (N := some 9) (v := ?_) (a' := ?_) #[true, true, true, false, false, false, false, false, false, false, false, false, false, false, false, false, false, false, false] rfl rfl (by kernel_rfl) (fun _ _ _ h => h) (Or.inl ⟨by rfl, ?_⟩) ?_ ?_
      rotate_left
      · intro w'
        go_simp
        all_goals (with_reducible rfl)
      rotate_left
      · simp only [Act.put, List.setIfInBounds_toArray, List.set_cons_zero, List.set_cons_succ, i64_w, i32_w]
        rfl
      refine pure_ (i := 3) (N := some 10) (v := ?_) (a' := ?_) #[true, true, true, true, false, false, false, false, false, false, false, false, false, false, false, false, false, false, false] rfl rfl (by kernel_rfl) (fun _ _ _ h => h) (Or.inl ⟨by rfl, ?_⟩) ?_ ?_
      rotate_left
      · intro w'
        go_simp
        all_goals (with_reducible rfl)
      rotate_left
      · simp only [Act.put, List.setIfInBounds_toArray, List.set_cons_zero, List.set_cons_succ, i64_w, i32_w]
        rfl
      refine take_ (i := 4) (N := some 11) (v := ?_) (a' := ?_) #[true, true, true, true, true, false, false, false, false, false, false, false, false, false, false, false, false, false, false] rfl rfl (by kernel_rfl) (fun _ _ _ h => h) (Or.inl ⟨by rfl, ?_⟩) hHeld ?_ ?_
      rotate_left
      · intro w' hSw
        (try dsimp only at hSw)
        go_simp
        all_goals (with_reducible rfl)
      rotate_left
      · simp only [Act.put, List.setIfInBounds_toArray, List.set_cons_zero, List.set_cons_succ, i64_w, i32_w]
        rfl
      refine pure_ (i := 5) (N := some 12) (v := ?_) (a' := ?_) #[true, true, true, true, true, true, false, false, false, false, false, false, false, false, false, false, false, false, false] rfl rfl (by kernel_rfl) (fun _ _ _ h => h) (Or.inl ⟨by rfl, ?_⟩) ?_ ?_
      rotate_left
      · intro w'
        go_simp
        all_goals (with_reducible rfl)
      rotate_left
      · simp only [Act.put, List.setIfInBounds_toArray, List.set_cons_zero, List.set_cons_succ, i64_w, i32_w]
        rfl
      refine pure_ (i := 6) (N := some 13) (v := ?_) (a' := ?_) #[true, true, true, true, true, true, true, false, false, false, false, false, false, false, false, false, false, false, false] rfl rfl (by kernel_rfl) (fun _ _ _ h => h) (Or.inl ⟨by rfl, ?_⟩) ?_ ?_
      rotate_left
      · intro w'
        go_simp
        all_goals (with_reducible rfl)
      rotate_left
      · simp only [Act.put, List.setIfInBounds_toArray, List.set_cons_zero, List.set_cons_succ, i64_w, i32_w]
        rfl
      refine pure_ (i := 7) (N := some 14) (v := ?_) (a' := ?_) #[true, true, true, true, true, true, true, true, false, false, false, false, false, false, false, false, false, false, false] rfl rfl (by kernel_rfl) (fun _ _ _ h => h) (Or.inl ⟨by rfl, ?_⟩) ?_ ?_
      rotate_left
      · intro w'
        go_simp
        all_goals (with_reducible rfl)
      rotate_left
      · simp only [Act.put, List.setIfInBounds_toArray, List.set_cons_zero, List.set_cons_succ, i64_w, i32_w]
        rfl
      refine take_ (i := 8) (N := some 15) (v := ?_) (a' := ?_) #[true, true, true, true, true, true, true, true, true, false, false, false, false, false, false, false, false, false, false] rfl rfl (by kernel_rfl) (fun _ _ _ h => h) (Or.inl ⟨by rfl, ?_⟩) hHeld ?_ ?_
      rotate_left
      · intro w' hSw
        (try dsimp only at hSw)
        go_simp
        all_goals (with_reducible rfl)
      rotate_left
      · simp only [Act.put, List.setIfInBounds_toArray, List.set_cons_zero, List.set_cons_succ, i64_w, i32_w]
        rfl
      refine pure_ (i := 9) (N := some 16) (v := ?_) (a' := ?_) #[true, true, true, true, true, true, true, true, true, true, false, false, false, false, false, false, false, false, false] rfl rfl (by kernel_rfl) (fun _ _ _ h => h) (Or.inl ⟨by rfl, ?_⟩) ?_ ?_
      rotate_left
      · intro w'
        go_simp
        all_goals (with_reducible rfl)
      rotate_left
      · simp only [Act.put, List.setIfInBounds_toArray, List.set_cons_zero, List.set_cons_succ, i64_w, i32_w]
        rfl
      refine pure_ (i := 10) (N := some 17) (v := ?_) (a' := ?_) #[true, true, true, true, true, true, true, true, true, true, true, false, false, false, false, false, false, false, false] rfl rfl (by kernel_rfl) (fun _ _ _ h => h) (Or.inl ⟨by rfl, ?_⟩) ?_ ?_
      rotate_left
      · intro w'
        go_simp
        all_goals (with_reducible rfl)
      rotate_left
      · simp only [Act.put, List.setIfInBounds_toArray, List.set_cons_zero, List.set_cons_succ, i64_w, i32_w]
        rfl
      refine pure_ (i := 11) (N := some 18) (v := ?_) (a' := ?_) #[true, true, true, true, true, true, true, true, true, true, true, true, false, false, false, false, false, false, false] rfl rfl (by kernel_rfl) (fun _ _ _ h => h) (Or.inl ⟨by rfl, ?_⟩) ?_ ?_
      rotate_left
      · intro w'
        go_simp
        all_goals (with_reducible rfl)
      rotate_left
      · simp only [Act.put, List.setIfInBounds_toArray, List.set_cons_zero, List.set_cons_succ, i64_w, i32_w]
        rfl
      refine pure_ (i := 12) (N := some 19) (v := ?_) (a' := ?_) #[true, true, true, true, true, true, true, true, true, true, true, true, true, false, false, false, false, false, false] rfl rfl (by kernel_rfl) (fun _ _ _ h => h) (Or.inl ⟨by rfl, ?_⟩) ?_ ?_
      rotate_left
      · intro w'
        go_simp
        all_goals (with_reducible rfl)
      rotate_left
      · simp only [Act.put, List.setIfInBounds_toArray, List.set_cons_zero, List.set_cons_succ, i64_w, i32_w]
        rfl
      refine pure_ (i := 13) (N := some 20) (v := ?_) (a' := ?_) #[true, true, true, true, true, true, true, true, true, true, true, true, true, true, false, false, false, false, false] rfl rfl (by kernel_rfl) (fun _ _ _ h => h) (Or.inl ⟨by rfl, ?_⟩) ?_ ?_
      rotate_left
      · intro w'
        go_simp
        all_goals (with_reducible rfl)
      rotate_left
      · simp only [Act.put, List.setIfInBounds_toArray, List.set_cons_zero, List.set_cons_succ, i64_w, i32_w]
        rfl
      refine pure_ (i := 15) (N := some 22) (v := ?_) (a' := ?_) #[true, true, true, true, true, true, true, true, true, true, true, true, true, true, false, true, false, false, false] rfl rfl (by kernel_rfl) (fun _ _ _ h => h) (Or.inl ⟨by rfl, ?_⟩) ?_ ?_
      rotate_left
      · intro w'
        go_simp
        all_goals (with_reducible rfl)
      rotate_left
      · simp only [Act.put, List.setIfInBounds_toArray, List.set_cons_zero, List.set_cons_succ, i64_w, i32_w]
        rfl
      refine take_ (i := 14) (N := some 21) (v := ?_) (a' := ?_) #[true, true, true, true, true, true, true, true, true, true, true, true, true, true, true, true, false, false, false] rfl rfl (by kernel_rfl) (fun _ _ _ h => h) (Or.inl ⟨by rfl, ?_⟩) hHeld ?_ ?_
      rotate_left
      · intro w' hSw
        (try dsimp only at hSw)
        go_simp
        all_goals (with_reducible rfl)
      rotate_left
      · simp only [Act.put, List.setIfInBounds_toArray, List.set_cons_zero, List.set_cons_succ, i64_w, i32_w]
        rfl
      refine one_ (i := 16) (N := some 23) #[true, true, true, true, true, true, true, true, true, true, true, true, true, true, true, true, true, false, false] rfl rfl (by kernel_rfl) (by decide) (fun K hK => ?_)
      go_simp
      go_at_call 41
      refine (H1.out.drew.id_).mono ?_
      rintro e wq ⟨rfl, hh, hb⟩
      have H2 := Aside0.mk hh
      have HX2 := Aside0.mk (blk_below (blk_drew HX.out) hb)
      have HB2 := Aside0.mk (below_then (below_drew HB0.out) (below_drew HB0.out).size hb)
      clear hh hb x0 x1 x5 x6 x7 x8 x9
      have x0 := blk_cell HX2.out 0
      have x1 := blk_cell HX2.out 1
      have x5 := blk_cell HX2.out 5
      have x6 := blk_cell HX2.out 6
      have x7 := blk_cell HX2.out 7
      have x8 := blk_cell HX2.out 8
      have x9 := blk_cell HX2.out 9
      (try go_wp2_with fail)
      refine hK.out _ _ (⟨x0, x5⟩) (fun hHeld => ?_)
      clear hK K
      (try simp only [Act.put, List.setIfInBounds_toArray, List.set_cons_zero, List.set_cons_succ])
      refine pure_ (i := 17) (N := some 24) (v := ?_) (a' := ?_) #[true, true, true, true, true, true, true, true, true, true, true, true, true, true, true, true, true, true, false] rfl rfl (by kernel_rfl) (fun _ _ _ h => h) (Or.inl ⟨by rfl, ?_⟩) ?_ ?_
      rotate_left
      · intro w'
        go_simp
        all_goals (with_reducible rfl)
      rotate_left
      · simp only [Act.put, List.setIfInBounds_toArray, List.set_cons_zero, List.set_cons_succ, i64_w, i32_w]
        rfl
      refine pure_ (i := 18) (N := some 25) (v := ?_) (a' := ?_) #[true, true, true, true, true, true, true, true, true, true, true, true, true, true, true, true, true, true, true] rfl rfl (by kernel_rfl) (fun _ _ _ h => h) (Or.inl ⟨by rfl, ?_⟩) ?_ ?_
      rotate_left
      · intro w'
        go_simp
        all_goals (with_reducible rfl)
      rotate_left
      · simp only [Act.put, List.setIfInBounds_toArray, List.set_cons_zero, List.set_cons_succ, i64_w, i32_w]
        rfl
      refine done_ (by kernel_rfl) ?_
      by_cases hp : pg = id
      · subst hp
        have e5 : ((id : Int) != (id : Int)) = false := by simp
        by_cases hll : ls ≤ lsn
        · have hv : redoP id lsn cs ⟨2, ls, tx, pv, un, id, ak, a, b, c, (At, lt, ct), (Ad, ld, cd)⟩ = (cs, lsn, false, 0) := by unfold redoP; rw [if_neg (by simp), if_pos hll]
          have e6 : decide (ls ≤ (lsn : Int)) = true := by simpa using hll
          go_wp2_with fail
          go_region_with ((go_at_call 42; refine (H2.out.drew.lsn_).mono ?_; rintro e wr ⟨rfl, hh, hb⟩; have HB3 := Aside0.mk (below_then (below_drew HB2.out) (below_drew HB2.out).size hb); have HX3 := Aside0.mk (blk_below (blk_drew HX2.out) hb); clear hh hb; have y1 := blk_cell HX3.out 1))
          all_goals
            go_wp2_with fail
            go_ret2
            rw [hv]
            exact ⟨rfl, HH.out.same HB3.out⟩
        · have e6 : decide (ls ≤ (lsn : Int)) = false := by simpa using hll
          go_wp2_with fail
          go_region_with ((go_at_call 42; refine (H2.out.drew.lsn_).mono ?_; rintro e wr ⟨rfl, hh, hb⟩; have HB3 := Aside0.mk (below_then (below_drew HB2.out) (below_drew HB2.out).size hb); have HX3 := Aside0.mk (blk_below (blk_drew HX2.out) hb); have H3 := Aside0.mk hh; clear hh hb; have y1 := blk_cell HX3.out 1))
          all_goals
            clear x0 x1 x5 x6 x7 x8 x9
            have x1 := blk_cell HX3.out 1
            have x6 := blk_cell HX3.out 6
            have x7 := blk_cell HX3.out 7
            have x8 := blk_cell HX3.out 8
            have x9 := blk_cell HX3.out 9
            go_wp2_with fail
            by_cases hd : (actDo cs ak a b c).2 = 0
            · have hv : redoP id lsn cs ⟨2, ls, tx, pv, un, id, ak, a, b, c, (At, lt, ct), (Ad, ld, cd)⟩ = ((actDo cs ak a b c).1, ls.toNat, true, 0) := by unfold redoP; rw [if_neg (by simp), if_neg (by simp; omega), if_neg (by simpa using hd)]
              refine (do_calls H3.out ak a b c ha hb hc).mono ?_
              rintro e w4 ⟨rfl, hA⟩
              have HX4 := Aside0.mk (blk_kept HX3.out hA.kept (fun h => absurd h.2 (by omega)))
              have HA := Aside0.mk (After.pre HB3.out hA)
              rw [hd]
              clear hA x1 x6 x7 x8 x9
              have x1 := blk_cell HX4.out 1
              go_wp2_with fail
              refine (Here.stamp' HA.out.here ls h0 hl).mono ?_
              rintro e w5 ⟨rfl, hh, hk⟩
              have HF := Aside0.mk (show After w0 w w5 ok g id ls.toNat (actDo cs ak a b c).1 from ⟨(hh.bound.mono (fun k hk => hk.1)).mono (fun k hk => by rcases hk with hk | hk; exact .inl hk.1; exact .inr hk), ((HA.out.mono (ok' := ok) (fun k hk => hk.1)).kept).then_ hk (fun k hk => hk.elim (fun h => .inl h.1) .inr)⟩)
              clear hh hk
              go_wp2_with fail
              go_ret2
              rw [hv]
              exact ⟨rfl, HF.out⟩
            · have hv : redoP id lsn cs ⟨2, ls, tx, pv, un, id, ak, a, b, c, (At, lt, ct), (Ad, ld, cd)⟩ = ((actDo cs ak a b c).1, lsn, false, (actDo cs ak a b c).2) := by unfold redoP; rw [if_neg (by simp), if_neg (by simp; omega), if_pos hd]
              refine (do_calls H3.out ak a b c ha hb hc).mono ?_
              rintro e w4 ⟨rfl, hA⟩
              have HA := Aside0.mk (After.pre HB3.out hA)
              have HE := Aside0.mk hv
              have e7 : ((actDo cs ak a b c).2 != 0) = true := by simpa using hd
              clear hA hv hd
              generalize (actDo cs ak a b c).2 = er at e7 HE ⊢
              go_wp2_with fail
              go_ret2
              rw [HE.out]
              exact ⟨rfl, HA.out.mono (fun k hk => hk.1)⟩
      · have e5 : (pg != (id : Int)) = true := by simpa using hp
        have hv : redoP id lsn cs ⟨2, ls, tx, pv, un, pg, ak, a, b, c, (At, lt, ct), (Ad, ld, cd)⟩ = (cs, lsn, false, 1) := by unfold redoP; rw [if_pos (.inr hp)]
        go_wp2_with fail
        go_ret2
        rw [hv]
        exact ⟨rfl, HH.out.same HB2.out⟩
  
    · have e1 : (k != 1) = true := by simpa using k1
      have e2 : (k != 2) = true := by simpa using k2
      refine start_ (n := 19) (S := fun wx => wx.cell? ⟨w.heap.size, 0, none⟩ = some (.int .i64 k) ∧ wx.cell? ⟨w.heap.size, 5, none⟩ = some (.int .i64 pg)) (ds := []) #[false, false, false, false, false, false, false, false, false, false, false, false, false, false, false, false, false, false, false] (by kernel_rfl) rfl rfl (⟨x0, x5⟩) (fun hHeld => ?_)
      refine pure_ (i := 0) (N := some 7) (v := ?_) (a' := ?_) #[true, false, false, false, false, false, false, false, false, false, false, false, false, false, false, false, false, false, false] rfl rfl (by kernel_rfl) (fun _ _ _ h => h) (Or.inl ⟨by rfl, ?_⟩) ?_ ?_
      rotate_left
      · intro w'
        go_simp
        all_goals (with_reducible rfl)
      rotate_left
      · simp only [Act.put, List.setIfInBounds_toArray, List.set_cons_zero, List.set_cons_succ, i64_w, i32_w]
        rfl
      refine pure_ (i := 1) (N := some 8) (v := ?_) (a' := ?_) #[true, true, false, false, false, false, false, false, false, false, false, false, false, false, false, false, false, false, false] rfl rfl (by kernel_rfl) (fun _ _ _ h => h) (Or.inl ⟨by rfl, ?_⟩) ?_ ?_
      rotate_left
      · intro w'
        go_simp
        all_goals (with_reducible rfl)
      rotate_left
      · simp only [Act.put, List.setIfInBounds_toArray, List.set_cons_zero, List.set_cons_succ, i64_w, i32_w]
        rfl
      refine pure_ (i := 2) (N := some 9) (v := ?_) (a' := ?_) #[true, true, true, false, false, false, false, false, false, false, false, false, false, false, false, false, false, false, false] rfl rfl (by kernel_rfl) (fun _ _ _ h => h) (Or.inl ⟨by rfl, ?_⟩) ?_ ?_
      rotate_left
      · intro w'
        go_simp
        all_goals (with_reducible rfl)
      rotate_left
      · simp only [Act.put, List.setIfInBounds_toArray, List.set_cons_zero, List.set_cons_succ, i64_w, i32_w]
        rfl
      refine pure_ (i := 3) (N := some 10) (v := ?_) (a' := ?_) #[true, true, true, true, false, false, false, false, false, false, false, false, false, false, false, false, false, false, false] rfl rfl (by kernel_rfl) (fun _ _ _ h => h) (Or.inl ⟨by rfl, ?_⟩) ?_ ?_
      rotate_left
      · intro w'
        go_simp
        all_goals (with_reducible rfl)
      rotate_left
      · simp only [Act.put, List.setIfInBounds_toArray, List.set_cons_zero, List.set_cons_succ, i64_w, i32_w]
        rfl
      refine take_ (i := 4) (N := some 11) (v := ?_) (a' := ?_) #[true, true, true, true, true, false, false, false, false, false, false, false, false, false, false, false, false, false, false] rfl rfl (by kernel_rfl) (fun _ _ _ h => h) (Or.inl ⟨by rfl, ?_⟩) hHeld ?_ ?_
      rotate_left
      · intro w' hSw
        (try dsimp only at hSw)
        go_simp
        all_goals (with_reducible rfl)
      rotate_left
      · simp only [Act.put, List.setIfInBounds_toArray, List.set_cons_zero, List.set_cons_succ, i64_w, i32_w]
        rfl
      refine pure_ (i := 5) (N := some 12) (v := .bool true) (a' := ?_) #[true, true, true, true, true, true, false, false, false, false, false, false, false, false, false, false, false, false, false] rfl rfl (by kernel_rfl) (fun _ _ _ h => h) (Or.inl ⟨by rfl, ?_⟩) ?_ ?_
      · intro w'
        go_simp
        all_goals simp only [e1]
      rotate_left
      · simp only [Act.put, List.setIfInBounds_toArray, List.set_cons_zero, List.set_cons_succ, i64_w, i32_w]
        rfl
      refine pure_ (i := 6) (N := some 13) (v := ?_) (a' := ?_) #[true, true, true, true, true, true, true, false, false, false, false, false, false, false, false, false, false, false, false] rfl rfl (by kernel_rfl) (fun _ _ _ h => h) (Or.inl ⟨by rfl, ?_⟩) ?_ ?_
      rotate_left
      · intro w'
        go_simp
        all_goals (with_reducible rfl)
      rotate_left
      · simp only [Act.put, List.setIfInBounds_toArray, List.set_cons_zero, List.set_cons_succ, i64_w, i32_w]
        rfl
      refine pure_ (i := 7) (N := some 14) (v := ?_) (a' := ?_) #[true, true, true, true, true, true, true, true, false, false, false, false, false, false, false, false, false, false, false] rfl rfl (by kernel_rfl) (fun _ _ _ h => h) (Or.inl ⟨by rfl, ?_⟩) ?_ ?_
      rotate_left
      · intro w'
        go_simp
        all_goals (with_reducible rfl)
      rotate_left
      · simp only [Act.put, List.setIfInBounds_toArray, List.set_cons_zero, List.set_cons_succ, i64_w, i32_w]
        rfl
      refine take_ (i := 8) (N := some 15) (v := ?_) (a' := ?_) #[true, true, true, true, true, true, true, true, true, false, false, false, false, false, false, false, false, false, false] rfl rfl (by kernel_rfl) (fun _ _ _ h => h) (Or.inl ⟨by rfl, ?_⟩) hHeld ?_ ?_
      rotate_left
      · intro w' hSw
        (try dsimp only at hSw)
        go_simp
        all_goals (with_reducible rfl)
      rotate_left
      · simp only [Act.put, List.setIfInBounds_toArray, List.set_cons_zero, List.set_cons_succ, i64_w, i32_w]
        rfl
      refine pure_ (i := 9) (N := some 16) (v := .bool true) (a' := ?_) #[true, true, true, true, true, true, true, true, true, true, false, false, false, false, false, false, false, false, false] rfl rfl (by kernel_rfl) (fun _ _ _ h => h) (Or.inl ⟨by rfl, ?_⟩) ?_ ?_
      · intro w'
        go_simp
        all_goals simp only [e2]
      rotate_left
      · simp only [Act.put, List.setIfInBounds_toArray, List.set_cons_zero, List.set_cons_succ, i64_w, i32_w]
        rfl
      refine pure_ (i := 10) (N := some 17) (v := ?_) (a' := ?_) #[true, true, true, true, true, true, true, true, true, true, true, false, false, false, false, false, false, false, false] rfl rfl (by kernel_rfl) (fun _ _ _ h => h) (Or.inl ⟨by rfl, ?_⟩) ?_ ?_
      rotate_left
      · intro w'
        go_simp
        all_goals (with_reducible rfl)
      rotate_left
      · simp only [Act.put, List.setIfInBounds_toArray, List.set_cons_zero, List.set_cons_succ, i64_w, i32_w]
        rfl
      refine pure_ (i := 11) (N := some 18) (v := ?_) (a' := ?_) #[true, true, true, true, true, true, true, true, true, true, true, true, false, false, false, false, false, false, false] rfl rfl (by kernel_rfl) (fun _ _ _ h => h) (Or.inl ⟨by rfl, ?_⟩) ?_ ?_
      rotate_left
      · intro w'
        go_simp
        all_goals (with_reducible rfl)
      rotate_left
      · simp only [Act.put, List.setIfInBounds_toArray, List.set_cons_zero, List.set_cons_succ, i64_w, i32_w]
        rfl
      refine pure_ (i := 12) (N := some 19) (v := ?_) (a' := ?_) #[true, true, true, true, true, true, true, true, true, true, true, true, true, false, false, false, false, false, false] rfl rfl (by kernel_rfl) (fun _ _ _ h => h) (Or.inl ⟨by rfl, ?_⟩) ?_ ?_
      rotate_left
      · intro w'
        go_simp
        all_goals (with_reducible rfl)
      rotate_left
      · simp only [Act.put, List.setIfInBounds_toArray, List.set_cons_zero, List.set_cons_succ, i64_w, i32_w]
        rfl
      refine pure_ (i := 13) (N := some 20) (v := undef) (a' := ?_) #[true, true, true, true, true, true, true, true, true, true, true, true, true, true, false, false, false, false, false] rfl rfl (by kernel_rfl) (fun _ _ _ h => h) (Or.inr ⟨by rfl, rfl⟩) ?_ ?_
      rotate_left
      · simp only [Act.put, List.setIfInBounds_toArray, List.set_cons_zero, List.set_cons_succ, i64_w, i32_w]
        rfl
      refine pure_ (i := 15) (N := some 22) (v := undef) (a' := ?_) #[true, true, true, true, true, true, true, true, true, true, true, true, true, true, false, true, false, false, false] rfl rfl (by kernel_rfl) (fun _ _ _ h => h) (Or.inr ⟨by rfl, rfl⟩) ?_ ?_
      rotate_left
      · simp only [Act.put, List.setIfInBounds_toArray, List.set_cons_zero, List.set_cons_succ, i64_w, i32_w]
        rfl
      refine pure_ (i := 14) (N := some 21) (v := undef) (a' := ?_) #[true, true, true, true, true, true, true, true, true, true, true, true, true, true, true, true, false, false, false] rfl rfl (by kernel_rfl) (fun _ _ _ h => h) (Or.inr ⟨by rfl, rfl⟩) ?_ ?_
      rotate_left
      · simp only [Act.put, List.setIfInBounds_toArray, List.set_cons_zero, List.set_cons_succ, i64_w, i32_w]
        rfl
      refine one_ (i := 16) (N := some 23) #[true, true, true, true, true, true, true, true, true, true, true, true, true, true, true, true, true, false, false] rfl rfl (by kernel_rfl) (by decide) (fun K hK => ?_)
      refine skip_ (by rfl) ?_
      refine hK.out _ _ hHeld (fun hHeld => ?_)
      clear hK K
      (try simp only [Act.put, List.setIfInBounds_toArray, List.set_cons_zero, List.set_cons_succ])
      refine pure_ (i := 17) (N := some 24) (v := undef) (a' := ?_) #[true, true, true, true, true, true, true, true, true, true, true, true, true, true, true, true, true, true, false] rfl rfl (by kernel_rfl) (fun _ _ _ h => h) (Or.inr ⟨by rfl, rfl⟩) ?_ ?_
      rotate_left
      · simp only [Act.put, List.setIfInBounds_toArray, List.set_cons_zero, List.set_cons_succ, i64_w, i32_w]
        rfl
      refine pure_ (i := 18) (N := some 25) (v := ?_) (a' := ?_) #[true, true, true, true, true, true, true, true, true, true, true, true, true, true, true, true, true, true, true] rfl rfl (by kernel_rfl) (fun _ _ _ h => h) (Or.inl ⟨by rfl, ?_⟩) ?_ ?_
      rotate_left
      · intro w'
        go_simp
        all_goals (with_reducible rfl)
      rotate_left
      · simp only [Act.put, List.setIfInBounds_toArray, List.set_cons_zero, List.set_cons_succ, i64_w, i32_w]
        rfl
      refine done_ (by kernel_rfl) ?_
      have hv : redoP id lsn cs ⟨k, ls, tx, pv, un, pg, ak, a, b, c, (At, lt, ct), (Ad, ld, cd)⟩ = (cs, lsn, false, 1) := by unfold redoP; rw [if_pos (.inl ⟨k1, k2⟩)]
      go_wp2_with fail
      go_ret2
      rw [hv]
      refine ⟨rfl, HH.out.same (below_drew HB0.out)⟩
  -- END
end
end Go.Proofs.Ytidgfigfebkieaa
end
section
namespace Go.Proofs.Ytidgfigfebkieaa
open Go.RowKit Go.Proofs.YtidgfigfebkieaaW.PrintWords Go.Proofs.YtidgfigfebkieaaW.PrintLast Go.Proofs.YtidgfigfebkieaaW.PrintMore
open Rf
set_option linter.unusedVariables false
set_option linter.unusedSimpArgs false

theorem find_loop (cs : List SGCell) (hl : cs.length ≤ 1000) (id lsn : Int) (key : ByteArray) (d : Nat) : ∀ i : Nat, i + d = cs.length → Ev (fun k => flotillaref06_Find.l0 k key i id lsn cs) (fndN key (cs.drop i) i) := by
  induction d with
  | zero =>
    intro i hi
    refine Ev.step (f := fun _ => some (-1)) (fun k => ?_) ?_
    · simp only [flotillaref06_Find.l0]; rw [if_neg (by omega)]
    · rw [List.drop_eq_nil_of_le (by omega)]; exact Ev.now _
  | succ d ih =>
    intro i hi
    have hlt : i < cs.length := by omega
    rw [fndN_drop key cs i hlt]
    unfold hit
    by_cases hu : (rd_TGCell cs i).f0 = true
    · by_cases hk : (rd_TGCell cs i).f1.toList = key.toList
      · rw [if_pos (by rw [hu, hk]; simp)]
        refine Ev.step (f := fun _ => some (i : Int)) (fun k => ?_) (Ev.now _)
        simp only [flotillaref06_Find.l0]; rw [if_pos (by omega), if_pos (by omega), if_pos hu, if_pos hk]
      · rw [if_neg (by rw [hu]; simpa using hk)]
        refine Ev.step (fun k => ?_) (ih (i + 1) (by omega))
        simp only [flotillaref06_Find.l0]; rw [if_pos (by omega), if_pos (by omega), if_pos hu, if_neg hk, w64 (by omega) (by omega)]; rfl
    · rw [if_neg (by simp [hu])]
      refine Ev.step (fun k => ?_) (ih (i + 1) (by omega))
      simp only [flotillaref06_Find.l0]; rw [if_pos (by omega), if_pos (by omega), if_neg hu, w64 (by omega) (by omega)]; rfl
theorem find_ev (cs : List SGCell) (hl : cs.length ≤ 1000) (id lsn : Int) (key : ByteArray) : Ev (fun k => flotillaref06_Find.f k id lsn cs key) (fnd cs key) := by
  have := find_loop cs hl id lsn key cs.length 0 (by omega)
  rwa [List.drop_zero] at this

theorem trim_ev (id lsn : Int) (cs0 : List SGCell) (d : Nat) : ∀ l : List SGCell, l.length = d → l.length ≤ 1000 → Ev (fun k => flotillaref06_with.l1 k l id lsn cs0) (id, lsn, trimN d l) := by
  induction d with
  | zero =>
    intro l hl _
    refine Ev.step (f := fun _ => some (id, lsn, l)) (fun k => ?_) (Ev.now _)
    simp only [flotillaref06_with.l1]; rw [if_neg (by omega)]
  | succ d ih =>
    intro l hl hm
    have e1 : wrap64 ((l.length : Int) - 1) = (d : Int) := by rw [w64 (by omega) (by omega)]; omega
    by_cases hu : (rd_TGCell l d).f0 = true
    · rw [trimN_used _ l d hl hu]
      refine Ev.step (f := fun _ => some (id, lsn, l)) (fun k => ?_) (Ev.now _)
      simp only [flotillaref06_with.l1]; rw [if_pos (by omega), e1, if_pos (by omega), if_pos (by omega), if_pos hu]
    · rw [trimN_free d l d hl (by simpa using hu)]
      refine Ev.step (fun k => ?_) (ih (l.take d) (by rw [List.length_take]; omega) (by rw [List.length_take]; omega))
      simp only [flotillaref06_with.l1]; rw [if_pos (by omega), e1, if_pos (by omega), if_pos (by omega), if_neg hu, if_pos (by omega)]; rfl

/-- A list whose slot i (one behind the last: a new one) is c. -/
def putAt (cs : List SGCell) (i : Nat) (c : SGCell) : List SGCell := if i = cs.length then cs ++ [c] else cs.set i c
theorem with_loop (cs : List SGCell) (hl : cs.length ≤ 100) (id lsn : Int) (i : Nat) (c : SGCell) (d : Nat) : ∀ j : Nat, j + d = cs.length →
    Ev (fun k => flotillaref06_with.l0 k i ((cs.set i c).take j) j id lsn cs c.f0 c.f1 c.f2) (id, lsn, trim (putAt cs i c)) := by
  induction d with
  | zero =>
    intro j hj
    obtain rfl : j = cs.length := by omega
    by_cases hi : i = cs.length
    · have e : cs.set i c = cs := by rw [hi]; exact List.set_eq_of_length_le (by omega)
      refine Ev.step (f := fun k => flotillaref06_with.j1 k (cs ++ [c]) id lsn cs) (fun k => ?_) ?_
      · simp only [flotillaref06_with.l0]; rw [if_neg (by omega), if_pos (by omega), if_pos (by rw [List.length_take, List.length_set]; omega), e, List.take_length]
      · refine Ev.step (f := fun k => flotillaref06_with.l1 k (cs ++ [c]) id lsn cs) (fun k => rfl) ?_
        unfold putAt trim; rw [if_pos hi]
        exact trim_ev id lsn cs _ _ rfl (by simp; omega)
    · refine Ev.step (f := fun k => flotillaref06_with.j1 k (cs.set i c) id lsn cs) (fun k => ?_) ?_
      · simp only [flotillaref06_with.l0]; rw [if_neg (by omega), if_neg (by omega), List.take_of_length_le (by rw [List.length_set]; omega)]
      · refine Ev.step (f := fun k => flotillaref06_with.l1 k (cs.set i c) id lsn cs) (fun k => rfl) ?_
        unfold putAt trim; rw [if_neg hi]
        exact trim_ev id lsn cs _ _ rfl (by simp; omega)
  | succ d ih =>
    intro j hj
    have hlt : j < cs.length := by omega
    have hs : (cs.set i c).take (j + 1) = (cs.set i c).take j ++ [if i = j then c else rd_TGCell cs j] := by
      rw [List.take_succ_eq_append_getElem (by rw [List.length_set]; exact hlt), List.getElem_set, rd_get cs j hlt]
    have h := ih (j + 1) (by omega)
    rw [hs] at h
    refine Ev.step (fun k => ?_) h
    simp only [flotillaref06_with.l0]
    rw [if_pos (by omega)]
    by_cases e : i = j
    · rw [if_pos (by omega), if_pos (by rw [List.length_take]; omega), w64 (by omega) (by omega), if_pos e]; rfl
    · rw [if_neg (by omega), if_pos (by omega), if_pos (by rw [List.length_take]; omega), w64 (by omega) (by omega), if_neg e]; rfl
theorem with_ev (cs : List SGCell) (hl : cs.length ≤ 100) (id lsn : Int) (i : Nat) (c : SGCell) : Ev (fun k => flotillaref06_with.f k id lsn cs i c.f0 c.f1 c.f2) (id, lsn, trim (putAt cs i c)) := by
  have := with_loop cs hl id lsn i c cs.length 0 (by omega)
  rwa [List.take_zero] at this

theorem trim_last (cs : List SGCell) (h : ∀ c, cs.getLast? = some c → c.f0 = true) : trim cs = cs := by
  unfold trim
  rcases Nat.eq_zero_or_pos cs.length with h0 | h0
  · exact trimN_zero _ _ h0
  · refine trimN_used _ cs (cs.length - 1) (by omega) ?_
    rw [rd_get cs _ (by omega)]
    exact h _ (by rw [List.getLast?_eq_getElem?, List.getElem?_eq_getElem])
theorem putAt_ins (cs : List SGCell) (c : SGCell) : putAt cs (frs cs) c = insAt cs c := rfl
theorem insAt_last (cs : List SGCell) (hv : Valid cs) (key value : ByteArray) : ∀ c, (insAt cs (cel key value)).getLast? = some c → c.f0 = true := by
  intro c hc
  unfold insAt at hc
  split at hc
  · rw [List.getLast?_append] at hc; simp at hc; rw [← hc]; rfl
  · rename_i hne
    have hle := frs_le cs
    rw [List.getLast?_eq_getElem?, List.length_set, List.getElem?_set] at hc
    split at hc
    · split at hc
      · rw [← Option.some.inj hc]; rfl
      · simp at hc
    · rw [← List.getLast?_eq_getElem?] at hc; exact hv.last c hc
theorem small_insAt (cs : List SGCell) (hv : Valid cs) (key value : ByteArray) (hm : mayB key value = true) : Small (insAt cs (cel key value)) := by
  have h := (mayB_iff _ _).1 hm
  have hs := hv.small
  have hl := hv.len
  unfold insAt
  split
  · refine ⟨by simp; omega, fun c hc => ?_⟩
    rcases List.mem_append.1 hc with hc | hc
    · exact hs.2 c hc
    · rw [List.mem_singleton.1 hc]; show key.size ≤ 1000 ∧ value.size ≤ 1000; omega
  · refine ⟨by simp; omega, fun c hc => ?_⟩
    rcases List.mem_or_eq_of_mem_set hc with hc | rfl
    · exact hs.2 c hc
    · show key.size ≤ 1000 ∧ value.size ≤ 1000; omega
theorem may_f (key value : ByteArray) : flotillaref06_May.f key value = some (mayB key value) := by
  unfold flotillaref06_May.f mayB
  by_cases h1 : (key.size : Int) ≥ 1
  · by_cases h2 : (key.size : Int) ≤ 16
    · rw [if_pos h1, if_pos h2]
      congr 1
      rw [Bool.eq_iff_iff]; simp; omega
    · rw [if_pos h1, if_neg h2]
      congr 1
      rw [Bool.eq_iff_iff]; simp; omega
  · rw [if_neg h1]
    congr 1
    rw [Bool.eq_iff_iff]; simp; omega
theorem insj_ev (cs : List SGCell) (hv : Valid cs) (id lsn : Int) (key value : ByteArray) (hm : mayB key value = true) (hf : fnd cs key < 0) :
    Ev (fun k => flotillaref06_Insert.j1 k key value (frs cs : Nat) id lsn cs) (id, lsn, (ins cs key value).1, (ins cs key value).2) := by
  have hl := hv.len
  have hle := frs_le cs
  have hw := with_ev cs (by omega) id lsn (frs cs) (cel key value)
  rw [putAt_ins, trim_last _ (insAt_last cs hv key value)] at hw
  have hfr := insAt_free cs hv.zero key value
  have hfe := free_ev (insAt cs (cel key value)) (small_insAt cs hv key value hm) id lsn
  refine Ev.step (f := fun k => (flotillaref06_with.f k id lsn cs (frs cs : Nat) true key value).bind fun bt163 => (if ((frs cs : Nat) : Int) ≥ 64 then (some (id, lsn, cs, 7)) else ((flotillaref06_Free.f k bt163.1 bt163.2.1 bt163.2.2).bind fun t169 => (if t169 < 0 then (some (id, lsn, cs, 7)) else (some (bt163.1, bt163.2.1, bt163.2.2, 0)))))) (fun k => rfl) ?_
  refine Ev.bind hw ?_
  unfold ins
  rw [if_pos hm, if_neg (by omega)]
  by_cases h64 : frs cs = 64
  · rw [if_pos (.inl h64)]
    simp only [h64]
    exact Ev.now _
  · have e : ¬ ((frs cs : Nat) : Int) ≥ 64 := by omega
    simp only [if_neg e]
    refine Ev.bind hfe ?_
    by_cases hr : free cs < insNeed cs key value
    · simp only [if_pos (show free (insAt cs (cel key value)) < 0 by omega)]
      rw [if_pos (show frs cs = 64 ∨ free cs < insNeed cs key value from .inr hr)]
      exact Ev.now _
    · simp only [if_neg (show ¬ free (insAt cs (cel key value)) < 0 by omega)]
      rw [if_neg (show ¬ (frs cs = 64 ∨ free cs < insNeed cs key value) by omega)]
      exact Ev.now _
theorem insl_ev (cs : List SGCell) (hv : Valid cs) (id lsn : Int) (key value : ByteArray) (hm : mayB key value = true) (hf : fnd cs key < 0) (d : Nat) : ∀ i : Nat, i + d = frs cs →
    Ev (fun k => flotillaref06_Insert.l0 k key value i id lsn cs) (id, lsn, (ins cs key value).1, (ins cs key value).2) := by
  have hl := hv.len
  have hle := frs_le cs
  induction d with
  | zero =>
    intro i hi
    obtain rfl : i = frs cs := by omega
    refine Ev.step (fun k => ?_) (insj_ev cs hv id lsn key value hm hf)
    simp only [flotillaref06_Insert.l0]
    by_cases h : frs cs < cs.length
    · rw [if_pos (by omega), if_pos (by omega), if_neg (by rw [frs_free cs h]; simp)]
    · rw [if_neg (by omega)]
  | succ d ih =>
    intro i hi
    refine Ev.step (fun k => ?_) (ih (i + 1) (by omega))
    simp only [flotillaref06_Insert.l0]
    rw [if_pos (by omega), if_pos (by omega), if_pos (frs_used cs i (by omega)), w64 (by omega) (by omega)]
    rfl
theorem insert_ev (cs : List SGCell) (hv : Valid cs) (id lsn : Int) (key value : ByteArray) : Ev (fun k => flotillaref06_Insert.f k id lsn cs key value) (id, lsn, (ins cs key value).1, (ins cs key value).2) := by
  have hl := hv.len
  unfold flotillaref06_Insert.f
  rw [may_f]
  by_cases hm : mayB key value = true
  · refine Ev.bind (a := mayB key value) (Ev.now _) ?_
    simp only [hm, if_true]
    refine Ev.bind (find_ev cs (by omega) id lsn key) ?_
    by_cases hf : 0 ≤ fnd cs key
    · simp only [if_pos (show fnd cs key ≥ 0 from hf)]
      unfold ins; rw [if_pos hm, if_pos hf]
      exact Ev.now _
    · simp only [if_neg (show ¬ fnd cs key ≥ 0 from hf)]
      exact insl_ev cs hv id lsn key value hm (by omega) (frs cs) 0 (by omega)
  · refine Ev.bind (a := mayB key value) (Ev.now _) ?_
    simp only [hm]
    unfold ins; rw [if_neg hm]
    exact Ev.now _
theorem update_ev (cs : List SGCell) (hv : Valid cs) (id lsn : Int) (key value : ByteArray) : Ev (fun k => flotillaref06_Update.f k id lsn cs key value) (id, lsn, (upd cs key value).1, (upd cs key value).2) := by
  have hl := hv.len
  unfold flotillaref06_Update.f
  rw [may_f]
  by_cases hm : mayB key value = true
  · refine Ev.bind (a := mayB key value) (Ev.now _) ?_
    simp only [hm, if_true]
    refine Ev.bind (find_ev cs (by omega) id lsn key) ?_
    by_cases hf : fnd cs key < 0
    · simp only [if_pos hf]
      unfold upd; rw [if_pos hm, if_pos hf]
      exact Ev.now _
    · simp only [if_neg hf]
      obtain ⟨j, hj, e, hu, hk⟩ := fnd_hit cs key (by omega)
      have hmm := (mayB_iff _ _).1 hm
      have hp : putAt cs j (cel key value) = updAt cs j value := by
        unfold putAt updAt; rw [if_neg (by omega), rd_get cs j hj, hu, hk]; rfl
      have hlast : ∀ c, (updAt cs j value).getLast? = some c → c.f0 = true := by
        intro c hc
        unfold updAt at hc
        rw [List.getLast?_eq_getElem?, List.length_set, List.getElem?_set] at hc
        split at hc
        · rw [← Option.some.inj hc, rd_get cs j hj]; exact hu
        · rw [← List.getLast?_eq_getElem?] at hc; exact hv.last c hc
      have hsm : Small (updAt cs j value) := by
        refine ⟨by unfold updAt; rw [List.length_set]; omega, fun c hc => ?_⟩
        unfold updAt at hc
        rcases List.mem_or_eq_of_mem_set hc with hc | rfl
        · exact hv.small.2 c hc
        · rw [rd_get cs j hj]; exact ⟨(hv.small.2 _ (List.getElem_mem hj)).1, by show value.size ≤ 1000; omega⟩
      have hw := with_ev cs (by omega) id lsn j (cel key value)
      rw [hp, trim_last _ hlast] at hw
      have hfr := updAt_free cs j hj hu value
      rw [e]
      refine Ev.bind hw ?_
      refine Ev.bind (free_ev (updAt cs j value) hsm id lsn) ?_
      unfold upd
      rw [if_pos hm, if_neg hf, e, rd_get cs j hj, Int.toNat_natCast]
      by_cases hr : free cs < (value.size : Int) - (cs[j].f2.size : Int)
      · rw [if_pos hr]
        simp only [if_pos (show free (updAt cs j value) < 0 by omega)]
        exact Ev.now _
      · rw [if_neg hr]
        simp only [if_neg (show ¬ free (updAt cs j value) < 0 by omega)]
        exact Ev.now _
  · refine Ev.bind (a := mayB key value) (Ev.now _) ?_
    simp only [hm]
    unfold upd; rw [if_neg hm]
    exact Ev.now _
end Go.Proofs.Ytidgfigfebkieaa
end
section
namespace Go.Proofs.Ytidgfigfebkieaa
open Go.RowKit Go.Proofs.YtidgfigfebkieaaW.PrintWords Go.Proofs.YtidgfigfebkieaaW.PrintLast Go.Proofs.YtidgfigfebkieaaW.PrintMore
open Rf
set_option linter.unusedVariables false
set_option linter.unusedSimpArgs false

theorem dtrim_ev (id lsn : Int) (cs0 : List SGCell) (d : Nat) : ∀ l : List SGCell, l.length = d → l.length ≤ 1000 → Ev (fun k => flotillaref06_Delete.l0 k l id lsn cs0) (id, lsn, trimN d l, 0) := by
  induction d with
  | zero =>
    intro l hl _
    refine Ev.step (f := fun _ => some (id, lsn, l, 0)) (fun k => ?_) (Ev.now _)
    simp only [flotillaref06_Delete.l0]; rw [if_neg (by omega)]
  | succ d ih =>
    intro l hl hm
    have e1 : wrap64 ((l.length : Int) - 1) = (d : Int) := by rw [w64 (by omega) (by omega)]; omega
    by_cases hu : (rd_TGCell l d).f0 = true
    · rw [trimN_used _ l d hl hu]
      refine Ev.step (f := fun _ => some (id, lsn, l, 0)) (fun k => ?_) (Ev.now _)
      simp only [flotillaref06_Delete.l0]; rw [if_pos (by omega), e1, if_pos (by omega), if_pos (by omega), if_pos hu]
    · rw [trimN_free d l d hl (by simpa using hu)]
      refine Ev.step (fun k => ?_) (ih (l.take d) (by rw [List.length_take]; omega) (by rw [List.length_take]; omega))
      simp only [flotillaref06_Delete.l0]; rw [if_pos (by omega), e1, if_pos (by omega), if_pos (by omega), if_neg hu, if_pos (by omega)]; rfl
theorem delete_ev (cs : List SGCell) (hl : cs.length ≤ 100) (id lsn : Int) (key : ByteArray) : Ev (fun k => flotillaref06_Delete.f k id lsn cs key) (id, lsn, (del cs key).1, (del cs key).2) := by
  unfold flotillaref06_Delete.f
  refine Ev.bind (find_ev cs (by omega) id lsn key) ?_
  unfold del
  by_cases hf : fnd cs key < 0
  · simp only [if_pos hf]
    exact Ev.now _
  · simp only [if_neg hf]
    obtain ⟨j, hj, e, _, _⟩ := fnd_hit cs key (by omega)
    have e1 : wrap64 ((j : Int) + 1) = ((j + 1 : Nat) : Int) := by rw [w64 (by omega) (by omega)]; omega
    have h1 : (cs.take j).length ≤ 100 := by rw [List.length_take]; omega
    have h2 : (cs.drop (j + 1)).length ≤ 100 := by rw [List.length_drop]; omega
    rw [e]
    simp only [if_pos (show (0 : Int) ≤ j by omega), if_pos (show (j : Int) ≤ cs.length by omega), Int.toNat_natCast, Option.bind_some, List.nil_append, List.length_nil, e1, if_pos (show 0 + (cs.take j).length < 3518437208883 by omega), if_pos (show (0 : Int) ≤ ((j + 1 : Nat) : Int) by omega), if_pos (show ((j + 1 : Nat) : Int) ≤ cs.length by omega), if_pos (show (cs.take j).length + (cs.drop (j + 1)).length < 3518437208883 by omega)]
    exact dtrim_ev id lsn cs _ (cs.take j ++ cs.drop (j + 1)) rfl (by rw [List.length_append]; omega)
end Go.Proofs.Ytidgfigfebkieaa
end
section
namespace Go.Proofs.Ytidgfigfebkieaa
open Go.RowKit Go.Proofs.YtidgfigfebkieaaW.PrintWords Go.Proofs.YtidgfigfebkieaaW.PrintLast Go.Proofs.YtidgfigfebkieaaW.PrintMore
open Rf
set_option linter.unusedVariables false
set_option linter.unusedSimpArgs false
section
variable {w0 w : World} {P : Nat → Prop} {v : Value} {cs : List SGCell}
theorem rfind_calls (A : Option Addr) (c : Nat) (hC : Kd.C kGCell w A cs.length cs) (hc : cs.length ≤ c) (hl : cs.length ≤ 1000) (id lsn : Int) (key : ByteArray) :
    Calls Try.prog 36 #[.agg #[.int .i64 id, .int .u64 lsn, .slice A cs.length c], .string key] w fun e w' => e = .returned (.int .i64 (fnd cs key)) ∧ Below w.heap.size w w' := by
  obtain ⟨k, hk⟩ := find_ev cs hl id lsn key
  exact flotillaref06_Find.calls k id lsn A c cs key _ w hC hc (hk k (Nat.le_refl _))
theorem rins2_calls (hB : Below w0.heap.size w0 w) (hR : Kd.R kGCell 86 w w0.heap.size P v cs) (hv : Valid cs) (id lsn : Int) (key value : ByteArray) :
    Calls Try.prog 31 #[.agg #[.int .i64 id, .int .u64 lsn, v], .string key, .string value] w fun e w' => ∃ v', e = .returned (.tuple #[.agg #[.int .i64 id, .int .u64 lsn, v'], .int .i64 (ins cs key value).2]) ∧
      Kd.R kGCell 86 w' w0.heap.size (fun k => P k ∨ w.heap.size ≤ k) v' (ins cs key value).1 ∧ Below w0.heap.size w0 w' ∧ Kept w w' P ∧ ((ins cs key value).2 ≠ 0 → v' = v) := by
  obtain ⟨k, hk⟩ := insert_ev cs hv id lsn key value
  exact flotillaref06_Insert.calls k id lsn P v cs key value _ _ _ _ w0 w hB hR (hk k (Nat.le_refl _))
theorem rins_calls (hB : Below w0.heap.size w0 w) (hR : Kd.R kGCell 86 w w0.heap.size P v cs) (hv : Valid cs) (id lsn : Int) (key value : ByteArray) :
    Calls Try.prog 31 #[.agg #[.int .i64 id, .int .u64 lsn, v], .string key, .string value] w fun e w' => ∃ v', e = .returned (.tuple #[.agg #[.int .i64 id, .int .u64 lsn, v'], .int .i64 (ins cs key value).2]) ∧
      Kd.R kGCell 86 w' w0.heap.size (fun k => P k ∨ w.heap.size ≤ k) v' (ins cs key value).1 ∧ Below w0.heap.size w0 w' ∧ Kept w w' P := by
  refine (rins2_calls hB hR hv id lsn key value).mono ?_
  rintro e w' ⟨v', rfl, r1, r2, r3, _⟩
  exact ⟨v', rfl, r1, r2, r3⟩
theorem rupd2_calls (hB : Below w0.heap.size w0 w) (hR : Kd.R kGCell 86 w w0.heap.size P v cs) (hv : Valid cs) (id lsn : Int) (key value : ByteArray) :
    Calls Try.prog 37 #[.agg #[.int .i64 id, .int .u64 lsn, v], .string key, .string value] w fun e w' => ∃ v', e = .returned (.tuple #[.agg #[.int .i64 id, .int .u64 lsn, v'], .int .i64 (upd cs key value).2]) ∧
      Kd.R kGCell 86 w' w0.heap.size (fun k => P k ∨ w.heap.size ≤ k) v' (upd cs key value).1 ∧ Below w0.heap.size w0 w' ∧ Kept w w' P ∧ ((upd cs key value).2 ≠ 0 → v' = v) := by
  obtain ⟨k, hk⟩ := update_ev cs hv id lsn key value
  exact flotillaref06_Update.calls k id lsn P v cs key value _ _ _ _ w0 w hB hR (hk k (Nat.le_refl _))
theorem rupd_calls (hB : Below w0.heap.size w0 w) (hR : Kd.R kGCell 86 w w0.heap.size P v cs) (hv : Valid cs) (id lsn : Int) (key value : ByteArray) :
    Calls Try.prog 37 #[.agg #[.int .i64 id, .int .u64 lsn, v], .string key, .string value] w fun e w' => ∃ v', e = .returned (.tuple #[.agg #[.int .i64 id, .int .u64 lsn, v'], .int .i64 (upd cs key value).2]) ∧
      Kd.R kGCell 86 w' w0.heap.size (fun k => P k ∨ w.heap.size ≤ k) v' (upd cs key value).1 ∧ Below w0.heap.size w0 w' ∧ Kept w w' P := by
  refine (rupd2_calls hB hR hv id lsn key value).mono ?_
  rintro e w' ⟨v', rfl, r1, r2, r3, _⟩
  exact ⟨v', rfl, r1, r2, r3⟩
theorem rdel_calls (hB : Below w0.heap.size w0 w) (hR : Kd.R kGCell 86 w w0.heap.size P v cs) (hl : cs.length ≤ 100) (id lsn : Int) (key : ByteArray) :
    Calls Try.prog 38 #[.agg #[.int .i64 id, .int .u64 lsn, v], .string key] w fun e w' => ∃ v', e = .returned (.tuple #[.agg #[.int .i64 id, .int .u64 lsn, v'], .int .i64 (del cs key).2]) ∧
      Kd.R kGCell 86 w' w0.heap.size (fun k => P k ∨ w.heap.size ≤ k) v' (del cs key).1 ∧ Below w0.heap.size w0 w' ∧ Kept w w' P := by
  obtain ⟨k, hk⟩ := delete_ev cs hl id lsn key
  exact flotillaref06_Delete.calls k id lsn P v cs key _ _ _ _ w0 w hB hR (hk k (Nat.le_refl _))
end
end Go.Proofs.Ytidgfigfebkieaa
end
