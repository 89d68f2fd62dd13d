/- Records that came in, their rows with them: their kind, and laid open. -/
import Derived.Test.YtaahfokdgfopcaaZRe
import Derived.Test.YtaahfokdgfopcaaZOl
import Derived.Laws.IdiomArrays
namespace Go.Proofs.Ytaahfokdgfopcaa
open Go.RowKit Go.Proofs.YtaahfokdgfopcaaW.PrintWords Go.Proofs.YtaahfokdgfopcaaW.PrintLast Go.Proofs.YtaahfokdgfopcaaW.PrintMore
open Go.ChangeShapes Go.WideShapes Go.ChangeAt Go.Deep Go.Joins
open Rf
set_option linter.unusedVariables false
set_option linter.unusedSimpArgs false
/-- A record and the rows that it leads to. -/
structure SRc where
  k : Int
  ls : Int
  tx : Int
  pv : Int
  un : Int
  pg : Int
  ak : Int
  a : ByteArray
  b : ByteArray
  c : ByteArray
  At : Option Addr
  Ad : Option Addr
  l : List SGTxn
  m : List SGDirty
  ct : Nat
  cd : Nat
def SRc.out (x : SRc) : List Value := [.int .i64 x.k, .int .u64 x.ls, .int .i64 x.tx, .int .u64 x.pv, .int .u64 x.un, .int .i64 x.pg, .int .i64 x.ak, .string x.a, .string x.b, .string x.c, .slice x.At x.l.length x.ct, .slice x.Ad x.m.length x.cd]
/-- What is known of one. -/
structure OkRc (w : World) (x : SRc) : Prop where
  ls : 0 ≤ x.ls ∧ x.ls < 18446744073709551616
  pv : 0 ≤ x.pv ∧ x.pv < 18446744073709551616
  un : 0 ≤ x.un ∧ x.un < 18446744073709551616
  sa : x.a.size ≤ 140737488351232
  sb : x.b.size ≤ 140737488351232
  sc : x.c.size ≤ 140737488351232
  hT : Kd.C kGTxn w x.At x.l.length x.l
  hTc : x.l.length ≤ x.ct
  hD : Kd.C kGDirty w x.Ad x.m.length x.m
  hDc : x.m.length ≤ x.cd
  nl : x.l.length ≤ 140737488351232
  nm : x.m.length ≤ 140737488351232
theorem OkRc.below {w w' : World} {x : SRc} (h : OkRc w x) (hb : Below w.heap.size w w') : OkRc w' x :=
  ⟨h.ls, h.pv, h.un, h.sa, h.sb, h.sc, Kd.C_below h.hT hb, h.hTc, Kd.C_below h.hD hb, h.hDc, h.nl, h.nm⟩
def kRc : Kd SRc where
  sz := 12
  E := []
  K := fun w x cs => cs = x.out ∧ OkRc w x
  M := fun _ _ _ _ _ => False
  K_len := by rintro w x cs ⟨rfl, _⟩; rfl
  K_one := by
    rintro w x cs ⟨rfl, _⟩ u hu
    simp only [SRc.out, List.mem_cons, List.not_mem_nil, or_false] at hu
    rcases hu with rfl | rfl | rfl | rfl | rfl | rfl | rfl | rfl | rfl | rfl | rfl | rfl <;> rfl
  K_below := fun hb h => ⟨h.1, h.2.below hb⟩
  K_of_M := fun h => h.elim
  M_mono := fun _ h => h.elim
  M_bound := fun h => h.elim
  M_move := fun _ h => h.elim
  M_lower := fun _ h => h.elim
def zRc : SRc := ⟨0, 0, 0, 0, 0, 0, 0, ⟨#[]⟩, ⟨#[]⟩, ⟨#[]⟩, none, none, [], [], 0, 0⟩
/-- The same as the print has it. -/
def SRc.toG (x : SRc) : SGRecord := ⟨x.k, x.ls, x.tx, x.pv, x.un, x.pg, ⟨x.ak, x.a, x.b, x.c⟩, x.l, x.m⟩
/-- What is known of a record that came in. -/
structure Okx (x : SGRecord) : Prop where
  ls : 0 ≤ x.f1 ∧ x.f1 < 18446744073709551616
  pv : 0 ≤ x.f3 ∧ x.f3 < 18446744073709551616
  un : 0 ≤ x.f4 ∧ x.f4 < 18446744073709551616
  sa : x.f6.f1.size ≤ 140737488351232
  sb : x.f6.f2.size ≤ 140737488351232
  sc : x.f6.f3.size ≤ 140737488351232
  nl : x.f7.length ≤ 140737488351232
  nm : x.f8.length ≤ 140737488351232
theorem C_toG {w : World} {A : Option Addr} {n : Nat} {xs : List SRc} (h : Kd.C kRc w A n xs) : Kd.C kGRecord w A n (xs.map SRc.toG) := by
  refine ⟨by rw [List.length_map]; exact h.1, h.2.1, fun hn => ?_⟩
  obtain ⟨ad, e, hc⟩ := h.2.2 hn
  refine ⟨ad, e, fun j o hj => ?_⟩
  rw [List.getElem?_map] at hj
  cases hx : xs[j]? with
  | none => rw [hx] at hj; cases hj
  | some x =>
    rw [hx] at hj
    have hj := Option.some.inj hj
    subst hj
    obtain ⟨c, h1, ⟨rfl, ho⟩, h3⟩ := hc j x hx
    exact ⟨_, h1, kGRecord_mk w x.toG ho.hTc ho.hT ho.hDc ho.hD, h3⟩
theorem ok_toG {w : World} {x : SRc} (h : OkRc w x) : Okx x.toG := ⟨h.ls, h.pv, h.un, h.sa, h.sb, h.sc, h.nl, h.nm⟩
/-- May a record be? -/
def okR (x : SGRecord) : Bool := recOk x.f0 x.f1 x.f2 x.f3 x.f4 x.f5 x.f6.f0 x.f6.f1 x.f6.f2 x.f6.f3 x.f7 x.f8
end Go.Proofs.Ytaahfokdgfopcaa
