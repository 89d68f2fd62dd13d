/- Layer 12: numbers from 0 to 99 as texts, in plain words. -/
import Derived.Test.YtgjjfldfdkoedaaTc
import Derived.Test.YtgjjfldfdkoedaaGd
import Derived.Test.YtgjjfldfdkoedaaL12c
import Derived.Test.YtgjjfldfdkoedaaRf4
namespace Go.Proofs.Ytgjjfldfdkoedaa
open Go.RowKit Go.Proofs.YtgjjfldfdkoedaaW.PrintWords Go.Proofs.YtgjjfldfdkoedaaW.PrintLast Go.Proofs.YtgjjfldfdkoedaaW.PrintMore
open Rf MapL Graph
set_option linter.unusedVariables false
set_option linter.unusedSimpArgs false
/-- A number as a text. -/
def nm (n : Int) : ByteArray := strOfNums (([(wrap64 (48 + (wrap64 (Int.tdiv n 10)))) % 256, (wrap64 (48 + (Int.tmod n 10))) % 256] : List Int))
def nmp (p : Int × Int) : ByteArray × ByteArray := (nm p.1, nm p.2)
theorem named_calls (w : World) (n : Int) : Calls Try.prog 28 #[.int .i64 n] w fun e w' => e = .returned (.string (nm n)) ∧ Below w.heap.size w w' :=
  flotillalaw12_named.calls n _ w rfl
def In99 (n : Int) : Prop := 0 ≤ n ∧ n ≤ 99
theorem nm_lt_fin : ∀ m n : Fin 100, m.val < n.val → bl (nm (m.val : Int)) < bl (nm (n.val : Int)) := by decide +kernel
theorem nm_lt {m n : Int} (hm : In99 m) (hn : In99 n) (h : m < n) : ltB (nm m) (nm n) := by
  have := nm_lt_fin ⟨m.toNat, by have := hm.1; have := hm.2; omega⟩ ⟨n.toNat, by have := hn.1; have := hn.2; omega⟩ (by have := hm.1; show m.toNat < n.toNat; omega)
  rw [show (((⟨m.toNat, by have := hm.1; have := hm.2; omega⟩ : Fin 100).val : Nat) : Int) = m from by have := hm.1; show ((m.toNat : Nat) : Int) = m; omega, show (((⟨n.toNat, by have := hn.1; have := hn.2; omega⟩ : Fin 100).val : Nat) : Int) = n from by have := hn.1; show ((n.toNat : Nat) : Int) = n; omega] at this
  exact this
theorem nm_inj {m n : Int} (hm : In99 m) (hn : In99 n) (h : nm m = nm n) : m = n := by
  rcases Int.lt_trichotomy m n with h1 | h1 | h1
  · have := nm_lt hm hn h1
    rw [h] at this
    exact absurd this (List.lt_irrefl _)
  · exact h1
  · have := nm_lt hn hm h1
    rw [h] at this
    exact absurd this (List.lt_irrefl _)
def InE (E : List (Int × Int)) : Prop := ∀ p ∈ E, In99 p.1 ∧ In99 p.2
theorem nmp_inj {p q : Int × Int} (hp : In99 p.1 ∧ In99 p.2) (hq : In99 q.1 ∧ In99 q.2) (h : nmp p = nmp q) : p = q := by
  obtain ⟨p1, p2⟩ := p
  obtain ⟨q1, q2⟩ := q
  obtain ⟨e1, e2⟩ := Prod.mk.inj h
  exact Prod.ext (nm_inj hp.1 hq.1 e1) (nm_inj hp.2 hq.2 e2)
theorem add_map {E : List (Int × Int)} (hE : InE E) {p : Int × Int} (hp : In99 p.1 ∧ In99 p.2) : addK (E.map nmp) (nmp p) = (addK E p).map nmp := by
  by_cases h : p ∈ E
  · rw [addK_in h, addK_in (List.mem_map.2 ⟨p, h, rfl⟩)]
  · rw [addK_new h, addK_new, List.map_append]; · rfl
    intro q
    obtain ⟨p', hp', e⟩ := List.mem_map.1 q
    exact h (by rw [← nmp_inj (hE _ hp') hp e]; exact hp')
theorem reach_fwd {E : List (Int × Int)} {a b : Int} (h : Graph.Reach E a b) : Graph.Reach (E.map nmp) (nm a) (nm b) := by
  induction h with
  | edge h => exact .edge (List.mem_map.2 ⟨_, h, rfl⟩)
  | step h _ ih => exact .step (List.mem_map.2 ⟨_, h, rfl⟩) ih
theorem reach_back {E : List (Int × Int)} (hE : InE E) {u v : ByteArray} (h : Graph.Reach (E.map nmp) u v) : ∃ a b, u = nm a ∧ v = nm b ∧ In99 a ∧ In99 b ∧ Graph.Reach E a b := by
  induction h with
  | edge h =>
    obtain ⟨⟨a, b⟩, hm, e⟩ := List.mem_map.1 h
    obtain ⟨e1, e2⟩ := Prod.mk.inj e
    exact ⟨a, b, e1.symm, e2.symm, (hE _ hm).1, (hE _ hm).2, .edge hm⟩
  | step h _ ih =>
    obtain ⟨⟨a, c⟩, hm, e⟩ := List.mem_map.1 h
    obtain ⟨e1, e2⟩ := Prod.mk.inj e
    obtain ⟨c', b, e3, e4, hc, hb, hr⟩ := ih
    have e2' : nm c = nm c' := e2.trans e3
    obtain rfl := nm_inj (hE _ hm).2 hc e2'
    exact ⟨a, b, e1.symm, e4, (hE _ hm).1, hb, .step hm hr⟩
theorem reach_map {E : List (Int × Int)} (hE : InE E) {a b : Int} (ha : In99 a) (hb : In99 b) : Graph.Reach (E.map nmp) (nm a) (nm b) ↔ Graph.Reach E a b := by
  constructor
  · intro h
    obtain ⟨a', b', e1, e2, ha', hb', hr⟩ := reach_back hE h
    obtain rfl := nm_inj ha ha' e1
    obtain rfl := nm_inj hb hb' e2
    exact hr
  · exact reach_fwd
theorem ring_in {E : List (Int × Int)} (hE : InE E) {a : Int} {L : List Int} (h : RingL (· < ·) E a L) : ∀ x ∈ L, In99 x := fun x hx => by
  obtain ⟨c, hc⟩ := ((h.mem x).1 hx).1.last
  exact (hE _ hc).2
/-- The ring of texts is the ring of numbers. -/
theorem ring_map {E : List (Int × Int)} (hE : InE E) {a : Int} (ha : In99 a) {L : List Int} (h : RingL (· < ·) E a L) : RingL ltB (E.map nmp) (nm a) (L.map nm) := by
  refine ⟨?_, fun x => ?_⟩
  · rw [List.pairwise_map]
    exact List.Pairwise.imp_of_mem (fun {x y} hx hy hlt => nm_lt (ring_in hE h x hx) (ring_in hE h y hy) hlt) h.sorted
  · rw [List.mem_map]
    constructor
    · rintro ⟨y, hy, rfl⟩
      exact ⟨reach_fwd ((h.mem y).1 hy).1, reach_fwd ((h.mem y).1 hy).2⟩
    · rintro ⟨h1, h2⟩
      obtain ⟨a', b', e1, e2, ha', hb', hr⟩ := reach_back hE h1
      obtain rfl := nm_inj ha ha' e1
      subst e2
      exact ⟨b', (h.mem b').2 ⟨hr, (reach_map hE hb' ha).1 h2⟩, rfl⟩
end Go.Proofs.Ytgjjfldfdkoedaa
