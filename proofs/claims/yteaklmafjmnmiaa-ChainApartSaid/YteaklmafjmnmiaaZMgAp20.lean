/- Layer 17: ChainNeeds' walk. -/
import Derived.Test.YteaklmafjmnmiaaZMgAp18
import Derived.Test.YteaklmafjmnmiaaZMgAp19
import Derived.Test.YteaklmafjmnmiaaZRf3
import Derived.Test.YteaklmafjmnmiaaZMgApc
section
namespace Go.Proofs.Yteaklmafjmnmiaa
open Go.RowKit Go.Proofs.YteaklmafjmnmiaaW.PrintWords Go.Proofs.YteaklmafjmnmiaaW.PrintLast Go.Proofs.YteaklmafjmnmiaaW.PrintMore
open Rf MapL MapV
set_option linter.unusedVariables false
set_option linter.unusedSimpArgs false
theorem light_ex' (o : SOp) : ∃ r, flotillalaw17_light.f o.k o.ls o.tx o.pv o.un o.pg o.ak o.a o.b o.c o.l o.m = some r := by
  unfold flotillalaw17_light.f
  by_cases h1 : (o.l.length : Int) ≤ 100
  · rw [if_pos h1]
    by_cases h2 : (o.m.length : Int) ≤ 100
    · rw [if_pos h2]; exact ⟨_, rfl⟩
    · rw [if_neg h2]; exact ⟨_, rfl⟩
  · rw [if_neg h1]; exact ⟨_, rfl⟩
section
variable {w0 : Wb} {w w' : World} {t mb : Nat} {bx bx' : Int → Nat} {ks ks' : List Int} {X X' : Int → TX}
theorem Tab.not_own (h : Tab w0 w t mb bx ks X) {q : Nat} (hq : w.heap.size ≤ q) : ¬ own t mb bx ks q := by
  rintro (rfl | rfl | ⟨id, hi, rfl⟩)
  · have := blk_lt h.box; omega
  · have := h.map.lt; omega
  · have := h.lt id hi; omega
/-- A block that is not the table's stays. -/
theorem Tab.keep (h : Tab ⟨w, own t mb bx ks⟩ w' t mb bx' ks' X') {q : Nat} {o : Obj} (hq : w.heap[q]? = some o) (hn : ¬ own t mb bx ks q) : w'.heap[q]? = some o :=
  (h.bel.block q (blk_lt hq) hn).trans hq
end
/-- What the rounds keep of the needs. -/
def NB (ks : List Int) (X : Int → TX) (k : Nat) : Prop := ∀ id ∈ ks, 0 ≤ (X id).need ∧ (X id).need ≤ 3000 * (k : Int) ∧ 0 ≤ (X id).last
theorem rowV_ex (ks : List Int) (X : Int → TX) (id : Int) : ∃ (i s la : Int) (th : Bool), rowV ks X id = .tuple #[.agg #[.int .i64 i, .int .i64 s, .int .u64 la], .bool th] ∧ th = decide (id ∈ ks) ∧ (id ∈ ks → la = (X id).last) ∧ (id ∉ ks → la = 0) := by
  unfold rowV
  by_cases h : id ∈ ks
  · rw [if_pos h]; exact ⟨_, _, _, _, rfl, by simp [h], fun _ => rfl, fun q => absurd h q⟩
  · rw [if_neg h]; exact ⟨_, _, _, _, rfl, by simp [h], fun q => absurd q h, fun _ => rfl⟩
theorem record_any (w : World) (o : SOp) (lst : Int) (at' : Nat) (hl : 0 ≤ lst) (hat : at' < 100) (hpv : 0 ≤ o.pv) (hun : 0 ≤ o.un) :
    Calls Try.prog 19 #[.agg #[.int .i64 o.kd, .int .i64 o.tn, .int .i64 o.nn, .int .i64 o.k, .int .u64 o.ls, .int .i64 o.tx, .int .u64 o.pv, .int .u64 o.un, .int .i64 o.pg, .int .i64 o.ak, .string o.a, .string o.b, .string o.c, .slice o.At o.l.length o.ct, .slice o.Ad o.m.length o.cd], .int .u64 lst, .int .i64 at'] w fun e w' => ∃ ls tx pv un, e = .returned (.agg #[.int .i64 o.k, .int .u64 ls, .int .i64 tx, .int .u64 pv, .int .u64 un, .int .i64 o.pg, .int .i64 o.ak, .string o.a, .string o.b, .string o.c, .slice o.At o.l.length o.ct, .slice o.Ad o.m.length o.cd]) ∧ 0 ≤ pv ∧ 0 ≤ un ∧ (o.kd = 2 → tx = o.tn) ∧ (o.kd ≠ 2 → tx = o.tx) ∧ Below w.heap.size w w' := by
  by_cases h2 : o.kd = 2
  · rw [h2]
    by_cases hu : o.k = 2 ∧ 16 * ((at' : Int) + 1) ≤ o.un
    · rw [hu.1]
      refine (record_un w o.tn o.nn o.ls o.tx o.pv o.un o.pg o.ak o.a o.b o.c o.At o.Ad o.l.length o.ct o.m.length o.cd lst at' hat hu.2).mono ?_
      rintro e w' ⟨rfl, hb⟩
      exact ⟨_, _, _, _, rfl, hl, Int.le_refl _, fun _ => rfl, fun h => absurd rfl h, hb⟩
    · refine (record_nx w o.tn o.nn o.k o.ls o.tx o.pv o.un o.pg o.ak o.a o.b o.c o.At o.Ad o.l.length o.ct o.m.length o.cd lst at' hat (by omega)).mono ?_
      rintro e w' ⟨rfl, hb⟩
      exact ⟨_, _, _, _, rfl, hl, hun, fun _ => rfl, fun h => absurd rfl h, hb⟩
  · refine (record_as w o.kd o.tn o.nn o.k o.ls o.tx o.pv o.un o.pg o.ak o.a o.b o.c o.At o.Ad o.l.length o.ct o.m.length o.cd lst at' h2).mono ?_
    rintro e w' ⟨rfl, hb⟩
    exact ⟨_, _, _, _, rfl, hpv, hun, fun h => absurd h h2, fun _ => rfl, hb⟩
theorem num_pos {k ls tx pv un pg ak : Int} {a b c : ByteArray} {l : List SGTxn} {m : List SGDirty} (h : recOk k ls tx pv un pg ak a b c l m = true) : 0 ≤ ls := by
  unfold recOk numB at h
  simp only [Bool.and_eq_true, decide_eq_true_eq] at h
  obtain ⟨⟨⟨⟨⟨⟨⟨⟨⟨_, _⟩, h1⟩, _⟩, _⟩, _⟩, _⟩, _⟩, _⟩, _⟩ := h
  omega
end Go.Proofs.Yteaklmafjmnmiaa
end
