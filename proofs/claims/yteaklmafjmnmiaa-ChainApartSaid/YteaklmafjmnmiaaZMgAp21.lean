/- chain's savepoints: a table with each transaction's row of savepoints; Mark, Drop, Save. -/
import Derived.Test.YteaklmafjmnmiaaZMgAp20
import Derived.Deep.RegionLaw
section
namespace Go.Proofs.Yteaklmafjmnmiaa
open Go.RowKit Go.Proofs.YteaklmafjmnmiaaW.PrintWords Go.Proofs.YteaklmafjmnmiaaW.PrintLast Go.Proofs.YteaklmafjmnmiaaW.PrintMore
open Rf MapL MapV
set_option linter.unusedVariables false
set_option linter.unusedSimpArgs false
abbrev kU : Kd Int := Kd.int .u64
theorem infoLsn : (Try.prog.info? 31).map (fun i => (i.zero, i.size, i.bytes)) = some (some (.int .u64 0), 1, 8) := by kernel_rfl
theorem lsn_at {w : World} {A : Option Addr} {n : Nat} {l : List Int} (h : Kd.C kU w A n l) (k : Nat) (h1 : k < n) (h2 : k < l.length) : ∃ ad : Addr, A = some ad ∧ w.cell? (ad.add k) = some (.int .u64 l[k]) := by
  obtain ⟨ad, c, e, _, hK, hc⟩ := Kd.C_get h 0 (k : Int) (by omega) (by omega)
  have hK' : c = [.int .u64 (l.getD ((k : Int).toNat) 0)] := hK
  subst hK'
  have h0 := hc 0 _ rfl
  refine ⟨ad, e, ?_⟩
  have e1 : (k : Int).toNat * kU.sz + 0 = k := by
    rw [Int.toNat_natCast]
    show k * 1 + 0 = k
    omega
  rw [e1] at h0
  rw [h0, Int.toNat_natCast, List.getD_eq_getElem?_getD, List.getElem?_eq_getElem h2]
  rfl
/-- A table with its transactions' savepoints. -/
structure TabS (w0 : Wb) (w : World) (t mb : Nat) (bx : Int → Nat) (ks : List Int) (X : Int → TX) (S : Int → List Int) : Prop where
  tab : Tab w0 w t mb bx ks X
  row : ∀ id ∈ ks, Kd.R kU 31 w 0 (fun k => w0.T k) (X id).sv (S id)
  dis : ∀ id ∈ ks, ∀ id' ∈ ks, id ≠ id' → ∀ g, (X id).sv.ownBlock = some g → (X id').sv.ownBlock ≠ some g
section
variable {w0 : Wb} {w w' : World} {t mb : Nat} {bx bx' : Int → Nat} {ks ks' : List Int} {X X' : Int → TX} {S S' : Int → List Int}
theorem kU_E : kU.E = [] := rfl
theorem TabS.next (h : TabS w0 w t mb bx ks X S) (hb : Below w.heap.size w w') : TabS w0 w' t mb bx ks X S :=
  ⟨h.tab.next hb, fun id hi => Kd.R_below (h.row id hi) hb, h.dis⟩
/-- A row's block is none of the table's own. -/
theorem TabS.row_own (h : TabS w0 w t mb bx ks X S) {id : Int} (hi : id ∈ ks) {g : Nat} (hg : (X id).sv.ownBlock = some g) : ¬ own t mb bx ks g := by
  have hr := h.row id hi
  obtain ⟨inner, ho⟩ := Kd.R_own hr
  obtain ⟨cells, hc⟩ := own_typed ho g hg
  rintro (rfl | rfl | ⟨id', hi', rfl⟩)
  · rw [h.tab.box] at hc; injection hc with hc; injection hc with _ h2; exact absurd h2 (by decide)
  · obtain ⟨es, clock, hb⟩ := h.tab.map.block
    rw [hb] at hc; cases hc
  · rw [h.tab.at_ id' hi'] at hc; injection hc with hc; injection hc with _ h2; exact absurd h2 (by decide)
/-- What may be touched, the rows with it. -/
def ownS (t mb : Nat) (bx : Int → Nat) (ks : List Int) (X : Int → TX) : Nat → Prop := fun q => own t mb bx ks q ∨ ∃ id ∈ ks, (X id).sv.ownBlock = some q
theorem TabS.here (h : TabS w0 w t mb bx ks X S) : TabS ⟨w, ownS t mb bx ks X⟩ w t mb bx ks X S :=
  ⟨⟨h.tab.box, h.tab.map, h.tab.at_, h.tab.inj, Bel.refl _, .inr (.inl (.inl rfl)), .inr (.inl (.inr (.inl rfl))), fun id hi => .inr (.inl (.inr (.inr ⟨id, hi, rfl⟩)))⟩,
   fun id hi => Kd.R_reok kU_E (h.row id hi) (fun k hk => .inr (.inr ⟨id, hi, hk⟩)), h.dis⟩
theorem TabS.own_T (h : TabS w0 w t mb bx ks X S) (q : Nat) (hq : Wb.T ⟨w, ownS t mb bx ks X⟩ q) : w0.T q := by
  rcases hq with hq | hq | ⟨id, hi, hq⟩
  · exact .inl (Nat.le_trans h.tab.bel.size hq)
  · exact h.tab.own_T q (.inr hq)
  · exact (h.row id hi).1 q hq
theorem TabS.back (h : TabS w0 w t mb bx ks X S) (g : TabS ⟨w, ownS t mb bx ks X⟩ w' t mb bx' ks' X' S') : TabS w0 w' t mb bx' ks' X' S' :=
  ⟨⟨g.tab.box, g.tab.map, g.tab.at_, g.tab.inj, h.tab.bel.trans g.tab.bel h.own_T, h.tab.get, h.tab.gem, fun id hi => h.own_T _ (g.tab.geb id hi)⟩,
   fun id hi => Kd.R_mono (g.row id hi) (fun k hk => h.own_T k hk), g.dis⟩
theorem TabS.not_own (h : TabS w0 w t mb bx ks X S) {q : Nat} (hq : w.heap.size ≤ q) : ¬ ownS t mb bx ks X q := by
  rintro (hq' | ⟨id, hi, hq'⟩)
  · exact h.tab.not_own hq hq'
  · obtain ⟨inner, ho⟩ := Kd.R_own (h.row id hi)
    have := own_lt ho q hq'
    omega
theorem TabS.keep (h : TabS ⟨w, ownS t mb bx ks X⟩ w' t mb bx' ks' X' S') {q : Nat} {o : Obj} (hq : w.heap[q]? = some o) (hn : ¬ ownS t mb bx ks X q) : w'.heap[q]? = some o :=
  (h.tab.bel.block q (blk_lt hq) hn).trans hq
/-- What keeps the savepoints (Note, Open, Gone): from the table's word alone. -/
theorem TabS.of_tab (h : TabS w0 w t mb bx ks X S) (g : Tab ⟨w, own t mb bx ks⟩ w' t mb bx' ks' X') (hsv : ∀ id ∈ ks', (id ∈ ks ∧ (X' id).sv = (X id).sv ∧ S' id = S id) ∨ (id ∉ ks ∧ (X' id).sv = .slice none 0 0 ∧ S' id = [])) : TabS w0 w' t mb bx' ks' X' S' := by
  refine ⟨h.tab.back g, fun id hi => ?_, fun id hi id' hi' hne q hq => ?_⟩
  · rcases hsv id hi with ⟨hk, e1, e2⟩ | ⟨_, e1, e2⟩
    · rw [e1, e2]
      refine Kd.R_mono (Kd.R_move (w1 := w') (Kd.R_tight2 kU_E (h.row id hk)) (fun k hk' => ?_)) (fun k hk' => hk'.2)
      obtain ⟨inner, ho⟩ := Kd.R_own (h.row id hk)
      exact g.bel.block k (own_lt ho k hk'.1.symm) (h.row_own hk hk'.1.symm)
    · rw [e1, e2]; exact Kd.R_nil _ _ _ _ _
  · rcases hsv id hi with ⟨hk, e1, _⟩ | ⟨_, e1, _⟩
    · rw [e1] at hq
      rcases hsv id' hi' with ⟨hk', e1', _⟩ | ⟨_, e1', _⟩
      · rw [e1']; exact h.dis id hk id' hk' hne q hq
      · rw [e1']; simp [Value.ownBlock]
    · rw [e1] at hq; simp [Value.ownBlock] at hq
theorem Tab.setTx' (h : Tab w0 w t mb bx ks X) (id : Int) (hi : id ∈ ks) (x : TX)
    (hx : w'.heap[bx id]? = some (.cells (txV id x) 74 (0, 0))) (ho : ∀ k, k < w.heap.size → own t mb bx ks k → k ≠ bx id → w'.heap[k]? = w.heap[k]?) (hb : Bel w0 w') : Tab w0 w' t mb bx ks (updX X id x) := by
  refine ⟨(ho t (blk_lt h.box) (.inl rfl) (fun e => (h.neb id hi).2 e.symm)).trans h.box, h.map.of_block (ho mb h.map.lt (.inr (.inl rfl)) (fun e => (h.neb id hi).1 e.symm)), fun y hy => ?_, h.inj, hb, h.get, h.gem, h.geb⟩
  unfold updX
  by_cases e : y = id
  · subst e; rw [if_pos rfl]; exact hx
  · rw [if_neg e, ho _ (h.lt y hy) (.inr (.inr ⟨y, hy, rfl⟩)) (fun q => e (h.inj y hy id hi q))]
    exact h.at_ y hy
end
section
variable {w0 : Wb} {w w' : World} {t mb : Nat} {bx bx' : Int → Nat} {ks ks' : List Int} {X X' : Int → TX} {S S' : Int → List Int}
/-- A transaction's row is laid anew over the same block. -/
theorem TabS.setSv (h : TabS w0 w t mb bx ks X S) (id : Int) (hi : id ∈ ks) (v : Value) (L : List Int) (S' : Int → List Int) (hS : ∀ y, S' y = if y = id then L else S y) (hob : v.ownBlock = (X id).sv.ownBlock)
    (hr : Kd.R kU 31 w 0 (fun k => w0.T k) v L) : TabS w0 (w.setCell ⟨bx id, 5, none⟩ v) t mb bx ks (updX X id ⟨(X id).st, (X id).last, (X id).next, (X id).need, v⟩) S' := by
  have hne : ∀ q, q ∈ 31 :: kU.E → q ≠ 74 := by
    intro q hq
    rw [kU_E, List.mem_singleton] at hq
    rw [hq]; decide
  refine ⟨h.tab.setTx' id hi _ (blk_put (cs' := #[.int .i64 id, .int .i64 (X id).st, .int .u64 (X id).last, .int .u64 (X id).next, .int .i64 (X id).need, v]) (h.tab.at_ id hi) 5 v rfl) (fun k hk _ hn => Below.heap_setCell _ ⟨bx id, 5, none⟩ _ k hn) (Bel.set (g := bx id) (j := 5) h.tab.bel (h.tab.geb id hi)), fun y hy => ?_, fun y hy y' hy' hn q hq => ?_⟩
  · rw [hS y]
    unfold updX
    by_cases e : y = id
    · rw [if_pos e, if_pos e]; exact Kd.R_set hr (h.tab.at_ id hi) hne 5 v
    · rw [if_neg e, if_neg e]; exact Kd.R_set (h.row y hy) (h.tab.at_ id hi) hne 5 v
  · have hsv : ∀ z, (updX X id ⟨(X id).st, (X id).last, (X id).next, (X id).need, v⟩ z).sv.ownBlock = (X z).sv.ownBlock := fun z => by
      unfold updX
      by_cases e : z = id
      · subst e; rw [if_pos rfl]; exact hob
      · rw [if_neg e]
    rw [hsv] at hq ⊢
    exact h.dis y hy y' hy' hn q hq
end
/-- A savepoint, or none. -/
def markV (ks : List Int) (S : Int → List Int) (id n : Int) : Option Int := if id ∈ ks ∧ 0 ≤ n then (S id)[n.toNat]? else none
set_option maxRecDepth 100000 in
set_option maxHeartbeats 4000000 in
theorem tabmark (w0 : Wb) (w : World) (t mb : Nat) (bx : Int → Nat) (ks : List Int) (X : Int → TX) (S : Int → List Int) (id n : Int) (h : TabS w0 w t mb bx ks X S) (hl : id ∈ ks → (S id).length ≤ 1000) :
    Calls Try.prog 22 #[.pointer (some ⟨t, 0, none⟩), .int .i64 id, .int .i64 n] w fun e w' => e = .returned (match markV ks S id n with | some v => .tuple #[.int .u64 v, .int .i64 0] | none => .tuple #[.int .u64 0, .int .i64 8]) ∧ w = w' := by
  have HT := Aside0.mk h
  have hlk' := h.tab.look id
  have hc := blk_cell h.tab.box 0
  clear h
  by_cases hi : id ∈ ks
  · simp only [if_pos hi] at hlk'
    unfold ptrs at hlk'
    have hl := hl hi
    have hr := HT.out.row id hi
    obtain ⟨A, c, hv, hlc, hC⟩ := Kd.R_reads hr
    have x5 : w.cell? ⟨bx id, 5, none⟩ = some (.slice A (S id).length c) := by rw [← hv]; exact blk_cell (HT.out.tab.at_ id hi) 5
    have HC := Aside0.mk hC
    have HI := Aside0.mk hi
    clear hr hC hv hlc hi
    by_cases hn : 0 ≤ n
    · obtain ⟨j, rfl⟩ : ∃ j : Nat, n = j := ⟨n.toNat, by omega⟩
      have d0 : decide ((j : Int) < 0) = false := by simp
      by_cases hj : j < (S id).length
      · have hm : markV ks S id j = some (S id)[j] := by
          unfold markV; rw [if_pos ⟨HI.out, hn⟩, Int.toNat_natCast, List.getElem?_eq_getElem hj]
        rw [hm]
        obtain ⟨ad, rfl, hcell⟩ := lsn_at HC.out j hj hj
        have d1 : decide (((S id).length : Int) ≤ (j : Int)) = false := by simp; omega
        clear hm hn
        go_enter Try.func22, Try.ntmps22
        go_wp2_with fail
        go_ret2
        exact ⟨rfl, rfl⟩
      · have hm : markV ks S id j = none := by
          unfold markV; rw [if_pos ⟨HI.out, hn⟩, Int.toNat_natCast, List.getElem?_eq_none (by omega)]
        rw [hm]
        have d1 : decide (((S id).length : Int) ≤ (j : Int)) = true := by simp; omega
        clear hm hn
        go_enter Try.func22, Try.ntmps22
        go_wp2_with fail
        go_ret2
        exact ⟨rfl, rfl⟩
    · have hm : markV ks S id n = none := by
        unfold markV; rw [if_neg (fun h => hn h.2)]
      rw [hm]
      have d0 : decide (n < 0) = true := by simp; omega
      clear hm hn
      go_enter Try.func22, Try.ntmps22
      go_wp2_with fail
      go_ret2
      exact ⟨rfl, rfl⟩
  · simp only [if_neg hi] at hlk'
    have hm : markV ks S id n = none := by
      unfold markV; rw [if_neg (fun h => hi h.1)]
    rw [hm]
    clear hm hi
    go_enter Try.func22, Try.ntmps22
    go_wp2_with fail
    go_ret2
    exact ⟨rfl, rfl⟩
/-- What Drop leaves of the savepoints. -/
def takeS (S : Int → List Int) (id n : Int) : Int → List Int := fun y => if y = id then (S id).take n.toNat else S y
set_option maxRecDepth 100000 in
set_option maxHeartbeats 4000000 in
theorem tabdrop (w0 : Wb) (w : World) (t mb : Nat) (bx : Int → Nat) (ks : List Int) (X : Int → TX) (S : Int → List Int) (id n : Int) (h : TabS w0 w t mb bx ks X S) (hl : id ∈ ks → (S id).length ≤ 1000) :
    Calls Try.prog 21 #[.pointer (some ⟨t, 0, none⟩), .int .i64 id, .int .i64 n] w fun e w' =>
      (markV ks S id n = none ∧ e = .returned (.int .i64 8) ∧ w = w') ∨
      (id ∈ ks ∧ 0 ≤ n ∧ n < (S id).length ∧ e = .returned (.int .i64 0) ∧ ∃ v, TabS w0 w' t mb bx ks (updX X id ⟨(X id).st, (X id).last, (X id).next, (X id).need, v⟩) (takeS S id n)) := by
  have hmk := tabmark w0 w t mb bx ks X S id n h hl
  cases hm : markV ks S id n with
  | none =>
    rw [hm] at hmk
    go_enter Try.func21, Try.ntmps21
    go_wp2_with fail
    refine hmk.mono ?_
    rintro e w1 ⟨rfl, rfl⟩
    go_wp2_with fail
    go_ret
    exact .inl ⟨by simp, rfl, rfl⟩
  | some v =>
    rw [hm] at hmk
    have hin : id ∈ ks ∧ 0 ≤ n ∧ n.toNat < (S id).length := by
      unfold markV at hm
      split at hm
      · rename_i q; exact ⟨q.1, q.2, (List.getElem?_eq_some_iff.1 hm).1⟩
      · cases hm
    obtain ⟨hi, hn, hlt⟩ := hin
    have hl := hl hi
    obtain ⟨j, rfl⟩ : ∃ j : Nat, n = j := ⟨n.toNat, by omega⟩
    rw [Int.toNat_natCast] at hlt
    have HT := Aside0.mk h
    have hlk' := h.tab.look id
    have hc := blk_cell h.tab.box 0
    simp only [if_pos hi] at hlk'
    unfold ptrs at hlk'
    have hr := h.row id hi
    obtain ⟨A, c, hv, hlc, hC⟩ := Kd.R_reads hr
    have x5 : w.cell? ⟨bx id, 5, none⟩ = some (.slice A (S id).length c) := by rw [← hv]; exact blk_cell (h.tab.at_ id hi) 5
    have f5 := blk_frozen (h.tab.at_ id hi) 5
    have HV := Aside0.mk hv
    have HROW := Aside0.mk (show Kd.R kU 31 w 0 (fun k => w0.T k) (.slice A (S id).length c) (S id) from by rw [← hv]; exact hr)
    have HI := Aside0.mk hi
    clear hr hC hv hi hm h
    go_enter Try.func21, Try.ntmps21
    go_wp2_with fail
    refine hmk.mono ?_
    rintro e w1 ⟨rfl, rfl⟩
    clear hmk
    go_wp2_with fail
    go_ret
    exact .inr ⟨HI.out, hn, by omega, rfl, _, HT.out.setSv id HI.out (.slice A j c) ((S id).take j) (takeS S id j) (fun y => by unfold takeS; rw [Int.toNat_natCast]) (by rw [HV.out]; cases A <;> rfl) (Kd.R_take (HROW.out) (Nat.le_of_lt hlt))⟩
section
variable {w0 : Wb} {w w' : World} {t mb : Nat} {bx bx' : Int → Nat} {ks ks' : List Int} {X X' : Int → TX} {S S' : Int → List Int}
theorem Bel.grown' {b : Wb} {row : Option Nat} (h : Bel b w) (hg : w.grownBy w' row) (ht : ∀ g, row = some g → b.T g) : Bel b w' := by
  cases row with
  | some g => exact h.grown hg (ht g rfl)
  | none => exact h.then ⟨hg.os, hg.tape, hg.output, hg.size, fun k hk => hg.block k hk (by simp)⟩
/-- A transaction's row has grown. -/
theorem TabS.app (h : TabS w0 w t mb bx ks X S) (id : Int) (hi : id ∈ ks) (v : Value) (L : List Int) (S' : Int → List Int) (hS : ∀ y, S' y = if y = id then L else S y) (hg : w.grownBy w' (X id).sv.ownBlock)
    (hat : v.ownBlock = (X id).sv.ownBlock ∨ ∃ b, v.ownBlock = some b ∧ w.heap.size ≤ b) (hr : Kd.R kU 31 w' 0 (fun k => w0.T k) v L) :
    TabS w0 (w'.setCell ⟨bx id, 5, none⟩ v) t mb bx ks (updX X id ⟨(X id).st, (X id).last, (X id).next, (X id).need, v⟩) S' := by
  have hne : ∀ q, q ∈ 31 :: kU.E → q ≠ 74 := by
    intro q hq
    rw [kU_E, List.mem_singleton] at hq
    rw [hq]; decide
  have hno : ∀ k, own t mb bx ks k → some k ≠ (X id).sv.ownBlock := fun k hk e => h.row_own hi e.symm hk
  have hbi : w'.heap[bx id]? = some (.cells (txV id (X id)) 74 (0, 0)) := blk_grown (h.tab.at_ id hi) hg (hno _ (.inr (.inr ⟨id, hi, rfl⟩)))
  refine ⟨h.tab.setTx' id hi _ (blk_put (cs' := #[.int .i64 id, .int .i64 (X id).st, .int .u64 (X id).last, .int .u64 (X id).next, .int .i64 (X id).need, v]) hbi 5 v rfl) (fun k hk ho hn => (Below.heap_setCell _ ⟨bx id, 5, none⟩ _ k hn).trans (hg.block k hk (hno k ho))) (Bel.set (g := bx id) (j := 5) (h.tab.bel.grown' hg (fun g hq => (h.row id hi).1 g hq)) (h.tab.geb id hi)), fun y hy => ?_, fun y hy y' hy' hn q hq => ?_⟩
  · rw [hS y]
    unfold updX
    by_cases e : y = id
    · rw [if_pos e, if_pos e]; exact Kd.R_set hr hbi hne 5 v
    · rw [if_neg e, if_neg e]
      exact Kd.R_set (Kd.R_grown2 (h.row y hy) kU_E hg (fun k hk e2 => h.dis id hi y hy (fun q => e q.symm) k hk e2.symm)) hbi hne 5 v
  · have hlt : ∀ z ∈ ks, ∀ b, (X z).sv.ownBlock = some b → b < w.heap.size := fun z hz b hb => by
      obtain ⟨inner, ho⟩ := Kd.R_own (h.row z hz)
      exact own_lt ho b hb
    unfold updX at hq ⊢
    by_cases e : y = id
    · rw [if_pos e] at hq
      have hn' : y' ≠ id := fun q => hn (e.trans q.symm)
      rw [if_neg hn']
      rcases hat with ha | ⟨b, hb, hbs⟩
      · rw [show (TX.mk (X id).st (X id).last (X id).next (X id).need v).sv.ownBlock = (X id).sv.ownBlock from ha] at hq
        exact h.dis id hi y' hy' (fun q => hn' q.symm) q hq
      · intro hq'
        have := hlt y' hy' q hq'
        have hq2 : v.ownBlock = some q := hq
        rw [hb] at hq2
        injection hq2 with hq2
        omega
    · rw [if_neg e] at hq
      by_cases e' : y' = id
      · rw [if_pos e']
        rcases hat with ha | ⟨b, hb, hbs⟩
        · rw [show (TX.mk (X id).st (X id).last (X id).next (X id).need v).sv.ownBlock = (X id).sv.ownBlock from ha]
          exact h.dis y hy id hi e q hq
        · intro hq'
          have := hlt y hy q hq
          have hq2 : v.ownBlock = some q := hq'
          rw [hb] at hq2
          injection hq2 with hq2
          omega
      · rw [if_neg e']
        exact h.dis y hy y' hy' hn q hq
end
/-- What Save leaves of the savepoints. -/
def addS (S : Int → List Int) (id x : Int) : Int → List Int := fun y => if y = id then S id ++ [x] else S y
/-- What Save does. -/
inductive Saved (w0 : Wb) (w' : World) (t mb : Nat) (bx : Int → Nat) (ks : List Int) (X : Int → TX) (S : Int → List Int) (id : Int) (n e : Int) : Prop where
  | no (hn : n = 0) (he : e ≠ 0) (hw : id ∉ ks ∨ (X id).st ≠ 0 ∨ (S id).length = 4) (h : TabS w0 w' t mb bx ks X S)
  | ok (hi : id ∈ ks) (hs : (X id).st = 0) (hl : (S id).length < 4) (hn : n = (S id).length) (he : e = 0) (h : ∃ v, TabS w0 w' t mb bx ks (updX X id ⟨(X id).st, (X id).last, (X id).next, (X id).need, v⟩) (addS S id (X id).next))
set_option maxRecDepth 100000 in
set_option maxHeartbeats 4000000 in
theorem tabsave (w0 : Wb) (w : World) (t mb : Nat) (bx : Int → Nat) (ks : List Int) (X : Int → TX) (S : Int → List Int) (id : Int) (h : TabS w0 w t mb bx ks X S) (hl : id ∈ ks → (S id).length ≤ 4) :
    Calls Try.prog 20 #[.pointer (some ⟨t, 0, none⟩), .int .i64 id] w fun e w' => ∃ n q, e = .returned (.tuple #[.int .i64 n, .int .i64 q]) ∧ Saved w0 w' t mb bx ks X S id n q := by
  have HT := Aside0.mk h
  have hlk' := h.tab.look id
  have hc := blk_cell h.tab.box 0
  by_cases hi : id ∈ ks
  · simp only [if_pos hi] at hlk'
    unfold ptrs at hlk'
    have hl := hl hi
    have hr := h.row id hi
    have y1 : w.cell? ⟨bx id, 1, none⟩ = some (.int .i64 (X id).st) := blk_cell (h.tab.at_ id hi) 1
    have HI := Aside0.mk hi
    by_cases hst : (X id).st = 0
    · have e1 : ((X id).st != 0) = false := by simp [hst]
      have HST := Aside0.mk hst
      obtain ⟨A, c, hv, hlc, hC⟩ := Kd.R_reads hr
      have x5 : w.cell? ⟨bx id, 5, none⟩ = some (.slice A (S id).length c) := by rw [← hv]; exact blk_cell (h.tab.at_ id hi) 5
      by_cases h4 : (S id).length = 4
      · have e4 : (((S id).length : Int) == 4) = true := by simp; omega
        clear h hr hv hC hi hst
        go_enter Try.func20, Try.ntmps20
        go_wp2_with fail
        go_ret2
        exact ⟨_, _, rfl, .no rfl (by decide) (.inr (.inr h4)) HT.out⟩
      · have e4 : (((S id).length : Int) == 4) = false := by simp; omega
        have h5 : (S id).length < 4 := by omega
        have HV := Aside0.mk hv
        have HROW := Aside0.mk (show Kd.R kU 31 w 0 (fun k => w0.T k) (.slice A (S id).length c) (S id) from by rw [← hv]; exact hr)
        have x5a : ∀ ob, (w.alloc ob).cell? ⟨bx id, 5, none⟩ = some (.slice A (S id).length c) := fun ob => by rw [← hv]; exact blk_cell (blk_alloc (HT.out.tab.at_ id HI.out) ob) 5
        have x3 : w.cell? ⟨bx id, 3, none⟩ = some (.int .u64 (X id).next) := blk_cell (h.tab.at_ id hi) 3
        have x3a : ∀ ob, (w.alloc ob).cell? ⟨bx id, 3, none⟩ = some (.int .u64 (X id).next) := fun ob => blk_cell (blk_alloc (HT.out.tab.at_ id HI.out) ob) 3
        clear h hr hv hC hi hst h4
        go_enter Try.func20, Try.ntmps20
        go_wp2_with fail
        go_region_law (refine R_append_drew kU (w0 := w) (W := w) 0 (by rfl) (.tmp 33) (.tmp 38) 59 31 (.int .u64 0) 8 (by rfl) Try.underlying59 infoLsn rfl (by decide) (by omega) (.slice A (S id).length c) (S id) (X id).next [.int .u64 (X id).next] (fun k => w0.T k) (fun _ => False) (by rfl) (by rfl) rfl (fun _ hk => hk.elim) ?hfr HROW.out (Below.refl 0 w) (Nat.zero_le _) (by omega) ?_; (case hfr => intro q hq; exact .inl (Nat.le_trans HT.out.tab.bel.size hq)); intro v1 w5 ho hb hg hat; obtain ⟨A1, c1, hv1⟩ := Kd.R_slice ho; rw [List.length_append, List.length_singleton] at hv1; rw [hv1]; rw [hv1] at ho hat; rw [← HV.out] at hg hat; have HX5 := Aside0.mk (blk_grown (HT.out.tab.at_ id HI.out) hg (fun e => HT.out.row_own HI.out e.symm (.inr (.inr ⟨id, HI.out, rfl⟩)))); have g5 : w5.cell? ⟨bx id, 5, none⟩ = some (X id).sv := blk_cell HX5.out 5; have f5 := blk_frozen HX5.out 5; have HO := Aside0.mk ho; have HG := Aside0.mk hg; have HAT := Aside0.mk hat; clear ho hat hv1 hg hb)
        all_goals
          have hy5 : (w5.setCell ⟨bx id, 5, none⟩ (.slice A1 ((S id).length + 1) c1)).cell? ⟨bx id, 5, none⟩ = some (.slice A1 ((S id).length + 1) c1) := blk_cell (blk_put (cs' := #[.int .i64 id, .int .i64 (X id).st, .int .u64 (X id).last, .int .u64 (X id).next, .int .i64 (X id).need, .slice A1 ((S id).length + 1) c1]) HX5.out 5 _ rfl) 5
          go_wp2_with fail
          go_ret2
          exact ⟨_, _, rfl, .ok HI.out HST.out h5 (by first | rfl | omega) rfl ⟨_, HT.out.app id HI.out _ _ (addS S id (X id).next) (fun y => rfl) HG.out HAT.out HO.out⟩⟩
    · have e1 : ((X id).st != 0) = true := by simp [hst]
      have HST := Aside0.mk hst
      clear h hr hi hst
      go_enter Try.func20, Try.ntmps20
      go_wp2_with fail
      go_ret2
      exact ⟨_, _, rfl, .no rfl (by decide) (.inr (.inl HST.out)) HT.out⟩
  · simp only [if_neg hi] at hlk'
    have HI := Aside0.mk hi
    clear h hi
    go_enter Try.func20, Try.ntmps20
    go_wp2_with fail
    go_ret2
    exact ⟨_, _, rfl, .no rfl (by decide) (.inl HI.out) HT.out⟩
end Go.Proofs.Yteaklmafjmnmiaa
end
