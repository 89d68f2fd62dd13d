/- Layer 17: a slice of acts, a slice of numbers: their kinds, and laid open; records of a row of the law's own. 
A store of a whole struct into its own box, in a region that draws its order. 
How long the document's frame of a record that takes back is. -/
import Derived.Test.YteaklmafjmnmiaaYMgApc
import Derived.Test.YteaklmafjmnmiaaYMgBk17
import Derived.Test.YteaklmafjmnmiaaYWLast
import Derived.Test.YteaklmafjmnmiaaYWWords
import Derived.Test.YteaklmafjmnmiaaYRg1
import Derived.Test.YteaklmafjmnmiaaYMgBk3
section
namespace Go.Proofs.Yteaklmafjmnmiaa
open Go.RowKit Go.Proofs.YteaklmafjmnmiaaW.PrintWords Go.Proofs.YteaklmafjmnmiaaW.PrintLast Go.Proofs.YteaklmafjmnmiaaW.PrintMore
open Go.ChangeShapes Go.WideShapes Go.ChangeAt Go.Deep Go.Joins
open Rf
set_option linter.unusedVariables false
set_option linter.unusedSimpArgs false
/-- An act. -/
structure SAct where
  k : Int
  a : ByteArray
  b : ByteArray
  c : ByteArray
def SAct.out (x : SAct) : List Value := [.int .i64 x.k, .string x.a, .string x.b, .string x.c]
def SAct.Ok (x : SAct) : Prop := x.a.size ≤ 140737488351232 ∧ x.b.size ≤ 140737488351232 ∧ x.c.size ≤ 140737488351232
def kAct : Kd SAct where
  sz := 4
  E := []
  K := fun _ x cs => cs = x.out ∧ x.Ok
  M := fun _ _ _ _ _ => False
  K_len := by rintro w x cs ⟨rfl, _⟩; rfl
  K_one := by
    rintro w x cs ⟨rfl, _⟩ u hu
    simp only [SAct.out, List.mem_cons, List.not_mem_nil, or_false] at hu
    rcases hu with rfl | rfl | rfl | rfl <;> rfl
  K_below := fun _ h => h
  K_of_M := fun h => h.elim
  M_mono := fun _ h => h.elim
  M_bound := fun h => h.elim
  M_move := fun _ h => h.elim
  M_lower := fun _ h => h.elim
def zAct : SAct := ⟨0, ⟨#[]⟩, ⟨#[]⟩, ⟨#[]⟩⟩
theorem act_at {w : World} {A : Option Addr} {n : Nat} {xs : List SAct} (h : Kd.C kAct w A n xs) (k : Nat) (h1 : k < n) : ∃ (ad : Addr) (o : SAct), A = some ad ∧ o.Ok ∧ w.cell? (ad.add (k * 4)) = some (.int .i64 o.k) ∧ w.cell? ⟨(ad.add (k * 4)).block, (ad.add (k * 4)).off + 1, none⟩ = some (.string o.a) ∧ w.cell? ⟨(ad.add (k * 4)).block, (ad.add (k * 4)).off + 2, none⟩ = some (.string o.b) ∧ w.cell? ⟨(ad.add (k * 4)).block, (ad.add (k * 4)).off + 3, none⟩ = some (.string o.c) := by
  obtain ⟨ad, c, e, _, hK, hc0⟩ := Kd.C_get h zAct (k : Int) (by omega) (by omega)
  rw [Int.toNat_natCast] at hK
  obtain ⟨rfl, ho⟩ := hK
  have hc : ∀ j u, (xs.getD k zAct).out[j]? = some u → w.cell? (ad.add (k * 4 + j)) = some u := hc0
  exact ⟨ad, _, e, ho, hc 0 _ rfl, by rw [← add_field _ _ 1 (by omega)]; exact hc 1 _ rfl, by rw [← add_field _ _ 2 (by omega)]; exact hc 2 _ rfl, by rw [← add_field _ _ 3 (by omega)]; exact hc 3 _ rfl⟩
theorem int_at {w : World} {A : Option Addr} {n : Nat} {xs : List Int} (h : Kd.C (Kd.int .i64) w A n xs) (k : Nat) (h1 : k < n) : ∃ (ad : Addr) (o : Int), A = some ad ∧ w.cell? (ad.add k) = some (.int .i64 o) := by
  obtain ⟨ad, c, e, _, hK, hc⟩ := Kd.C_get h 0 (k : Int) (by omega) (by omega)
  have hK' : c = [.int .i64 (xs.getD ((k : Int).toNat) 0)] := hK
  subst hK'
  have h0 := hc 0 _ rfl
  refine ⟨ad, xs.getD ((k : Int).toNat) 0, e, ?_⟩
  have e1 : (k : Int).toNat * (Kd.int .i64).sz + 0 = k := by
    rw [Int.toNat_natCast]
    show k * 1 + 0 = k
    omega
  rw [e1] at h0
  exact h0
section
variable {H : Type} {enc : TypeId × Value → H} {W : World}
set_option maxRecDepth 100000 in
theorem act_cells17 {n : Nat} {cs : List Value} {d : DataW H} {p : List MemPlace} (hl : cs.length = 4) (h : DataW.trod enc Try.prog W 0 (fun _ => true) true n 35 cs = some (d, p))
    (hw : ∀ x ∈ d.weights Try.prog 35, x ≤ reachBytes) : ∃ o : SAct, cs = o.out ∧ o.Ok := by
  obtain ⟨c0, c1, c2, c3, rfl⟩ : ∃ c0 c1 c2 c3, cs = [c0, c1, c2, c3] := by
    match cs, hl with
    | [c0, c1, c2, c3], _ => exact ⟨c0, c1, c2, c3, rfl⟩
  obtain ⟨ys, n', hn', hy, hlen, hyl, hf⟩ := DataW.trod_struct Try.underlying35 h
  have k3 : Try.prog.cellsOf 33 = 1 := by kernel_rfl
  have k9 : Try.prog.cellsOf 9 = 1 := by kernel_rfl
  have h0 := hf 0 ⟨"Kind", 33, 0, false, "", "", 0⟩ rfl
  have h1 := hf 1 ⟨"Key", 9, 1, false, "", "", 8⟩ rfl
  have h2 := hf 2 ⟨"Old", 9, 2, false, "", "", 24⟩ rfl
  have h3 := hf 3 ⟨"New", 9, 3, false, "", "", 40⟩ rfl
  simp only [k3, k9, List.drop_zero, List.drop_succ_cons, List.take_succ_cons, List.take_zero] at h0 h1 h2 h3
  obtain ⟨y0, y1, y2, y3, rfl⟩ : ∃ a b c d, ys = [a, b, c, d] := by
    match ys, hyl with
    | [a, b, c, d], _ => exact ⟨a, b, c, d, rfl⟩
  obtain ⟨n0, e0, x0, w0⟩ := DataW.trod_int Try.underlying33 h0
  obtain ⟨s1, e1, x1, w1⟩ := DataW.trod_string Try.underlying9 h1
  obtain ⟨s2, e2, x2, w2⟩ := DataW.trod_string Try.underlying9 h2
  obtain ⟨s3, e3, x3, w3⟩ := DataW.trod_string Try.underlying9 h3
  cases e0; cases e1; cases e2; cases e3
  cases x0; cases x1; cases x2; cases x3
  obtain ⟨hd, _⟩ := Prod.mk.inj hy
  subst hd
  have hr3 : reachBytes = 140737488351232 := by kernel_rfl
  refine ⟨⟨n0, s1, s2, s3⟩, rfl, ?_⟩
  show s1.size ≤ 140737488351232 ∧ s2.size ≤ 140737488351232 ∧ s3.size ≤ 140737488351232
  rw [← hr3]
  refine ⟨hw _ ?_, hw _ ?_, hw _ ?_⟩ <;>
  · rw [DataW.weights, Try.underlying35]
    simp [DataW.weightsEach, DataW.weights]
set_option maxRecDepth 100000 in
/-- A slice of acts. -/
theorem open_acts17 {r : Reach} {b0 : Nat} {v : Value} {d : DataW H} {p : List MemPlace} (hv : Value.okWide Try.prog W r b0 22 v) (h : DataW.Trod enc Try.prog W 0 (fun _ => true) true 22 v d p)
    (hw : ∀ x ∈ d.weights Try.prog 22, x ≤ reachBytes) :
    ∃ A c, ∃ l : List SAct, v = .slice A l.length c ∧ Kd.C kAct W A l.length l ∧ l.length ≤ c ∧ l.length ≤ 140737488351232 := by
  obtain ⟨A, len, cap, rfl⟩ := okWide_slice Try.underlying22 hv
  obtain ⟨fuel, hf⟩ := h
  obtain ⟨A', c', l, hcs, hC, hc, hl, hg⟩ := open_listg kAct SAct.out SAct.Ok Try.underlying22 (by kernel_rfl) (of_decide_eq_true (by kernel_rfl)) (fun x hx => ⟨rfl, hx⟩) (fun x => rfl) hf hw
    (fun n cs' d' p' hl ht hw' => act_cells17 hl ht hw')
  simp [Value.cells] at hcs
  obtain ⟨rfl, rfl, rfl⟩ := hcs
  exact ⟨_, _, l, rfl, hC, hc, hl⟩
set_option maxRecDepth 100000 in
/-- A slice of numbers. -/
theorem open_ints17 {r : Reach} {b0 : Nat} {v : Value} {d : DataW H} {p : List MemPlace} (hv : Value.okWide Try.prog W r b0 23 v) (h : DataW.Trod enc Try.prog W 0 (fun _ => true) true 23 v d p)
    (hw : ∀ x ∈ d.weights Try.prog 23, x ≤ reachBytes) :
    ∃ A c, ∃ l : List Int, v = .slice A l.length c ∧ Kd.C (Kd.int .i64) W A l.length l ∧ l.length ≤ c ∧ l.length ≤ 140737488351232 := by
  obtain ⟨A, len, cap, rfl⟩ := okWide_slice Try.underlying23 hv
  obtain ⟨fuel, hf⟩ := h
  obtain ⟨A', c', l, hcs, hC, hc, hl, hg⟩ := open_listg (Kd.int .i64) (fun x => [.int .i64 x]) (fun _ => True) Try.underlying23 (by kernel_rfl) (of_decide_eq_true (by kernel_rfl)) (fun x hx => rfl) (fun x => rfl) hf hw
    (fun n cs' d' p' hl ht hw' => by
      obtain ⟨c0, rfl⟩ := List.length_eq_one_iff.1 hl
      obtain ⟨n0, e0, x0, w0⟩ := DataW.trod_int Try.underlying3 ht
      cases e0
      exact ⟨n0, rfl, trivial⟩)
  simp [Value.cells] at hcs
  obtain ⟨rfl, rfl, rfl⟩ := hcs
  exact ⟨_, _, l, rfl, hC, hc, hl⟩
end
/-- A record that changed a page, noted as its transaction's. -/
structure SRec where
  ls : Int
  tx : Int
  pv : Int
  pg : Int
  ak : Int
  a : ByteArray
  b : ByteArray
  c : ByteArray
def SRec.out (x : SRec) : List Value := [.int .i64 1, .int .u64 x.ls, .int .i64 x.tx, .int .u64 x.pv, .int .u64 0, .int .i64 x.pg, .int .i64 x.ak, .string x.a, .string x.b, .string x.c, .slice none 0 0, .slice none 0 0]
def kRec : Kd SRec where
  sz := 12
  E := []
  K := fun _ x cs => cs = x.out
  M := fun _ _ _ x cs => cs = x.out
  K_len := by rintro w x cs rfl; rfl
  K_one := by
    rintro w x cs rfl u hu
    simp only [SRec.out, List.mem_cons, List.not_mem_nil, or_false] at hu
    rcases hu with rfl | rfl | rfl | rfl | rfl | rfl | rfl | rfl | rfl | rfl | rfl | rfl <;> rfl
  K_below := fun _ h => h
  K_of_M := fun h => h
  M_mono := fun _ h => h
  M_bound := fun h => h
  M_move := fun _ h => h
  M_lower := fun _ h => h
def zRec : SRec := ⟨0, 0, 0, 0, 0, ⟨#[]⟩, ⟨#[]⟩, ⟨#[]⟩⟩
theorem kRec_E : kRec.E = [] := rfl
theorem infoRec : (Try.prog.info? 39).map (fun i => (i.zero, i.size, i.bytes)) = some (some (.agg #[.int .i64 0, .int .u64 0, .int .i64 0, .int .u64 0, .int .u64 0, .int .i64 0, .int .i64 0, .string ⟨#[]⟩, .string ⟨#[]⟩, .string ⟨#[]⟩, .slice none 0 0, .slice none 0 0]), 12, 152) := by kernel_rfl
theorem rec_at {w : World} {A : Option Addr} {n : Nat} {xs : List SRec} (h : Kd.C kRec w A n xs) (k : Nat) (h1 : k < n) : ∃ (ad : Addr), A = some ad ∧ (∀ j u, (xs.getD k zRec).out[j]? = some u → w.cell? (ad.add (k * 12 + j)) = some u) := by
  obtain ⟨ad, c, e, _, hK, hc0⟩ := Kd.C_get h zRec (k : Int) (by omega) (by omega)
  rw [Int.toNat_natCast] at hK
  obtain rfl : c = _ := hK
  exact ⟨ad, e, hc0⟩
end Go.Proofs.Yteaklmafjmnmiaa
end
section
namespace Go.Proofs.Yteaklmafjmnmiaa
open Go.RowKit Go.Proofs.YteaklmafjmnmiaaW.PrintWords Go.Proofs.YteaklmafjmnmiaaW.PrintLast
set_option linter.unusedVariables false
theorem store_box {P : Program} {ops : Array Oper} {oi : Oper} {a : Act} {K : Act → World → Prop} {Q : Exit → Act → World → Prop} {t : TypeId} {p x : Operand} {g : Nat} {e : TypeId} {cur new : Array Value} {W : World}
    (ho : oi.op = .store t p x) (hw : Region.wanted oi (yielded ops a.tmps) = true) (hN : oi.dst = none) (hp : a.eval p = .pointer (some ⟨g, 0, none⟩)) (hx : a.eval x = .agg new) (hh : W.heap[g]? = some (.cells cur e (0, 0))) (hs : new.toList.length ≤ cur.size) (hs2 : cur.size ≤ new.toList.length) (hc : (Value.agg new).cells = new)
    (ht : (P.info? t).map (·.size) = some new.toList.length) (h1 : ∀ q ∈ new.toList, q.oneCell' = true)
    (h : ∀ w1, w1.heap[g]? = some (.cells new e (0, 0)) → W.grownBy w1 (some g) → K (a.put none undef) w1) : if Region.wanted oi (yielded ops a.tmps) = true then Oper.wp P oi a W K Q else K (a.put none undef) W := by
  have hrun : (Instr.storeAt t (.pointer (some ⟨g, 0, none⟩)) (.agg new)).run P W = .ok () (W.setCells g 0 new.toList) := run_store_run t (.agg new) new.toList hh (by rw [hc]) ht (by omega) h1
  obtain ⟨cur', h3, h4, h5⟩ := setCells_row new.toList 0 W cur hh (by omega)
  obtain ⟨s1, s2, s3, s4⟩ := setCells_same g new.toList 0 W
  have hcur : cur' = new := by
    apply Array.ext'
    rw [h5, List.take_zero, List.nil_append, List.drop_eq_nil_of_le (by rw [Array.length_toList]; omega), List.append_nil]
  rw [if_pos hw]
  unfold Oper.wp execOp
  simp only [ho, hp, hx, Sem.run_bind, Sem.run_pure, Result.andThen_ok, hrun]
  show K (a.put oi.dst undef) _
  rw [hN]
  exact h _ (hcur ▸ h3) ⟨s1, s2, s3, by rw [s4]; exact Nat.le_refl _, fun k _ hk => setCells_far _ _ k (fun he => hk (by rw [he]))⟩
end Go.Proofs.Yteaklmafjmnmiaa
end
section
namespace Go.Proofs.Yteaklmafjmnmiaa
open Go.RowKit Go.Proofs.YteaklmafjmnmiaaW.PrintWords Go.Proofs.YteaklmafjmnmiaaW.PrintLast Go.Proofs.YteaklmafjmnmiaaW.PrintMore
open Rf
set_option linter.unusedVariables false
set_option linter.unusedSimpArgs false
theorem ev_if {α : Type} {c : Prop} [Decidable c] {f g : Nat → Option α} {r : α} (h : c) (he : Ev f r) : Ev (fun k => if c then f k else g k) r := by
  simp only [if_pos h]; exact he
theorem ev_else {α : Type} {c : Prop} [Decidable c] {f g : Nat → Option α} {r : α} (h : ¬ c) (he : Ev g r) : Ev (fun k => if c then f k else g k) r := by
  simp only [if_neg h]; exact he
theorem w64n {x : Int} (h0 : 0 ≤ x) (h1 : x ≤ 9223372036854775807) : wrap64 x = x := by unfold wrap64; omega
theorem gnum_loop (m : Nat) (hm : m ≤ 100) : ∀ (d i : Nat) (x : Int) (s : ByteArray), i + d = m → s.size = i → ∃ r : ByteArray, r.size = m ∧ Ev (fun k => flotillaref01_Num.l0 k x m s i) r
  | 0, i, x, s, hi, hs => by
    refine ⟨s, by omega, Ev.step (f := fun _ => some s) (fun k => ?_) (Ev.now _)⟩
    simp only [flotillaref01_Num.l0]
    rw [if_neg (by omega)]
  | d + 1, i, x, s, hi, hs => by
    have hz : (strOfNums [Int.tmod x 256 % 256]).size = 1 := rfl
    obtain ⟨r, hr, he⟩ := gnum_loop m hm d (i + 1) (IntKind.u64.wrap (Int.tdiv x 256)) (s ++ strOfNums [Int.tmod x 256 % 256]) (by omega) (by rw [ByteArray.size_append, hz, hs])
    refine ⟨r, hr, Ev.step (fun k => ?_) he⟩
    simp only [flotillaref01_Num.l0]
    rw [if_pos (by omega), Option.bind_some, if_pos (by rw [hz, hs]; omega), w64n (by omega) (by omega)]
    rfl
theorem gnum_ev (x : Int) (m : Nat) (hm : m ≤ 100) : ∃ r : ByteArray, r.size = m ∧ Ev (fun k => flotillaref01_Num.f k x m) r := gnum_loop m hm m 0 x ⟨#[]⟩ (by omega) rfl
theorem gtext_ev (a : ByteArray) (ha : a.size ≤ 65535) : ∃ r : ByteArray, r.size = 2 + a.size ∧ Ev (fun k => flotillaref01_Text.f k a) r := by
  obtain ⟨t, ht, he⟩ := gnum_ev (IntKind.u64.wrap (a.size : Int)) 2 (by omega)
  refine ⟨t ++ a, by rw [ByteArray.size_append, ht], ?_⟩
  unfold flotillaref01_Text.f
  refine ev_else (by omega) (Ev.bind he ?_)
  rw [if_pos (by omega)]
  exact Ev.now _
theorem gmore_bits (s : ByteArray) (i : Nat) (H : ∀ n, ∃ r, Ev (fun k => flotillaref02_More.l0 k s n (wrap64 ((i : Int) + 1))) r) : ∀ (d j : Nat) (n x : Int), j + d = 8 → ∃ r, Ev (fun k => flotillaref02_More.l1 k s n i x j) r
  | 0, j, n, x, hj => by
    obtain ⟨r, hr⟩ := H n
    refine ⟨r, Ev.step (fun k => ?_) hr⟩
    simp only [flotillaref02_More.l1]
    rw [if_neg (by omega)]
  | d + 1, j, n, x, hj => by
    by_cases h : Int.tmod n 2 = Int.tmod x 2
    · obtain ⟨r, hr⟩ := gmore_bits s i H d (j + 1) (Int.tdiv n 2 % 4294967296) (Int.tdiv x 2 % 4294967296) (by omega)
      refine ⟨r, Ev.step (fun k => ?_) hr⟩
      simp only [flotillaref02_More.l1]
      rw [if_pos (by omega), if_pos h, w64n (by omega) (by omega)]
      rfl
    · obtain ⟨r, hr⟩ := gmore_bits s i H d (j + 1) (Go.bits .xor .u32 (Int.tdiv n 2 % 4294967296) 2197175160) (Int.tdiv x 2 % 4294967296) (by omega)
      refine ⟨r, Ev.step (fun k => ?_) hr⟩
      simp only [flotillaref02_More.l1]
      rw [if_pos (by omega), if_neg h, w64n (by omega) (by omega)]
      rfl
theorem gmore_loop (s : ByteArray) (hs : s.size ≤ 1000000) : ∀ (d i : Nat) (n : Int), i + d = s.size → ∃ r, Ev (fun k => flotillaref02_More.l0 k s n i) r
  | 0, i, n, hi => by
    refine ⟨_, Ev.step (f := fun _ => some ((4294967295 - n) % 4294967296)) (fun k => ?_) (Ev.now _)⟩
    simp only [flotillaref02_More.l0]
    rw [if_neg (by omega)]
  | d + 1, i, n, hi => by
    obtain ⟨r, hr⟩ := gmore_bits s i (fun n' => by
      obtain ⟨r, hr⟩ := gmore_loop s hs d (i + 1) n' (by omega)
      rw [w64n (by omega) (by omega)]
      exact ⟨r, hr⟩) 8 0 n ((bt s i) % 4294967296) (by omega)
    refine ⟨r, Ev.step (fun k => ?_) hr⟩
    simp only [flotillaref02_More.l0]
    rw [if_pos (by omega), if_pos (by omega)]
    rfl
theorem gseal_ev (a : ByteArray) (ha : a.size ≤ 1000000) : ∃ r : ByteArray, r.size = a.size + 4 ∧ Ev (fun k => flotillaref02_Seal.f k a) r := by
  obtain ⟨n, hn⟩ := gmore_loop a ha a.size 0 ((4294967295 - 0) % 4294967296) (by omega)
  have h1 : Ev (fun k => flotillaref02_Sum.f k a) n := by
    unfold flotillaref02_Sum.f flotillaref02_More.f
    exact Ev.bind hn (Ev.now _)
  refine ⟨a ++ strOfNums [(Int.tmod n 256) % 256, ((Int.tdiv n 256) % 4294967296) % 256, ((Int.tdiv n 65536) % 4294967296) % 256, ((Int.tdiv n 16777216) % 4294967296) % 256], by rw [ByteArray.size_append]; rfl, ?_⟩
  unfold flotillaref02_Seal.f
  refine Ev.bind h1 ?_
  unfold flotillaref02_Four.f
  rw [Option.bind_some, if_pos (by
    show a.size + 4 ≤ 9223372036854775807
    omega)]
  exact Ev.now _
theorem gbytes_ev (ls tx pv un pg ak : Int) (a b c : ByteArray) (l : List SGTxn) (m : List SGDirty) (ha : a.size ≤ 100) (hb : b.size ≤ 100) (hc : c.size ≤ 100) :
    ∃ r : ByteArray, r.size = 38 + a.size + b.size + c.size ∧ Ev (fun k => flotillaref05_Bytes.f k 2 ls tx pv un pg ak a b c l m) r := by
  obtain ⟨s0, z0, e0⟩ := gnum_ev (IntKind.u64.wrap 2) 1 (by omega)
  obtain ⟨s1, z1, e1⟩ := gnum_ev ls 8 (by omega)
  obtain ⟨s2, z2, e2⟩ := gnum_ev (IntKind.u64.wrap tx) 4 (by omega)
  obtain ⟨s3, z3, e3⟩ := gnum_ev pv 8 (by omega)
  obtain ⟨s4, z4, e4⟩ := gnum_ev (IntKind.u64.wrap pg) 2 (by omega)
  obtain ⟨s5, z5, e5⟩ := gnum_ev (IntKind.u64.wrap ak) 1 (by omega)
  obtain ⟨s6, z6, e6⟩ := gtext_ev a (by omega)
  obtain ⟨s7, z7, e7⟩ := gtext_ev b (by omega)
  obtain ⟨s8, z8, e8⟩ := gtext_ev c (by omega)
  obtain ⟨s9, z9, e9⟩ := gnum_ev un 8 (by omega)
  refine ⟨s0 ++ s1 ++ s2 ++ s3 ++ s4 ++ s5 ++ s6 ++ s7 ++ s8 ++ s9, by simp only [ByteArray.size_append]; omega, ?_⟩
  unfold flotillaref05_Bytes.f
  refine Ev.bind e0 (Ev.bind e1 (ev_if (by omega) (Ev.bind e2 (ev_if (by simp only [ByteArray.size_append]; omega) (Ev.bind e3 (ev_if (by simp only [ByteArray.size_append]; omega) ?_))))))
  refine Ev.bind (a := true) (g := fun _ => flotillaref05_Changes.f 2) ⟨0, fun _ _ => rfl⟩ (ev_if rfl ?_)
  refine Ev.bind e4 (ev_if (by simp only [ByteArray.size_append]; omega) (Ev.bind e5 (ev_if (by simp only [ByteArray.size_append]; omega) ?_)))
  refine Ev.bind e6 (ev_if (by simp only [ByteArray.size_append]; omega) (Ev.bind e7 (ev_if (by simp only [ByteArray.size_append]; omega) (Ev.bind e8 (ev_if (by simp only [ByteArray.size_append]; omega) ?_)))))
  refine Ev.step (fun k => by rw [flotillaref05_Bytes.j0, if_pos rfl]) ?_
  refine Ev.bind e9 (ev_if (by simp only [ByteArray.size_append]; omega) ?_)
  refine Ev.step (f := fun _ => some _) (fun k => by rw [flotillaref05_Bytes.j1, if_neg (by decide)]) (Ev.now _)
/-- The document's frame of a record that takes back. -/
theorem frame_undo (w : World) (ls tx pv un pg ak : Int) (a b c : ByteArray) (At : Option Addr) (ct : Nat) (l : List SGTxn) (Ad : Option Addr) (cd : Nat) (m : List SGDirty) (hT : Kd.C kGTxn w At l.length l) (hTc : l.length ≤ ct) (hD : Kd.C kGDirty w Ad m.length m) (hDc : m.length ≤ cd) (ha : a.size ≤ 100) (hb : b.size ≤ 100) (hc : c.size ≤ 100) :
    Calls Try.prog 15 #[.agg #[.int .i64 2, .int .u64 ls, .int .i64 tx, .int .u64 pv, .int .u64 un, .int .i64 pg, .int .i64 ak, .string a, .string b, .string c, .slice At l.length ct, .slice Ad m.length cd]] w fun e w' => (∃ s : ByteArray, e = .returned (.string s) ∧ s.size = szU a b c) ∧ Below w.heap.size w w' := by
  obtain ⟨s0, z0, e0⟩ := gbytes_ev ls tx pv un pg ak a b c l m ha hb hc
  obtain ⟨k0, h0⟩ := e0.rounds
  obtain ⟨s1, z1, e1⟩ := gnum_ev (s0.size : Int) 2 (by omega)
  obtain ⟨k1, h1⟩ := e1.rounds
  obtain ⟨s2, z2, e2⟩ := gseal_ev (s1 ++ s0) (by rw [ByteArray.size_append]; omega)
  obtain ⟨k2, h2⟩ := e2.rounds
  have HS := Aside0.mk (show s2.size = szU a b c from by rw [z2, ByteArray.size_append]; unfold szU; omega)
  have hs0 : s0.size ≤ 400 := by omega
  clear z0 e0 e1 e2 z2 ha hb hc
  go_enter Try.func15, Try.ntmps15
  go_wp2_with fail
  have hba : Below w.heap.size w (w.alloc (.cells #[.int .i64 2, .int .u64 ls, .int .i64 tx, .int .u64 pv, .int .u64 un, .int .i64 pg, .int .i64 ak, .string a, .string b, .string c, .slice At l.length ct, .slice Ad m.length cd] 39)) := below_alloc (Below.refl _ _) _
  generalize w.alloc (.cells #[.int .i64 2, .int .u64 ls, .int .i64 tx, .int .u64 pv, .int .u64 un, .int .i64 pg, .int .i64 ak, .string a, .string b, .string c, .slice At l.length ct, .slice Ad m.length cd] 39) = wa at hba ⊢
  refine (flotillaref05_Bytes.calls k0 2 ls tx pv un pg ak a b c At ct l Ad cd m s0 wa (Kd.C_below hT hba) hTc (Kd.C_below hD hba) hDc h0).mono ?_
  rintro e wb ⟨rfl, hb⟩
  have HBB := Aside0.mk (below_then hba hba.size hb)
  clear hb hba
  go_wp2_with fail
  refine (flotillaref01_Num.calls k1 (s0.size : Int) 2 s1 wb h1).mono ?_
  rintro e wc ⟨rfl, hb⟩
  have HBC := Aside0.mk (below_then HBB.out HBB.out.size hb)
  clear hb
  go_wp2_with fail
  refine (flotillaref02_Seal.calls k2 (s1 ++ s0) s2 wc h2).mono ?_
  rintro e wd ⟨rfl, hb⟩
  have HBD := Aside0.mk (below_then HBC.out HBC.out.size hb)
  clear hb
  go_wp2_with fail
  go_ret
  exact ⟨⟨s2, rfl, HS.out⟩, HBD.out⟩
end Go.Proofs.Yteaklmafjmnmiaa
end
