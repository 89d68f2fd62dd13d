/- Layer 6: PagePlays: one step on the page and on the document's. -/
import Derived.Test.YtidkdbohkbfhbaaZMgPl1
import Derived.Test.YtidkdbohkbfhbaaZMgRr5
section
namespace Go.Proofs.Ytidkdbohkbfhbaa
open Go.RowKit Go.Proofs.YtidkdbohkbfhbaaW.PrintWords Go.Proofs.YtidkdbohkbfhbaaW.PrintLast Go.Proofs.YtidkdbohkbfhbaaW.PrintMore
open Rf
set_option linter.unusedVariables false
set_option linter.unusedSimpArgs false
attribute [local go_sem high] yundz
theorem results_tct {P : Program} {fn : Func} {p u v : Tmp} {ty : TypeId} (h : fn.results = #[.tmp u, .cell p ty, .tmp v]) (tmps : Array Value) (w : World) (g : Nat) (t : TypeId) (cs : Array Value) (fr : Nat × Nat) (d : TypeDesc)
    (hp : tmps.getD p undef = .pointer (some ⟨g, 0, none⟩)) (hg : w.heap[g]? = some (.cells cs t fr))
    (hu : P.underlying ty = some d) (hd : (match d with | .struct _ | .array _ _ => true | _ => false) = true) (hi : (P.info? ty).map (·.size) = some cs.size) :
    (results fn tmps).run P w = .ok (.tuple #[tmps.getD u undef, .agg cs, tmps.getD v undef]) w := by
  have hp' : tmps[p]?.getD undef = .pointer (some ⟨g, 0, none⟩) := by simpa using hp
  simp [results, h, hp', asAddr, run_loadVar_row w g t ty cs fr d hg hu hd hi]
/-- The step's own boxes, beside the blocks that are let be. -/
def BX (B : Nat → Prop) (n k : Nat) : Prop := B k ∨ k = n ∨ k = n + 1 ∨ k = n + 2
def Stepped (w0 w : World) (B : Nat → Prop) (id : Nat) (e : Ending) (w' : World) : Prop :=
  ∃ (g' lsn' : Nat) (cs' : List SGCell) (v' : Value), e = .returned (.tuple #[.pointer (some ⟨g', 0, none⟩), .agg #[.int .i64 (id : Int), .int .u64 (lsn' : Int), v'], .bool true]) ∧ Twin w0 w' B g' id lsn' cs' cs' v' ∧ ∀ k, B k → w'.heap[k]? = w.heap[k]?
theorem step_end {w0 w wz : World} {B : Nat → Prop} {g id lsn : Nat} {cs : List SGCell} {v : Value} {e : Ending} (h : Twin w0 wz (BX B w.heap.size) g id lsn cs cs v) (hk : ∀ k, B k → wz.heap[k]? = w.heap[k]?) (hg : w0.heap.size ≤ w.heap.size ∧ ∀ k, B k → k < w.heap.size)
    (he : e = .returned (.tuple #[.pointer (some ⟨g, 0, none⟩), .agg #[.int .i64 (id : Int), .int .u64 (lsn : Int), v], .bool true])) :
    Stepped w0 w B id e (((wz.setCell ⟨w.heap.size + 2, 0, none⟩ (.int .i64 (id : Int))).setCell ⟨w.heap.size + 2, 1, none⟩ (.int .u64 (lsn : Int))).setCell ⟨w.heap.size + 2, 2, none⟩ v) := by
  have hq : BX B w.heap.size (w.heap.size + 2) := .inr (.inr (.inr rfl))
  have hl : w0.heap.size ≤ w.heap.size + 2 := by have := hg.1; omega
  refine ⟨g, lsn, cs, v, he, (((h.set (q := ⟨w.heap.size + 2, 0, none⟩) hq hl _).set (q := ⟨w.heap.size + 2, 1, none⟩) hq hl _).set (q := ⟨w.heap.size + 2, 2, none⟩) hq hl _).fewer (fun k hb => .inl hb), fun k hb => ?_⟩
  have hne : k ≠ w.heap.size + 2 := by have := hg.2 k hb; omega
  rw [Below.heap_setCell _ ⟨w.heap.size + 2, 2, none⟩ _ k hne, Below.heap_setCell _ ⟨w.heap.size + 2, 1, none⟩ _ k hne, Below.heap_setCell _ ⟨w.heap.size + 2, 0, none⟩ _ k hne]
  exact hk k hb
theorem stepped_drew {w0 w wz : World} {B : Nat → Prop} {id : Nat} {e : Ending} (h : Stepped w0 w B id e wz) : Stepped w0 w B id e wz.drew := by
  obtain ⟨g, lsn, cs, v, rfl, hT, hk⟩ := h
  exact ⟨g, lsn, cs, v, rfl, hT.next (below_drew (Below.refl _ _)), hk⟩
set_option maxRecDepth 100000 in
set_option maxHeartbeats 16000000 in
theorem step_calls (w0 w : World) (B : Nat → Prop) (g id lsn : Nat) (cs : List SGCell) (v : Value) (ko : Int) (key val : ByteArray) (at_ : Nat) (h : Twin w0 w B g id lsn cs cs v) (hat : at_ < 18446744073709551616) :
    Calls Try.prog 31 #[.pointer (some ⟨g, 0, none⟩), .agg #[.int .i64 (id : Int), .int .u64 (lsn : Int), v], .agg #[.int .i64 ko, .string key, .string val, .int .u64 (at_ : Int)]] w (Stepped w0 w B id) := by
  obtain ⟨A, c, rfl, hc, hC⟩ := h.row
  have HT := Aside0.mk h
  have HV := Aside0.mk h.val
  have HC := Aside0.mk hC
  have HCC := Aside0.mk hc
  have HAT := Aside0.mk hat
  have HGE := Aside0.mk (show w0.heap.size ≤ w.heap.size ∧ ∀ k, B k → k < w.heap.size from ⟨h.bel.size, h.fix⟩)
  clear h hC hc hat
  by_cases k0 : ko = 0
  · subst k0
    go_enter Try.func31, Try.ntmps31
    -- [K0
    go_wp2_with fail
    have hd1 : (((w.alloc (.cells #[.int .i64 (id : Int), .int .u64 (lsn : Int), .slice A cs.length c] 33)).alloc (.cells #[.int .i64 0, .string key, .string val, .int .u64 (at_ : Int)] 59)).alloc (.cells #[.int .i64 0, .int .u64 0, .slice none 0 0] 33)).heap[w.heap.size]? = some (.cells #[.int .i64 (id : Int), .int .u64 (lsn : Int), .slice A cs.length c] 33 (0, 0)) := blk_alloc (blk_alloc (heap_alloc_new w _) _) _
    have ho1 : (((w.alloc (.cells #[.int .i64 (id : Int), .int .u64 (lsn : Int), .slice A cs.length c] 33)).alloc (.cells #[.int .i64 0, .string key, .string val, .int .u64 (at_ : Int)] 59)).alloc (.cells #[.int .i64 0, .int .u64 0, .slice none 0 0] 33)).heap[w.heap.size + 1]? = some (.cells #[.int .i64 0, .string key, .string val, .int .u64 (at_ : Int)] 59 (0, 0)) := by
      have := blk_alloc (heap_alloc_new (w.alloc (.cells #[.int .i64 (id : Int), .int .u64 (lsn : Int), .slice A cs.length c] 33)) (.cells #[.int .i64 0, .string key, .string val, .int .u64 (at_ : Int)] 59)) (.cells #[.int .i64 0, .int .u64 0, .slice none 0 0] 33)
      rwa [World.size_alloc] at this
    have hr1 : (((w.alloc (.cells #[.int .i64 (id : Int), .int .u64 (lsn : Int), .slice A cs.length c] 33)).alloc (.cells #[.int .i64 0, .string key, .string val, .int .u64 (at_ : Int)] 59)).alloc (.cells #[.int .i64 0, .int .u64 0, .slice none 0 0] 33)).heap[w.heap.size + 2]? = some (.cells #[.int .i64 0, .int .u64 0, .slice none 0 0] 33 (0, 0)) := by
      have := heap_alloc_new ((w.alloc (.cells #[.int .i64 (id : Int), .int .u64 (lsn : Int), .slice A cs.length c] 33)).alloc (.cells #[.int .i64 0, .string key, .string val, .int .u64 (at_ : Int)] 59)) (.cells #[.int .i64 0, .int .u64 0, .slice none 0 0] 33)
      rwa [World.size_alloc, World.size_alloc] at this
    have hb1 : Below w.heap.size w (((w.alloc (.cells #[.int .i64 (id : Int), .int .u64 (lsn : Int), .slice A cs.length c] 33)).alloc (.cells #[.int .i64 0, .string key, .string val, .int .u64 (at_ : Int)] 59)).alloc (.cells #[.int .i64 0, .int .u64 0, .slice none 0 0] 33)) := below_alloc (below_alloc (below_alloc (Below.refl _ _) _) _) _
    have hs1 : (((w.alloc (.cells #[.int .i64 (id : Int), .int .u64 (lsn : Int), .slice A cs.length c] 33)).alloc (.cells #[.int .i64 0, .string key, .string val, .int .u64 (at_ : Int)] 59)).alloc (.cells #[.int .i64 0, .int .u64 0, .slice none 0 0] 33)).heap.size = w.heap.size + 3 := by rw [World.size_alloc, World.size_alloc, World.size_alloc]
    generalize (((w.alloc (.cells #[.int .i64 (id : Int), .int .u64 (lsn : Int), .slice A cs.length c] 33)).alloc (.cells #[.int .i64 0, .string key, .string val, .int .u64 (at_ : Int)] 59)).alloc (.cells #[.int .i64 0, .int .u64 0, .slice none 0 0] 33)) = w1 at hd1 ho1 hr1 hb1 hs1 ⊢
    have HD1 := Aside0.mk hd1
    have HO1 := Aside0.mk ho1
    have HR1 := Aside0.mk hr1
    have HK1 := Aside0.mk (show ∀ k, B k → w1.heap[k]? = w.heap[k]? from fun k hk => hb1.block k (HT.out.fix k hk))
    have HT1 := Aside0.mk (HT.out.apart (B' := BX B w.heap.size) hb1 (fun k hk => by
      rcases hk with h | h | h | h
      · exact .inl h
      all_goals exact .inr (by omega)))
    clear hd1 ho1 hr1 hb1 hs1
    refine (HT1.out.insert key val).mono ?_
    rintro e w2 ⟨rfl, hT, hB⟩
    have HD2 := Aside0.mk ((hB _ (.inr (.inl rfl))).trans HD1.out)
    have HO2 := Aside0.mk ((hB _ (.inr (.inr (.inl rfl)))).trans HO1.out)
    have HR2 := Aside0.mk ((hB _ (.inr (.inr (.inr rfl)))).trans HR1.out)
    have HK2 := Aside0.mk (fun k hk => (hB k (.inl hk)).trans (HK1.out k hk))
    have HT2 := Aside0.mk hT
    clear hT hB
    have d0 := blk_cell HD2.out 0
    have d1 := blk_cell HD2.out 1
    have d2 := blk_cell HD2.out 2
    have o0 := blk_cell HO2.out 0
    have o1 := blk_cell HO2.out 1
    have o2 := blk_cell HO2.out 2
    have o3 := blk_cell HO2.out 3
    go_wp2_with fail
    refine (HT2.out.rins HV.out key val).mono ?_
    rintro e w3 ⟨v3, rfl, hT, hB⟩
    obtain ⟨A3, c3, hv3, _, _⟩ := hT.row
    obtain ⟨n3, hn3⟩ : ∃ n, n = (ins cs key val).1.length := ⟨_, rfl⟩
    rw [← hn3] at hv3
    subst hv3
    have HD3 := Aside0.mk ((hB _ (.inr (.inl rfl))).trans HD2.out)
    have HO3 := Aside0.mk ((hB _ (.inr (.inr (.inl rfl)))).trans HO2.out)
    have HR3 := Aside0.mk ((hB _ (.inr (.inr (.inr rfl)))).trans HR2.out)
    have HK3 := Aside0.mk (fun k hk => (hB k (.inl hk)).trans (HK2.out k hk))
    have HT3 := Aside0.mk hT
    clear hT hB hn3 d0 d1 d2 o0 o1 o2 o3
    obtain ⟨er, her⟩ : ∃ x, x = (ins cs key val).2 := ⟨_, rfl⟩
    rw [← her]
    clear her
    obtain ⟨cs3, hcs⟩ : ∃ x, x = (ins cs key val).1 := ⟨_, rfl⟩
    have HT3 := Aside0.mk (show Twin w0 w3 (BX B w.heap.size) g id lsn cs3 cs3 (.slice A3 n3 c3) by rw [hcs]; exact HT3.out)
    clear hcs
    go_wp2_with fail
    have hx4 : (w3.alloc (.cells #[.int .i64 (id : Int), .int .u64 (lsn : Int), .slice A3 n3 c3] 33)).heap[w3.heap.size]? = some (.cells #[.int .i64 (id : Int), .int .u64 (lsn : Int), .slice A3 n3 c3] 33 (0, 0)) := heap_alloc_new w3 _
    have hb : Below w3.heap.size w3 (w3.alloc (.cells #[.int .i64 (id : Int), .int .u64 (lsn : Int), .slice A3 n3 c3] 33)) := below_alloc (Below.refl _ _) _
    have hne : w3.heap.size ≠ w.heap.size + 2 := by have := blk_lt HR3.out; omega
    generalize w3.alloc (.cells #[.int .i64 (id : Int), .int .u64 (lsn : Int), .slice A3 n3 c3] 33) = w4 at hx4 hb ⊢
    have HD4 := Aside0.mk (blk_below HD3.out hb)
    have HO4 := Aside0.mk (blk_below HO3.out hb)
    have HR4 := Aside0.mk (blk_below HR3.out hb)
    have HK4 := Aside0.mk (fun k hk => (hb.block k (HT3.out.fix k (.inl hk))).trans (HK3.out k hk))
    have HT4 := Aside0.mk (HT3.out.next hb)
    have x0 := blk_cell hx4 0
    have x1 := blk_cell hx4 1
    have x2 := blk_cell hx4 2
    have r0 := blk_cell HR4.out 0
    have r1 := blk_cell HR4.out 1
    have r2 := blk_cell HR4.out 2
    have rf0 := blk_frozen HR4.out 0
    have rf1 := blk_frozen HR4.out 1
    have rf2 := blk_frozen HR4.out 2
    clear hb hx4
    go_region
    all_goals
      go_wp2_with fail
      refine bodyPost_ret (results_tct rfl _ _ (w.heap.size + 2) 33 #[.int .i64 (id : Int), .int .u64 (lsn : Int), .slice A3 n3 c3] (0, 0) _ rfl (put3 HR4.out) Try.underlying33 rfl (by kernel_rfl)) rfl ?_
      first
      | exact stepped_drew (step_end HT4.out HK4.out HGE.out rfl)
      | exact step_end HT4.out HK4.out HGE.out rfl
    -- K0]
  by_cases k1 : ko = 1
  · subst k1
    clear k0
    go_enter Try.func31, Try.ntmps31
    -- [K1
    go_wp2_with fail
    have hd1 : (((w.alloc (.cells #[.int .i64 (id : Int), .int .u64 (lsn : Int), .slice A cs.length c] 33)).alloc (.cells #[.int .i64 1, .string key, .string val, .int .u64 (at_ : Int)] 59)).alloc (.cells #[.int .i64 0, .int .u64 0, .slice none 0 0] 33)).heap[w.heap.size]? = some (.cells #[.int .i64 (id : Int), .int .u64 (lsn : Int), .slice A cs.length c] 33 (0, 0)) := blk_alloc (blk_alloc (heap_alloc_new w _) _) _
    have ho1 : (((w.alloc (.cells #[.int .i64 (id : Int), .int .u64 (lsn : Int), .slice A cs.length c] 33)).alloc (.cells #[.int .i64 1, .string key, .string val, .int .u64 (at_ : Int)] 59)).alloc (.cells #[.int .i64 0, .int .u64 0, .slice none 0 0] 33)).heap[w.heap.size + 1]? = some (.cells #[.int .i64 1, .string key, .string val, .int .u64 (at_ : Int)] 59 (0, 0)) := by
      have := blk_alloc (heap_alloc_new (w.alloc (.cells #[.int .i64 (id : Int), .int .u64 (lsn : Int), .slice A cs.length c] 33)) (.cells #[.int .i64 1, .string key, .string val, .int .u64 (at_ : Int)] 59)) (.cells #[.int .i64 0, .int .u64 0, .slice none 0 0] 33)
      rwa [World.size_alloc] at this
    have hr1 : (((w.alloc (.cells #[.int .i64 (id : Int), .int .u64 (lsn : Int), .slice A cs.length c] 33)).alloc (.cells #[.int .i64 1, .string key, .string val, .int .u64 (at_ : Int)] 59)).alloc (.cells #[.int .i64 0, .int .u64 0, .slice none 0 0] 33)).heap[w.heap.size + 2]? = some (.cells #[.int .i64 0, .int .u64 0, .slice none 0 0] 33 (0, 0)) := by
      have := heap_alloc_new ((w.alloc (.cells #[.int .i64 (id : Int), .int .u64 (lsn : Int), .slice A cs.length c] 33)).alloc (.cells #[.int .i64 1, .string key, .string val, .int .u64 (at_ : Int)] 59)) (.cells #[.int .i64 0, .int .u64 0, .slice none 0 0] 33)
      rwa [World.size_alloc, World.size_alloc] at this
    have hb1 : Below w.heap.size w (((w.alloc (.cells #[.int .i64 (id : Int), .int .u64 (lsn : Int), .slice A cs.length c] 33)).alloc (.cells #[.int .i64 1, .string key, .string val, .int .u64 (at_ : Int)] 59)).alloc (.cells #[.int .i64 0, .int .u64 0, .slice none 0 0] 33)) := below_alloc (below_alloc (below_alloc (Below.refl _ _) _) _) _
    have hs1 : (((w.alloc (.cells #[.int .i64 (id : Int), .int .u64 (lsn : Int), .slice A cs.length c] 33)).alloc (.cells #[.int .i64 1, .string key, .string val, .int .u64 (at_ : Int)] 59)).alloc (.cells #[.int .i64 0, .int .u64 0, .slice none 0 0] 33)).heap.size = w.heap.size + 3 := by rw [World.size_alloc, World.size_alloc, World.size_alloc]
    generalize (((w.alloc (.cells #[.int .i64 (id : Int), .int .u64 (lsn : Int), .slice A cs.length c] 33)).alloc (.cells #[.int .i64 1, .string key, .string val, .int .u64 (at_ : Int)] 59)).alloc (.cells #[.int .i64 0, .int .u64 0, .slice none 0 0] 33)) = w1 at hd1 ho1 hr1 hb1 hs1 ⊢
    have HD1 := Aside0.mk hd1
    have HO1 := Aside0.mk ho1
    have HR1 := Aside0.mk hr1
    have HK1 := Aside0.mk (show ∀ k, B k → w1.heap[k]? = w.heap[k]? from fun k hk => hb1.block k (HT.out.fix k hk))
    have HT1 := Aside0.mk (HT.out.apart (B' := BX B w.heap.size) hb1 (fun k hk => by
      rcases hk with h | h | h | h
      · exact .inl h
      all_goals exact .inr (by omega)))
    clear hd1 ho1 hr1 hb1 hs1
    refine (HT1.out.update key val).mono ?_
    rintro e w2 ⟨rfl, hT, hB⟩
    have HD2 := Aside0.mk ((hB _ (.inr (.inl rfl))).trans HD1.out)
    have HO2 := Aside0.mk ((hB _ (.inr (.inr (.inl rfl)))).trans HO1.out)
    have HR2 := Aside0.mk ((hB _ (.inr (.inr (.inr rfl)))).trans HR1.out)
    have HK2 := Aside0.mk (fun k hk => (hB k (.inl hk)).trans (HK1.out k hk))
    have HT2 := Aside0.mk hT
    clear hT hB
    have d0 := blk_cell HD2.out 0
    have d1 := blk_cell HD2.out 1
    have d2 := blk_cell HD2.out 2
    have o0 := blk_cell HO2.out 0
    have o1 := blk_cell HO2.out 1
    have o2 := blk_cell HO2.out 2
    have o3 := blk_cell HO2.out 3
    go_wp2_with fail
    refine (HT2.out.rupd HV.out key val).mono ?_
    rintro e w3 ⟨v3, rfl, hT, hB⟩
    obtain ⟨A3, c3, hv3, _, _⟩ := hT.row
    obtain ⟨n3, hn3⟩ : ∃ n, n = (upd cs key val).1.length := ⟨_, rfl⟩
    rw [← hn3] at hv3
    subst hv3
    have HD3 := Aside0.mk ((hB _ (.inr (.inl rfl))).trans HD2.out)
    have HO3 := Aside0.mk ((hB _ (.inr (.inr (.inl rfl)))).trans HO2.out)
    have HR3 := Aside0.mk ((hB _ (.inr (.inr (.inr rfl)))).trans HR2.out)
    have HK3 := Aside0.mk (fun k hk => (hB k (.inl hk)).trans (HK2.out k hk))
    have HT3 := Aside0.mk hT
    clear hT hB hn3 d0 d1 d2 o0 o1 o2 o3
    obtain ⟨er, her⟩ : ∃ x, x = (upd cs key val).2 := ⟨_, rfl⟩
    rw [← her]
    clear her
    obtain ⟨cs3, hcs⟩ : ∃ x, x = (upd cs key val).1 := ⟨_, rfl⟩
    have HT3 := Aside0.mk (show Twin w0 w3 (BX B w.heap.size) g id lsn cs3 cs3 (.slice A3 n3 c3) by rw [hcs]; exact HT3.out)
    clear hcs
    go_wp2_with fail
    have hx4 : (w3.alloc (.cells #[.int .i64 (id : Int), .int .u64 (lsn : Int), .slice A3 n3 c3] 33)).heap[w3.heap.size]? = some (.cells #[.int .i64 (id : Int), .int .u64 (lsn : Int), .slice A3 n3 c3] 33 (0, 0)) := heap_alloc_new w3 _
    have hb : Below w3.heap.size w3 (w3.alloc (.cells #[.int .i64 (id : Int), .int .u64 (lsn : Int), .slice A3 n3 c3] 33)) := below_alloc (Below.refl _ _) _
    have hne : w3.heap.size ≠ w.heap.size + 2 := by have := blk_lt HR3.out; omega
    generalize w3.alloc (.cells #[.int .i64 (id : Int), .int .u64 (lsn : Int), .slice A3 n3 c3] 33) = w4 at hx4 hb ⊢
    have HD4 := Aside0.mk (blk_below HD3.out hb)
    have HO4 := Aside0.mk (blk_below HO3.out hb)
    have HR4 := Aside0.mk (blk_below HR3.out hb)
    have HK4 := Aside0.mk (fun k hk => (hb.block k (HT3.out.fix k (.inl hk))).trans (HK3.out k hk))
    have HT4 := Aside0.mk (HT3.out.next hb)
    have x0 := blk_cell hx4 0
    have x1 := blk_cell hx4 1
    have x2 := blk_cell hx4 2
    have r0 := blk_cell HR4.out 0
    have r1 := blk_cell HR4.out 1
    have r2 := blk_cell HR4.out 2
    have rf0 := blk_frozen HR4.out 0
    have rf1 := blk_frozen HR4.out 1
    have rf2 := blk_frozen HR4.out 2
    clear hb hx4
    go_region
    all_goals
      go_wp2_with fail
      refine bodyPost_ret (results_tct rfl _ _ (w.heap.size + 2) 33 #[.int .i64 (id : Int), .int .u64 (lsn : Int), .slice A3 n3 c3] (0, 0) _ rfl (put3 HR4.out) Try.underlying33 rfl (by kernel_rfl)) rfl ?_
      first
      | exact stepped_drew (step_end HT4.out HK4.out HGE.out rfl)
      | exact step_end HT4.out HK4.out HGE.out rfl
    -- K1]
  by_cases k2 : ko = 2
  · subst k2
    clear k0 k1
    go_enter Try.func31, Try.ntmps31
    -- [K2
    go_wp2_with fail
    have hd1 : (((w.alloc (.cells #[.int .i64 (id : Int), .int .u64 (lsn : Int), .slice A cs.length c] 33)).alloc (.cells #[.int .i64 2, .string key, .string val, .int .u64 (at_ : Int)] 59)).alloc (.cells #[.int .i64 0, .int .u64 0, .slice none 0 0] 33)).heap[w.heap.size]? = some (.cells #[.int .i64 (id : Int), .int .u64 (lsn : Int), .slice A cs.length c] 33 (0, 0)) := blk_alloc (blk_alloc (heap_alloc_new w _) _) _
    have ho1 : (((w.alloc (.cells #[.int .i64 (id : Int), .int .u64 (lsn : Int), .slice A cs.length c] 33)).alloc (.cells #[.int .i64 2, .string key, .string val, .int .u64 (at_ : Int)] 59)).alloc (.cells #[.int .i64 0, .int .u64 0, .slice none 0 0] 33)).heap[w.heap.size + 1]? = some (.cells #[.int .i64 2, .string key, .string val, .int .u64 (at_ : Int)] 59 (0, 0)) := by
      have := blk_alloc (heap_alloc_new (w.alloc (.cells #[.int .i64 (id : Int), .int .u64 (lsn : Int), .slice A cs.length c] 33)) (.cells #[.int .i64 2, .string key, .string val, .int .u64 (at_ : Int)] 59)) (.cells #[.int .i64 0, .int .u64 0, .slice none 0 0] 33)
      rwa [World.size_alloc] at this
    have hr1 : (((w.alloc (.cells #[.int .i64 (id : Int), .int .u64 (lsn : Int), .slice A cs.length c] 33)).alloc (.cells #[.int .i64 2, .string key, .string val, .int .u64 (at_ : Int)] 59)).alloc (.cells #[.int .i64 0, .int .u64 0, .slice none 0 0] 33)).heap[w.heap.size + 2]? = some (.cells #[.int .i64 0, .int .u64 0, .slice none 0 0] 33 (0, 0)) := by
      have := heap_alloc_new ((w.alloc (.cells #[.int .i64 (id : Int), .int .u64 (lsn : Int), .slice A cs.length c] 33)).alloc (.cells #[.int .i64 2, .string key, .string val, .int .u64 (at_ : Int)] 59)) (.cells #[.int .i64 0, .int .u64 0, .slice none 0 0] 33)
      rwa [World.size_alloc, World.size_alloc] at this
    have hb1 : Below w.heap.size w (((w.alloc (.cells #[.int .i64 (id : Int), .int .u64 (lsn : Int), .slice A cs.length c] 33)).alloc (.cells #[.int .i64 2, .string key, .string val, .int .u64 (at_ : Int)] 59)).alloc (.cells #[.int .i64 0, .int .u64 0, .slice none 0 0] 33)) := below_alloc (below_alloc (below_alloc (Below.refl _ _) _) _) _
    have hs1 : (((w.alloc (.cells #[.int .i64 (id : Int), .int .u64 (lsn : Int), .slice A cs.length c] 33)).alloc (.cells #[.int .i64 2, .string key, .string val, .int .u64 (at_ : Int)] 59)).alloc (.cells #[.int .i64 0, .int .u64 0, .slice none 0 0] 33)).heap.size = w.heap.size + 3 := by rw [World.size_alloc, World.size_alloc, World.size_alloc]
    generalize (((w.alloc (.cells #[.int .i64 (id : Int), .int .u64 (lsn : Int), .slice A cs.length c] 33)).alloc (.cells #[.int .i64 2, .string key, .string val, .int .u64 (at_ : Int)] 59)).alloc (.cells #[.int .i64 0, .int .u64 0, .slice none 0 0] 33)) = w1 at hd1 ho1 hr1 hb1 hs1 ⊢
    have HD1 := Aside0.mk hd1
    have HO1 := Aside0.mk ho1
    have HR1 := Aside0.mk hr1
    have HK1 := Aside0.mk (show ∀ k, B k → w1.heap[k]? = w.heap[k]? from fun k hk => hb1.block k (HT.out.fix k hk))
    have HT1 := Aside0.mk (HT.out.apart (B' := BX B w.heap.size) hb1 (fun k hk => by
      rcases hk with h | h | h | h
      · exact .inl h
      all_goals exact .inr (by omega)))
    clear hd1 ho1 hr1 hb1 hs1
    refine (HT1.out.delete key).mono ?_
    rintro e w2 ⟨rfl, hT, hB⟩
    have HD2 := Aside0.mk ((hB _ (.inr (.inl rfl))).trans HD1.out)
    have HO2 := Aside0.mk ((hB _ (.inr (.inr (.inl rfl)))).trans HO1.out)
    have HR2 := Aside0.mk ((hB _ (.inr (.inr (.inr rfl)))).trans HR1.out)
    have HK2 := Aside0.mk (fun k hk => (hB k (.inl hk)).trans (HK1.out k hk))
    have HT2 := Aside0.mk hT
    clear hT hB
    have d0 := blk_cell HD2.out 0
    have d1 := blk_cell HD2.out 1
    have d2 := blk_cell HD2.out 2
    have o0 := blk_cell HO2.out 0
    have o1 := blk_cell HO2.out 1
    have o2 := blk_cell HO2.out 2
    have o3 := blk_cell HO2.out 3
    go_wp2_with fail
    refine (HT2.out.rdel HV.out key).mono ?_
    rintro e w3 ⟨v3, rfl, hT, hB⟩
    obtain ⟨A3, c3, hv3, _, _⟩ := hT.row
    obtain ⟨n3, hn3⟩ : ∃ n, n = (del cs key).1.length := ⟨_, rfl⟩
    rw [← hn3] at hv3
    subst hv3
    have HD3 := Aside0.mk ((hB _ (.inr (.inl rfl))).trans HD2.out)
    have HO3 := Aside0.mk ((hB _ (.inr (.inr (.inl rfl)))).trans HO2.out)
    have HR3 := Aside0.mk ((hB _ (.inr (.inr (.inr rfl)))).trans HR2.out)
    have HK3 := Aside0.mk (fun k hk => (hB k (.inl hk)).trans (HK2.out k hk))
    have HT3 := Aside0.mk hT
    clear hT hB hn3 d0 d1 d2 o0 o1 o2 o3
    obtain ⟨er, her⟩ : ∃ x, x = (del cs key).2 := ⟨_, rfl⟩
    rw [← her]
    clear her
    obtain ⟨cs3, hcs⟩ : ∃ x, x = (del cs key).1 := ⟨_, rfl⟩
    have HT3 := Aside0.mk (show Twin w0 w3 (BX B w.heap.size) g id lsn cs3 cs3 (.slice A3 n3 c3) by rw [hcs]; exact HT3.out)
    clear hcs
    go_wp2_with fail
    have hx4 : (w3.alloc (.cells #[.int .i64 (id : Int), .int .u64 (lsn : Int), .slice A3 n3 c3] 33)).heap[w3.heap.size]? = some (.cells #[.int .i64 (id : Int), .int .u64 (lsn : Int), .slice A3 n3 c3] 33 (0, 0)) := heap_alloc_new w3 _
    have hb : Below w3.heap.size w3 (w3.alloc (.cells #[.int .i64 (id : Int), .int .u64 (lsn : Int), .slice A3 n3 c3] 33)) := below_alloc (Below.refl _ _) _
    have hne : w3.heap.size ≠ w.heap.size + 2 := by have := blk_lt HR3.out; omega
    generalize w3.alloc (.cells #[.int .i64 (id : Int), .int .u64 (lsn : Int), .slice A3 n3 c3] 33) = w4 at hx4 hb ⊢
    have HD4 := Aside0.mk (blk_below HD3.out hb)
    have HO4 := Aside0.mk (blk_below HO3.out hb)
    have HR4 := Aside0.mk (blk_below HR3.out hb)
    have HK4 := Aside0.mk (fun k hk => (hb.block k (HT3.out.fix k (.inl hk))).trans (HK3.out k hk))
    have HT4 := Aside0.mk (HT3.out.next hb)
    have x0 := blk_cell hx4 0
    have x1 := blk_cell hx4 1
    have x2 := blk_cell hx4 2
    have r0 := blk_cell HR4.out 0
    have r1 := blk_cell HR4.out 1
    have r2 := blk_cell HR4.out 2
    have rf0 := blk_frozen HR4.out 0
    have rf1 := blk_frozen HR4.out 1
    have rf2 := blk_frozen HR4.out 2
    clear hb hx4
    go_region
    all_goals
      go_wp2_with fail
      refine bodyPost_ret (results_tct rfl _ _ (w.heap.size + 2) 33 #[.int .i64 (id : Int), .int .u64 (lsn : Int), .slice A3 n3 c3] (0, 0) _ rfl (put3 HR4.out) Try.underlying33 rfl (by kernel_rfl)) rfl ?_
      first
      | exact stepped_drew (step_end HT4.out HK4.out HGE.out rfl)
      | exact step_end HT4.out HK4.out HGE.out rfl
    -- K2]
  by_cases k3 : ko = 3
  · subst k3
    clear k0 k1 k2
    go_enter Try.func31, Try.ntmps31
    -- [K3
    obtain ⟨f, hf⟩ : ∃ f, f = fnd cs key := ⟨_, rfl⟩
    have HF := Aside0.mk hf
    go_wp2_with fail
    have hd1 : (((w.alloc (.cells #[.int .i64 (id : Int), .int .u64 (lsn : Int), .slice A cs.length c] 33)).alloc (.cells #[.int .i64 3, .string key, .string val, .int .u64 (at_ : Int)] 59)).alloc (.cells #[.int .i64 0, .int .u64 0, .slice none 0 0] 33)).heap[w.heap.size]? = some (.cells #[.int .i64 (id : Int), .int .u64 (lsn : Int), .slice A cs.length c] 33 (0, 0)) := blk_alloc (blk_alloc (heap_alloc_new w _) _) _
    have ho1 : (((w.alloc (.cells #[.int .i64 (id : Int), .int .u64 (lsn : Int), .slice A cs.length c] 33)).alloc (.cells #[.int .i64 3, .string key, .string val, .int .u64 (at_ : Int)] 59)).alloc (.cells #[.int .i64 0, .int .u64 0, .slice none 0 0] 33)).heap[w.heap.size + 1]? = some (.cells #[.int .i64 3, .string key, .string val, .int .u64 (at_ : Int)] 59 (0, 0)) := by
      have := blk_alloc (heap_alloc_new (w.alloc (.cells #[.int .i64 (id : Int), .int .u64 (lsn : Int), .slice A cs.length c] 33)) (.cells #[.int .i64 3, .string key, .string val, .int .u64 (at_ : Int)] 59)) (.cells #[.int .i64 0, .int .u64 0, .slice none 0 0] 33)
      rwa [World.size_alloc] at this
    have hr1 : (((w.alloc (.cells #[.int .i64 (id : Int), .int .u64 (lsn : Int), .slice A cs.length c] 33)).alloc (.cells #[.int .i64 3, .string key, .string val, .int .u64 (at_ : Int)] 59)).alloc (.cells #[.int .i64 0, .int .u64 0, .slice none 0 0] 33)).heap[w.heap.size + 2]? = some (.cells #[.int .i64 0, .int .u64 0, .slice none 0 0] 33 (0, 0)) := by
      have := heap_alloc_new ((w.alloc (.cells #[.int .i64 (id : Int), .int .u64 (lsn : Int), .slice A cs.length c] 33)).alloc (.cells #[.int .i64 3, .string key, .string val, .int .u64 (at_ : Int)] 59)) (.cells #[.int .i64 0, .int .u64 0, .slice none 0 0] 33)
      rwa [World.size_alloc, World.size_alloc] at this
    have hb1 : Below w.heap.size w (((w.alloc (.cells #[.int .i64 (id : Int), .int .u64 (lsn : Int), .slice A cs.length c] 33)).alloc (.cells #[.int .i64 3, .string key, .string val, .int .u64 (at_ : Int)] 59)).alloc (.cells #[.int .i64 0, .int .u64 0, .slice none 0 0] 33)) := below_alloc (below_alloc (below_alloc (Below.refl _ _) _) _) _
    have hs1 : (((w.alloc (.cells #[.int .i64 (id : Int), .int .u64 (lsn : Int), .slice A cs.length c] 33)).alloc (.cells #[.int .i64 3, .string key, .string val, .int .u64 (at_ : Int)] 59)).alloc (.cells #[.int .i64 0, .int .u64 0, .slice none 0 0] 33)).heap.size = w.heap.size + 3 := by rw [World.size_alloc, World.size_alloc, World.size_alloc]
    generalize (((w.alloc (.cells #[.int .i64 (id : Int), .int .u64 (lsn : Int), .slice A cs.length c] 33)).alloc (.cells #[.int .i64 3, .string key, .string val, .int .u64 (at_ : Int)] 59)).alloc (.cells #[.int .i64 0, .int .u64 0, .slice none 0 0] 33)) = w1 at hd1 ho1 hr1 hb1 hs1 ⊢
    have HD1 := Aside0.mk hd1
    have HO1 := Aside0.mk ho1
    have HR1 := Aside0.mk hr1
    have HK1 := Aside0.mk (show ∀ k, B k → w1.heap[k]? = w.heap[k]? from fun k hk => hb1.block k (HT.out.fix k hk))
    have HT1 := Aside0.mk (HT.out.apart (B' := BX B w.heap.size) hb1 (fun k hk => by
      rcases hk with h | h | h | h
      · exact .inl h
      all_goals exact .inr (by omega)))
    clear hd1 ho1 hr1 hb1 hs1
    have hget := HT1.out.get key
    have hft := fnd_or cs key
    rw [← hf] at hget hft
    clear hf
    rcases hft with rfl | ⟨hf0, hf1⟩
    · rw [if_pos (by omega), decide_eq_false (by omega)] at hget
      refine hget.mono ?_
      rintro e w2 ⟨rfl, hT, hb⟩
      have HD2 := Aside0.mk (blk_below HD1.out hb)
      have HO2 := Aside0.mk (blk_below HO1.out hb)
      have HR2 := Aside0.mk (blk_below HR1.out hb)
      have HK2 := Aside0.mk (fun k hk => (hb.block k (HT1.out.fix k (.inl hk))).trans (HK1.out k hk))
      have HT2 := Aside0.mk hT
      clear hT hb hget
      have d0 := blk_cell HD2.out 0
      have d1 := blk_cell HD2.out 1
      have d2 := blk_cell HD2.out 2
      have o0 := blk_cell HO2.out 0
      have o1 := blk_cell HO2.out 1
      have o2 := blk_cell HO2.out 2
      have o3 := blk_cell HO2.out 3
      have hfi := rfind_calls (w := w2) A c HT2.out.rowC.2.2 HT2.out.rowC.2.1 (by have := HV.out.len; omega) id lsn key
      rw [← HF.out] at hfi
      go_wp2_with fail
      refine hfi.mono ?_
      rintro e w3 ⟨rfl, hb⟩
      have HD3 := Aside0.mk (blk_below HD2.out hb)
      have HO3 := Aside0.mk (blk_below HO2.out hb)
      have HR3 := Aside0.mk (blk_below HR2.out hb)
      have HK3 := Aside0.mk (fun k hk => (hb.block k (HT2.out.fix k (.inl hk))).trans (HK2.out k hk))
      have HT3 := Aside0.mk (HT2.out.next hb)
      clear hb hfi d0 d1 d2 o0 o1 o2 o3
      have d0 := blk_cell (blk_drew HD3.out) 0
      have d1 := blk_cell (blk_drew HD3.out) 1
      have d2 := blk_cell (blk_drew HD3.out) 2
      have HTd := Aside0.mk (HT3.out.next (below_drew (Below.refl _ _)))
      have HRd := Aside0.mk (blk_drew HR3.out)
      have HDd := Aside0.mk (blk_drew HD3.out)
      have r0 := blk_cell HRd.out 0
      have r1 := blk_cell HRd.out 1
      have r2 := blk_cell HRd.out 2
      have rf0 := blk_frozen HRd.out 0
      have rf1 := blk_frozen HRd.out 1
      have rf2 := blk_frozen HRd.out 2
      have q0 := blk_cell HR3.out 0
      have q1 := blk_cell HR3.out 1
      have q2 := blk_cell HR3.out 2
      have qf0 := blk_frozen HR3.out 0
      have qf1 := blk_frozen HR3.out 1
      have qf2 := blk_frozen HR3.out 2
      go_wp2_with fail
      refine start_ (n := 31) (S := fun wx => wx.cell? ⟨w.heap.size, 0, none⟩ = some (.int .i64 (id : Int)) ∧ wx.cell? ⟨w.heap.size, 1, none⟩ = some (.int .u64 (lsn : Int)) ∧ wx.cell? ⟨w.heap.size, 2, none⟩ = some (.slice A cs.length c)) (ds := []) #[false, false, false, false, false, false, false, false, false, false, false, false, false, false, false, false, false, false, false, false, false, false, false, false, false, false, false, false, false, false, false] (by kernel_rfl) rfl rfl (⟨d0, d1, d2⟩) (fun hHeld => ?_)
      refine pure_ (i := 0) (N := some 101) (v := ?_) (a' := ?_) #[true, false, false, false, false, false, false, false, false, false, false, false, false, false, false, false, false, false, false, false, false, false, false, false, false, false, false, false, false, false, false] rfl rfl (by kernel_rfl) (fun _ _ _ h => h) (Or.inl ⟨by rfl, ?_⟩) ?_ ?_
      rotate_left
      · intro w'
        go_simp
        all_goals (with_reducible rfl)
      rotate_left
      · simp only [Act.put, List.setIfInBounds_toArray, List.set_cons_zero, List.set_cons_succ, i64_w, i32_w]
        rfl
      refine pure_ (i := 2) (N := some 103) (v := ?_) (a' := ?_) #[true, false, true, false, false, false, false, false, false, false, false, false, false, false, false, false, false, false, false, false, false, false, false, false, false, false, false, false, false, false, false] rfl rfl (by kernel_rfl) (fun _ _ _ h => h) (Or.inl ⟨by rfl, ?_⟩) ?_ ?_
      rotate_left
      · intro w'
        go_simp
        all_goals (with_reducible rfl)
      rotate_left
      · simp only [Act.put, List.setIfInBounds_toArray, List.set_cons_zero, List.set_cons_succ, i64_w, i32_w]
        rfl
      refine pure_ (i := 3) (N := some 104) (v := ?_) (a' := ?_) #[true, false, true, true, false, false, false, false, false, false, false, false, false, false, false, false, false, false, false, false, false, false, false, false, false, false, false, false, false, false, false] rfl rfl (by kernel_rfl) (fun _ _ _ h => h) (Or.inl ⟨by rfl, ?_⟩) ?_ ?_
      rotate_left
      · intro w'
        go_simp
        all_goals (with_reducible rfl)
      rotate_left
      · simp only [Act.put, List.setIfInBounds_toArray, List.set_cons_zero, List.set_cons_succ, i64_w, i32_w]
        rfl
      refine pure_ (i := 4) (N := some 105) (v := ?_) (a' := ?_) #[true, false, true, true, true, false, false, false, false, false, false, false, false, false, false, false, false, false, false, false, false, false, false, false, false, false, false, false, false, false, false] rfl rfl (by kernel_rfl) (fun _ _ _ h => h) (Or.inl ⟨by rfl, ?_⟩) ?_ ?_
      rotate_left
      · intro w'
        go_simp
        all_goals (with_reducible rfl)
      rotate_left
      · simp only [Act.put, List.setIfInBounds_toArray, List.set_cons_zero, List.set_cons_succ, i64_w, i32_w]
        rfl
      refine pure_ (i := 5) (N := some 106) (v := ?_) (a' := ?_) #[true, false, true, true, true, true, false, false, false, false, false, false, false, false, false, false, false, false, false, false, false, false, false, false, false, false, false, false, false, false, false] rfl rfl (by kernel_rfl) (fun _ _ _ h => h) (Or.inl ⟨by rfl, ?_⟩) ?_ ?_
      rotate_left
      · intro w'
        go_simp
        all_goals (with_reducible rfl)
      rotate_left
      · simp only [Act.put, List.setIfInBounds_toArray, List.set_cons_zero, List.set_cons_succ, i64_w, i32_w]
        rfl
      refine pure_ (i := 6) (N := some 107) (v := ?_) (a' := ?_) #[true, false, true, true, true, true, true, false, false, false, false, false, false, false, false, false, false, false, false, false, false, false, false, false, false, false, false, false, false, false, false] rfl rfl (by kernel_rfl) (fun _ _ _ h => h) (Or.inl ⟨by rfl, ?_⟩) ?_ ?_
      rotate_left
      · intro w'
        go_simp
        all_goals (with_reducible rfl)
      rotate_left
      · simp only [Act.put, List.setIfInBounds_toArray, List.set_cons_zero, List.set_cons_succ, i64_w, i32_w]
        rfl
      refine pure_ (i := 7) (N := some 108) (v := ?_) (a' := ?_) #[true, false, true, true, true, true, true, true, false, false, false, false, false, false, false, false, false, false, false, false, false, false, false, false, false, false, false, false, false, false, false] rfl rfl (by kernel_rfl) (fun _ _ _ h => h) (Or.inl ⟨by rfl, ?_⟩) ?_ ?_
      rotate_left
      · intro w'
        go_simp
        all_goals (with_reducible rfl)
      rotate_left
      · simp only [Act.put, List.setIfInBounds_toArray, List.set_cons_zero, List.set_cons_succ, i64_w, i32_w]
        rfl
      refine pure_ (i := 8) (N := some 109) (v := ?_) (a' := ?_) #[true, false, true, true, true, true, true, true, true, false, false, false, false, false, false, false, false, false, false, false, false, false, false, false, false, false, false, false, false, false, false] rfl rfl (by kernel_rfl) (fun _ _ _ h => h) (Or.inl ⟨by rfl, ?_⟩) ?_ ?_
      rotate_left
      · intro w'
        go_simp
        all_goals (with_reducible rfl)
      rotate_left
      · simp only [Act.put, List.setIfInBounds_toArray, List.set_cons_zero, List.set_cons_succ, i64_w, i32_w]
        rfl
      refine pure_ (i := 9) (N := some 110) (v := ?_) (a' := ?_) #[true, false, true, true, true, true, true, true, true, true, false, false, false, false, false, false, false, false, false, false, false, false, false, false, false, false, false, false, false, false, false] rfl rfl (by kernel_rfl) (fun _ _ _ h => h) (Or.inl ⟨by rfl, ?_⟩) ?_ ?_
      rotate_left
      · intro w'
        go_simp
        all_goals (with_reducible rfl)
      rotate_left
      · simp only [Act.put, List.setIfInBounds_toArray, List.set_cons_zero, List.set_cons_succ, i64_w, i32_w]
        rfl
      refine pure_ (i := 10) (N := some 111) (v := ?_) (a' := ?_) #[true, false, true, true, true, true, true, true, true, true, true, false, false, false, false, false, false, false, false, false, false, false, false, false, false, false, false, false, false, false, false] rfl rfl (by kernel_rfl) (fun _ _ _ h => h) (Or.inl ⟨by rfl, ?_⟩) ?_ ?_
      rotate_left
      · intro w'
        go_simp
        all_goals (with_reducible rfl)
      rotate_left
      · simp only [Act.put, List.setIfInBounds_toArray, List.set_cons_zero, List.set_cons_succ, i64_w, i32_w]
        rfl
      refine pure_ (i := 11) (N := some 112) (v := ?_) (a' := ?_) #[true, false, true, true, true, true, true, true, true, true, true, true, false, false, false, false, false, false, false, false, false, false, false, false, false, false, false, false, false, false, false] rfl rfl (by kernel_rfl) (fun _ _ _ h => h) (Or.inl ⟨by rfl, ?_⟩) ?_ ?_
      rotate_left
      · intro w'
        go_simp
        all_goals (with_reducible rfl)
      rotate_left
      · simp only [Act.put, List.setIfInBounds_toArray, List.set_cons_zero, List.set_cons_succ, i64_w, i32_w]
        rfl
      refine pure_ (i := 12) (N := some 113) (v := ?_) (a' := ?_) #[true, false, true, true, true, true, true, true, true, true, true, true, true, false, false, false, false, false, false, false, false, false, false, false, false, false, false, false, false, false, false] rfl rfl (by kernel_rfl) (fun _ _ _ h => h) (Or.inl ⟨by rfl, ?_⟩) ?_ ?_
      rotate_left
      · intro w'
        go_simp
        all_goals (with_reducible rfl)
      rotate_left
      · simp only [Act.put, List.setIfInBounds_toArray, List.set_cons_zero, List.set_cons_succ, i64_w, i32_w]
        rfl
      refine pure_ (i := 13) (N := some 114) (v := ?_) (a' := ?_) #[true, false, true, true, true, true, true, true, true, true, true, true, true, true, false, false, false, false, false, false, false, false, false, false, false, false, false, false, false, false, false] rfl rfl (by kernel_rfl) (fun _ _ _ h => h) (Or.inl ⟨by rfl, ?_⟩) ?_ ?_
      rotate_left
      · intro w'
        go_simp
        all_goals (with_reducible rfl)
      rotate_left
      · simp only [Act.put, List.setIfInBounds_toArray, List.set_cons_zero, List.set_cons_succ, i64_w, i32_w]
        rfl
      refine pure_ (i := 14) (N := some 115) (v := undef) (a' := ?_) #[true, false, true, true, true, true, true, true, true, true, true, true, true, true, true, false, false, false, false, false, false, false, false, false, false, false, false, false, false, false, false] rfl rfl (by kernel_rfl) (fun _ _ _ h => h) (Or.inr ⟨by rfl, rfl⟩) ?_ ?_
      rotate_left
      · simp only [Act.put, List.setIfInBounds_toArray, List.set_cons_zero, List.set_cons_succ, i64_w, i32_w]
        rfl
      refine pure_ (i := 15) (N := some 116) (v := undef) (a' := ?_) #[true, false, true, true, true, true, true, true, true, true, true, true, true, true, true, true, false, false, false, false, false, false, false, false, false, false, false, false, false, false, false] rfl rfl (by kernel_rfl) (fun _ _ _ h => h) (Or.inr ⟨by rfl, rfl⟩) ?_ ?_
      rotate_left
      · simp only [Act.put, List.setIfInBounds_toArray, List.set_cons_zero, List.set_cons_succ, i64_w, i32_w]
        rfl
      refine pure_ (i := 16) (N := some 117) (v := undef) (a' := ?_) #[true, false, true, true, true, true, true, true, true, true, true, true, true, true, true, true, true, false, false, false, false, false, false, false, false, false, false, false, false, false, false] rfl rfl (by kernel_rfl) (fun _ _ _ h => h) (Or.inr ⟨by rfl, rfl⟩) ?_ ?_
      rotate_left
      · simp only [Act.put, List.setIfInBounds_toArray, List.set_cons_zero, List.set_cons_succ, i64_w, i32_w]
        rfl
      refine pure_ (i := 17) (N := some 118) (v := undef) (a' := ?_) #[true, false, true, true, true, true, true, true, true, true, true, true, true, true, true, true, true, true, false, false, false, false, false, false, false, false, false, false, false, false, false] rfl rfl (by kernel_rfl) (fun _ _ _ h => h) (Or.inr ⟨by rfl, rfl⟩) ?_ ?_
      rotate_left
      · simp only [Act.put, List.setIfInBounds_toArray, List.set_cons_zero, List.set_cons_succ, i64_w, i32_w]
        rfl
      refine pure_ (i := 18) (N := some 119) (v := undef) (a' := ?_) #[true, false, true, true, true, true, true, true, true, true, true, true, true, true, true, true, true, true, true, false, false, false, false, false, false, false, false, false, false, false, false] rfl rfl (by kernel_rfl) (fun _ _ _ h => h) (Or.inr ⟨by rfl, rfl⟩) ?_ ?_
      rotate_left
      · simp only [Act.put, List.setIfInBounds_toArray, List.set_cons_zero, List.set_cons_succ, i64_w, i32_w]
        rfl
      refine pure_ (i := 20) (N := some 121) (v := undef) (a' := ?_) #[true, false, true, true, true, true, true, true, true, true, true, true, true, true, true, true, true, true, true, false, true, false, false, false, false, false, false, false, false, false, false] rfl rfl (by kernel_rfl) (fun _ _ _ h => h) (Or.inr ⟨by rfl, rfl⟩) ?_ ?_
      rotate_left
      · simp only [Act.put, List.setIfInBounds_toArray, List.set_cons_zero, List.set_cons_succ, i64_w, i32_w]
        rfl
      refine pure_ (i := 28) (N := some 6) (v := ?_) (a' := ?_) #[true, false, true, true, true, true, true, true, true, true, true, true, true, true, true, true, true, true, true, false, true, false, false, false, false, false, false, false, true, false, false] rfl rfl (by kernel_rfl) (fun _ _ _ h => h) (Or.inl ⟨by rfl, ?_⟩) ?_ ?_
      rotate_left
      · intro w'
        go_simp
        all_goals (with_reducible rfl)
      rotate_left
      · simp only [Act.put, List.setIfInBounds_toArray, List.set_cons_zero, List.set_cons_succ, i64_w, i32_w]
        rfl
      refine take_ (i := 1) (N := some 102) (v := ?_) (a' := ?_) #[true, true, true, true, true, true, true, true, true, true, true, true, true, true, true, true, true, true, true, false, true, false, false, false, false, false, false, false, true, false, false] rfl rfl (by kernel_rfl) (fun _ _ _ h => h) (Or.inl ⟨by rfl, ?_⟩) hHeld ?_ ?_
      rotate_left
      · intro w' hSw
        (try dsimp only at hSw)
        go_simp
        all_goals (with_reducible rfl)
      rotate_left
      · simp only [Act.put, List.setIfInBounds_toArray, List.set_cons_zero, List.set_cons_succ, i64_w, i32_w]
        rfl
      refine pure_ (i := 19) (N := some 120) (v := undef) (a' := ?_) #[true, true, true, true, true, true, true, true, true, true, true, true, true, true, true, true, true, true, true, true, true, false, false, false, false, false, false, false, true, false, false] rfl rfl (by kernel_rfl) (fun _ _ _ h => h) (Or.inr ⟨by rfl, rfl⟩) ?_ ?_
      rotate_left
      · simp only [Act.put, List.setIfInBounds_toArray, List.set_cons_zero, List.set_cons_succ, i64_w, i32_w]
        rfl
      refine pure_ (i := 21) (N := some 122) (v := undef) (a' := ?_) #[true, true, true, true, true, true, true, true, true, true, true, true, true, true, true, true, true, true, true, true, true, true, false, false, false, false, false, false, true, false, false] rfl rfl (by kernel_rfl) (fun _ _ _ h => h) (Or.inr ⟨by rfl, rfl⟩) ?_ ?_
      rotate_left
      · simp only [Act.put, List.setIfInBounds_toArray, List.set_cons_zero, List.set_cons_succ, i64_w, i32_w]
        rfl
      refine pure_ (i := 22) (N := some 123) (v := undef) (a' := ?_) #[true, true, true, true, true, true, true, true, true, true, true, true, true, true, true, true, true, true, true, true, true, true, true, false, false, false, false, false, true, false, false] rfl rfl (by kernel_rfl) (fun _ _ _ h => h) (Or.inr ⟨by rfl, rfl⟩) ?_ ?_
      rotate_left
      · simp only [Act.put, List.setIfInBounds_toArray, List.set_cons_zero, List.set_cons_succ, i64_w, i32_w]
        rfl
      refine pure_ (i := 23) (N := some 124) (v := undef) (a' := ?_) #[true, true, true, true, true, true, true, true, true, true, true, true, true, true, true, true, true, true, true, true, true, true, true, true, false, false, false, false, true, false, false] rfl rfl (by kernel_rfl) (fun _ _ _ h => h) (Or.inr ⟨by rfl, rfl⟩) ?_ ?_
      rotate_left
      · simp only [Act.put, List.setIfInBounds_toArray, List.set_cons_zero, List.set_cons_succ, i64_w, i32_w]
        rfl
      refine pure_ (i := 24) (N := some 125) (v := undef) (a' := ?_) #[true, true, true, true, true, true, true, true, true, true, true, true, true, true, true, true, true, true, true, true, true, true, true, true, true, false, false, false, true, false, false] rfl rfl (by kernel_rfl) (fun _ _ _ h => h) (Or.inr ⟨by rfl, rfl⟩) ?_ ?_
      rotate_left
      · simp only [Act.put, List.setIfInBounds_toArray, List.set_cons_zero, List.set_cons_succ, i64_w, i32_w]
        rfl
      refine pure_ (i := 25) (N := some 126) (v := undef) (a' := ?_) #[true, true, true, true, true, true, true, true, true, true, true, true, true, true, true, true, true, true, true, true, true, true, true, true, true, true, false, false, true, false, false] rfl rfl (by kernel_rfl) (fun _ _ _ h => h) (Or.inr ⟨by rfl, rfl⟩) ?_ ?_
      rotate_left
      · simp only [Act.put, List.setIfInBounds_toArray, List.set_cons_zero, List.set_cons_succ, i64_w, i32_w]
        rfl
      refine pure_ (i := 26) (N := some 127) (v := ?_) (a' := ?_) #[true, true, true, true, true, true, true, true, true, true, true, true, true, true, true, true, true, true, true, true, true, true, true, true, true, true, true, false, true, false, false] rfl rfl (by kernel_rfl) (fun _ _ _ h => h) (Or.inl ⟨by rfl, ?_⟩) ?_ ?_
      rotate_left
      · intro w'
        go_simp
        all_goals (with_reducible rfl)
      rotate_left
      · simp only [Act.put, List.setIfInBounds_toArray, List.set_cons_zero, List.set_cons_succ, i64_w, i32_w]
        rfl
      refine pure_ (i := 27) (N := some 128) (v := ?_) (a' := ?_) #[true, true, true, true, true, true, true, true, true, true, true, true, true, true, true, true, true, true, true, true, true, true, true, true, true, true, true, true, true, false, false] rfl rfl (by kernel_rfl) (fun _ _ _ h => h) (Or.inl ⟨by rfl, ?_⟩) ?_ ?_
      rotate_left
      · intro w'
        go_simp
        all_goals (with_reducible rfl)
      rotate_left
      · simp only [Act.put, List.setIfInBounds_toArray, List.set_cons_zero, List.set_cons_succ, i64_w, i32_w]
        rfl
      refine one_ (i := 29) (N := none) #[true, true, true, true, true, true, true, true, true, true, true, true, true, true, true, true, true, true, true, true, true, true, true, true, true, true, true, true, true, true, false] rfl rfl (by kernel_rfl) (by decide) (fun K hK => ?_)
      go_simp
      skip
      have hds := blk_far (blk_far (blk_far HDd.out (p := ⟨w.heap.size + 2, 0, none⟩) (by show w.heap.size ≠ w.heap.size + 2; omega) (.int .i64 (id : Int))) (p := ⟨w.heap.size + 2, 1, none⟩) (by show w.heap.size ≠ w.heap.size + 2; omega) (.int .u64 (lsn : Int))) (p := ⟨w.heap.size + 2, 2, none⟩) (by show w.heap.size ≠ w.heap.size + 2; omega) (.slice A cs.length c)
      have s0 := blk_cell hds 0
      have s1 := blk_cell hds 1
      have s2 := blk_cell hds 2
      skip
      (try go_wp2_with fail)
      refine hK.out _ _ (⟨s0, s1, s2⟩) (fun hHeld => ?_)
      clear hK K
      (try simp only [Act.put, List.setIfInBounds_toArray, List.set_cons_zero, List.set_cons_succ])
      refine pure_ (i := 30) (N := some 8) (v := ?_) (a' := ?_) #[true, true, true, true, true, true, true, true, true, true, true, true, true, true, true, true, true, true, true, true, true, true, true, true, true, true, true, true, true, true, true] rfl rfl (by kernel_rfl) (fun _ _ _ h => h) (Or.inl ⟨by rfl, ?_⟩) ?_ ?_
      rotate_left
      · intro w'
        go_simp
        all_goals (with_reducible rfl)
      rotate_left
      · simp only [Act.put, List.setIfInBounds_toArray, List.set_cons_zero, List.set_cons_succ, i64_w, i32_w]
        rfl
      refine done_ (by kernel_rfl) ?_
      all_goals
        go_wp2_with fail
        refine bodyPost_ret (results_tct rfl _ _ (w.heap.size + 2) 33 #[.int .i64 (id : Int), .int .u64 (lsn : Int), .slice A cs.length c] (0, 0) _ rfl (put3 HRd.out) Try.underlying33 rfl (by kernel_rfl)) rfl ?_
        first
        | exact stepped_drew (step_end HTd.out HK3.out HGE.out rfl)
        | exact step_end HTd.out HK3.out HGE.out rfl
    · obtain ⟨j, rfl⟩ := Int.eq_ofNat_of_zero_le hf0
      have hj : j < cs.length := by omega
      rw [if_neg (by omega), decide_eq_true hf0] at hget
      refine hget.mono ?_
      rintro e w2 ⟨rfl, hT, hb⟩
      have HD2 := Aside0.mk (blk_below HD1.out hb)
      have HO2 := Aside0.mk (blk_below HO1.out hb)
      have HR2 := Aside0.mk (blk_below HR1.out hb)
      have HK2 := Aside0.mk (fun k hk => (hb.block k (HT1.out.fix k (.inl hk))).trans (HK1.out k hk))
      have HT2 := Aside0.mk hT
      clear hT hb hget
      have d0 := blk_cell HD2.out 0
      have d1 := blk_cell HD2.out 1
      have d2 := blk_cell HD2.out 2
      have o0 := blk_cell HO2.out 0
      have o1 := blk_cell HO2.out 1
      have o2 := blk_cell HO2.out 2
      have o3 := blk_cell HO2.out 3
      have hfi := rfind_calls (w := w2) A c HT2.out.rowC.2.2 HT2.out.rowC.2.1 (by have := HV.out.len; omega) id lsn key
      rw [← HF.out] at hfi
      go_wp2_with fail
      refine hfi.mono ?_
      rintro e w3 ⟨rfl, hb⟩
      have HD3 := Aside0.mk (blk_below HD2.out hb)
      have HO3 := Aside0.mk (blk_below HO2.out hb)
      have HR3 := Aside0.mk (blk_below HR2.out hb)
      have HK3 := Aside0.mk (fun k hk => (hb.block k (HT2.out.fix k (.inl hk))).trans (HK2.out k hk))
      have HT3 := Aside0.mk (HT2.out.next hb)
      clear hb hfi d0 d1 d2 o0 o1 o2 o3
      have d0 := blk_cell (blk_drew HD3.out) 0
      have d1 := blk_cell (blk_drew HD3.out) 1
      have d2 := blk_cell (blk_drew HD3.out) 2
      have HTd := Aside0.mk (HT3.out.next (below_drew (Below.refl _ _)))
      have HRd := Aside0.mk (blk_drew HR3.out)
      have HDd := Aside0.mk (blk_drew HD3.out)
      have r0 := blk_cell HRd.out 0
      have r1 := blk_cell HRd.out 1
      have r2 := blk_cell HRd.out 2
      have rf0 := blk_frozen HRd.out 0
      have rf1 := blk_frozen HRd.out 1
      have rf2 := blk_frozen HRd.out 2
      have q0 := blk_cell HR3.out 0
      have q1 := blk_cell HR3.out 1
      have q2 := blk_cell HR3.out 2
      have qf0 := blk_frozen HR3.out 0
      have qf1 := blk_frozen HR3.out 1
      have qf2 := blk_frozen HR3.out 2
      go_wp2_with fail
      obtain ⟨ad, rfl, _, _, y2⟩ := cell_at HTd.out.rowC.2.2 j hj
      have hjl : (j : Int) < (cs.length : Int) := by omega
      have hjn : decide ((j : Int) < 0) = false := by simp
      refine start_ (n := 31) (S := fun wx => wx.cell? ⟨w.heap.size, 0, none⟩ = some (.int .i64 (id : Int)) ∧ wx.cell? ⟨w.heap.size, 1, none⟩ = some (.int .u64 (lsn : Int)) ∧ wx.cell? ⟨w.heap.size, 2, none⟩ = some (.slice (some ad) cs.length c) ∧ wx.cell? ⟨(ad.add (j * 3)).block, (ad.add (j * 3)).off + 2, none⟩ = some (.string (rd_TGCell cs j).f2)) (ds := []) #[false, false, false, false, false, false, false, false, false, false, false, false, false, false, false, false, false, false, false, false, false, false, false, false, false, false, false, false, false, false, false] (by kernel_rfl) rfl rfl (⟨d0, d1, d2, y2⟩) (fun hHeld => ?_)
      refine pure_ (i := 0) (N := some 101) (v := ?_) (a' := ?_) #[true, false, false, false, false, false, false, false, false, false, false, false, false, false, false, false, false, false, false, false, false, false, false, false, false, false, false, false, false, false, false] rfl rfl (by kernel_rfl) (fun _ _ _ h => h) (Or.inl ⟨by rfl, ?_⟩) ?_ ?_
      rotate_left
      · intro w'
        go_simp
        all_goals (with_reducible rfl)
      rotate_left
      · simp only [Act.put, List.setIfInBounds_toArray, List.set_cons_zero, List.set_cons_succ, i64_w, i32_w]
        rfl
      refine pure_ (i := 2) (N := some 103) (v := ?_) (a' := ?_) #[true, false, true, false, false, false, false, false, false, false, false, false, false, false, false, false, false, false, false, false, false, false, false, false, false, false, false, false, false, false, false] rfl rfl (by kernel_rfl) (fun _ _ _ h => h) (Or.inl ⟨by rfl, ?_⟩) ?_ ?_
      rotate_left
      · intro w'
        go_simp
        all_goals (with_reducible rfl)
      rotate_left
      · simp only [Act.put, List.setIfInBounds_toArray, List.set_cons_zero, List.set_cons_succ, i64_w, i32_w]
        rfl
      refine pure_ (i := 3) (N := some 104) (v := ?_) (a' := ?_) #[true, false, true, true, false, false, false, false, false, false, false, false, false, false, false, false, false, false, false, false, false, false, false, false, false, false, false, false, false, false, false] rfl rfl (by kernel_rfl) (fun _ _ _ h => h) (Or.inl ⟨by rfl, ?_⟩) ?_ ?_
      rotate_left
      · intro w'
        go_simp
        all_goals (with_reducible rfl)
      rotate_left
      · simp only [Act.put, List.setIfInBounds_toArray, List.set_cons_zero, List.set_cons_succ, i64_w, i32_w]
        rfl
      refine pure_ (i := 4) (N := some 105) (v := ?_) (a' := ?_) #[true, false, true, true, true, false, false, false, false, false, false, false, false, false, false, false, false, false, false, false, false, false, false, false, false, false, false, false, false, false, false] rfl rfl (by kernel_rfl) (fun _ _ _ h => h) (Or.inl ⟨by rfl, ?_⟩) ?_ ?_
      rotate_left
      · intro w'
        go_simp
        all_goals (with_reducible rfl)
      rotate_left
      · simp only [Act.put, List.setIfInBounds_toArray, List.set_cons_zero, List.set_cons_succ, i64_w, i32_w]
        rfl
      refine pure_ (i := 5) (N := some 106) (v := ?_) (a' := ?_) #[true, false, true, true, true, true, false, false, false, false, false, false, false, false, false, false, false, false, false, false, false, false, false, false, false, false, false, false, false, false, false] rfl rfl (by kernel_rfl) (fun _ _ _ h => h) (Or.inl ⟨by rfl, ?_⟩) ?_ ?_
      rotate_left
      · intro w'
        go_simp
        all_goals (with_reducible rfl)
      rotate_left
      · simp only [Act.put, List.setIfInBounds_toArray, List.set_cons_zero, List.set_cons_succ, i64_w, i32_w]
        rfl
      refine pure_ (i := 6) (N := some 107) (v := ?_) (a' := ?_) #[true, false, true, true, true, true, true, false, false, false, false, false, false, false, false, false, false, false, false, false, false, false, false, false, false, false, false, false, false, false, false] rfl rfl (by kernel_rfl) (fun _ _ _ h => h) (Or.inl ⟨by rfl, ?_⟩) ?_ ?_
      rotate_left
      · intro w'
        go_simp
        all_goals (with_reducible rfl)
      rotate_left
      · simp only [Act.put, List.setIfInBounds_toArray, List.set_cons_zero, List.set_cons_succ, i64_w, i32_w]
        rfl
      refine pure_ (i := 7) (N := some 108) (v := ?_) (a' := ?_) #[true, false, true, true, true, true, true, true, false, false, false, false, false, false, false, false, false, false, false, false, false, false, false, false, false, false, false, false, false, false, false] rfl rfl (by kernel_rfl) (fun _ _ _ h => h) (Or.inl ⟨by rfl, ?_⟩) ?_ ?_
      rotate_left
      · intro w'
        go_simp
        all_goals (with_reducible rfl)
      rotate_left
      · simp only [Act.put, List.setIfInBounds_toArray, List.set_cons_zero, List.set_cons_succ, i64_w, i32_w]
        rfl
      refine pure_ (i := 8) (N := some 109) (v := .bool false) (a' := ?_) #[true, false, true, true, true, true, true, true, true, false, false, false, false, false, false, false, false, false, false, false, false, false, false, false, false, false, false, false, false, false, false] rfl rfl (by kernel_rfl) (fun _ _ _ h => h) (Or.inl ⟨by rfl, ?_⟩) ?_ ?_
      · intro w'
        go_simp
        all_goals (first | rw [hjn] | omega | (simp; omega))
      rotate_left
      · simp only [Act.put, List.setIfInBounds_toArray, List.set_cons_zero, List.set_cons_succ, i64_w, i32_w]
        rfl
      refine pure_ (i := 9) (N := some 110) (v := ?_) (a' := ?_) #[true, false, true, true, true, true, true, true, true, true, false, false, false, false, false, false, false, false, false, false, false, false, false, false, false, false, false, false, false, false, false] rfl rfl (by kernel_rfl) (fun _ _ _ h => h) (Or.inl ⟨by rfl, ?_⟩) ?_ ?_
      rotate_left
      · intro w'
        go_simp
        all_goals (with_reducible rfl)
      rotate_left
      · simp only [Act.put, List.setIfInBounds_toArray, List.set_cons_zero, List.set_cons_succ, i64_w, i32_w]
        rfl
      refine pure_ (i := 10) (N := some 111) (v := undef) (a' := ?_) #[true, false, true, true, true, true, true, true, true, true, true, false, false, false, false, false, false, false, false, false, false, false, false, false, false, false, false, false, false, false, false] rfl rfl (by kernel_rfl) (fun _ _ _ h => h) (Or.inr ⟨by rfl, rfl⟩) ?_ ?_
      rotate_left
      · simp only [Act.put, List.setIfInBounds_toArray, List.set_cons_zero, List.set_cons_succ, i64_w, i32_w]
        rfl
      refine pure_ (i := 11) (N := some 112) (v := undef) (a' := ?_) #[true, false, true, true, true, true, true, true, true, true, true, true, false, false, false, false, false, false, false, false, false, false, false, false, false, false, false, false, false, false, false] rfl rfl (by kernel_rfl) (fun _ _ _ h => h) (Or.inr ⟨by rfl, rfl⟩) ?_ ?_
      rotate_left
      · simp only [Act.put, List.setIfInBounds_toArray, List.set_cons_zero, List.set_cons_succ, i64_w, i32_w]
        rfl
      refine pure_ (i := 12) (N := some 113) (v := ?_) (a' := ?_) #[true, false, true, true, true, true, true, true, true, true, true, true, true, false, false, false, false, false, false, false, false, false, false, false, false, false, false, false, false, false, false] rfl rfl (by kernel_rfl) (fun _ _ _ h => h) (Or.inl ⟨by rfl, ?_⟩) ?_ ?_
      rotate_left
      · intro w'
        go_simp
        all_goals (with_reducible rfl)
      rotate_left
      · simp only [Act.put, List.setIfInBounds_toArray, List.set_cons_zero, List.set_cons_succ, i64_w, i32_w]
        rfl
      refine pure_ (i := 13) (N := some 114) (v := ?_) (a' := ?_) #[true, false, true, true, true, true, true, true, true, true, true, true, true, true, false, false, false, false, false, false, false, false, false, false, false, false, false, false, false, false, false] rfl rfl (by kernel_rfl) (fun _ _ _ h => h) (Or.inl ⟨by rfl, ?_⟩) ?_ ?_
      rotate_left
      · intro w'
        go_simp
        all_goals (with_reducible rfl)
      rotate_left
      · simp only [Act.put, List.setIfInBounds_toArray, List.set_cons_zero, List.set_cons_succ, i64_w, i32_w]
        rfl
      refine pure_ (i := 14) (N := some 115) (v := ?_) (a' := ?_) #[true, false, true, true, true, true, true, true, true, true, true, true, true, true, true, false, false, false, false, false, false, false, false, false, false, false, false, false, false, false, false] rfl rfl (by kernel_rfl) (fun _ _ _ h => h) (Or.inl ⟨by rfl, ?_⟩) ?_ ?_
      rotate_left
      · intro w'
        go_simp
        all_goals (with_reducible rfl)
      rotate_left
      · simp only [Act.put, List.setIfInBounds_toArray, List.set_cons_zero, List.set_cons_succ, i64_w, i32_w]
        rfl
      refine pure_ (i := 15) (N := some 116) (v := ?_) (a' := ?_) #[true, false, true, true, true, true, true, true, true, true, true, true, true, true, true, true, false, false, false, false, false, false, false, false, false, false, false, false, false, false, false] rfl rfl (by kernel_rfl) (fun _ _ _ h => h) (Or.inl ⟨by rfl, ?_⟩) ?_ ?_
      rotate_left
      · intro w'
        go_simp
        all_goals (with_reducible rfl)
      rotate_left
      · simp only [Act.put, List.setIfInBounds_toArray, List.set_cons_zero, List.set_cons_succ, i64_w, i32_w]
        rfl
      refine pure_ (i := 16) (N := some 117) (v := ?_) (a' := ?_) #[true, false, true, true, true, true, true, true, true, true, true, true, true, true, true, true, true, false, false, false, false, false, false, false, false, false, false, false, false, false, false] rfl rfl (by kernel_rfl) (fun _ _ _ h => h) (Or.inl ⟨by rfl, ?_⟩) ?_ ?_
      rotate_left
      · intro w'
        go_simp
        all_goals (with_reducible rfl)
      rotate_left
      · simp only [Act.put, List.setIfInBounds_toArray, List.set_cons_zero, List.set_cons_succ, i64_w, i32_w]
        rfl
      refine pure_ (i := 17) (N := some 118) (v := ?_) (a' := ?_) #[true, false, true, true, true, true, true, true, true, true, true, true, true, true, true, true, true, true, false, false, false, false, false, false, false, false, false, false, false, false, false] rfl rfl (by kernel_rfl) (fun _ _ _ h => h) (Or.inl ⟨by rfl, ?_⟩) ?_ ?_
      rotate_left
      · intro w'
        go_simp
        all_goals (with_reducible rfl)
      rotate_left
      · simp only [Act.put, List.setIfInBounds_toArray, List.set_cons_zero, List.set_cons_succ, i64_w, i32_w]
        rfl
      refine pure_ (i := 18) (N := some 119) (v := ?_) (a' := ?_) #[true, false, true, true, true, true, true, true, true, true, true, true, true, true, true, true, true, true, true, false, false, false, false, false, false, false, false, false, false, false, false] rfl rfl (by kernel_rfl) (fun _ _ _ h => h) (Or.inl ⟨by rfl, ?_⟩) ?_ ?_
      rotate_left
      · intro w'
        go_simp
        all_goals (with_reducible rfl)
      rotate_left
      · simp only [Act.put, List.setIfInBounds_toArray, List.set_cons_zero, List.set_cons_succ, i64_w, i32_w]
        rfl
      refine pure_ (i := 20) (N := some 121) (v := ?_) (a' := ?_) #[true, false, true, true, true, true, true, true, true, true, true, true, true, true, true, true, true, true, true, false, true, false, false, false, false, false, false, false, false, false, false] rfl rfl (by kernel_rfl) (fun _ _ _ h => h) (Or.inl ⟨by rfl, ?_⟩) ?_ ?_
      rotate_left
      · intro w'
        go_simp
        all_goals (with_reducible rfl)
      rotate_left
      · simp only [Act.put, List.setIfInBounds_toArray, List.set_cons_zero, List.set_cons_succ, i64_w, i32_w]
        rfl
      refine pure_ (i := 28) (N := some 6) (v := ?_) (a' := ?_) #[true, false, true, true, true, true, true, true, true, true, true, true, true, true, true, true, true, true, true, false, true, false, false, false, false, false, false, false, true, false, false] rfl rfl (by kernel_rfl) (fun _ _ _ h => h) (Or.inl ⟨by rfl, ?_⟩) ?_ ?_
      rotate_left
      · intro w'
        go_simp
        all_goals (with_reducible rfl)
      rotate_left
      · simp only [Act.put, List.setIfInBounds_toArray, List.set_cons_zero, List.set_cons_succ, i64_w, i32_w]
        rfl
      refine take_ (i := 1) (N := some 102) (v := ?_) (a' := ?_) #[true, true, true, true, true, true, true, true, true, true, true, true, true, true, true, true, true, true, true, false, true, false, false, false, false, false, false, false, true, false, false] rfl rfl (by kernel_rfl) (fun _ _ _ h => h) (Or.inl ⟨by rfl, ?_⟩) hHeld ?_ ?_
      rotate_left
      · intro w' hSw
        (try dsimp only at hSw)
        go_simp
        all_goals (with_reducible rfl)
      rotate_left
      · simp only [Act.put, List.setIfInBounds_toArray, List.set_cons_zero, List.set_cons_succ, i64_w, i32_w]
        rfl
      refine take_ (i := 19) (N := some 120) (v := ?_) (a' := ?_) #[true, true, true, true, true, true, true, true, true, true, true, true, true, true, true, true, true, true, true, true, true, false, false, false, false, false, false, false, true, false, false] rfl rfl (by kernel_rfl) (fun _ _ _ h => h) (Or.inl ⟨by rfl, ?_⟩) hHeld ?_ ?_
      rotate_left
      · intro w' hSw
        (try dsimp only at hSw)
        go_simp
        all_goals (with_reducible rfl)
      rotate_left
      · simp only [Act.put, List.setIfInBounds_toArray, List.set_cons_zero, List.set_cons_succ, i64_w, i32_w]
        rfl
      refine pure_ (i := 21) (N := some 122) (v := ?_) (a' := ?_) #[true, true, true, true, true, true, true, true, true, true, true, true, true, true, true, true, true, true, true, true, true, true, false, false, false, false, false, false, true, false, false] rfl rfl (by kernel_rfl) (fun _ _ _ h => h) (Or.inl ⟨by rfl, ?_⟩) ?_ ?_
      rotate_left
      · intro w'
        go_simp
        all_goals (with_reducible rfl)
      rotate_left
      · simp only [Act.put, List.setIfInBounds_toArray, List.set_cons_zero, List.set_cons_succ, i64_w, i32_w]
        rfl
      refine pure_ (i := 22) (N := some 123) (v := ?_) (a' := ?_) #[true, true, true, true, true, true, true, true, true, true, true, true, true, true, true, true, true, true, true, true, true, true, true, false, false, false, false, false, true, false, false] rfl rfl (by kernel_rfl) (fun _ _ _ h => h) (Or.inl ⟨by rfl, ?_⟩) ?_ ?_
      rotate_left
      · intro w'
        go_simp
        all_goals (with_reducible rfl)
      rotate_left
      · simp only [Act.put, List.setIfInBounds_toArray, List.set_cons_zero, List.set_cons_succ, i64_w, i32_w]
        rfl
      refine take_ (i := 23) (N := some 124) (v := ?_) (a' := ?_) #[true, true, true, true, true, true, true, true, true, true, true, true, true, true, true, true, true, true, true, true, true, true, true, true, false, false, false, false, true, false, false] rfl rfl (by kernel_rfl) (fun _ _ _ h => h) (Or.inl ⟨by rfl, ?_⟩) hHeld ?_ ?_
      rotate_left
      · intro w' hSw
        (try dsimp only at hSw)
        go_simp
        all_goals (with_reducible rfl)
      rotate_left
      · simp only [Act.put, List.setIfInBounds_toArray, List.set_cons_zero, List.set_cons_succ, i64_w, i32_w]
        rfl
      refine pure_ (i := 24) (N := some 125) (v := ?_) (a' := ?_) #[true, true, true, true, true, true, true, true, true, true, true, true, true, true, true, true, true, true, true, true, true, true, true, true, true, false, false, false, true, false, false] rfl rfl (by kernel_rfl) (fun _ _ _ h => h) (Or.inl ⟨by rfl, ?_⟩) ?_ ?_
      rotate_left
      · intro w'
        go_simp
        all_goals (with_reducible rfl)
      rotate_left
      · simp only [Act.put, List.setIfInBounds_toArray, List.set_cons_zero, List.set_cons_succ, i64_w, i32_w]
        rfl
      refine pure_ (i := 25) (N := some 126) (v := ?_) (a' := ?_) #[true, true, true, true, true, true, true, true, true, true, true, true, true, true, true, true, true, true, true, true, true, true, true, true, true, true, false, false, true, false, false] rfl rfl (by kernel_rfl) (fun _ _ _ h => h) (Or.inl ⟨by rfl, ?_⟩) ?_ ?_
      rotate_left
      · intro w'
        go_simp
        all_goals (with_reducible rfl)
      rotate_left
      · simp only [Act.put, List.setIfInBounds_toArray, List.set_cons_zero, List.set_cons_succ, i64_w, i32_w]
        rfl
      refine pure_ (i := 26) (N := some 127) (v := ?_) (a' := ?_) #[true, true, true, true, true, true, true, true, true, true, true, true, true, true, true, true, true, true, true, true, true, true, true, true, true, true, true, false, true, false, false] rfl rfl (by kernel_rfl) (fun _ _ _ h => h) (Or.inl ⟨by rfl, ?_⟩) ?_ ?_
      rotate_left
      · intro w'
        go_simp
        all_goals (with_reducible rfl)
      rotate_left
      · simp only [Act.put, List.setIfInBounds_toArray, List.set_cons_zero, List.set_cons_succ, i64_w, i32_w]
        rfl
      refine pure_ (i := 27) (N := some 128) (v := ?_) (a' := ?_) #[true, true, true, true, true, true, true, true, true, true, true, true, true, true, true, true, true, true, true, true, true, true, true, true, true, true, true, true, true, false, false] rfl rfl (by kernel_rfl) (fun _ _ _ h => h) (Or.inl ⟨by rfl, ?_⟩) ?_ ?_
      rotate_left
      · intro w'
        go_simp
        all_goals (with_reducible rfl)
      rotate_left
      · simp only [Act.put, List.setIfInBounds_toArray, List.set_cons_zero, List.set_cons_succ, i64_w, i32_w]
        rfl
      refine one_ (i := 29) (N := none) #[true, true, true, true, true, true, true, true, true, true, true, true, true, true, true, true, true, true, true, true, true, true, true, true, true, true, true, true, true, true, false] rfl rfl (by kernel_rfl) (by decide) (fun K hK => ?_)
      go_simp
      skip
      have hds := blk_far (blk_far (blk_far HDd.out (p := ⟨w.heap.size + 2, 0, none⟩) (by show w.heap.size ≠ w.heap.size + 2; omega) (.int .i64 (id : Int))) (p := ⟨w.heap.size + 2, 1, none⟩) (by show w.heap.size ≠ w.heap.size + 2; omega) (.int .u64 (lsn : Int))) (p := ⟨w.heap.size + 2, 2, none⟩) (by show w.heap.size ≠ w.heap.size + 2; omega) (.slice (some ad) cs.length c)
      have s0 := blk_cell hds 0
      have s1 := blk_cell hds 1
      have s2 := blk_cell hds 2
      have HTs := ((HTd.out.set (q := ⟨w.heap.size + 2, 0, none⟩) (.inr (.inr (.inr rfl))) (by have := HGE.out.1; show w0.heap.size ≤ w.heap.size + 2; omega) (.int .i64 (id : Int))).set (q := ⟨w.heap.size + 2, 1, none⟩) (.inr (.inr (.inr rfl))) (by have := HGE.out.1; show w0.heap.size ≤ w.heap.size + 2; omega) (.int .u64 (lsn : Int))).set (q := ⟨w.heap.size + 2, 2, none⟩) (.inr (.inr (.inr rfl))) (by have := HGE.out.1; show w0.heap.size ≤ w.heap.size + 2; omega) (.slice (some ad) cs.length c)
      obtain ⟨ad', hae, _, _, s3⟩ := cell_at HTs.rowC.2.2 j hj
      obtain rfl := Option.some.inj hae
      (try go_wp2_with fail)
      refine hK.out _ _ (⟨s0, s1, s2, s3⟩) (fun hHeld => ?_)
      clear hK K
      (try simp only [Act.put, List.setIfInBounds_toArray, List.set_cons_zero, List.set_cons_succ])
      refine pure_ (i := 30) (N := some 8) (v := ?_) (a' := ?_) #[true, true, true, true, true, true, true, true, true, true, true, true, true, true, true, true, true, true, true, true, true, true, true, true, true, true, true, true, true, true, true] rfl rfl (by kernel_rfl) (fun _ _ _ h => h) (Or.inl ⟨by rfl, ?_⟩) ?_ ?_
      rotate_left
      · intro w'
        go_simp
        all_goals (with_reducible rfl)
      rotate_left
      · simp only [Act.put, List.setIfInBounds_toArray, List.set_cons_zero, List.set_cons_succ, i64_w, i32_w]
        rfl
      refine done_ (by kernel_rfl) ?_
      all_goals
        go_wp2_with fail
        refine bodyPost_ret (results_tct rfl _ _ (w.heap.size + 2) 33 #[.int .i64 (id : Int), .int .u64 (lsn : Int), .slice (some ad) cs.length c] (0, 0) _ rfl (put3 HRd.out) Try.underlying33 rfl (by kernel_rfl)) rfl ?_
        first
        | exact stepped_drew (step_end HTd.out HK3.out HGE.out rfl)
        | exact step_end HTd.out HK3.out HGE.out rfl
    -- K3]
  by_cases k4 : ko = 4
  · subst k4
    clear k0 k1 k2 k3
    go_enter Try.func31, Try.ntmps31
    -- [K4
    go_wp2_with fail
    have hd1 : (((w.alloc (.cells #[.int .i64 (id : Int), .int .u64 (lsn : Int), .slice A cs.length c] 33)).alloc (.cells #[.int .i64 4, .string key, .string val, .int .u64 (at_ : Int)] 59)).alloc (.cells #[.int .i64 0, .int .u64 0, .slice none 0 0] 33)).heap[w.heap.size]? = some (.cells #[.int .i64 (id : Int), .int .u64 (lsn : Int), .slice A cs.length c] 33 (0, 0)) := blk_alloc (blk_alloc (heap_alloc_new w _) _) _
    have ho1 : (((w.alloc (.cells #[.int .i64 (id : Int), .int .u64 (lsn : Int), .slice A cs.length c] 33)).alloc (.cells #[.int .i64 4, .string key, .string val, .int .u64 (at_ : Int)] 59)).alloc (.cells #[.int .i64 0, .int .u64 0, .slice none 0 0] 33)).heap[w.heap.size + 1]? = some (.cells #[.int .i64 4, .string key, .string val, .int .u64 (at_ : Int)] 59 (0, 0)) := by
      have := blk_alloc (heap_alloc_new (w.alloc (.cells #[.int .i64 (id : Int), .int .u64 (lsn : Int), .slice A cs.length c] 33)) (.cells #[.int .i64 4, .string key, .string val, .int .u64 (at_ : Int)] 59)) (.cells #[.int .i64 0, .int .u64 0, .slice none 0 0] 33)
      rwa [World.size_alloc] at this
    have hr1 : (((w.alloc (.cells #[.int .i64 (id : Int), .int .u64 (lsn : Int), .slice A cs.length c] 33)).alloc (.cells #[.int .i64 4, .string key, .string val, .int .u64 (at_ : Int)] 59)).alloc (.cells #[.int .i64 0, .int .u64 0, .slice none 0 0] 33)).heap[w.heap.size + 2]? = some (.cells #[.int .i64 0, .int .u64 0, .slice none 0 0] 33 (0, 0)) := by
      have := heap_alloc_new ((w.alloc (.cells #[.int .i64 (id : Int), .int .u64 (lsn : Int), .slice A cs.length c] 33)).alloc (.cells #[.int .i64 4, .string key, .string val, .int .u64 (at_ : Int)] 59)) (.cells #[.int .i64 0, .int .u64 0, .slice none 0 0] 33)
      rwa [World.size_alloc, World.size_alloc] at this
    have hb1 : Below w.heap.size w (((w.alloc (.cells #[.int .i64 (id : Int), .int .u64 (lsn : Int), .slice A cs.length c] 33)).alloc (.cells #[.int .i64 4, .string key, .string val, .int .u64 (at_ : Int)] 59)).alloc (.cells #[.int .i64 0, .int .u64 0, .slice none 0 0] 33)) := below_alloc (below_alloc (below_alloc (Below.refl _ _) _) _) _
    have hs1 : (((w.alloc (.cells #[.int .i64 (id : Int), .int .u64 (lsn : Int), .slice A cs.length c] 33)).alloc (.cells #[.int .i64 4, .string key, .string val, .int .u64 (at_ : Int)] 59)).alloc (.cells #[.int .i64 0, .int .u64 0, .slice none 0 0] 33)).heap.size = w.heap.size + 3 := by rw [World.size_alloc, World.size_alloc, World.size_alloc]
    generalize (((w.alloc (.cells #[.int .i64 (id : Int), .int .u64 (lsn : Int), .slice A cs.length c] 33)).alloc (.cells #[.int .i64 4, .string key, .string val, .int .u64 (at_ : Int)] 59)).alloc (.cells #[.int .i64 0, .int .u64 0, .slice none 0 0] 33)) = w1 at hd1 ho1 hr1 hb1 hs1 ⊢
    have HD1 := Aside0.mk hd1
    have HO1 := Aside0.mk ho1
    have HR1 := Aside0.mk hr1
    have HK1 := Aside0.mk (show ∀ k, B k → w1.heap[k]? = w.heap[k]? from fun k hk => hb1.block k (HT.out.fix k hk))
    have HT1 := Aside0.mk (HT.out.apart (B' := BX B w.heap.size) hb1 (fun k hk => by
      rcases hk with h | h | h | h
      · exact .inl h
      all_goals exact .inr (by omega)))
    clear hd1 ho1 hr1 hb1 hs1
    refine (HT1.out.stamp at_ HAT.out).mono ?_
    rintro e w2 ⟨rfl, hT, hB⟩
    have HD2 := Aside0.mk ((hB _ (.inr (.inl rfl))).trans HD1.out)
    have HO2 := Aside0.mk ((hB _ (.inr (.inr (.inl rfl)))).trans HO1.out)
    have HR2 := Aside0.mk ((hB _ (.inr (.inr (.inr rfl)))).trans HR1.out)
    have HK2 := Aside0.mk (fun k hk => (hB k (.inl hk)).trans (HK1.out k hk))
    have HT2 := Aside0.mk hT
    clear hT hB
    have d0 := blk_cell HD2.out 0
    have d1 := blk_cell HD2.out 1
    have d2 := blk_cell HD2.out 2
    have o0 := blk_cell HO2.out 0
    have o1 := blk_cell HO2.out 1
    have o2 := blk_cell HO2.out 2
    have o3 := blk_cell HO2.out 3
    have df1 := blk_frozen HD2.out 1
    go_wp2_with fail
    clear d0 d1 d2 o0 o1 o2 o3 df1
    have hd4 : (w2.setCell ⟨w.heap.size, 1, none⟩ (.int .u64 (at_ : Int))).heap[w.heap.size]? = some (.cells #[.int .i64 (id : Int), .int .u64 (at_ : Int), .slice A cs.length c] 33 (0, 0)) := blk_put HD2.out 1 _ rfl
    have HR4 := Aside0.mk (show (w2.setCell ⟨w.heap.size, 1, none⟩ (.int .u64 (at_ : Int))).heap[w.heap.size + 2]? = some (.cells #[.int .i64 0, .int .u64 0, .slice none 0 0] 33 (0, 0)) from blk_far HR2.out (p := ⟨w.heap.size, 1, none⟩) (by show w.heap.size + 2 ≠ w.heap.size; omega) _)
    have HT4 := Aside0.mk (HT2.out.set (q := ⟨w.heap.size, 1, none⟩) (.inr (.inl rfl)) HGE.out.1 (.int .u64 (at_ : Int)))
    have HK4 := Aside0.mk (show ∀ k, B k → (w2.setCell ⟨w.heap.size, 1, none⟩ (.int .u64 (at_ : Int))).heap[k]? = w.heap[k]? from fun k hk => (Below.heap_setCell _ ⟨w.heap.size, 1, none⟩ _ k (by have := HGE.out.2 k hk; show k ≠ w.heap.size; omega)).trans (HK2.out k hk))
    generalize w2.setCell ⟨w.heap.size, 1, none⟩ (.int .u64 (at_ : Int)) = w4 at hd4 HR4 HT4 HK4 ⊢
    have d0 := blk_cell hd4 0
    have d1 := blk_cell hd4 1
    have d2 := blk_cell hd4 2
    have r0 := blk_cell HR4.out 0
    have r1 := blk_cell HR4.out 1
    have r2 := blk_cell HR4.out 2
    have rf0 := blk_frozen HR4.out 0
    have rf1 := blk_frozen HR4.out 1
    have rf2 := blk_frozen HR4.out 2
    clear hd4
    go_region
    all_goals
      go_wp2_with fail
      refine bodyPost_ret (results_tct rfl _ _ (w.heap.size + 2) 33 #[.int .i64 (id : Int), .int .u64 (at_ : Int), .slice A cs.length c] (0, 0) _ rfl (put3 HR4.out) Try.underlying33 rfl (by kernel_rfl)) rfl ?_
      first
      | exact stepped_drew (step_end HT4.out HK4.out HGE.out rfl)
      | exact step_end HT4.out HK4.out HGE.out rfl
    -- K4]
  by_cases k5 : ko = 5
  · subst k5
    clear k0 k1 k2 k3 k4
    go_enter Try.func31, Try.ntmps31
    -- [K5
    go_wp2_with fail
    have hd1 : (((w.alloc (.cells #[.int .i64 (id : Int), .int .u64 (lsn : Int), .slice A cs.length c] 33)).alloc (.cells #[.int .i64 5, .string key, .string val, .int .u64 (at_ : Int)] 59)).alloc (.cells #[.int .i64 0, .int .u64 0, .slice none 0 0] 33)).heap[w.heap.size]? = some (.cells #[.int .i64 (id : Int), .int .u64 (lsn : Int), .slice A cs.length c] 33 (0, 0)) := blk_alloc (blk_alloc (heap_alloc_new w _) _) _
    have ho1 : (((w.alloc (.cells #[.int .i64 (id : Int), .int .u64 (lsn : Int), .slice A cs.length c] 33)).alloc (.cells #[.int .i64 5, .string key, .string val, .int .u64 (at_ : Int)] 59)).alloc (.cells #[.int .i64 0, .int .u64 0, .slice none 0 0] 33)).heap[w.heap.size + 1]? = some (.cells #[.int .i64 5, .string key, .string val, .int .u64 (at_ : Int)] 59 (0, 0)) := by
      have := blk_alloc (heap_alloc_new (w.alloc (.cells #[.int .i64 (id : Int), .int .u64 (lsn : Int), .slice A cs.length c] 33)) (.cells #[.int .i64 5, .string key, .string val, .int .u64 (at_ : Int)] 59)) (.cells #[.int .i64 0, .int .u64 0, .slice none 0 0] 33)
      rwa [World.size_alloc] at this
    have hr1 : (((w.alloc (.cells #[.int .i64 (id : Int), .int .u64 (lsn : Int), .slice A cs.length c] 33)).alloc (.cells #[.int .i64 5, .string key, .string val, .int .u64 (at_ : Int)] 59)).alloc (.cells #[.int .i64 0, .int .u64 0, .slice none 0 0] 33)).heap[w.heap.size + 2]? = some (.cells #[.int .i64 0, .int .u64 0, .slice none 0 0] 33 (0, 0)) := by
      have := heap_alloc_new ((w.alloc (.cells #[.int .i64 (id : Int), .int .u64 (lsn : Int), .slice A cs.length c] 33)).alloc (.cells #[.int .i64 5, .string key, .string val, .int .u64 (at_ : Int)] 59)) (.cells #[.int .i64 0, .int .u64 0, .slice none 0 0] 33)
      rwa [World.size_alloc, World.size_alloc] at this
    have hb1 : Below w.heap.size w (((w.alloc (.cells #[.int .i64 (id : Int), .int .u64 (lsn : Int), .slice A cs.length c] 33)).alloc (.cells #[.int .i64 5, .string key, .string val, .int .u64 (at_ : Int)] 59)).alloc (.cells #[.int .i64 0, .int .u64 0, .slice none 0 0] 33)) := below_alloc (below_alloc (below_alloc (Below.refl _ _) _) _) _
    have hs1 : (((w.alloc (.cells #[.int .i64 (id : Int), .int .u64 (lsn : Int), .slice A cs.length c] 33)).alloc (.cells #[.int .i64 5, .string key, .string val, .int .u64 (at_ : Int)] 59)).alloc (.cells #[.int .i64 0, .int .u64 0, .slice none 0 0] 33)).heap.size = w.heap.size + 3 := by rw [World.size_alloc, World.size_alloc, World.size_alloc]
    generalize (((w.alloc (.cells #[.int .i64 (id : Int), .int .u64 (lsn : Int), .slice A cs.length c] 33)).alloc (.cells #[.int .i64 5, .string key, .string val, .int .u64 (at_ : Int)] 59)).alloc (.cells #[.int .i64 0, .int .u64 0, .slice none 0 0] 33)) = w1 at hd1 ho1 hr1 hb1 hs1 ⊢
    have HD1 := Aside0.mk hd1
    have HO1 := Aside0.mk ho1
    have HR1 := Aside0.mk hr1
    have HK1 := Aside0.mk (show ∀ k, B k → w1.heap[k]? = w.heap[k]? from fun k hk => hb1.block k (HT.out.fix k hk))
    have HT1 := Aside0.mk (HT.out.apart (B' := BX B w.heap.size) hb1 (fun k hk => by
      rcases hk with h | h | h | h
      · exact .inl h
      all_goals exact .inr (by omega)))
    clear hd1 ho1 hr1 hb1 hs1
    have d0 := blk_cell HD1.out 0
    have d1 := blk_cell HD1.out 1
    have d2 := blk_cell HD1.out 2
    have o0 := blk_cell HO1.out 0
    have o1 := blk_cell HO1.out 1
    have o2 := blk_cell HO1.out 2
    have o3 := blk_cell HO1.out 3
    have HTd := Aside0.mk (HT1.out.next (below_drew (Below.refl _ _)))
    refine start_ (n := 10) (S := fun wx => wx.cell? ⟨w.heap.size, 0, none⟩ = some (.int .i64 (id : Int))) (ds := []) #[false, false, false, false, false, false, false, false, false, false] (by kernel_rfl) rfl rfl (d0) (fun hHeld => ?_)
    refine pure_ (i := 0) (N := some 143) (v := ?_) (a' := ?_) #[true, false, false, false, false, false, false, false, false, false] rfl rfl (by kernel_rfl) (fun _ _ _ h => h) (Or.inl ⟨by rfl, ?_⟩) ?_ ?_
    rotate_left
    · intro w'
      go_simp
      all_goals (with_reducible rfl)
    rotate_left
    · simp only [Act.put, List.setIfInBounds_toArray, List.set_cons_zero, List.set_cons_succ, i64_w, i32_w]
      rfl
    refine pure_ (i := 2) (N := some 145) (v := ?_) (a' := ?_) #[true, false, true, false, false, false, false, false, false, false] rfl rfl (by kernel_rfl) (fun _ _ _ h => h) (Or.inl ⟨by rfl, ?_⟩) ?_ ?_
    rotate_left
    · intro w'
      go_simp
      all_goals (with_reducible rfl)
    rotate_left
    · simp only [Act.put, List.setIfInBounds_toArray, List.set_cons_zero, List.set_cons_succ, i64_w, i32_w]
      rfl
    refine take_ (i := 1) (N := some 144) (v := ?_) (a' := ?_) #[true, true, true, false, false, false, false, false, false, false] rfl rfl (by kernel_rfl) (fun _ _ _ h => h) (Or.inl ⟨by rfl, ?_⟩) hHeld ?_ ?_
    rotate_left
    · intro w' hSw
      (try dsimp only at hSw)
      go_simp
      all_goals (with_reducible rfl)
    rotate_left
    · simp only [Act.put, List.setIfInBounds_toArray, List.set_cons_zero, List.set_cons_succ, i64_w, i32_w]
      rfl
    refine one_ (i := 3) (N := some 146) #[true, true, true, true, false, false, false, false, false, false] rfl rfl (by kernel_rfl) (by decide) (fun K hK => ?_)
    go_simp
    go_at_call 15
    refine HTd.out.bytes.mono ?_
    rintro e w2 ⟨gb, rfl, hbuf, hT, hb⟩
    have HBUF := Aside0.mk hbuf
    have HD2 := Aside0.mk (blk_below (blk_drew HD1.out) hb)
    have HR2 := Aside0.mk (blk_below (blk_drew HR1.out) hb)
    have HK2 := Aside0.mk (show ∀ k, B k → w2.heap[k]? = w.heap[k]? from fun k hk => (hb.block k (HTd.out.fix k (.inl hk))).trans (HK1.out k hk))
    have HT2 := Aside0.mk hT
    have e0 := blk_cell HD2.out 0
    clear hb hT hbuf d0 d1 d2 o0 o1 o2 o3
    (try go_wp2_with fail)
    refine hK.out _ _ (e0) (fun hHeld => ?_)
    clear hK K
    (try simp only [Act.put, List.setIfInBounds_toArray, List.set_cons_zero, List.set_cons_succ])
    refine one_ (i := 4) (N := some 147) #[true, true, true, true, true, false, false, false, false, false] rfl rfl (by kernel_rfl) (by decide) (fun K hK => ?_)
    go_simp
    go_at_call 21
    refine (HT2.out.parse HBUF.out).mono ?_
    rintro e w3 ⟨g', rfl, hT, hb⟩
    have HD3 := Aside0.mk (blk_below HD2.out hb)
    have HR3 := Aside0.mk (blk_below HR2.out hb)
    have HK3 := Aside0.mk (show ∀ k, B k → w3.heap[k]? = w.heap[k]? from fun k hk => (hb.block k (HT2.out.fix k (.inl hk))).trans (HK2.out k hk))
    have HT3 := Aside0.mk hT
    clear hb hT e0
    have e0 := blk_cell HD3.out 0
    (try go_wp2_with fail)
    refine hK.out _ _ (e0) (fun hHeld => ?_)
    clear hK K
    (try simp only [Act.put, List.setIfInBounds_toArray, List.set_cons_zero, List.set_cons_succ])
    refine pure_ (i := 5) (N := some 142) (v := ?_) (a' := ?_) #[true, true, true, true, true, true, false, false, false, false] rfl rfl (by kernel_rfl) (fun _ _ _ h => h) (Or.inl ⟨by rfl, ?_⟩) ?_ ?_
    rotate_left
    · intro w'
      go_simp
      all_goals (with_reducible rfl)
    rotate_left
    · simp only [Act.put, List.setIfInBounds_toArray, List.set_cons_zero, List.set_cons_succ, i64_w, i32_w]
      rfl
    refine pure_ (i := 6) (N := some 148) (v := ?_) (a' := ?_) #[true, true, true, true, true, true, true, false, false, false] rfl rfl (by kernel_rfl) (fun _ _ _ h => h) (Or.inl ⟨by rfl, ?_⟩) ?_ ?_
    rotate_left
    · intro w'
      go_simp
      all_goals (with_reducible rfl)
    rotate_left
    · simp only [Act.put, List.setIfInBounds_toArray, List.set_cons_zero, List.set_cons_succ, i64_w, i32_w]
      rfl
    refine pure_ (i := 7) (N := some 149) (v := ?_) (a' := ?_) #[true, true, true, true, true, true, true, true, false, false] rfl rfl (by kernel_rfl) (fun _ _ _ h => h) (Or.inl ⟨by rfl, ?_⟩) ?_ ?_
    rotate_left
    · intro w'
      go_simp
      all_goals (with_reducible rfl)
    rotate_left
    · simp only [Act.put, List.setIfInBounds_toArray, List.set_cons_zero, List.set_cons_succ, i64_w, i32_w]
      rfl
    refine pure_ (i := 8) (N := some 21) (v := ?_) (a' := ?_) #[true, true, true, true, true, true, true, true, true, false] rfl rfl (by kernel_rfl) (fun _ _ _ h => h) (Or.inl ⟨by rfl, ?_⟩) ?_ ?_
    rotate_left
    · intro w'
      go_simp
      all_goals (with_reducible rfl)
    rotate_left
    · simp only [Act.put, List.setIfInBounds_toArray, List.set_cons_zero, List.set_cons_succ, i64_w, i32_w]
      rfl
    refine pure_ (i := 9) (N := some 22) (v := ?_) (a' := ?_) #[true, true, true, true, true, true, true, true, true, true] rfl rfl (by kernel_rfl) (fun _ _ _ h => h) (Or.inl ⟨by rfl, ?_⟩) ?_ ?_
    rotate_left
    · intro w'
      go_simp
      all_goals (with_reducible rfl)
    rotate_left
    · simp only [Act.put, List.setIfInBounds_toArray, List.set_cons_zero, List.set_cons_succ, i64_w, i32_w]
      rfl
    refine done_ (by kernel_rfl) ?_
    clear e0
    have d0 := blk_cell HD3.out 0
    have d1 := blk_cell HD3.out 1
    have d2 := blk_cell HD3.out 2
    have r0 := blk_cell HR3.out 0
    have r1 := blk_cell HR3.out 1
    have r2 := blk_cell HR3.out 2
    have rf0 := blk_frozen HR3.out 0
    have rf1 := blk_frozen HR3.out 1
    have rf2 := blk_frozen HR3.out 2
    go_wp2_with fail
    go_region
    all_goals
      go_wp2_with fail
      refine bodyPost_ret (results_tct rfl _ _ (w.heap.size + 2) 33 #[.int .i64 (id : Int), .int .u64 (lsn : Int), .slice A cs.length c] (0, 0) _ rfl (put3 HR3.out) Try.underlying33 rfl (by kernel_rfl)) rfl ?_
      first
      | exact stepped_drew (step_end HT3.out HK3.out HGE.out rfl)
      | exact step_end HT3.out HK3.out HGE.out rfl
    -- K5]
  · have e0 : (ko == 0) = false := by simpa using k0
    have e1 : (ko == 1) = false := by simpa using k1
    have e2 : (ko == 2) = false := by simpa using k2
    have e3 : (ko == 3) = false := by simpa using k3
    have e4 : (ko == 4) = false := by simpa using k4
    have e5 : (ko == 5) = false := by simpa using k5
    clear k0 k1 k2 k3 k4 k5
    go_enter Try.func31, Try.ntmps31
    -- [K6
    go_wp2_with fail
    have hd1 : (((w.alloc (.cells #[.int .i64 (id : Int), .int .u64 (lsn : Int), .slice A cs.length c] 33)).alloc (.cells #[.int .i64 ko, .string key, .string val, .int .u64 (at_ : Int)] 59)).alloc (.cells #[.int .i64 0, .int .u64 0, .slice none 0 0] 33)).heap[w.heap.size]? = some (.cells #[.int .i64 (id : Int), .int .u64 (lsn : Int), .slice A cs.length c] 33 (0, 0)) := blk_alloc (blk_alloc (heap_alloc_new w _) _) _
    have ho1 : (((w.alloc (.cells #[.int .i64 (id : Int), .int .u64 (lsn : Int), .slice A cs.length c] 33)).alloc (.cells #[.int .i64 ko, .string key, .string val, .int .u64 (at_ : Int)] 59)).alloc (.cells #[.int .i64 0, .int .u64 0, .slice none 0 0] 33)).heap[w.heap.size + 1]? = some (.cells #[.int .i64 ko, .string key, .string val, .int .u64 (at_ : Int)] 59 (0, 0)) := by
      have := blk_alloc (heap_alloc_new (w.alloc (.cells #[.int .i64 (id : Int), .int .u64 (lsn : Int), .slice A cs.length c] 33)) (.cells #[.int .i64 ko, .string key, .string val, .int .u64 (at_ : Int)] 59)) (.cells #[.int .i64 0, .int .u64 0, .slice none 0 0] 33)
      rwa [World.size_alloc] at this
    have hr1 : (((w.alloc (.cells #[.int .i64 (id : Int), .int .u64 (lsn : Int), .slice A cs.length c] 33)).alloc (.cells #[.int .i64 ko, .string key, .string val, .int .u64 (at_ : Int)] 59)).alloc (.cells #[.int .i64 0, .int .u64 0, .slice none 0 0] 33)).heap[w.heap.size + 2]? = some (.cells #[.int .i64 0, .int .u64 0, .slice none 0 0] 33 (0, 0)) := by
      have := heap_alloc_new ((w.alloc (.cells #[.int .i64 (id : Int), .int .u64 (lsn : Int), .slice A cs.length c] 33)).alloc (.cells #[.int .i64 ko, .string key, .string val, .int .u64 (at_ : Int)] 59)) (.cells #[.int .i64 0, .int .u64 0, .slice none 0 0] 33)
      rwa [World.size_alloc, World.size_alloc] at this
    have hb1 : Below w.heap.size w (((w.alloc (.cells #[.int .i64 (id : Int), .int .u64 (lsn : Int), .slice A cs.length c] 33)).alloc (.cells #[.int .i64 ko, .string key, .string val, .int .u64 (at_ : Int)] 59)).alloc (.cells #[.int .i64 0, .int .u64 0, .slice none 0 0] 33)) := below_alloc (below_alloc (below_alloc (Below.refl _ _) _) _) _
    have hs1 : (((w.alloc (.cells #[.int .i64 (id : Int), .int .u64 (lsn : Int), .slice A cs.length c] 33)).alloc (.cells #[.int .i64 ko, .string key, .string val, .int .u64 (at_ : Int)] 59)).alloc (.cells #[.int .i64 0, .int .u64 0, .slice none 0 0] 33)).heap.size = w.heap.size + 3 := by rw [World.size_alloc, World.size_alloc, World.size_alloc]
    generalize (((w.alloc (.cells #[.int .i64 (id : Int), .int .u64 (lsn : Int), .slice A cs.length c] 33)).alloc (.cells #[.int .i64 ko, .string key, .string val, .int .u64 (at_ : Int)] 59)).alloc (.cells #[.int .i64 0, .int .u64 0, .slice none 0 0] 33)) = w1 at hd1 ho1 hr1 hb1 hs1 ⊢
    have HD1 := Aside0.mk hd1
    have HO1 := Aside0.mk ho1
    have HR1 := Aside0.mk hr1
    have HK1 := Aside0.mk (show ∀ k, B k → w1.heap[k]? = w.heap[k]? from fun k hk => hb1.block k (HT.out.fix k hk))
    have HT1 := Aside0.mk (HT.out.apart (B' := BX B w.heap.size) hb1 (fun k hk => by
      rcases hk with h | h | h | h
      · exact .inl h
      all_goals exact .inr (by omega)))
    clear hd1 ho1 hr1 hb1 hs1
    refine HT1.out.clone.mono ?_
    rintro e w2 ⟨g', rfl, hT, hb⟩
    have HD2 := Aside0.mk (blk_below HD1.out hb)
    have HO2 := Aside0.mk (blk_below HO1.out hb)
    have HR2 := Aside0.mk (blk_below HR1.out hb)
    have HK2 := Aside0.mk (fun k hk => (hb.block k (HT1.out.fix k (.inl hk))).trans (HK1.out k hk))
    have HT2 := Aside0.mk hT
    clear hT hb
    have d0 := blk_cell HD2.out 0
    have d1 := blk_cell HD2.out 1
    have d2 := blk_cell HD2.out 2
    have o0 := blk_cell HO2.out 0
    have o1 := blk_cell HO2.out 1
    have o2 := blk_cell HO2.out 2
    have o3 := blk_cell HO2.out 3
    have r0 := blk_cell HR2.out 0
    have r1 := blk_cell HR2.out 1
    have r2 := blk_cell HR2.out 2
    have rf0 := blk_frozen HR2.out 0
    have rf1 := blk_frozen HR2.out 1
    have rf2 := blk_frozen HR2.out 2
    go_wp2_with fail
    go_region
    all_goals
      go_wp2_with fail
      refine bodyPost_ret (results_tct rfl _ _ (w.heap.size + 2) 33 #[.int .i64 (id : Int), .int .u64 (lsn : Int), .slice A cs.length c] (0, 0) _ rfl (put3 HR2.out) Try.underlying33 rfl (by kernel_rfl)) rfl ?_
      first
      | exact stepped_drew (step_end HT2.out HK2.out HGE.out rfl)
      | exact step_end HT2.out HK2.out HGE.out rfl
    -- K6]
end Go.Proofs.Ytidkdbohkbfhbaa
end
