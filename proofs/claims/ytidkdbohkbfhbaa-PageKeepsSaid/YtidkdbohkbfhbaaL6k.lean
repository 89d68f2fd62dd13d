/- PageKeeps' walk. -/
import Derived.Test.YtidkdbohkbfhbaaL6p
import Derived.Test.YtidkdbohkbfhbaaPk
namespace Go.Proofs.Ytidkdbohkbfhbaa
open Go.RowKit Go.Proofs.YtidkdbohkbfhbaaW.PrintWords Go.Proofs.YtidkdbohkbfhbaaW.PrintLast Go.Proofs.YtidkdbohkbfhbaaW.PrintMore
open Rf
set_option linter.unusedVariables false
set_option linter.unusedSimpArgs false

theorem flatP_append (a b : List SGPair) : flatP (a ++ b) = flatP a ++ flatP b := by simp [flatP]
theorem flatP_take (cs : List SGPair) (k : Nat) (hk : k ≤ cs.length) : flatP (cs.take k) = (flatP cs).take (k * 2) := by
  have h : flatP cs = flatP (cs.take k) ++ flatP (cs.drop k) := by rw [← flatP_append, List.take_append_drop]
  rw [h, List.take_left' (by rw [flatP_length, List.length_take]; congr 1; omega)]
theorem flatP_one (cs : List SGPair) : ∀ u ∈ flatP cs, u.oneCell' = true := by
  intro u hu
  simp only [flatP, List.mem_flatMap] at hu
  obtain ⟨c, _, hc⟩ := hu
  simp only [encP, List.mem_cons, List.not_mem_nil, or_false] at hc
  rcases hc with rfl | rfl <;> rfl
def delP (l : List SGPair) (j : Nat) : List SGPair := l.take j ++ l.drop (j + 1)
/-- The elements behind j go one to the front. -/
theorem row_delP {w : World} {base go n c : Nat} {ok : Nat → Prop} {cs : List SGPair} (h : Kd.R kGPair 36 w base ok (.slice (some ⟨go, 0, none⟩) n c) cs) (j : Nat) (hj : j < cs.length) :
    Kd.R kGPair 36 (w.setCells go (j * 2) (flatP (cs.drop (j + 1)))) base ok (.slice (some ⟨go, 0, none⟩) (n - 1) c) (delP cs j) ∧
      w.grownBy (w.setCells go (j * 2) (flatP (cs.drop (j + 1)))) (some go) ∧
      (∀ q u, (flatP (cs.drop (j + 1)))[q]? = some u → w.cell? ⟨go, (j + 1) * 2 + q, none⟩ = some u) ∧
      (∀ q, q < (flatP (cs.drop (j + 1))).length → (w.cell? ⟨go, j * 2 + q, none⟩).isSome = true ∧ w.frozen? ⟨go, j * 2 + q, none⟩ = false) := by
  have hn := (Kd.R_reads' h).1
  have hf := RP_flat h
  have hok := h.1
  obtain ⟨hlen, hrest⟩ := hf
  rcases hrest with ⟨hv, _⟩ | ⟨g', cap, cur, hv, hb, hh, hnc, hcm, hcs, ht⟩
  · cases hv
  injection hv with ha hnn hc
  injection ha with ha
  injection ha with hg
  subst hg; subst hc
  have hdl : (delP cs j).length = n - 1 := by simp [delP]; omega
  have hml : (flatP (cs.drop (j + 1))).length = (n - (j + 1)) * 2 := by rw [flatP_length, List.length_drop, hn]
  have hcs' : cur.toList.length = c * 2 := by rw [Array.length_toList, hcs]
  have hfit : j * 2 + (flatP (cs.drop (j + 1))).length ≤ cur.size := by
    rw [hml, hcs]
    have : n * 2 ≤ c * 2 := Nat.mul_le_mul_right _ (by omega)
    omega
  have hcell : ∀ i, i < n * 2 → w.cell? ⟨go, i, none⟩ = (flatP cs)[i]? := by
    intro i hi
    rw [cell_of_row w go i cur 36 (0, 0) hh, ← ht, List.getElem?_take, if_pos (by rw [← hn]; omega)]
    simp
  obtain ⟨cur', h3, h4, h5⟩ := setCells_row (flatP (cs.drop (j + 1))) (j * 2) w cur hh hfit
  obtain ⟨s1, s2, s3, s4⟩ := setCells_same go (flatP (cs.drop (j + 1))) (j * 2) w
  refine ⟨RP_of_flat (fun k hk => hok k hk) ⟨by rw [flatP_length], .inr ⟨go, c, cur', by rw [hdl], hb, h3, by omega, hcm, by rw [h4, hcs], ?_⟩⟩,
    ⟨s1, s2, s3, by rw [s4]; exact Nat.le_refl _, fun k _ hk => setCells_far _ _ k (fun he => hk (by rw [he]))⟩, ?_, ?_⟩
  · rw [h5, hdl]
    have e1 : cur.toList.take (j * 2) = flatP (cs.take j) := by
      rw [flatP_take cs j (by omega), ← ht, List.take_take]
      congr 1
      have : j * 2 ≤ cs.length * 2 := Nat.mul_le_mul_right _ (by omega)
      omega
    rw [e1, show delP cs j = cs.take j ++ cs.drop (j + 1) from rfl, flatP_append]
    rw [List.take_left' (by rw [List.length_append, hml, flatP_length, List.length_take]; omega)]
  · intro q u hu
    have hq : q < (flatP (cs.drop (j + 1))).length := (List.getElem?_eq_some_iff.1 hu).1
    rw [hcell _ (by rw [hml] at hq; omega)]
    rw [flatP_drop cs (j + 1) (by omega), List.getElem?_drop] at hu
    exact hu
  · intro q hq
    refine ⟨?_, blk_frozen hh _⟩
    rw [hcell _ (by rw [hml] at hq; omega), List.getElem?_eq_getElem (by rw [flatP_length]; rw [hml] at hq; omega)]
    rfl
/-- A pair's value is written. -/
theorem row_valP {w : World} {base go n c : Nat} {ok : Nat → Prop} {l : List SGPair} (h : Kd.R kGPair 36 w base ok (.slice (some ⟨go, 0, none⟩) n c) l) (i : Nat) (hi : i < l.length) (x : ByteArray) :
    Kd.R kGPair 36 (w.setCell ⟨go, i * 2 + 1, none⟩ (.string x)) base ok (.slice (some ⟨go, 0, none⟩) n c) (l.set i ⟨(rd_TGPair l i).f0, x⟩) ∧
      w.grownBy (w.setCell ⟨go, i * 2 + 1, none⟩ (.string x)) (some go) := by
  have hn := (Kd.R_reads' h).1
  obtain ⟨ad, ea, hx0, hx1⟩ := pair_at (Kd.R_reads' h).2.2 i hi
  cases ea
  simp only [add_plain] at hx0 hx1
  have hs := Kd.R_seg (okp := fun _ => False) (seg := [.string x]) (j := 1) (c := [.string (rd_TGPair l i).f0, .string (rd_TGPair l i).f1]) (x' := ⟨(rd_TGPair l i).f0, x⟩) h (i : Int) (by omega) (by omega) rfl
    (fun j u hu => by
      rw [Int.toNat_natCast]
      match j, hu with
      | 0, hu => rw [← Option.some.inj hu]; exact hx0
      | 1, hu => rw [← Option.some.inj hu]; exact hx1) (Nat.le_refl 2) (kGPair_mkM _ _ _ _) (fun _ hk => hk.elim)
  rw [Int.toNat_natCast] at hs
  exact hs
theorem row_low {w : World} {base : Nat} {ok : Nat → Prop} {v : Value} {l : List SGPair} (h : Kd.R kGPair 36 w base ok v l) (k : Nat) (hk : v.ownBlock = some k) : base ≤ k := by
  obtain ⟨_, h2⟩ := RP_flat h
  rcases h2 with ⟨rfl, _⟩ | ⟨g, cap, cur, rfl, hb, _⟩
  · simp [Value.ownBlock] at hk
  · simp [Value.ownBlock] at hk
    omega
/-- The page, and the pairs that the caller keeps beside it. -/
structure Both (w0 w : World) (g id : Nat) (cs : List SGCell) (v : Value) (ms : List SGPair) : Prop where
  both : ∃ ok lsn, Here w0 w ok g id lsn cs ∧ (∀ k, ok k → k < w.heap.size) ∧ Kd.R kGPair 36 w w0.heap.size (fun k => ¬ ok k) v ms
  used : Used cs
abbrev opRow (o : SGOp) : Obj := .cells #[.int .i64 o.f0, .string o.f1, .string o.f2, .int .u64 o.f3] 59
/-- The same, with the round's own step in a block beside. -/
structure Kp (w0 w : World) (g id : Nat) (cs : List SGCell) (v : Value) (ms : List SGPair) (ob : Nat) (o : SGOp) : Prop where
  both : ∃ ok lsn, Here w0 w ok g id lsn cs ∧ (∀ k, ok k → k < w.heap.size ∧ k ≠ ob) ∧ Kd.R kGPair 36 w w0.heap.size (fun k => ¬ ok k ∧ k ≠ ob) v ms
  used : Used cs
  box : w.heap[ob]? = some (opRow o)
  low : w0.heap.size ≤ ob
section
variable {w0 w : World} {g id ob : Nat} {cs : List SGCell} {v : Value} {ms : List SGPair} {o : SGOp}
theorem Both.alloc (h : Both w0 w g id cs v ms) (o : SGOp) : Kp w0 (w.alloc (opRow o)) g id cs v ms w.heap.size o := by
  obtain ⟨⟨ok, lsn, h1, h2, h3⟩, hu⟩ := h
  have hb : Below w.heap.size w (w.alloc (opRow o)) := below_alloc (Below.refl _ _) _
  exact ⟨⟨ok, lsn, h1.next hb, fun k hk => ⟨by have := h2 k hk; have := hb.size; omega, by have := h2 k hk; omega⟩, Kd.R_mono (Kd.R_below (Kd.R_bound h3) hb) (fun k hk => ⟨hk.1, by have := hk.2.2.1; omega⟩)⟩, hu, heap_alloc_new w _, h1.bel.size⟩
theorem Both.bel (h : Both w0 w g id cs v ms) : Below w0.heap.size w0 w := by
  obtain ⟨⟨ok, lsn, h1, h2, h3⟩, _⟩ := h
  exact h1.bel
theorem Kp.to (h : Kp w0 w g id cs v ms ob o) : Both w0 w g id cs v ms := by
  obtain ⟨⟨ok, lsn, h1, h2, h3⟩, hu, _, _⟩ := h
  exact ⟨⟨ok, lsn, h1, fun k hk => (h2 k hk).1, Kd.R_mono h3 (fun k hk => hk.1)⟩, hu⟩
theorem Kp.bel (h : Kp w0 w g id cs v ms ob o) : Below w0.heap.size w0 w := by
  obtain ⟨⟨ok, lsn, h1, h2, h3⟩, _⟩ := h
  exact h1.bel
theorem Kp.val (h : Kp w0 w g id cs v ms ob o) : Valid cs := by
  obtain ⟨⟨ok, lsn, h1, h2, h3⟩, _⟩ := h
  exact h1.val
theorem Kp.next {w' : World} (h : Kp w0 w g id cs v ms ob o) (hb : Below w.heap.size w w') : Kp w0 w' g id cs v ms ob o := by
  obtain ⟨⟨ok, lsn, h1, h2, h3⟩, hu, hx, hl⟩ := h
  exact ⟨⟨ok, lsn, h1.next hb, fun k hk => ⟨by have := h2 k hk; have := hb.size; omega, (h2 k hk).2⟩, Kd.R_below h3 hb⟩, hu, blk_below hx hb, hl⟩
theorem Kp.drew (h : Kp w0 w g id cs v ms ob o) : Kp w0 w.drew g id cs v ms ob o := h.next (below_drew (Below.refl _ _))
/-- The page changes, what stands beside it is kept. -/
theorem kp_kept {w' : World} {ok : Nat → Prop} {lsn lsn' : Nat} {cs' : List SGCell} (h2 : ∀ k, ok k → k < w.heap.size ∧ k ≠ ob) (h3 : Kd.R kGPair 36 w w0.heap.size (fun k => ¬ ok k ∧ k ≠ ob) v ms) (hu : Used cs') (hx : w.heap[ob]? = some (opRow o)) (hl : w0.heap.size ≤ ob)
    (hh : Here w0 w' (fun k => ok k ∨ w.heap.size ≤ k) g id lsn' cs') (hk : Kept w w' ok) : Kp w0 w' g id cs' v ms ob o := by
  have hob := blk_lt hx
  refine ⟨⟨_, lsn', hh.bound, fun k hk' => ⟨hk'.2, ?_⟩, ?_⟩, hu, blk_kept hx hk (fun h => (h2 ob h).2 rfl), hl⟩
  · rcases hk'.1 with h | h
    · exact (h2 k h).2
    · omega
  · refine Kd.R_mono (Kd.R_kept (Kd.R_bound h3) hk (fun k hk' => hk'.1.1)) (fun k hk' => ⟨fun h => ?_, hk'.1.2⟩)
    rcases h.1 with h | h
    · exact hk'.1.1 h
    · have := hk'.2.2.1; omega
theorem Kp.insert (h : Kp w0 w g id cs v ms ob o) (key value : ByteArray) : Calls Try.prog 19 #[.pointer (some ⟨g, 0, none⟩), .string key, .string value] w fun e w' => e = .returned (.int .i64 (ins cs key value).2) ∧ Kp w0 w' g id (ins cs key value).1 v ms ob o := by
  obtain ⟨⟨ok, lsn, h1, h2, h3⟩, hu, hx, hl⟩ := h
  refine (h1.insert key value).mono ?_
  rintro e w' ⟨rfl, hh, hk⟩
  exact ⟨rfl, kp_kept (lsn := lsn) h2 h3 (hu.ins key value) hx hl hh hk⟩
theorem Kp.update (h : Kp w0 w g id cs v ms ob o) (key value : ByteArray) : Calls Try.prog 26 #[.pointer (some ⟨g, 0, none⟩), .string key, .string value] w fun e w' => e = .returned (.int .i64 (upd cs key value).2) ∧ Kp w0 w' g id (upd cs key value).1 v ms ob o := by
  obtain ⟨⟨ok, lsn, h1, h2, h3⟩, hu, hx, hl⟩ := h
  refine (h1.update key value).mono ?_
  rintro e w' ⟨rfl, hh, hk⟩
  exact ⟨rfl, kp_kept (lsn := lsn) h2 h3 (hu.upd key value) hx hl hh hk⟩
theorem Kp.delete (h : Kp w0 w g id cs v ms ob o) (key : ByteArray) : Calls Try.prog 20 #[.pointer (some ⟨g, 0, none⟩), .string key] w fun e w' => e = .returned (.int .i64 (del cs key).2) ∧ Kp w0 w' g id (del cs key).1 v ms ob o := by
  obtain ⟨⟨ok, lsn, h1, h2, h3⟩, hu, hx, hl⟩ := h
  refine (h1.delete key).mono ?_
  rintro e w' ⟨rfl, hh, hk⟩
  exact ⟨rfl, kp_kept (lsn := lsn) h2 h3 (hu.del key) hx hl hh hk⟩
theorem Kp.get (h : Kp w0 w g id cs v ms ob o) (key : ByteArray) : Calls Try.prog 18 #[.pointer (some ⟨g, 0, none⟩), .string key] w fun e w' => e = .returned (.tuple #[.string (if fnd cs key < 0 then ⟨#[]⟩ else (rd_TGCell cs (fnd cs key)).f2), .bool (decide (0 ≤ fnd cs key))]) ∧ Kp w0 w' g id cs v ms ob o := by
  have h0 := h
  obtain ⟨⟨ok, lsn, h1, h2, h3⟩, hu, hx, hl⟩ := h
  refine (h1.get key).mono ?_
  rintro e w' ⟨rfl, _, hb⟩
  exact ⟨rfl, h0.next hb⟩
theorem Kp.pairs (h : Kp w0 w g id cs v ms ob o) : Calls Try.prog 27 #[.pointer (some ⟨g, 0, none⟩)] w fun e w' => ∃ A c, e = .returned (.slice A cs.length c) ∧ Kp w0 w' g id cs v ms ob o := by
  have h0 := h
  obtain ⟨⟨ok, lsn, h1, h2, h3⟩, hu, hx, hl⟩ := h
  refine h1.pairs.mono ?_
  rintro e w' ⟨A, c, l, rfl, _, hp, _, _, hb⟩
  exact ⟨A, c, by rw [hp.length_eq, prs_length hu], h0.next hb⟩
/-- The pairs change, the page is kept. -/
theorem Kp.row (h : Kp w0 w g id cs v ms ob o) : ∃ ok : Nat → Prop, (∀ k, w.heap.size ≤ k → ok k) ∧ Kd.R kGPair 36 w w0.heap.size ok v ms ∧
    ∀ w' v' ms', w.grownBy w' v.ownBlock → Kd.R kGPair 36 w' w0.heap.size ok v' ms' → Kp w0 w' g id cs v' ms' ob o := by
  obtain ⟨⟨ok, lsn, h1, h2, h3⟩, hu, hx, hl⟩ := h
  have hob := blk_lt hx
  refine ⟨_, fun k hk => ⟨fun h => ?_, by omega⟩, h3, fun w' v' ms' hg hR => ⟨⟨ok, lsn, h1.grown hg (fun k hk => ⟨(h3.1 k hk).1, row_low h3 k hk⟩), fun k hk => ⟨by have := (h2 k hk).1; have := hg.size; omega, (h2 k hk).2⟩, hR⟩, hu, blk_grown hx hg (fun e => (h3.1 ob e.symm).2 rfl), hl⟩⟩
  have := (h2 k h).1
  omega
theorem Kp.len (h : Kp w0 w g id cs v ms ob o) : ∃ A c, v = .slice A ms.length c ∧ Kd.C kGPair w A ms.length ms := by
  obtain ⟨⟨ok, lsn, h1, h2, h3⟩, hu, hx, hl⟩ := h
  obtain ⟨A, c, rfl, _, hC⟩ := Kd.R_reads h3
  exact ⟨A, c, rfl, hC⟩
end
set_option maxRecDepth 100000 in
set_option maxHeartbeats 4000000 in
theorem keeps_walk (w : World) (id : Int) (l : List SGOp) (A : Option Addr) (c : Nat) (hC : Kd.C kGOp w A l.length l) (hl : l.length ≤ 140737488351232) :
    Calls Try.prog 7 #[.int .i64 id, .slice A l.length c] w fun e w' => e = .returned (.bool true) ∧ Below w.heap.size w w' := by
  have HC := Aside0.mk hC
  clear hC
  go_enter Try.func7, Try.ntmps7
  by_cases hid : 0 ≤ id ∧ id < 16
  · go_wp2_with fail
    refine (new_ok id w hid.1 hid.2).mono ?_
    rintro e w1 ⟨rfl, hp, hb⟩
    obtain ⟨id', rfl⟩ := Int.eq_ofNat_of_zero_le hid.1
    have HI := Aside0.mk (show Both w w1 w.heap.size id' [] (.slice none 0 0) [] from ⟨⟨fun k => w.heap.size ≤ k ∧ k < w1.heap.size, 0, Here.bound ⟨hp _ (Nat.le_refl _), hb, Valid.nil, by omega, by decide⟩, fun k hk => hk.2, Kd.R_nil _ _ _ _ _⟩, Used.nil⟩)
    clear hp hb
    go_wp2_with fail
    go_loopg [7, 8] l.length (fun gk v7 v8 wr => ∃ (k : Nat) (cs : List SGCell), Aside0 (k + gk = l.length) ∧ v8 = .int .i64 k ∧ k ≤ l.length ∧ Aside0 (Both w wr w.heap.size id' cs v7 (prs cs)))
    case atStart => exact ⟨0, [], ⟨by omega⟩, rfl, by omega, HI⟩
    case round =>
      obtain ⟨k, cs, Hk, rfl, hkl, HB⟩ := hrel
      obtain ⟨G, rfl⟩ : ∃ x, x = gk := ⟨_, rfl⟩
      clear HI
      by_cases hend : k < l.length ∧ k < 120
      · obtain ⟨hlt, hk120⟩ := hend
        obtain ⟨Am, cm, rfl, _⟩ := (HB.out.alloc (rd_TGOp l k)).len
        have HK := Aside0.mk (HB.out.alloc (rd_TGOp l k))
        rw [prs_length HB.out.used] at HK
        rw [prs_length HB.out.used]
        obtain ⟨ad, rfl, hx0, hx1, hx2, hx3⟩ := op_at (Kd.C_below HC.out HB.out.bel) k hlt
        go_wp2_with fail
        simp only [show decide ((k : Int) < 120) = true from by simp; omega]
        obtain ⟨ob, hob⟩ : ∃ ob, wr.heap.size = ob := ⟨_, rfl⟩
        rw [hob] at HK ⊢
        generalize hwb : wr.alloc (opRow (rd_TGOp l k)) = wb at HK ⊢
        clear hwb hx0 hx1 hx2 hx3 HB hob
        obtain ⟨o, ho⟩ : ∃ o, rd_TGOp l k = o := ⟨_, rfl⟩
        rw [ho] at HK ⊢
        have hcs := HK.out.val.len
        go_loopg [10, 11] cs.length (fun gk v10 v11 wr => ∃ k1 : Nat, Aside0 (k1 + gk = cs.length) ∧ v10 = .int .i64 (atk cs o.f1 k1) ∧ v11 = .int .i64 k1 ∧ k1 ≤ cs.length ∧ Aside0 (Kp w wr w.heap.size id' cs (Value.slice Am cs.length cm) (prs cs) ob o))
        case atStart => exact ⟨0, ⟨by omega⟩, by rw [atk_zero], rfl, by omega, HK⟩
        case round =>
          obtain ⟨k1, Hk1, rfl, rfl, hkl1, HK⟩ := hrel
          have hb1 := blk_cell HK.out.box 1
          by_cases hlt1 : k1 < cs.length
          · obtain ⟨Am', cm', em, hCm⟩ := HK.out.len
            obtain ⟨ad, ea, hx0, hx1⟩ := pair_at hCm k1 (by rw [prs_length HK.out.used]; exact hlt1)
            injection em with em1 em2 em3
            subst em1; subst ea
            clear em2 em3 hCm
            rw [rd_prs HK.out.used k1 hlt1] at hx0 hx1
            have hx0 : wr.cell? (ad.add (k1 * 2)) = some (.string (rd_TGCell cs k1).f1) := hx0
            cases he : (rd_TGCell cs k1).f1.toList == o.f1.toList with
            | true =>
              have HE := Aside0.mk (atk_hit HK.out.val HK.out.used o.f1 k1 hlt1 he)
              go_wp2_with fail
              go_region_held3 (fun wx => wx.cell? (ad.add (k1 * 2)) = some (.string (rd_TGCell cs k1).f1) ∧ wx.cell? ⟨ob, 1, none⟩ = some (.string o.f1)) (go_keep) (fail)
              all_goals
                go_wp2
                go_roundg (gk - 1)
                case measure => have := Hk1.out; omega
                case rel => exact ⟨k1 + 1, ⟨by have := Hk1.out; omega⟩, by rw [HE.out], by simp, by omega, ⟨HK.out.drew⟩⟩
            | false =>
              have HE := Aside0.mk (atk_miss HK.out.val HK.out.used o.f1 k1 hlt1 he)
              go_wp2_with fail
              go_region_held3 (fun wx => wx.cell? (ad.add (k1 * 2)) = some (.string (rd_TGCell cs k1).f1) ∧ wx.cell? ⟨ob, 1, none⟩ = some (.string o.f1)) (go_keep) (fail)
              all_goals
                go_wp2
                go_roundg (gk - 1)
                case measure => have := Hk1.out; omega
                case rel => exact ⟨k1 + 1, ⟨by have := Hk1.out; omega⟩, by rw [HE.out], by simp, by omega, ⟨HK.out.drew⟩⟩
          · obtain rfl : k1 = cs.length := by omega
            rw [atk_full]
            have hb0 := blk_cell HK.out.box 0
            have hb2 := blk_cell HK.out.box 2
            by_cases c0 : o.f0 = 0
            · have hb0' : wr.cell? ⟨ob, 0, none⟩ = some (.int .i64 0) := by rw [← c0]; exact hb0
              clear hb0
              go_wp2_with fail
              have hb0 := blk_cell HK.out.box 1
              refine (HK.out.insert o.f1 o.f2).mono ?_
              rintro e w2 ⟨rfl, HK2⟩
              rcases ins_cases HK.out.used o.f1 o.f2 with ⟨r0, rf, rc⟩ | ⟨rc, r0, r9⟩
              · rw [r0, rf]
                rw [rc] at HK2
                have HK2 := Aside0.mk HK2
                clear r0 rf rc hb0 hb0'
                have hb1 := blk_cell HK2.out.box 1
                have hb2 := blk_cell HK2.out.box 2
                obtain ⟨okr, hfr, hRr, hnx⟩ := HK2.out.row
                have HFR := Aside0.mk hfr
                have HRR := Aside0.mk hRr
                have HNX := Aside0.mk hnx
                have HBE := Aside0.mk HK2.out.bel
                clear hfr hRr hnx
                have hpl := prs_length HK.out.used
                have HPL := Aside0.mk hpl
                clear hpl
                go_wp2_with (at_builtin; refine Kd.R_append kGPair (w0 := w) w.heap.size rfl (.tmp 81) (.tmp 87) 57 36 (.agg #[(.string ⟨#[]⟩), (.string ⟨#[]⟩)]) 32 rfl Try.underlying57 Rf.info36 rfl (by decide) (by omega) (.slice Am cs.length cm) (prs cs) ⟨o.f1, o.f2⟩ [.string o.f1, .string o.f2] okr (fun _ => False) rfl (by first | rfl | (go_simp; done) | (simp [Act.eval, World.alloc]; done)) (kGPair_mkM _ _ _ ⟨_, _⟩) (fun _ h => h.elim) HFR.out HRR.out HBE.out HBE.out.size (by have := HPL.out; omega) ?_; intro v1 w3 ho hb hg hat; have HKN := Aside0.mk (HNX.out w3 v1 _ hg ho); clear ho hb hg hat)
                all_goals
                  rw [← prs_snoc HK.out.used] at HKN
                  obtain ⟨Az, cz, ev, _⟩ := HKN.out.len
                  subst ev
                  obtain ⟨cs2, hcs2⟩ : ∃ x, x = cs ++ [cel o.f1 o.f2] := ⟨_, rfl⟩
                  rw [← hcs2] at HKN ⊢
                  clear hcs2
                  have hcz := HKN.out.val.len
                  have HLZ := Aside0.mk (prs_length HKN.out.used)
                  try rw [HLZ.out] at HKN
                  try rw [HLZ.out]
                  go_loopg [15] cs2.length (fun gk v15 wr => ∃ k2 : Nat, Aside0 (k2 + gk = cs2.length) ∧ v15 = .int .i64 k2 ∧ k2 ≤ cs2.length ∧ Aside0 (Kp w wr w.heap.size id' cs2 (.slice Az cs2.length cz) (prs cs2) ob o))
                  case atStart => exact ⟨0, ⟨by omega⟩, rfl, by omega, HKN⟩
                  case round =>
                    obtain ⟨k2, Hk2, rfl, hkl2, HKR⟩ := hrel
                    by_cases hlt2 : k2 < cs2.length
                    · obtain ⟨Am', cm', em, hCm⟩ := HKR.out.len
                      obtain ⟨ad, ea, hx0, hx1⟩ := pair_at hCm k2 (by rw [HLZ.out]; exact hlt2)
                      injection em with em1 em2 em3
                      subst em1; subst ea
                      clear em2 em3 hCm
                      rw [rd_prs HKR.out.used k2 hlt2] at hx0 hx1
                      have hx0 : wr.cell? (ad.add (k2 * 2)) = some (.string (rd_TGCell cs2 k2).f1) := hx0
                      clear hx1
                      go_wp2_with fail
                      refine (HKR.out.get _).mono ?_
                      rintro e w5 ⟨rfl, HKS⟩
                      rw [fnd_own HKR.out.val HKR.out.used k2 hlt2, if_neg (by omega), show decide ((0 : Int) ≤ (k2 : Int)) = true from by simp]
                      have HKS := Aside0.mk HKS
                      clear hx0
                      obtain ⟨Am', cm', em, hCm⟩ := HKS.out.len
                      obtain ⟨ad', ea, hx0, hx1⟩ := pair_at hCm k2 (by rw [HLZ.out]; exact hlt2)
                      injection em with em1 em2 em3
                      subst em1
                      cases ea
                      clear em2 em3 hCm hx0
                      rw [rd_prs HKS.out.used k2 hlt2] at hx1
                      have hx1 : w5.cell? ⟨(ad.add (k2 * 2)).block, (ad.add (k2 * 2)).off + 1, none⟩ = some (.string (rd_TGCell cs2 k2).f2) := hx1
                      go_wp2
                      go_roundg (gk - 1)
                      case measure => have := Hk2.out; omega
                      case rel => exact ⟨k2 + 1, ⟨by have := Hk2.out; omega⟩, by simp, by omega, HKS⟩
                    · obtain rfl : k2 = cs2.length := by omega
                      go_wp2_with fail
                      refine HKR.out.pairs.mono ?_
                      rintro e w5 ⟨Aq, cq, rfl, HKS⟩
                      have HKS := Aside0.mk HKS
                      go_wp2
                      go_roundg (G - 1)
                      case measure => have := Hk.out; omega
                      case rel => exact ⟨k + 1, cs2, ⟨by have := Hk.out; omega⟩, by simp, by omega, ⟨HKS.out.to⟩⟩
              · rw [rc] at HK2
                have HKN := Aside0.mk HK2
                by_cases h9 : (ins cs o.f1 o.f2).2 = 9
                · have r9' := r9 h9
                  rw [h9]
                  clear r9 r0 h9
                  go_wp2_with fail
                  try simp only [show decide (fnd cs o.f1 < 0) = false from by simp; omega]
                  have hcm := HKN.out.val.len
                  have HLZ := Aside0.mk (prs_length HKN.out.used)
                  try rw [HLZ.out] at HKN
                  try rw [HLZ.out]
                  go_loopg [15] cs.length (fun gk v15 wr => ∃ k2 : Nat, Aside0 (k2 + gk = cs.length) ∧ v15 = .int .i64 k2 ∧ k2 ≤ cs.length ∧ Aside0 (Kp w wr w.heap.size id' cs (.slice Am cs.length cm) (prs cs) ob o))
                  case atStart => exact ⟨0, ⟨by omega⟩, rfl, by omega, HKN⟩
                  case round =>
                    obtain ⟨k2, Hk2, rfl, hkl2, HKR⟩ := hrel
                    by_cases hlt2 : k2 < cs.length
                    · obtain ⟨Am', cm', em, hCm⟩ := HKR.out.len
                      obtain ⟨ad, ea, hx0, hx1⟩ := pair_at hCm k2 (by rw [HLZ.out]; exact hlt2)
                      injection em with em1 em2 em3
                      subst em1; subst ea
                      clear em2 em3 hCm
                      rw [rd_prs HKR.out.used k2 hlt2] at hx0 hx1
                      have hx0 : wr.cell? (ad.add (k2 * 2)) = some (.string (rd_TGCell cs k2).f1) := hx0
                      clear hx1
                      go_wp2_with fail
                      refine (HKR.out.get _).mono ?_
                      rintro e w5 ⟨rfl, HKS⟩
                      rw [fnd_own HKR.out.val HKR.out.used k2 hlt2, if_neg (by omega), show decide ((0 : Int) ≤ (k2 : Int)) = true from by simp]
                      have HKS := Aside0.mk HKS
                      clear hx0
                      obtain ⟨Am', cm', em, hCm⟩ := HKS.out.len
                      obtain ⟨ad', ea, hx0, hx1⟩ := pair_at hCm k2 (by rw [HLZ.out]; exact hlt2)
                      injection em with em1 em2 em3
                      subst em1
                      cases ea
                      clear em2 em3 hCm hx0
                      rw [rd_prs HKS.out.used k2 hlt2] at hx1
                      have hx1 : w5.cell? ⟨(ad.add (k2 * 2)).block, (ad.add (k2 * 2)).off + 1, none⟩ = some (.string (rd_TGCell cs k2).f2) := hx1
                      go_wp2
                      go_roundg (gk - 1)
                      case measure => have := Hk2.out; omega
                      case rel => exact ⟨k2 + 1, ⟨by have := Hk2.out; omega⟩, by simp, by omega, HKS⟩
                    · obtain rfl : k2 = cs.length := by omega
                      go_wp2_with fail
                      refine HKR.out.pairs.mono ?_
                      rintro e w5 ⟨Aq, cq, rfl, HKS⟩
                      have HKS := Aside0.mk HKS
                      go_wp2
                      go_roundg (G - 1)
                      case measure => have := Hk.out; omega
                      case rel => exact ⟨k + 1, cs, ⟨by have := Hk.out; omega⟩, by simp, by omega, ⟨HKS.out.to⟩⟩
                · clear r9
                  generalize (ins cs o.f1 o.f2).2 = r at r0 h9 ⊢
                  go_wp2_with fail
                  simp only [show (r == 0) = false from by simpa using r0, show (r == 9) = false from by simpa using h9]
                  have hcm := HKN.out.val.len
                  have HLZ := Aside0.mk (prs_length HKN.out.used)
                  try rw [HLZ.out] at HKN
                  try rw [HLZ.out]
                  go_loopg [15] cs.length (fun gk v15 wr => ∃ k2 : Nat, Aside0 (k2 + gk = cs.length) ∧ v15 = .int .i64 k2 ∧ k2 ≤ cs.length ∧ Aside0 (Kp w wr w.heap.size id' cs (.slice Am cs.length cm) (prs cs) ob o))
                  case atStart => exact ⟨0, ⟨by omega⟩, rfl, by omega, HKN⟩
                  case round =>
                    obtain ⟨k2, Hk2, rfl, hkl2, HKR⟩ := hrel
                    by_cases hlt2 : k2 < cs.length
                    · obtain ⟨Am', cm', em, hCm⟩ := HKR.out.len
                      obtain ⟨ad, ea, hx0, hx1⟩ := pair_at hCm k2 (by rw [HLZ.out]; exact hlt2)
                      injection em with em1 em2 em3
                      subst em1; subst ea
                      clear em2 em3 hCm
                      rw [rd_prs HKR.out.used k2 hlt2] at hx0 hx1
                      have hx0 : wr.cell? (ad.add (k2 * 2)) = some (.string (rd_TGCell cs k2).f1) := hx0
                      clear hx1
                      go_wp2_with fail
                      refine (HKR.out.get _).mono ?_
                      rintro e w5 ⟨rfl, HKS⟩
                      rw [fnd_own HKR.out.val HKR.out.used k2 hlt2, if_neg (by omega), show decide ((0 : Int) ≤ (k2 : Int)) = true from by simp]
                      have HKS := Aside0.mk HKS
                      clear hx0
                      obtain ⟨Am', cm', em, hCm⟩ := HKS.out.len
                      obtain ⟨ad', ea, hx0, hx1⟩ := pair_at hCm k2 (by rw [HLZ.out]; exact hlt2)
                      injection em with em1 em2 em3
                      subst em1
                      cases ea
                      clear em2 em3 hCm hx0
                      rw [rd_prs HKS.out.used k2 hlt2] at hx1
                      have hx1 : w5.cell? ⟨(ad.add (k2 * 2)).block, (ad.add (k2 * 2)).off + 1, none⟩ = some (.string (rd_TGCell cs k2).f2) := hx1
                      go_wp2
                      go_roundg (gk - 1)
                      case measure => have := Hk2.out; omega
                      case rel => exact ⟨k2 + 1, ⟨by have := Hk2.out; omega⟩, by simp, by omega, HKS⟩
                    · obtain rfl : k2 = cs.length := by omega
                      go_wp2_with fail
                      refine HKR.out.pairs.mono ?_
                      rintro e w5 ⟨Aq, cq, rfl, HKS⟩
                      have HKS := Aside0.mk HKS
                      go_wp2
                      go_roundg (G - 1)
                      case measure => have := Hk.out; omega
                      case rel => exact ⟨k + 1, cs, ⟨by have := Hk.out; omega⟩, by simp, by omega, ⟨HKS.out.to⟩⟩
            · by_cases c1 : o.f0 = 1
              · have hb0' : wr.cell? ⟨ob, 0, none⟩ = some (.int .i64 1) := by rw [← c1]; exact hb0
                clear hb0 c0
                go_wp2_with fail
                have hb0 := blk_cell HK.out.box 1
                refine (HK.out.update o.f1 o.f2).mono ?_
                rintro e w2 ⟨rfl, HK2⟩
                rcases upd_cases (cs := cs) o.f1 o.f2 with ⟨j, r0, rf, hj, rc⟩ | ⟨rc, r0, r9⟩
                · rw [r0, rf]
                  rw [rc] at HK2
                  clear r0 rf rc hb0 hb0'
                  obtain ⟨okr, hfr, hRr, hnx⟩ := HK2.row
                  have hpl := prs_length HK.out.used
                  obtain ⟨go, cap', he, hgc, hlt2, cells, hcells⟩ := Kd.R_form hRr (by omega)
                  injection he with e1 e2 e3
                  subst e1
                  clear e2 e3
                  have hp := row_valP hRr j (by omega) o.f2
                  have HKN := hnx _ _ _ hp.2 hp.1
                  rw [← prs_upd HK.out.used j hj] at HKN
                  obtain ⟨ad', ea, hx0, hx1⟩ := pair_at (Kd.R_reads' hRr).2.2 j (by omega)
                  cases ea
                  simp only [add_plain] at hx0 hx1
                  have hf1 := blk_frozen hcells (j * 2 + 1)
                  have hb2 := blk_cell HK2.box 2
                  have HKN := Aside0.mk HKN
                  have HK2 := Aside0.mk HK2
                  clear hfr hRr hnx hp hpl hcells hx0 hgc hlt2
                  go_wp2_with fail
                  generalize w2.setCell ⟨go, j * 2 + 1, none⟩ (.string o.f2) = w3 at HKN ⊢
                  have hlen : (updAt cs j o.f2).length = cs.length := by simp [updAt]
                  obtain ⟨cs2, hcs2⟩ : ∃ x, x = updAt cs j o.f2 := ⟨_, rfl⟩
                  rw [← hcs2] at HKN hlen
                  clear hcs2 hx1 hf1 hb2
                  rw [← hlen] at HKN ⊢
                  clear hlen hj
                  obtain ⟨Az, hAz⟩ : ∃ x, x = some (⟨go, 0, none⟩ : Addr) := ⟨_, rfl⟩
                  rw [← hAz] at HKN ⊢
                  clear hAz
                  have hcm := HKN.out.val.len
                  have HLZ := Aside0.mk (prs_length HKN.out.used)
                  try rw [HLZ.out] at HKN
                  try rw [HLZ.out]
                  go_loopg [15] cs2.length (fun gk v15 wr => ∃ k2 : Nat, Aside0 (k2 + gk = cs2.length) ∧ v15 = .int .i64 k2 ∧ k2 ≤ cs2.length ∧ Aside0 (Kp w wr w.heap.size id' cs2 (.slice Az cs2.length cm) (prs cs2) ob o))
                  case atStart => exact ⟨0, ⟨by omega⟩, rfl, by omega, HKN⟩
                  case round =>
                    obtain ⟨k2, Hk2, rfl, hkl2, HKR⟩ := hrel
                    by_cases hlt2 : k2 < cs2.length
                    · obtain ⟨Am', cm', em, hCm⟩ := HKR.out.len
                      obtain ⟨ad, ea, hx0, hx1⟩ := pair_at hCm k2 (by rw [HLZ.out]; exact hlt2)
                      injection em with em1 em2 em3
                      subst em1; subst ea
                      clear em2 em3 hCm
                      rw [rd_prs HKR.out.used k2 hlt2] at hx0 hx1
                      have hx0 : wr.cell? (ad.add (k2 * 2)) = some (.string (rd_TGCell cs2 k2).f1) := hx0
                      clear hx1
                      go_wp2_with fail
                      refine (HKR.out.get _).mono ?_
                      rintro e w5 ⟨rfl, HKS⟩
                      rw [fnd_own HKR.out.val HKR.out.used k2 hlt2, if_neg (by omega), show decide ((0 : Int) ≤ (k2 : Int)) = true from by simp]
                      have HKS := Aside0.mk HKS
                      clear hx0
                      obtain ⟨Am', cm', em, hCm⟩ := HKS.out.len
                      obtain ⟨ad', ea, hx0, hx1⟩ := pair_at hCm k2 (by rw [HLZ.out]; exact hlt2)
                      injection em with em1 em2 em3
                      subst em1
                      cases ea
                      clear em2 em3 hCm hx0
                      rw [rd_prs HKS.out.used k2 hlt2] at hx1
                      have hx1 : w5.cell? ⟨(ad.add (k2 * 2)).block, (ad.add (k2 * 2)).off + 1, none⟩ = some (.string (rd_TGCell cs2 k2).f2) := hx1
                      go_wp2
                      go_roundg (gk - 1)
                      case measure => have := Hk2.out; omega
                      case rel => exact ⟨k2 + 1, ⟨by have := Hk2.out; omega⟩, by simp, by omega, HKS⟩
                    · obtain rfl : k2 = cs2.length := by omega
                      go_wp2_with fail
                      refine HKR.out.pairs.mono ?_
                      rintro e w5 ⟨Aq, cq, rfl, HKS⟩
                      have HKS := Aside0.mk HKS
                      go_wp2
                      go_roundg (G - 1)
                      case measure => have := Hk.out; omega
                      case rel => exact ⟨k + 1, cs2, ⟨by have := Hk.out; omega⟩, by simp, by omega, ⟨HKS.out.to⟩⟩
                · rw [rc] at HK2
                  have HKN := Aside0.mk HK2
                  by_cases h9 : (upd cs o.f1 o.f2).2 = 8
                  · have r9' := r9 h9
                    rw [h9, r9']
                    clear r9 r0 h9 r9'
                    go_wp2_with fail
                    have hcm := HKN.out.val.len
                    have HLZ := Aside0.mk (prs_length HKN.out.used)
                    try rw [HLZ.out] at HKN
                    try rw [HLZ.out]
                    go_loopg [15] cs.length (fun gk v15 wr => ∃ k2 : Nat, Aside0 (k2 + gk = cs.length) ∧ v15 = .int .i64 k2 ∧ k2 ≤ cs.length ∧ Aside0 (Kp w wr w.heap.size id' cs (.slice Am cs.length cm) (prs cs) ob o))
                    case atStart => exact ⟨0, ⟨by omega⟩, rfl, by omega, HKN⟩
                    case round =>
                      obtain ⟨k2, Hk2, rfl, hkl2, HKR⟩ := hrel
                      by_cases hlt2 : k2 < cs.length
                      · obtain ⟨Am', cm', em, hCm⟩ := HKR.out.len
                        obtain ⟨ad, ea, hx0, hx1⟩ := pair_at hCm k2 (by rw [HLZ.out]; exact hlt2)
                        injection em with em1 em2 em3
                        subst em1; subst ea
                        clear em2 em3 hCm
                        rw [rd_prs HKR.out.used k2 hlt2] at hx0 hx1
                        have hx0 : wr.cell? (ad.add (k2 * 2)) = some (.string (rd_TGCell cs k2).f1) := hx0
                        clear hx1
                        go_wp2_with fail
                        refine (HKR.out.get _).mono ?_
                        rintro e w5 ⟨rfl, HKS⟩
                        rw [fnd_own HKR.out.val HKR.out.used k2 hlt2, if_neg (by omega), show decide ((0 : Int) ≤ (k2 : Int)) = true from by simp]
                        have HKS := Aside0.mk HKS
                        clear hx0
                        obtain ⟨Am', cm', em, hCm⟩ := HKS.out.len
                        obtain ⟨ad', ea, hx0, hx1⟩ := pair_at hCm k2 (by rw [HLZ.out]; exact hlt2)
                        injection em with em1 em2 em3
                        subst em1
                        cases ea
                        clear em2 em3 hCm hx0
                        rw [rd_prs HKS.out.used k2 hlt2] at hx1
                        have hx1 : w5.cell? ⟨(ad.add (k2 * 2)).block, (ad.add (k2 * 2)).off + 1, none⟩ = some (.string (rd_TGCell cs k2).f2) := hx1
                        go_wp2
                        go_roundg (gk - 1)
                        case measure => have := Hk2.out; omega
                        case rel => exact ⟨k2 + 1, ⟨by have := Hk2.out; omega⟩, by simp, by omega, HKS⟩
                      · obtain rfl : k2 = cs.length := by omega
                        go_wp2_with fail
                        refine HKR.out.pairs.mono ?_
                        rintro e w5 ⟨Aq, cq, rfl, HKS⟩
                        have HKS := Aside0.mk HKS
                        go_wp2
                        go_roundg (G - 1)
                        case measure => have := Hk.out; omega
                        case rel => exact ⟨k + 1, cs, ⟨by have := Hk.out; omega⟩, by simp, by omega, ⟨HKS.out.to⟩⟩
                  · clear r9
                    generalize (upd cs o.f1 o.f2).2 = r at r0 h9 ⊢
                    go_wp2_with fail
                    simp only [show (r == 0) = false from by simpa using r0, show (r == 8) = false from by simpa using h9]
                    have hcm := HKN.out.val.len
                    have HLZ := Aside0.mk (prs_length HKN.out.used)
                    try rw [HLZ.out] at HKN
                    try rw [HLZ.out]
                    go_loopg [15] cs.length (fun gk v15 wr => ∃ k2 : Nat, Aside0 (k2 + gk = cs.length) ∧ v15 = .int .i64 k2 ∧ k2 ≤ cs.length ∧ Aside0 (Kp w wr w.heap.size id' cs (.slice Am cs.length cm) (prs cs) ob o))
                    case atStart => exact ⟨0, ⟨by omega⟩, rfl, by omega, HKN⟩
                    case round =>
                      obtain ⟨k2, Hk2, rfl, hkl2, HKR⟩ := hrel
                      by_cases hlt2 : k2 < cs.length
                      · obtain ⟨Am', cm', em, hCm⟩ := HKR.out.len
                        obtain ⟨ad, ea, hx0, hx1⟩ := pair_at hCm k2 (by rw [HLZ.out]; exact hlt2)
                        injection em with em1 em2 em3
                        subst em1; subst ea
                        clear em2 em3 hCm
                        rw [rd_prs HKR.out.used k2 hlt2] at hx0 hx1
                        have hx0 : wr.cell? (ad.add (k2 * 2)) = some (.string (rd_TGCell cs k2).f1) := hx0
                        clear hx1
                        go_wp2_with fail
                        refine (HKR.out.get _).mono ?_
                        rintro e w5 ⟨rfl, HKS⟩
                        rw [fnd_own HKR.out.val HKR.out.used k2 hlt2, if_neg (by omega), show decide ((0 : Int) ≤ (k2 : Int)) = true from by simp]
                        have HKS := Aside0.mk HKS
                        clear hx0
                        obtain ⟨Am', cm', em, hCm⟩ := HKS.out.len
                        obtain ⟨ad', ea, hx0, hx1⟩ := pair_at hCm k2 (by rw [HLZ.out]; exact hlt2)
                        injection em with em1 em2 em3
                        subst em1
                        cases ea
                        clear em2 em3 hCm hx0
                        rw [rd_prs HKS.out.used k2 hlt2] at hx1
                        have hx1 : w5.cell? ⟨(ad.add (k2 * 2)).block, (ad.add (k2 * 2)).off + 1, none⟩ = some (.string (rd_TGCell cs k2).f2) := hx1
                        go_wp2
                        go_roundg (gk - 1)
                        case measure => have := Hk2.out; omega
                        case rel => exact ⟨k2 + 1, ⟨by have := Hk2.out; omega⟩, by simp, by omega, HKS⟩
                      · obtain rfl : k2 = cs.length := by omega
                        go_wp2_with fail
                        refine HKR.out.pairs.mono ?_
                        rintro e w5 ⟨Aq, cq, rfl, HKS⟩
                        have HKS := Aside0.mk HKS
                        go_wp2
                        go_roundg (G - 1)
                        case measure => have := Hk.out; omega
                        case rel => exact ⟨k + 1, cs, ⟨by have := Hk.out; omega⟩, by simp, by omega, ⟨HKS.out.to⟩⟩
              · by_cases c2 : o.f0 = 2
                · have hb0' : wr.cell? ⟨ob, 0, none⟩ = some (.int .i64 2) := by rw [← c2]; exact hb0
                  clear hb0 c0 c1 hb2
                  go_wp2_with fail
                  have hb0 := blk_cell HK.out.box 1
                  refine (HK.out.delete o.f1).mono ?_
                  rintro e w2 ⟨rfl, HK2⟩
                  rcases del_cases HK.out.used o.f1 with ⟨j, r0, rf, hj, rc⟩ | ⟨rc, r0, rf⟩
                  · rw [r0, rf]
                    rw [rc] at HK2
                    clear r0 rf rc hb0 hb0'
                    have HK2 := HK2.drew
                    obtain ⟨okr, hfr, hRr, hnx⟩ := HK2.row
                    have hpl := prs_length HK.out.used
                    obtain ⟨go, cap', he, hgc, hlt2, cells, hcells⟩ := Kd.R_form hRr (by omega)
                    injection he with e1 e2 e3
                    subst e1
                    clear e2 e3
                    have hjc : j ≤ cm := by have := (Kd.R_reads' hRr).2.1; omega
                    obtain ⟨i0, hi0, hz0, hz1, hz2⟩ := info_parts Rf.info36
                    have HI0 := Aside0.mk hi0
                    have HZ1 := Aside0.mk hz1
                    have hwr : IntKind.i64.wrap ((j : Int) + 1) = (j : Int) + 1 := i64w (by omega) (by omega)
                    have hp0 : (0 : Int) ≤ (j : Int) + 1 := by omega
                    have hp1 : (j : Int) + 1 ≤ (cs.length : Int) := by omega
                    have hp2 : ((j : Int) + 1).toNat = j + 1 := by omega
                    obtain ⟨hrow, hgr, hnews, hspare⟩ := row_delP hRr j (by omega)
                    have HKN := hnx _ _ _ hgr hrow
                    obtain ⟨A2, hA2, hcl⟩ : ∃ A2 : Addr, (if cm = j + 1 then some (⟨go, 0, none⟩ : Addr) else some ⟨go, (j + 1) * 2, none⟩) = some A2 ∧ ∀ q u, (flatP ((prs cs).drop (j + 1)))[q]? = some u → w2.drew.cell? (A2.add q) = some u := by
                      by_cases hcj : cm = j + 1
                      · exact ⟨_, by rw [if_pos hcj], fun q u hu => by rw [List.drop_eq_nil_of_le (by have := (Kd.R_reads' hRr).2.1; omega)] at hu; simp [flatP] at hu⟩
                      · exact ⟨_, by rw [if_neg hcj], fun q u hu => by
                          have := hnews q u hu
                          unfold Addr.add
                          split
                          · rename_i hq; subst hq; simpa using this
                          · exact this⟩
                    have HCE := Aside0.mk hcl
                    have HSP := Aside0.mk hspare
                    have HONE := Aside0.mk (flatP_one ((prs cs).drop (j + 1)))
                    have HLEN := Aside0.mk (show (flatP ((prs cs).drop (j + 1))).length = (cs.length - (j + 1)) * 2 by rw [flatP_length, List.length_drop, hpl])
                    have hroom : j + (cs.length - (j + 1)) ≤ cm := by have := (Kd.R_reads' hRr).2.1; omega
                    obtain ⟨w5, hw5⟩ : ∃ w5, w2.drew.setCells go (j * 2) (flatP ((prs cs).drop (j + 1))) = w5 := ⟨_, rfl⟩
                    have HW5 := Aside0.mk hw5
                    rw [hw5] at HKN
                    have HKN := Aside0.mk HKN
                    clear hfr hRr hnx hcells hgc hlt2 hrow hgr hnews hspare hcl hw5 hi0 hz0 hz1 hz2
                    have hdl : (delAt cs j).length = cs.length - 1 := by simp [delAt]; omega
                    rw [← hdl, show delP (prs cs) j = prs (delAt cs j) from (prs_del HK.out.used j).symm] at HKN
                    go_wp2_with fail
                    go_region_law (refine step_append_room rfl (.tmp 134) (.tmp 138) 57 rfl 36 i0 2 Try.underlying57 HI0.out HZ1.out go 0 j cm (by simp [Act.eval, Act.put]) A2 (cs.length - (j + 1)) (cm - (j + 1)) (flatP ((prs cs).drop (j + 1))) (by simp [Act.eval, Act.put, hA2]) HLEN.out HCE.out HONE.out hroom (by rw [Nat.zero_add]; exact HSP.out) ?_; rw [Nat.zero_add, HW5.out])
                    all_goals
                      rw [show j + (cs.length - (j + 1)) = (delAt cs j).length from by rw [hdl]; omega]
                      clear HW5 HCE HONE HLEN HSP hA2 hroom hdl hwr hp0 hp1 hp2 HI0 HZ1 hjc
                      obtain ⟨cs2, hcs2⟩ : ∃ x, x = delAt cs j := ⟨_, rfl⟩
                      rw [← hcs2] at HKN ⊢
                      clear hcs2 hj hpl
                      obtain ⟨Az, hAz⟩ : ∃ x, x = some (⟨go, 0, none⟩ : Addr) := ⟨_, rfl⟩
                      rw [← hAz] at HKN
                      have HAZ := Aside0.mk hAz
                      clear hAz
                      go_wp2_with fail
                      rw [← HAZ.out]
                      clear HAZ
                      have hcm := HKN.out.val.len
                      have HLZ := Aside0.mk (prs_length HKN.out.used)
                      try rw [HLZ.out] at HKN
                      try rw [HLZ.out]
                      go_loopg [15] cs2.length (fun gk v15 wr => ∃ k2 : Nat, Aside0 (k2 + gk = cs2.length) ∧ v15 = .int .i64 k2 ∧ k2 ≤ cs2.length ∧ Aside0 (Kp w wr w.heap.size id' cs2 (.slice Az cs2.length cm) (prs cs2) ob o))
                      case atStart => exact ⟨0, ⟨by omega⟩, rfl, by omega, HKN⟩
                      case round =>
                        obtain ⟨k2, Hk2, rfl, hkl2, HKR⟩ := hrel
                        by_cases hlt2 : k2 < cs2.length
                        · obtain ⟨Am', cm', em, hCm⟩ := HKR.out.len
                          obtain ⟨ad, ea, hx0, hx1⟩ := pair_at hCm k2 (by rw [HLZ.out]; exact hlt2)
                          injection em with em1 em2 em3
                          subst em1; subst ea
                          clear em2 em3 hCm
                          rw [rd_prs HKR.out.used k2 hlt2] at hx0 hx1
                          have hx0 : wr.cell? (ad.add (k2 * 2)) = some (.string (rd_TGCell cs2 k2).f1) := hx0
                          clear hx1
                          go_wp2_with fail
                          refine (HKR.out.get _).mono ?_
                          rintro e w5 ⟨rfl, HKS⟩
                          rw [fnd_own HKR.out.val HKR.out.used k2 hlt2, if_neg (by omega), show decide ((0 : Int) ≤ (k2 : Int)) = true from by simp]
                          have HKS := Aside0.mk HKS
                          clear hx0
                          obtain ⟨Am', cm', em, hCm⟩ := HKS.out.len
                          obtain ⟨ad', ea, hx0, hx1⟩ := pair_at hCm k2 (by rw [HLZ.out]; exact hlt2)
                          injection em with em1 em2 em3
                          subst em1
                          cases ea
                          clear em2 em3 hCm hx0
                          rw [rd_prs HKS.out.used k2 hlt2] at hx1
                          have hx1 : w5.cell? ⟨(ad.add (k2 * 2)).block, (ad.add (k2 * 2)).off + 1, none⟩ = some (.string (rd_TGCell cs2 k2).f2) := hx1
                          go_wp2
                          go_roundg (gk - 1)
                          case measure => have := Hk2.out; omega
                          case rel => exact ⟨k2 + 1, ⟨by have := Hk2.out; omega⟩, by simp, by omega, HKS⟩
                        · obtain rfl : k2 = cs2.length := by omega
                          go_wp2_with fail
                          refine HKR.out.pairs.mono ?_
                          rintro e w5 ⟨Aq, cq, rfl, HKS⟩
                          have HKS := Aside0.mk HKS
                          go_wp2
                          go_roundg (G - 1)
                          case measure => have := Hk.out; omega
                          case rel => exact ⟨k + 1, cs2, ⟨by have := Hk.out; omega⟩, by simp, by omega, ⟨HKS.out.to⟩⟩
                  · rw [rc] at HK2
                    have HKN := Aside0.mk HK2
                    rw [r0, rf]
                    clear r0 rf rc
                    go_wp2_with fail
                    have hcm := HKN.out.val.len
                    have HLZ := Aside0.mk (prs_length HKN.out.used)
                    try rw [HLZ.out] at HKN
                    try rw [HLZ.out]
                    go_loopg [15] cs.length (fun gk v15 wr => ∃ k2 : Nat, Aside0 (k2 + gk = cs.length) ∧ v15 = .int .i64 k2 ∧ k2 ≤ cs.length ∧ Aside0 (Kp w wr w.heap.size id' cs (.slice Am cs.length cm) (prs cs) ob o))
                    case atStart => exact ⟨0, ⟨by omega⟩, rfl, by omega, HKN⟩
                    case round =>
                      obtain ⟨k2, Hk2, rfl, hkl2, HKR⟩ := hrel
                      by_cases hlt2 : k2 < cs.length
                      · obtain ⟨Am', cm', em, hCm⟩ := HKR.out.len
                        obtain ⟨ad, ea, hx0, hx1⟩ := pair_at hCm k2 (by rw [HLZ.out]; exact hlt2)
                        injection em with em1 em2 em3
                        subst em1; subst ea
                        clear em2 em3 hCm
                        rw [rd_prs HKR.out.used k2 hlt2] at hx0 hx1
                        have hx0 : wr.cell? (ad.add (k2 * 2)) = some (.string (rd_TGCell cs k2).f1) := hx0
                        clear hx1
                        go_wp2_with fail
                        refine (HKR.out.get _).mono ?_
                        rintro e w5 ⟨rfl, HKS⟩
                        rw [fnd_own HKR.out.val HKR.out.used k2 hlt2, if_neg (by omega), show decide ((0 : Int) ≤ (k2 : Int)) = true from by simp]
                        have HKS := Aside0.mk HKS
                        clear hx0
                        obtain ⟨Am', cm', em, hCm⟩ := HKS.out.len
                        obtain ⟨ad', ea, hx0, hx1⟩ := pair_at hCm k2 (by rw [HLZ.out]; exact hlt2)
                        injection em with em1 em2 em3
                        subst em1
                        cases ea
                        clear em2 em3 hCm hx0
                        rw [rd_prs HKS.out.used k2 hlt2] at hx1
                        have hx1 : w5.cell? ⟨(ad.add (k2 * 2)).block, (ad.add (k2 * 2)).off + 1, none⟩ = some (.string (rd_TGCell cs k2).f2) := hx1
                        go_wp2
                        go_roundg (gk - 1)
                        case measure => have := Hk2.out; omega
                        case rel => exact ⟨k2 + 1, ⟨by have := Hk2.out; omega⟩, by simp, by omega, HKS⟩
                      · obtain rfl : k2 = cs.length := by omega
                        go_wp2_with fail
                        refine HKR.out.pairs.mono ?_
                        rintro e w5 ⟨Aq, cq, rfl, HKS⟩
                        have HKS := Aside0.mk HKS
                        go_wp2
                        go_roundg (G - 1)
                        case measure => have := Hk.out; omega
                        case rel => exact ⟨k + 1, cs, ⟨by have := Hk.out; omega⟩, by simp, by omega, ⟨HKS.out.to⟩⟩
                · have hb0' : wr.cell? ⟨ob, 0, none⟩ = some (.int .i64 o.f0) := hb0
                  have e0 : (o.f0 == 0) = false := by simpa using c0
                  have e1 : (o.f0 == 1) = false := by simpa using c1
                  have e2 : (o.f0 == 2) = false := by simpa using c2
                  clear hb0 c0 c1 c2 hb2
                  have HKN := HK
                  go_wp2_with fail
                  have hcm := HKN.out.val.len
                  have HLZ := Aside0.mk (prs_length HKN.out.used)
                  try rw [HLZ.out] at HKN
                  try rw [HLZ.out]
                  go_loopg [15] cs.length (fun gk v15 wr => ∃ k2 : Nat, Aside0 (k2 + gk = cs.length) ∧ v15 = .int .i64 k2 ∧ k2 ≤ cs.length ∧ Aside0 (Kp w wr w.heap.size id' cs (.slice Am cs.length cm) (prs cs) ob o))
                  case atStart => exact ⟨0, ⟨by omega⟩, rfl, by omega, HKN⟩
                  case round =>
                    obtain ⟨k2, Hk2, rfl, hkl2, HKR⟩ := hrel
                    by_cases hlt2 : k2 < cs.length
                    · obtain ⟨Am', cm', em, hCm⟩ := HKR.out.len
                      obtain ⟨ad, ea, hx0, hx1⟩ := pair_at hCm k2 (by rw [HLZ.out]; exact hlt2)
                      injection em with em1 em2 em3
                      subst em1; subst ea
                      clear em2 em3 hCm
                      rw [rd_prs HKR.out.used k2 hlt2] at hx0 hx1
                      have hx0 : wr.cell? (ad.add (k2 * 2)) = some (.string (rd_TGCell cs k2).f1) := hx0
                      clear hx1
                      go_wp2_with fail
                      refine (HKR.out.get _).mono ?_
                      rintro e w5 ⟨rfl, HKS⟩
                      rw [fnd_own HKR.out.val HKR.out.used k2 hlt2, if_neg (by omega), show decide ((0 : Int) ≤ (k2 : Int)) = true from by simp]
                      have HKS := Aside0.mk HKS
                      clear hx0
                      obtain ⟨Am', cm', em, hCm⟩ := HKS.out.len
                      obtain ⟨ad', ea, hx0, hx1⟩ := pair_at hCm k2 (by rw [HLZ.out]; exact hlt2)
                      injection em with em1 em2 em3
                      subst em1
                      cases ea
                      clear em2 em3 hCm hx0
                      rw [rd_prs HKS.out.used k2 hlt2] at hx1
                      have hx1 : w5.cell? ⟨(ad.add (k2 * 2)).block, (ad.add (k2 * 2)).off + 1, none⟩ = some (.string (rd_TGCell cs k2).f2) := hx1
                      go_wp2
                      go_roundg (gk - 1)
                      case measure => have := Hk2.out; omega
                      case rel => exact ⟨k2 + 1, ⟨by have := Hk2.out; omega⟩, by simp, by omega, HKS⟩
                    · obtain rfl : k2 = cs.length := by omega
                      go_wp2_with fail
                      refine HKR.out.pairs.mono ?_
                      rintro e w5 ⟨Aq, cq, rfl, HKS⟩
                      have HKS := Aside0.mk HKS
                      go_wp2
                      go_roundg (G - 1)
                      case measure => have := Hk.out; omega
                      case rel => exact ⟨k + 1, cs, ⟨by have := Hk.out; omega⟩, by simp, by omega, ⟨HKS.out.to⟩⟩
      · go_wp2_with (go_at_call 12; refine (lives_calls _).mono ?_; rintro e w8 ⟨rfl, hb⟩; have HB8 := Aside0.mk hb; clear hb)
        all_goals
          go_ret
          exact ⟨rfl, below_then HB.out.bel HB.out.bel.size HB8.out⟩
  · go_wp2_with (first | (go_at_call 10; refine (new_bad id _ (by omega)).mono ?_; rintro e w' ⟨rfl, rfl⟩) | (go_at_call 12; refine (lives_calls _).mono ?_; rintro e w8 ⟨rfl, hb⟩; have HB8 := Aside0.mk hb; clear hb))
    go_ret
    exact ⟨rfl, HB8.out⟩
end Go.Proofs.Ytidkdbohkbfhbaa
