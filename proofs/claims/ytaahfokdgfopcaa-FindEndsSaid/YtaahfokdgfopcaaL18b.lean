/- Layer 18: FindEnds' walk. -/
import Derived.Test.YtaahfokdgfopcaaFv
import Derived.Deep.DeepCutAuto
import Derived.Deep.CutBlock
namespace Go.Proofs.Ytaahfokdgfopcaa
open Go.RowKit Go.Proofs.YtaahfokdgfopcaaW.PrintWords Go.Proofs.YtaahfokdgfopcaaW.PrintLast Go.Proofs.YtaahfokdgfopcaaW.PrintMore
open Rf MapL MapV
set_option linter.unusedVariables false
set_option linter.unusedSimpArgs false
theorem skip_ {b : Bool} {A B : Prop} (h : b = false) (hB : B) : if b = true then A else B := by subst h; exact hB
theorem yund : yielded.match_1 (fun _ => Option Bool) (some undef) (fun b => some b) (fun _ => none) = none := rfl
attribute [local go_sem high] yund
/-- A transaction's last record behind its last commit or end. -/
def lastF (id : Int) (a : Int) (r : SGRecord) : Int := if r.f2 ≠ id ∨ r.f0 = 7 ∨ r.f0 = 8 then a else if r.f0 = 3 ∨ r.f0 = 5 then 0 else r.f1
def lastOf (id : Int) (l : List SGRecord) : Int := l.foldl (lastF id) 0
def HoldsLast (id : Int) (s : Wst) (v : Int) : Prop := (id ∈ s.ks → (s.F id).last = v ∧ v ≠ 0) ∧ (id ∉ s.ks → v = 0)
theorem putT_last {s : Wst} {v tid : Int} {r : SGRecord} (h : HoldsLast tid s v) (g : Goi) (hr : okR r = true) (hk : ¬ (r.f0 = 7 ∨ r.f0 = 8) ∧ ¬ (r.f0 = 3 ∨ r.f0 = 5)) : HoldsLast tid (putT s r.f2 (newG g r)) (lastF tid v r) := by
  obtain ⟨_, hls, _⟩ := rec_facts hr
  by_cases he : r.f2 = tid
  · have e : lastF tid v r = r.f1 := by
      unfold lastF
      rw [if_neg (fun q => q.elim (fun q => q he) hk.1), if_neg hk.2]
    have hin : tid ∈ (putT s r.f2 (newG g r)).ks := by
      show tid ∈ (if r.f2 ∈ s.ks then s.ks else s.ks ++ [r.f2])
      by_cases hm : r.f2 ∈ s.ks
      · rw [if_pos hm]; rw [he] at hm; exact hm
      · rw [if_neg hm, he]; simp
    have hF : (putT s r.f2 (newG g r)).F tid = newG g r := by
      show (if tid = r.f2 then newG g r else s.F tid) = newG g r
      rw [if_pos he.symm]
    rw [e]
    exact ⟨fun _ => by rw [hF]; exact ⟨rfl, by omega⟩, fun q => absurd hin q⟩
  · have e : lastF tid v r = v := by unfold lastF; rw [if_pos (.inl he)]
    have hin : tid ∈ (putT s r.f2 (newG g r)).ks ↔ tid ∈ s.ks := by
      show tid ∈ (if r.f2 ∈ s.ks then s.ks else s.ks ++ [r.f2]) ↔ _
      by_cases hm : r.f2 ∈ s.ks
      · rw [if_pos hm]
      · rw [if_neg hm, List.mem_append, List.mem_singleton]
        exact ⟨fun q => q.elim (fun q => q) (fun q => absurd q.symm he), Or.inl⟩
    have hF : (putT s r.f2 (newG g r)).F tid = s.F tid := by
      show (if tid = r.f2 then newG g r else s.F tid) = s.F tid
      rw [if_neg (fun q => he q.symm)]
    rw [e]
    exact ⟨fun q => by rw [hF]; exact h.1 (hin.1 q), fun q => h.2 (fun q2 => q (hin.2 q2))⟩
theorem stepW_last {s : Wst} {v id : Int} {r : SGRecord} (h : HoldsLast id s v) (hr : okR r = true) : HoldsLast id (stepW s r) (lastF id v r) := by
  unfold stepW
  by_cases h78 : r.f0 = 7 ∨ r.f0 = 8
  · rw [if_pos h78]
    unfold lastF
    rw [if_pos (.inr h78)]
    exact h
  · rw [if_neg h78]
    by_cases h35 : r.f0 = 3 ∨ r.f0 = 5
    · rw [if_pos h35]
      unfold lastF delT HoldsLast
      by_cases he : r.f2 = id
      · rw [if_neg (fun q => q.elim (fun q => q he) h78), if_pos h35]
        refine ⟨fun q => ?_, fun _ => rfl⟩
        have := (List.mem_filter.1 q).2
        rw [he] at this
        simp at this
      · rw [if_pos (.inl he)]
        refine ⟨fun q => h.1 (List.mem_filter.1 q).1, fun q => h.2 (fun q2 => q (List.mem_filter.2 ⟨q2, ?_⟩))⟩
        simpa using fun e => he e.symm
    · rw [if_neg h35]
      split
      · have h' : HoldsLast id (putD s r.f5 r.f1) v := by
          unfold putD
          split
          · exact h
          · exact h
        exact putT_last h' _ hr ⟨h78, h35⟩
      · exact putT_last h _ hr ⟨h78, h35⟩
theorem fold_last (id : Int) (l : List SGRecord) (h : ∀ r ∈ l, okR r = true) : ∀ (s : Wst) (v : Int), HoldsLast id s v → HoldsLast id (l.foldl stepW s) (l.foldl (lastF id) v) := by
  induction l with
  | nil => exact fun s v h => h
  | cons r t ih => exact fun s v hs => ih (fun x hx => h x (List.mem_cons_of_mem _ hx)) _ _ (stepW_last hs (h r List.mem_cons_self))
theorem last_log {l : List SGRecord} (h : LogP l) (id : Int) : HoldsLast id (foldW l) (lastOf id l) := fold_last id l h.2 wst0 0 ⟨fun q => by simp [wst0] at q, fun _ => rfl⟩
theorem lastOf_take (id : Int) (l : List SGRecord) (k : Nat) (h : k < l.length) : lastOf id (l.take (k + 1)) = lastF id (lastOf id (l.take k)) (rcd l k) := by
  unfold lastOf rcd
  rw [List.take_succ_eq_append_getElem h, List.foldl_append, List.getD_eq_getElem?_getD, List.getElem?_eq_getElem h]
  rfl
theorem tx_at {w : World} {A : Option Addr} {n : Nat} {xs : List SGTxn} (h : Kd.C kGTxn w A n xs) (k : Nat) (h1 : k < n) : ∃ ad : Addr, A = some ad ∧ w.cell? (ad.add (k * 3)) = some (.int .i64 (xs.getD k zGTxn).f0) ∧ w.cell? ⟨(ad.add (k * 3)).block, (ad.add (k * 3)).off + 2, none⟩ = some (.int .u64 (xs.getD k zGTxn).f2) := by
  obtain ⟨ad, c, e, _, hK, hc0⟩ := Kd.C_get h zGTxn (k : Int) (by omega) (by omega)
  rw [Int.toNat_natCast] at hK
  obtain rfl := kGTxn_open hK
  have hc : ∀ j u, _ → w.cell? (ad.add (k * 3 + j)) = some u := hc0
  exact ⟨ad, e, hc 0 _ rfl, by rw [← add_field _ _ 2 (by omega)]; exact hc 2 _ rfl⟩
theorem tx_get (L : List Int) (F : Int → Goi) (k : Nat) (h : k < L.length) : (L.map (txnOf F)).getD k zGTxn = txnOf F L[k] := by
  rw [List.getD_eq_getElem?_getD, List.getElem?_map, List.getElem?_eq_getElem h]
  rfl
/-- What was found among the rows so far. -/
def foundF (F : Int → Goi) (id : Int) (L : List Int) : Int := if id ∈ L then (F id).last else 0
theorem foundF_snoc (F : Int → Goi) (id : Int) (L : List Int) (x : Int) : foundF F id (L ++ [x]) = if x = id then (F id).last else foundF F id L := by
  unfold foundF
  by_cases h : x = id
  · rw [if_pos h, if_pos (by rw [h]; simp)]
  · rw [if_neg h]
    by_cases h2 : id ∈ L
    · rw [if_pos h2, if_pos (List.mem_append_left _ h2)]
    · rw [if_neg h2, if_neg (fun q => (List.mem_append.1 q).elim h2 (fun q => h (List.mem_singleton.1 q).symm))]
set_option maxRecDepth 100000 in
set_option maxHeartbeats 8000000 in
theorem ends_row (w : World) (l : List SGRecord) (A : Option Addr) (c : Nat) (hC : Kd.C kGRecord w A l.length l) (hc : l.length ≤ c) (hl : l.length ≤ 140737488351232) (hx : ∀ r ∈ l, Okx r) (id : Int) :
    Calls Try.prog 4 #[.slice A l.length c, .int .i64 id] w fun e w' => e = .returned (.bool true) ∧ Below w.heap.size w w' := by
  have HC := Aside0.mk hC
  clear hC
  go_enter Try.func4, Try.ntmps4
  go_wp2_with fail
  refine (small_calls w l A c HC.out hc hl hx).mono ?_
  rintro e wa ⟨b, rfl, hb300, hb⟩
  have HBa := Aside0.mk hb
  clear hb hx
  cases b with
  | false =>
    go_wp2_with fail
    refine (lives18 wa).mono ?_
    rintro e wq ⟨rfl, hb⟩
    have HBq := Aside0.mk (below_then HBa.out HBa.out.size hb)
    clear hb
    go_wp2_with fail
    go_ret
    exact ⟨rfl, HBq.out⟩
  | true =>
    have h300 := hb300 rfl
    clear hb300 hl
    go_wp2_with fail
    refine (all_calls wa l A c (Kd.C_below HC.out HBa.out) hc h300).mono ?_
    rintro e wb ⟨hcase, hb⟩
    have HBb := Aside0.mk (below_then HBa.out HBa.out.size hb)
    clear hb HBa
    rcases hcase with ⟨hlog, rfl⟩ | ⟨hlog, v1, v2, v3, L, M, rfl, p1, p2, p3, p4, p5, p6, p7⟩
    · clear hlog
      have HBc := Aside0.mk (below_alloc HBb.out (.cells #[.slice none 0 0, .slice none 0 0, .slice none 0 0, .int .u64 0] 34))
      go_wp2_with fail
      refine (lives18 _).mono ?_
      rintro e wq ⟨rfl, hb⟩
      have HBq := Aside0.mk (below_then HBc.out HBc.out.size hb)
      clear hb
      go_wp2_with fail
      go_ret
      exact ⟨rfl, HBq.out⟩
    · have HLST := Aside0.mk (show lastOf id l = foundF (foldW l).F id L from by
        have h := last_log hlog id
        unfold foundF
        by_cases q : id ∈ (foldW l).ks
        · rw [if_pos (p1.mem_iff.2 q)]; exact (h.1 q).1.symm
        · rw [if_neg (fun q2 => q (p1.mem_iff.1 q2))]; exact h.2 q)
      have hl300 : L.length ≤ 300 := by
        have h1 := (fold_bnd l hlog.2 l.length (Nat.le_refl _)).nk
        rw [List.take_length] at h1
        rw [p1.length_eq]
        omega
      have HLR := Aside0.mk p2
      obtain ⟨A1, C1, hv1, hlc1, hC1⟩ := Kd.R_reads p5
      obtain ⟨A2, C2, hv2⟩ := Kd.R_slice p6
      obtain ⟨A3, C3, hv3⟩ := Kd.R_slice p7
      have HC1 := Aside0.mk hC1
      rw [List.length_map] at hv1 hv2 hv3
      obtain ⟨n1, hn1⟩ : ∃ n, n = L.length := ⟨_, rfl⟩
      obtain ⟨n2, hn2⟩ : ∃ n, n = M.length := ⟨_, rfl⟩
      rw [← hn1] at hv1 hv2
      rw [← hn2] at hv3
      subst hv1
      subst hv2
      subst hv3
      obtain ⟨rd, hrd⟩ : ∃ x, x = redoOf (foldW l).D M := ⟨_, rfl⟩
      rw [← hrd]
      have HN1 := Aside0.mk hn1
      have hn300 : n1 ≤ 300 := by omega
      clear p1 p2 p3 p4 p5 p6 p7 hlog hn1 hn2 hrd hlc1 hC1
      go_upto_region 4 with fail
      have hbx := below_alloc (Below.refl wb.heap.size wb) (.cells #[.slice A1 n1 C1, .slice A2 n1 C2, .slice A3 n2 C3, .int .u64 rd] 34)
      have hxx := heap_alloc_new wb (.cells #[.slice A1 n1 C1, .slice A2 n1 C2, .slice A3 n2 C3, .int .u64 rd] 34)
      have HBc := Aside0.mk (below_then HBb.out HBb.out.size hbx)
      have HTC := Aside0.mk (Kd.C_below HC1.out hbx)
      obtain ⟨X, hX⟩ : ∃ x, x = wb.heap.size := ⟨_, rfl⟩
      generalize wb.alloc (.cells #[.slice A1 n1 C1, .slice A2 n1 C2, .slice A3 n2 C3, .int .u64 rd] 34) = wc at HBc HTC hxx ⊢
      rw [← hX] at hxx ⊢
      have HXX := Aside0.mk hxx
      have HLC := Aside0.mk (Kd.C_below HC.out HBc.out)
      clear hbx hxx hX HC HC1 HBb
      go_wp2_with fail
      go_loopg [7, 8] l.length (fun gk v7 v8 wr => ∃ (k : Nat) (v : Int), Aside0 (k + gk = l.length) ∧ v8 = .int .i64 k ∧ k ≤ l.length ∧ v7 = .int .u64 v ∧ Aside0 (v = lastOf id (l.take k)) ∧ wc = wr)
      case atStart => exact ⟨0, 0, ⟨by omega⟩, rfl, Nat.zero_le _, rfl, ⟨rfl⟩, rfl⟩
      case round =>
        obtain ⟨k, v, HK, rfl, hk, rfl, HV, rfl⟩ := hrel
        by_cases hlt : k < l.length
        · obtain ⟨ad, o, A10, c10, A11, c11, rfl, ho, x0, x1, x2, x3, x4, x5, x6, x7, x8, x9, x10, x11⟩ := rg_at12 HLC.out k hlt
          have HLT := Aside0.mk (lastOf_take id l k hlt)
          rw [← ho, ← HV.out] at HLT
          clear x3 x4 x5 x6 x7 x8 x9 x10 x11 ho
          by_cases hs : o.f2 ≠ id ∨ o.f0 = 7 ∨ o.f0 = 8
          · have HVN := Aside0.mk (show v = lastOf id (l.take (k + 1)) from by rw [HLT.out]; unfold lastF; rw [if_pos hs])
            by_cases h1 : o.f2 = id
            · have e1 : (o.f2 != id) = false := by simp [h1]
              by_cases h7 : o.f0 = 7
              · have e7 : (o.f0 == 7) = true := by simpa using h7
                clear hs h1 h7
                go_wp2_with fail
                go_roundg (gk - 1)
                case measure => have := HK.out; omega
                case rel => exact ⟨k + 1, v, ⟨by have := HK.out; omega⟩, (by go_num), by omega, rfl, HVN, rfl⟩
              · have e7 : (o.f0 == 7) = false := by simpa using h7
                have e8 : (o.f0 == 8) = true := by
                  rcases hs with q | q | q
                  · exact absurd h1 q
                  · exact absurd q h7
                  · simpa using q
                clear hs h1 h7
                go_wp2_with fail
                go_roundg (gk - 1)
                case measure => have := HK.out; omega
                case rel => exact ⟨k + 1, v, ⟨by have := HK.out; omega⟩, (by go_num), by omega, rfl, HVN, rfl⟩
            · have e1 : (o.f2 != id) = true := by simpa using h1
              clear hs h1
              go_wp2_with fail
              go_roundg (gk - 1)
              case measure => have := HK.out; omega
              case rel => exact ⟨k + 1, v, ⟨by have := HK.out; omega⟩, (by go_num), by omega, rfl, HVN, rfl⟩
          · have e1 : (o.f2 != id) = false := by
              simp only [bne_eq_false_iff_eq]
              exact Decidable.byContradiction fun q => hs (.inl q)
            have e7 : (o.f0 == 7) = false := by simp; omega
            have e8 : (o.f0 == 8) = false := by simp; omega
            by_cases h35 : o.f0 = 3 ∨ o.f0 = 5
            · have HVN := Aside0.mk (show 0 = lastOf id (l.take (k + 1)) from by rw [HLT.out]; unfold lastF; rw [if_neg hs, if_pos h35])
              by_cases h3 : o.f0 = 3
              · have e3 : (o.f0 == 3) = true := by simpa using h3
                clear hs h35 h3
                go_wp2_with fail
                go_roundg (gk - 1)
                case measure => have := HK.out; omega
                case rel => exact ⟨k + 1, 0, ⟨by have := HK.out; omega⟩, (by go_num), by omega, rfl, HVN, rfl⟩
              · have e3 : (o.f0 == 3) = false := by simpa using h3
                have e5 : (o.f0 == 5) = true := by simp; omega
                clear hs h35 h3
                go_wp2_with fail
                go_roundg (gk - 1)
                case measure => have := HK.out; omega
                case rel => exact ⟨k + 1, 0, ⟨by have := HK.out; omega⟩, (by go_num), by omega, rfl, HVN, rfl⟩
            · have HVN := Aside0.mk (show o.f1 = lastOf id (l.take (k + 1)) from by rw [HLT.out]; unfold lastF; rw [if_neg hs, if_neg h35])
              have e3 : (o.f0 == 3) = false := by simp; omega
              have e5 : (o.f0 == 5) = false := by simp; omega
              clear hs h35
              go_wp2_with fail
              go_roundg (gk - 1)
              case measure => have := HK.out; omega
              case rel => exact ⟨k + 1, o.f1, ⟨by have := HK.out; omega⟩, (by go_num), by omega, rfl, HVN, rfl⟩
        · obtain rfl : k = l.length := by omega
          have HVF := Aside0.mk (show v = lastOf id l from by have := HV.out; rwa [List.take_length] at this)
          clear HV hlt
          have x0 := blk_cell HXX.out 0
          go_wp2_with fail
          clear x0
          have HTC0 := HTC
          go_loopg [9, 10] n1 (fun gj v9 v10 wz => ∃ (i : Nat) (fd : Int), Aside0 (i + gj = n1) ∧ v10 = .int .i64 i ∧ i ≤ n1 ∧ v9 = .int .u64 fd ∧ Aside0 (fd = foundF (foldW l).F id (L.take i)) ∧ Aside0 (Below wc.heap.size wc wz))
          case atStart => exact ⟨0, 0, ⟨by omega⟩, rfl, Nat.zero_le _, rfl, ⟨rfl⟩, ⟨Below.refl _ _⟩⟩
          case round =>
            obtain ⟨i, fd, HI, rfl, hi, rfl, HFD, HBz⟩ := hrel
            have z0 := blk_cell (blk_below HXX.out HBz.out) 0
            have z1 := blk_cell (blk_below HXX.out HBz.out) 1
            by_cases hin : i < n1
            · obtain ⟨adr, rfl, c0, c2⟩ := tx_at (Kd.C_below HTC.out HBz.out) i (by rw [List.length_map, ← HN1.out]; exact hin)
              have hiL : i < L.length := by rw [← HN1.out]; exact hin
              rw [tx_get L (foldW l).F i hiL] at c0 c2
              unfold txnOf at c0 c2
              dsimp only at c0 c2
              obtain ⟨x, hx⟩ : ∃ x, x = L[i] := ⟨_, rfl⟩
              rw [← hx] at c0 c2
              have HX := Aside0.mk hx
              have HSN := Aside0.mk (show foundF (foldW l).F id (L.take (i + 1)) = if x = id then ((foldW l).F id).last else fd from by rw [List.take_succ_eq_append_getElem hiL, foundF_snoc, ← HX.out, HFD.out])
              clear hx
              go_upto_if 91 with fail
              go_cut [9] (fun v9 wx => ∃ fn : Int, v9 = .int .u64 fn ∧ Aside0 (fn = foundF (foldW l).F id (L.take (i + 1))) ∧ wr = wx)
              case first =>
                by_cases he : x = id
                · have e1 : (x == id) = true := by simpa using he
                  have HN := Aside0.mk (show ((foldW l).F x).last = foundF (foldW l).F id (L.take (i + 1)) from by rw [HSN.out, if_pos he, he])
                  clear he
                  go_wp2_with fail
                  go_meet
                  case rel => exact ⟨_, rfl, HN, rfl⟩
                · have e1 : (x == id) = false := by simpa using he
                  have HN := Aside0.mk (show fd = foundF (foldW l).F id (L.take (i + 1)) from by rw [HSN.out, if_neg he])
                  clear he
                  go_wp2_with fail
                  go_meet
                  case rel => exact ⟨_, rfl, HN, rfl⟩
              case rest =>
                obtain ⟨fn, rfl, HFN, rfl⟩ := hcut
                go_upto_region 20 with fail
                by_cases hj0 : 0 < i
                · have d0 : decide ((0 : Int) < (i : Int)) = true := by simp; omega
                  obtain ⟨j, hij⟩ : ∃ j, i = j + 1 := ⟨i - 1, by omega⟩
                  obtain ⟨adr', he', b0, _⟩ := tx_at (Kd.C_below HTC.out HBz.out) j (by rw [List.length_map, ← HN1.out]; omega)
                  cases he'
                  have hjL : j < L.length := by rw [← HN1.out]; omega
                  rw [tx_get L (foldW l).F j hjL] at b0
                  unfold txnOf at b0
                  dsimp only at b0
                  have hlt' : L[j] < x := by rw [HX.out]; exact (List.pairwise_iff_getElem.1 HLR.out) j i hjL hiL (by omega)
                  obtain ⟨y, hy⟩ : ∃ y, y = L[j] := ⟨_, rfl⟩
                  rw [← hy] at b0 hlt'
                  have d1 : decide (x ≤ y) = false := by simp; omega
                  have hw1 : IntKind.i64.wrap ((i : Int) - 1) = (j : Int) := by rw [i64w (by omega) (by omega)]; omega
                  have hw2 : wrap64 ((i : Int) - 1) = (j : Int) := by rw [w64 (by omega) (by omega)]; omega
                  have hw3 : (i : Int) - 1 = (j : Int) := by omega
                  have HIJ := Aside0.mk hij
                  have hjn : j < n1 := by omega
                  clear hij hy hlt'
                  refine start_ (n := 18) (S := fun wx => wx.cell? ⟨X, 0, none⟩ = some (.slice (some adr) n1 C1) ∧ wx.cell? (adr.add (i * 3)) = some (.int .i64 x) ∧ wx.cell? (adr.add (j * 3)) = some (.int .i64 y)) (ds := []) #[false, false, false, false, false, false, false, false, false, false, false, false, false, false, false, false, false, false] (by kernel_rfl) rfl rfl (⟨z0, c0, b0⟩) (fun hHeld => ?_)
                  refine pure_ (i := 0) (N := some 98) (v := ?_) (a' := ?_) #[true, false, false, false, false, false, false, false, false, false, false, false, false, false, false, false, false, false] rfl rfl (by kernel_rfl) (fun _ _ _ h => h) (Or.inl ⟨by rfl, ?_⟩) ?_ ?_
                  rotate_left
                  · intro w'
                    go_simp
                    all_goals (with_reducible rfl)
                  rotate_left
                  · simp only [Act.put, List.setIfInBounds_toArray, List.set_cons_zero, List.set_cons_succ, i64_w, i32_w]
                    rfl
                  refine pure_ (i := 1) (N := some 99) (v := .bool true) (a' := ?_) #[true, true, false, false, false, false, false, false, false, false, false, false, false, false, false, false, false, false] rfl rfl (by kernel_rfl) (fun _ _ _ h => h) (Or.inl ⟨by rfl, ?_⟩) ?_ ?_
                  · intro w'
                    go_simp
                    all_goals (first | rfl | (simp; done) | (simp [d0]; done) | (simp; omega) | omega)
                  rotate_left
                  · simp only [Act.put, List.setIfInBounds_toArray, List.set_cons_zero, List.set_cons_succ, i64_w, i32_w]
                    rfl
                  refine pure_ (i := 2) (N := some 100) (v := ?_) (a' := ?_) #[true, true, true, false, false, false, false, false, false, false, false, false, false, false, false, false, false, false] rfl rfl (by kernel_rfl) (fun _ _ _ h => h) (Or.inl ⟨by rfl, ?_⟩) ?_ ?_
                  rotate_left
                  · intro w'
                    go_simp
                    all_goals (with_reducible rfl)
                  rotate_left
                  · simp only [Act.put, List.setIfInBounds_toArray, List.set_cons_zero, List.set_cons_succ, i64_w, i32_w]
                    rfl
                  refine pure_ (i := 3) (N := some 101) (v := ?_) (a' := ?_) #[true, true, true, true, false, false, false, false, false, false, false, false, false, false, false, false, false, false] rfl rfl (by kernel_rfl) (fun _ _ _ h => h) (Or.inl ⟨by rfl, ?_⟩) ?_ ?_
                  rotate_left
                  · intro w'
                    go_simp
                    all_goals (with_reducible rfl)
                  rotate_left
                  · simp only [Act.put, List.setIfInBounds_toArray, List.set_cons_zero, List.set_cons_succ, i64_w, i32_w]
                    rfl
                  refine pure_ (i := 5) (N := some 103) (v := ?_) (a' := ?_) #[true, true, true, true, false, true, false, false, false, false, false, false, false, false, false, false, false, false] rfl rfl (by kernel_rfl) (fun _ _ _ h => h) (Or.inl ⟨by rfl, ?_⟩) ?_ ?_
                  rotate_left
                  · intro w'
                    go_simp
                    all_goals (with_reducible rfl)
                  rotate_left
                  · simp only [Act.put, List.setIfInBounds_toArray, List.set_cons_zero, List.set_cons_succ, i64_w, i32_w]
                    rfl
                  refine pure_ (i := 6) (N := some 104) (v := .int .i64 (j : Int)) (a' := ?_) #[true, true, true, true, false, true, true, false, false, false, false, false, false, false, false, false, false, false] rfl rfl (by kernel_rfl) (fun _ _ _ h => h) (Or.inl ⟨by rfl, ?_⟩) ?_ ?_
                  · intro w'
                    go_simp
                    all_goals (first | (simp [hw1]; done) | (simp [hw2]; done) | (simp [hw3]; done) | rfl | (rw [hw1]; done) | (rw [hw1]; rfl) | (rw [hw2]; rfl) | (rw [hw3]; rfl) | omega | exact i64w (by omega) (by omega))
                  rotate_left
                  · simp only [Act.put, List.setIfInBounds_toArray, List.set_cons_zero, List.set_cons_succ, i64_w, i32_w]
                    rfl
                  refine pure_ (i := 10) (N := some 108) (v := ?_) (a' := ?_) #[true, true, true, true, false, true, true, false, false, false, true, false, false, false, false, false, false, false] rfl rfl (by kernel_rfl) (fun _ _ _ h => h) (Or.inl ⟨by rfl, ?_⟩) ?_ ?_
                  rotate_left
                  · intro w'
                    go_simp
                    all_goals (with_reducible rfl)
                  rotate_left
                  · simp only [Act.put, List.setIfInBounds_toArray, List.set_cons_zero, List.set_cons_succ, i64_w, i32_w]
                    rfl
                  refine pure_ (i := 12) (N := some 110) (v := ?_) (a' := ?_) #[true, true, true, true, false, true, true, false, false, false, true, false, true, false, false, false, false, false] rfl rfl (by kernel_rfl) (fun _ _ _ h => h) (Or.inl ⟨by rfl, ?_⟩) ?_ ?_
                  rotate_left
                  · intro w'
                    go_simp
                    all_goals (with_reducible rfl)
                  rotate_left
                  · simp only [Act.put, List.setIfInBounds_toArray, List.set_cons_zero, List.set_cons_succ, i64_w, i32_w]
                    rfl
                  refine take_ (i := 4) (N := some 102) (v := ?_) (a' := ?_) #[true, true, true, true, true, true, true, false, false, false, true, false, true, false, false, false, false, false] rfl rfl (by kernel_rfl) (fun _ _ _ h => h) (Or.inl ⟨by rfl, ?_⟩) hHeld ?_ ?_
                  rotate_left
                  · intro w' hSw
                    (try dsimp only at hSw)
                    go_simp
                    all_goals (with_reducible rfl)
                  rotate_left
                  · simp only [Act.put, List.setIfInBounds_toArray, List.set_cons_zero, List.set_cons_succ, i64_w, i32_w]
                    rfl
                  refine pure_ (i := 7) (N := some 105) (v := .pointer (some (adr.add (j * 3)))) (a' := ?_) #[true, true, true, true, true, true, true, true, false, false, true, false, true, false, false, false, false, false] rfl rfl (by kernel_rfl) (fun _ _ _ h => h) (Or.inl ⟨by rfl, ?_⟩) ?_ ?_
                  · intro w'
                    go_simp
                    all_goals (first | rfl | (rw [if_pos (by omega)]; done) | (rw [if_pos (by omega)]; rfl) | (simp; done))
                  rotate_left
                  · simp only [Act.put, List.setIfInBounds_toArray, List.set_cons_zero, List.set_cons_succ, i64_w, i32_w]
                    rfl
                  refine pure_ (i := 8) (N := some 106) (v := ?_) (a' := ?_) #[true, true, true, true, true, true, true, true, true, false, true, false, true, false, false, false, false, false] rfl rfl (by kernel_rfl) (fun _ _ _ h => h) (Or.inl ⟨by rfl, ?_⟩) ?_ ?_
                  rotate_left
                  · intro w'
                    go_simp
                    all_goals (with_reducible rfl)
                  rotate_left
                  · simp only [Act.put, List.setIfInBounds_toArray, List.set_cons_zero, List.set_cons_succ, i64_w, i32_w]
                    rfl
                  refine take_ (i := 9) (N := some 107) (v := ?_) (a' := ?_) #[true, true, true, true, true, true, true, true, true, true, true, false, true, false, false, false, false, false] rfl rfl (by kernel_rfl) (fun _ _ _ h => h) (Or.inl ⟨by rfl, ?_⟩) hHeld ?_ ?_
                  rotate_left
                  · intro w' hSw
                    (try dsimp only at hSw)
                    go_simp
                    all_goals (with_reducible rfl)
                  rotate_left
                  · simp only [Act.put, List.setIfInBounds_toArray, List.set_cons_zero, List.set_cons_succ, i64_w, i32_w]
                    rfl
                  refine take_ (i := 11) (N := some 109) (v := ?_) (a' := ?_) #[true, true, true, true, true, true, true, true, true, true, true, true, true, false, false, false, false, false] rfl rfl (by kernel_rfl) (fun _ _ _ h => h) (Or.inl ⟨by rfl, ?_⟩) hHeld ?_ ?_
                  rotate_left
                  · intro w' hSw
                    (try dsimp only at hSw)
                    go_simp
                    all_goals (with_reducible rfl)
                  rotate_left
                  · simp only [Act.put, List.setIfInBounds_toArray, List.set_cons_zero, List.set_cons_succ, i64_w, i32_w]
                    rfl
                  refine pure_ (i := 13) (N := some 111) (v := .pointer (some (adr.add (i * 3)))) (a' := ?_) #[true, true, true, true, true, true, true, true, true, true, true, true, true, true, false, false, false, false] rfl rfl (by kernel_rfl) (fun _ _ _ h => h) (Or.inl ⟨by rfl, ?_⟩) ?_ ?_
                  · intro w'
                    go_simp
                    all_goals (first | rfl | (rw [if_pos (by omega)]; done) | (rw [if_pos (by omega)]; rfl) | (simp; done))
                  rotate_left
                  · simp only [Act.put, List.setIfInBounds_toArray, List.set_cons_zero, List.set_cons_succ, i64_w, i32_w]
                    rfl
                  refine pure_ (i := 14) (N := some 112) (v := ?_) (a' := ?_) #[true, true, true, true, true, true, true, true, true, true, true, true, true, true, true, false, false, false] rfl rfl (by kernel_rfl) (fun _ _ _ h => h) (Or.inl ⟨by rfl, ?_⟩) ?_ ?_
                  rotate_left
                  · intro w'
                    go_simp
                    all_goals (with_reducible rfl)
                  rotate_left
                  · simp only [Act.put, List.setIfInBounds_toArray, List.set_cons_zero, List.set_cons_succ, i64_w, i32_w]
                    rfl
                  refine take_ (i := 15) (N := some 113) (v := ?_) (a' := ?_) #[true, true, true, true, true, true, true, true, true, true, true, true, true, true, true, true, false, false] rfl rfl (by kernel_rfl) (fun _ _ _ h => h) (Or.inl ⟨by rfl, ?_⟩) hHeld ?_ ?_
                  rotate_left
                  · intro w' hSw
                    (try dsimp only at hSw)
                    go_simp
                    all_goals (with_reducible rfl)
                  rotate_left
                  · simp only [Act.put, List.setIfInBounds_toArray, List.set_cons_zero, List.set_cons_succ, i64_w, i32_w]
                    rfl
                  refine pure_ (i := 16) (N := some 114) (v := .bool false) (a' := ?_) #[true, true, true, true, true, true, true, true, true, true, true, true, true, true, true, true, true, false] rfl rfl (by kernel_rfl) (fun _ _ _ h => h) (Or.inl ⟨by rfl, ?_⟩) ?_ ?_
                  · intro w'
                    go_simp
                    all_goals (first | (simp [d1]; done) | rfl | (simp; omega))
                  rotate_left
                  · simp only [Act.put, List.setIfInBounds_toArray, List.set_cons_zero, List.set_cons_succ, i64_w, i32_w]
                    rfl
                  refine pure_ (i := 17) (N := some 115) (v := ?_) (a' := ?_) #[true, true, true, true, true, true, true, true, true, true, true, true, true, true, true, true, true, true] rfl rfl (by kernel_rfl) (fun _ _ _ h => h) (Or.inl ⟨by rfl, ?_⟩) ?_ ?_
                  rotate_left
                  · intro w'
                    go_simp
                    all_goals (with_reducible rfl)
                  rotate_left
                  · simp only [Act.put, List.setIfInBounds_toArray, List.set_cons_zero, List.set_cons_succ, i64_w, i32_w]
                    rfl
                  refine done_ (by kernel_rfl) ?_
                  clear hw1 hw2 hw3
                  clear d0
                  go_wp2_with fail
                  go_roundg (gk - 1)
                  case measure => have := HI.out; omega
                  case rel => exact ⟨i + 1, fn, ⟨by have := HI.out; omega⟩, (by go_num), by omega, rfl, HFN, ⟨HBz.out.trans ⟨rfl, rfl, rfl, Nat.le_refl _, fun _ _ => rfl⟩⟩⟩
                · have d0 : decide ((0 : Int) < (i : Int)) = false := by simp; omega
                  refine start_ (n := 18) (S := fun wx => wx.cell? ⟨X, 0, none⟩ = some (.slice (some adr) n1 C1)) (ds := []) #[false, false, false, false, false, false, false, false, false, false, false, false, false, false, false, false, false, false] (by kernel_rfl) rfl rfl (z0) (fun hHeld => ?_)
                  refine pure_ (i := 0) (N := some 98) (v := ?_) (a' := ?_) #[true, false, false, false, false, false, false, false, false, false, false, false, false, false, false, false, false, false] rfl rfl (by kernel_rfl) (fun _ _ _ h => h) (Or.inl ⟨by rfl, ?_⟩) ?_ ?_
                  rotate_left
                  · intro w'
                    go_simp
                    all_goals (with_reducible rfl)
                  rotate_left
                  · simp only [Act.put, List.setIfInBounds_toArray, List.set_cons_zero, List.set_cons_succ, i64_w, i32_w]
                    rfl
                  refine pure_ (i := 1) (N := some 99) (v := .bool false) (a' := ?_) #[true, true, false, false, false, false, false, false, false, false, false, false, false, false, false, false, false, false] rfl rfl (by kernel_rfl) (fun _ _ _ h => h) (Or.inl ⟨by rfl, ?_⟩) ?_ ?_
                  · intro w'
                    go_simp
                    all_goals (first | rfl | (simp; done) | (simp [d0]; done) | (simp; omega) | omega)
                  rotate_left
                  · simp only [Act.put, List.setIfInBounds_toArray, List.set_cons_zero, List.set_cons_succ, i64_w, i32_w]
                    rfl
                  refine pure_ (i := 2) (N := some 100) (v := ?_) (a' := ?_) #[true, true, true, false, false, false, false, false, false, false, false, false, false, false, false, false, false, false] rfl rfl (by kernel_rfl) (fun _ _ _ h => h) (Or.inl ⟨by rfl, ?_⟩) ?_ ?_
                  rotate_left
                  · intro w'
                    go_simp
                    all_goals (with_reducible rfl)
                  rotate_left
                  · simp only [Act.put, List.setIfInBounds_toArray, List.set_cons_zero, List.set_cons_succ, i64_w, i32_w]
                    rfl
                  refine pure_ (i := 3) (N := some 101) (v := undef) (a' := ?_) #[true, true, true, true, false, false, false, false, false, false, false, false, false, false, false, false, false, false] rfl rfl (by kernel_rfl) (fun _ _ _ h => h) (Or.inr ⟨by rfl, rfl⟩) ?_ ?_
                  rotate_left
                  · simp only [Act.put, List.setIfInBounds_toArray, List.set_cons_zero, List.set_cons_succ, i64_w, i32_w]
                    rfl
                  refine pure_ (i := 5) (N := some 103) (v := undef) (a' := ?_) #[true, true, true, true, false, true, false, false, false, false, false, false, false, false, false, false, false, false] rfl rfl (by kernel_rfl) (fun _ _ _ h => h) (Or.inr ⟨by rfl, rfl⟩) ?_ ?_
                  rotate_left
                  · simp only [Act.put, List.setIfInBounds_toArray, List.set_cons_zero, List.set_cons_succ, i64_w, i32_w]
                    rfl
                  refine pure_ (i := 6) (N := some 104) (v := undef) (a' := ?_) #[true, true, true, true, false, true, true, false, false, false, false, false, false, false, false, false, false, false] rfl rfl (by kernel_rfl) (fun _ _ _ h => h) (Or.inr ⟨by rfl, rfl⟩) ?_ ?_
                  rotate_left
                  · simp only [Act.put, List.setIfInBounds_toArray, List.set_cons_zero, List.set_cons_succ, i64_w, i32_w]
                    rfl
                  refine pure_ (i := 10) (N := some 108) (v := undef) (a' := ?_) #[true, true, true, true, false, true, true, false, false, false, true, false, false, false, false, false, false, false] rfl rfl (by kernel_rfl) (fun _ _ _ h => h) (Or.inr ⟨by rfl, rfl⟩) ?_ ?_
                  rotate_left
                  · simp only [Act.put, List.setIfInBounds_toArray, List.set_cons_zero, List.set_cons_succ, i64_w, i32_w]
                    rfl
                  refine pure_ (i := 12) (N := some 110) (v := undef) (a' := ?_) #[true, true, true, true, false, true, true, false, false, false, true, false, true, false, false, false, false, false] rfl rfl (by kernel_rfl) (fun _ _ _ h => h) (Or.inr ⟨by rfl, rfl⟩) ?_ ?_
                  rotate_left
                  · simp only [Act.put, List.setIfInBounds_toArray, List.set_cons_zero, List.set_cons_succ, i64_w, i32_w]
                    rfl
                  refine pure_ (i := 4) (N := some 102) (v := undef) (a' := ?_) #[true, true, true, true, true, true, true, false, false, false, true, false, true, false, false, false, false, false] rfl rfl (by kernel_rfl) (fun _ _ _ h => h) (Or.inr ⟨by rfl, rfl⟩) ?_ ?_
                  rotate_left
                  · simp only [Act.put, List.setIfInBounds_toArray, List.set_cons_zero, List.set_cons_succ, i64_w, i32_w]
                    rfl
                  refine pure_ (i := 7) (N := some 105) (v := undef) (a' := ?_) #[true, true, true, true, true, true, true, true, false, false, true, false, true, false, false, false, false, false] rfl rfl (by kernel_rfl) (fun _ _ _ h => h) (Or.inr ⟨by rfl, rfl⟩) ?_ ?_
                  rotate_left
                  · simp only [Act.put, List.setIfInBounds_toArray, List.set_cons_zero, List.set_cons_succ, i64_w, i32_w]
                    rfl
                  refine pure_ (i := 8) (N := some 106) (v := undef) (a' := ?_) #[true, true, true, true, true, true, true, true, true, false, true, false, true, false, false, false, false, false] rfl rfl (by kernel_rfl) (fun _ _ _ h => h) (Or.inr ⟨by rfl, rfl⟩) ?_ ?_
                  rotate_left
                  · simp only [Act.put, List.setIfInBounds_toArray, List.set_cons_zero, List.set_cons_succ, i64_w, i32_w]
                    rfl
                  refine pure_ (i := 9) (N := some 107) (v := undef) (a' := ?_) #[true, true, true, true, true, true, true, true, true, true, true, false, true, false, false, false, false, false] rfl rfl (by kernel_rfl) (fun _ _ _ h => h) (Or.inr ⟨by rfl, rfl⟩) ?_ ?_
                  rotate_left
                  · simp only [Act.put, List.setIfInBounds_toArray, List.set_cons_zero, List.set_cons_succ, i64_w, i32_w]
                    rfl
                  refine pure_ (i := 11) (N := some 109) (v := undef) (a' := ?_) #[true, true, true, true, true, true, true, true, true, true, true, true, true, false, false, false, false, false] rfl rfl (by kernel_rfl) (fun _ _ _ h => h) (Or.inr ⟨by rfl, rfl⟩) ?_ ?_
                  rotate_left
                  · simp only [Act.put, List.setIfInBounds_toArray, List.set_cons_zero, List.set_cons_succ, i64_w, i32_w]
                    rfl
                  refine pure_ (i := 13) (N := some 111) (v := undef) (a' := ?_) #[true, true, true, true, true, true, true, true, true, true, true, true, true, true, false, false, false, false] rfl rfl (by kernel_rfl) (fun _ _ _ h => h) (Or.inr ⟨by rfl, rfl⟩) ?_ ?_
                  rotate_left
                  · simp only [Act.put, List.setIfInBounds_toArray, List.set_cons_zero, List.set_cons_succ, i64_w, i32_w]
                    rfl
                  refine pure_ (i := 14) (N := some 112) (v := undef) (a' := ?_) #[true, true, true, true, true, true, true, true, true, true, true, true, true, true, true, false, false, false] rfl rfl (by kernel_rfl) (fun _ _ _ h => h) (Or.inr ⟨by rfl, rfl⟩) ?_ ?_
                  rotate_left
                  · simp only [Act.put, List.setIfInBounds_toArray, List.set_cons_zero, List.set_cons_succ, i64_w, i32_w]
                    rfl
                  refine pure_ (i := 15) (N := some 113) (v := undef) (a' := ?_) #[true, true, true, true, true, true, true, true, true, true, true, true, true, true, true, true, false, false] rfl rfl (by kernel_rfl) (fun _ _ _ h => h) (Or.inr ⟨by rfl, rfl⟩) ?_ ?_
                  rotate_left
                  · simp only [Act.put, List.setIfInBounds_toArray, List.set_cons_zero, List.set_cons_succ, i64_w, i32_w]
                    rfl
                  refine pure_ (i := 16) (N := some 114) (v := undef) (a' := ?_) #[true, true, true, true, true, true, true, true, true, true, true, true, true, true, true, true, true, false] rfl rfl (by kernel_rfl) (fun _ _ _ h => h) (Or.inr ⟨by rfl, rfl⟩) ?_ ?_
                  rotate_left
                  · simp only [Act.put, List.setIfInBounds_toArray, List.set_cons_zero, List.set_cons_succ, i64_w, i32_w]
                    rfl
                  refine pure_ (i := 17) (N := some 115) (v := ?_) (a' := ?_) #[true, true, true, true, true, true, true, true, true, true, true, true, true, true, true, true, true, true] rfl rfl (by kernel_rfl) (fun _ _ _ h => h) (Or.inl ⟨by rfl, ?_⟩) ?_ ?_
                  rotate_left
                  · intro w'
                    go_simp
                    all_goals (with_reducible rfl)
                  rotate_left
                  · simp only [Act.put, List.setIfInBounds_toArray, List.set_cons_zero, List.set_cons_succ, i64_w, i32_w]
                    rfl
                  refine done_ (by kernel_rfl) ?_
                  clear d0
                  go_wp2_with fail
                  go_roundg (gk - 1)
                  case measure => have := HI.out; omega
                  case rel => exact ⟨i + 1, fn, ⟨by have := HI.out; omega⟩, (by go_num), by omega, rfl, HFN, ⟨HBz.out.trans ⟨rfl, rfl, rfl, Nat.le_refl _, fun _ _ => rfl⟩⟩⟩
            · obtain rfl : i = n1 := by omega
              have HFF := Aside0.mk (show fd = v from by rw [HVF.out, HLST.out, HFD.out, HN1.out, List.take_length])
              have e0 : fd = v := HFF.out
              subst e0
              have HBz2 := Aside0.mk (below_then HBc.out HBc.out.size HBz.out)
              clear hin
              go_wp2_with fail
              refine (lives18 wr).mono ?_
              rintro e wq ⟨rfl, hb⟩
              have HBq := Aside0.mk (below_then HBz2.out HBz2.out.size hb)
              clear hb
              go_wp2_with fail
              go_ret
              exact ⟨rfl, HBq.out⟩
end Go.Proofs.Ytaahfokdgfopcaa
