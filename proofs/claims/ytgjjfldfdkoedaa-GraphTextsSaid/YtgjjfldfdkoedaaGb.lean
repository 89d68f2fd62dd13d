/- The calls of graph's reached, Leads. -/
import Derived.Test.YtgjjfldfdkoedaaGa
namespace Go.Proofs.Ytgjjfldfdkoedaa
open Go.RowKit Go.Proofs.YtgjjfldfdkoedaaW.PrintWords Go.Proofs.YtgjjfldfdkoedaaW.PrintLast Go.Proofs.YtgjjfldfdkoedaaW.PrintMore
open Rf MapL Graph
set_option linter.unusedVariables false
set_option linter.unusedSimpArgs false
theorem Q_not {α : Type} {d : Kd α} {e : Nat} {w : World} {base : Nat} {ok : Nat → Prop} {v : Value} {xs : List α} (h : Kd.Q d e w base ok v xs) {k : Nat} {o : Obj} (hk : w.heap[k]? = some o) (ho : ∀ cells, o ≠ .cells cells e (0, 0)) : some k ≠ v.ownBlock := fun he => by
  obtain ⟨cells, hc⟩ := Kd.Q_typed h k he.symm
  rw [hc] at hk
  exact ho _ (Option.some.inj hk).symm
theorem Q_notM {α β : Type} {d : Kd α} {e : Nat} {w : World} {base : Nat} {ok : Nat → Prop} {v : Value} {xs : List α} (h : Kd.Q d e w base ok v xs) {tk : β → Value} {b : Nat} {ks : List β} (hm : MapAt tk w b ks) : some b ≠ v.ownBlock := by
  obtain ⟨es, clock, hb⟩ := hm.block
  exact Q_not h hb (fun _ => by simp)
theorem Q_notR {α β : Type} {d : Kd α} {e : Nat} {w : World} {base : Nat} {ok : Nat → Prop} {v : Value} {xs : List α} (h : Kd.Q d e w base ok v xs) {tk : β → Value} {b r : Nat} {ks todo : List β} (hm : RangeAt tk w b r ks todo) : some r ≠ v.ownBlock := by
  obtain ⟨m, s, seen, c, hb⟩ := hm.block
  exact Q_not h hb (fun _ => by simp)
theorem ne_iter {β γ : Type} {w : World} {tk : β → Value} {tk' : γ → Value} {b b' r : Nat} {ks : List β} {ks' todo : List γ} (hm : MapAt tk w b ks) (hr : RangeAt tk' w b' r ks' todo) : b ≠ r := by
  rintro rfl
  obtain ⟨es, clock, hb⟩ := hm.block
  obtain ⟨m, s, seen, c, hb2⟩ := hr.block
  rw [hb] at hb2; cases hb2
-- [GEN
theorem R_oneI (w : World) (base : Nat) (hb : base ≤ w.heap.size) (ok : Nat → Prop) (hok : ok w.heap.size) (a : Int) :
    Kd.R (Kd.int .i64) 3 (w.alloc (.cells #[.int .i64 a] 3)) base ok (.slice (some ⟨w.heap.size, 0, none⟩) 1 1) [a] := by
  refine ⟨fun k hk => ?_, [.int .i64 a], ?_, Reps.snoc (cs := []) (c := [.int .i64 a]) (ps := []) (Reps.none _ _) rfl rfl⟩
  · have : w.heap.size = k := by simpa [Value.ownBlock] using hk
    rw [← this]; exact hok
  · exact World.ownsRow_lit (base := base) (e := 3) (size := 1) w #[.int .i64 a] 1 hb (by simp [maxLen]) rfl
/-- What reached answers. -/
def FoundI (w w' : World) (ks : List (Int × Int)) (a : Int) (e : Ending) : Prop :=
  ∃ (mb : Nat) (S : List Int), e = .returned (.map (some mb)) ∧ w.heap.size ≤ mb ∧ MapAt (Value.int .i64) w' mb S ∧ (∀ x, x ∈ S ↔ Graph.Reach ks a x) ∧ Below w.heap.size w w'
set_option maxRecDepth 100000 in
theorem reachedI_nil (w : World) (a : Int) : Calls Try.prog 31 #[.pointer none, .int .i64 a] w fun e w' => FoundI w w' [] a e := by
  have hmk : ∀ W : World, (Instr.makeMap 58 none).run Try.prog W = .ok (.map (some W.heap.size)) (W.alloc (.map #[] 0)) := fun W => rfl
  go_enter Try.func31, Try.ntmps31
  go_wp2_with fail
  go_ret
  exact ⟨w.heap.size, ([] : List Int), rfl, Nat.le_refl _, mapAt_made w, fun x => ⟨fun h => absurd h (by simp), fun h => (reach_nil h).elim⟩, below_alloc (Below.refl _ _) _⟩
set_option maxRecDepth 100000 in
set_option maxHeartbeats 2000000 in
theorem reachedI (w : World) (g b : Nat) (ks : List (Int × Int)) (a : Int) (h : GrI w g b ks) (hl : ks.length ≤ 1000) : Calls Try.prog 31 #[.pointer (some ⟨g, 0, none⟩), .int .i64 a] w fun e w' => FoundI w w' ks a e := by
  have hmk : ∀ W : World, (Instr.makeMap 58 none).run Try.prog W = .ok (.map (some W.heap.size)) (W.alloc (.map #[] 0)) := fun W => rfl
  have H := Aside0.mk h
  clear h
  go_enter Try.func31, Try.ntmps31
  go_wp2_with fail
  have hs1 : (w.alloc (.map #[] 0)).heap.size = w.heap.size + 1 := by simp
  have hq0 := Kd.Q_of_R (R_oneI (w.alloc (.map #[] 0)) w.heap.size (by omega) (fun _ => True) trivial a)
  rw [hs1] at hq0
  have hm0 : MapAt (Value.int .i64) ((w.alloc (.map #[] 0)).alloc (.cells #[.int .i64 a] 3)) w.heap.size [] := (mapAt_made w).alloc _
  have hb0 : Below w.heap.size w ((w.alloc (.map #[] 0)).alloc (.cells #[.int .i64 a] 3)) := below_alloc (below_alloc (Below.refl _ _) _) _
  generalize (w.alloc (.map #[] 0)).alloc (.cells #[.int .i64 a] 3) = w1 at hq0 hm0 hb0 ⊢
  obtain ⟨mb, hmb⟩ : ∃ x, x = w.heap.size := ⟨_, rfl⟩
  rw [← hmb] at hm0
  have HMB := Aside0.mk hmb
  have HQ1 := Aside0.mk hq0
  have HM1 := Aside0.mk hm0
  have HB1 := Aside0.mk hb0
  rw [show Value.map (some w.heap.size) = Value.map (some mb) by rw [hmb]]
  clear hq0 hm0 hb0 hmb hmk hs1
  go_loopg [6] (ks.length + 1) (fun gk v6 wr => ∃ (S wait : List Int), Aside0 (fresh ks S + wait.length ≤ gk ∧ gk ≤ 1001) ∧ Aside0 (Search ks a S wait) ∧ Aside0 (MapAt (Value.int .i64) wr mb S) ∧ Aside0 (Below w.heap.size w wr) ∧
    Aside0 (Kd.Q (Kd.int .i64) 3 wr w.heap.size (fun _ => True) v6 wait))
  case atStart => exact ⟨[], [a], ⟨⟨by have := fresh_le ks ([] : List Int); simp only [List.length_cons, List.length_nil]; omega, by omega⟩⟩, ⟨Search.start⟩, HM1, HB1, HQ1⟩
  case round =>
    obtain ⟨S, wait, HK, HS, HM, HB, HQ⟩ := hrel
    clear HQ1 HM1 HB1
    by_cases hw0 : wait = []
    · subst hw0
      obtain ⟨A, c, rfl, _⟩ := Kd.Q_slice HQ.out
      go_wp2_with fail
      go_ret
      exact ⟨mb, S, rfl, Nat.le_of_eq HMB.out.symm, HM.out, fun x => HS.out.stop x, HB.out⟩
    · obtain ⟨x, rest, rfl⟩ := List.exists_cons_of_ne_nil hw0
      clear hw0
      obtain ⟨qb, qo, c, rfl, hqb, _, _⟩ := Kd.Q_form HQ.out (by simp)
      have hx0 := (Kd.Q_cell (0 : Int) HQ.out 0 (by omega) (by simp)).1
      rw [show rdOf (0 : Int) (x :: rest) 0 = x from rfl, show qo + (0 : Int).toNat = qo from rfl] at hx0
      have hrl : rest.length ≤ 1000 := by have := HK.out; simp at this; omega
      obtain ⟨i0, hi0, _, hsz0, _⟩ := info_parts Rf.info3
      have hcut := cut_from (P := Try.prog) 31 3 .i64 Try.underlying31 hi0 1 hsz0 (some ⟨qb, qo, none⟩) (x :: rest).length c 1 (by omega) (by simp; omega)
      have hqd := Kd.Q_drop (k := 1) HQ.out (by simp)
      obtain ⟨A1, hA1⟩ : ∃ A1 : Option Addr, A1 = (if c = 1 then some ⟨qb, qo, none⟩ else (some (⟨qb, qo, none⟩ : Addr)).map (·.add (1 * 1))) := ⟨_, rfl⟩
      have hA1' : (if c = 1 then some ⟨qb, qo, none⟩ else (some (⟨qb, qo, none⟩ : Addr)).map (·.add (1 * (Kd.int .i64).sz))) = A1 := hA1.symm
      rw [hA1'] at hqd
      have hcut' : ∀ W : World, (Instr.slice 31 (.slice (some ⟨qb, qo, none⟩) (rest.length + 1) c) (some (.int .i64 1)) none none).run Try.prog W = .ok (.slice A1 rest.length (c - 1)) W := fun W => by
        have := hcut W
        rw [List.length_cons] at this
        rw [this, hA1]; rfl
      have HQD := Aside0.mk (show Kd.Q (Kd.int .i64) 3 wr w.heap.size (fun _ => True) (.slice A1 rest.length (c - 1)) rest from by have h := hqd; rw [List.length_cons] at h; exact h)
      have hx1 : wr.cell? ⟨qb, qo, none⟩ = some (.int .i64 x) := hx0
      have hgb := H.out.below HB.out
      have hcg := blk_cell hgb.box 0
      obtain ⟨wn, hrg, hra, hbn, hsn⟩ := hgb.map.range (P := Try.prog) Try.underlying61
      have HHK := Aside0.mk (show fresh ks S + rest.length + 1 ≤ gk ∧ gk ≤ 1001 from by have := HK.out; simp only [List.length_cons] at this; omega)
      have HWI := Aside0.mk HS.out.within
      have HBN := Aside0.mk (below_then HB.out HB.out.size hbn)
      have HMN := Aside0.mk (HM.out.below hbn HM.out.lt)
      have HQN := Aside0.mk (Kd.Q_below HQD.out hbn)
      have HRN := Aside0.mk hra
      have hrge := HB.out.size
      clear hcut hqd hA1 hA1' hx0 hi0 hsz0 hgb hra hbn hsn HK HS HQ
      rw [List.length_cons]
      go_wp2_with fail
      clear hrg hcut' hx1 hcg HQD HM HB
      obtain ⟨r, hr⟩ : ∃ r, r = wr.heap.size := ⟨_, rfl⟩
      rw [← hr] at HRN hrge ⊢
      have HRG := Aside0.mk hrge
      obtain ⟨go, rfl⟩ : ∃ go, go = gk := ⟨_, rfl⟩
      clear hr hrge
      go_loopg [6] ks.length (fun gk2 v6 wi => ∃ (S' wait' : List Int) (todo : List (Int × Int)), Aside0 (todo.length ≤ gk2) ∧ Aside0 (fresh ks S' + wait'.length + 1 ≤ go ∧ go ≤ 1001) ∧ Aside0 (Within ks todo a x S' wait') ∧ Aside0 (MapAt (Value.int .i64) wi mb S') ∧ Aside0 (Below w.heap.size w wi) ∧
        Aside0 (Kd.Q (Kd.int .i64) 3 wi w.heap.size (fun _ => True) v6 wait') ∧ Aside0 (RangeAt edgeI wi b r ks todo))
      case atStart => exact ⟨S, rest, ks, ⟨Nat.le_refl _⟩, HHK, HWI, HMN, HBN, HQN, HRN⟩
      case round =>
        obtain ⟨S', wait', todo, HT, HK, HW, HM, HB, HQ, HR⟩ := hrel
        clear HHK HWI HMN HBN HQN HRN
        obtain ⟨A2, c2, rfl, _⟩ := Kd.Q_slice HQ.out
        rcases HR.out.next (P := Try.prog) keyEI 0 with ⟨ht, hrun⟩ | ⟨⟨x0, y0⟩, he, wa, hrun, hra1, hg1, hs1, hen⟩
        · have hrun' : ∀ ty, (Instr.next (.pointer (some ⟨r, 0, none⟩)) false ty).run Try.prog wr = .ok (.tuple #[.bool false]) wr := fun _ => hrun
          subst ht
          clear hrun
          go_wp2_with fail
          go_roundg (go - 1)
          case measure => have := HK.out; omega
          case rel => exact ⟨S', wait', ⟨by have := HK.out; omega⟩, ⟨HW.out.search⟩, HM, HB, HQ⟩
        · have hrun' : ∀ ty, (Instr.next (.pointer (some ⟨r, 0, none⟩)) false ty).run Try.prog wr = .ok (.tuple #[.bool true, .agg #[.int .i64 x0, .int .i64 y0], .bool true]) wa := fun _ => hrun
          have hen' : (Instr.entry (.pointer (some ⟨r, 0, none⟩))).run Try.prog wa = .ok (.tuple #[.agg #[.int .i64 x0, .int .i64 y0], .bool true]) wa := hen
          have hmr := ne_iter HM.out HR.out
          have HE := Aside0.mk (HR.out.sub _ he)
          have HMa := Aside0.mk (HM.out.grown hg1 (fun e => hmr (Option.some.inj e)))
          have HBa := Aside0.mk (HB.out.grown hg1 HB.out.size (fun k hk => by injection hk with hk; rw [← hk]; exact HRG.out))
          have HQa := Aside0.mk (Kd.Q_grown1 HQ.out rfl hg1 (Q_notR HQ.out HR.out))
          have HRa := Aside0.mk hra1
          have HTT := Aside0.mk (show (todo.filter fun z => decide (z ≠ (x0, y0))).length ≤ gk - 1 ∧ gk - 1 < gk from by have h1 := MapL.filter_lt he; have h2 := HT.out; omega)
          clear hrun hen hmr he hra1 hg1 hs1
          by_cases hx : x0 = x
          · by_cases hy : y0 ∈ S'
            · have hlk : ∀ o, (Instr.lookup 58 (.map (some mb)) (.int .i64 y0) false).run Try.prog (wa.alloc o) = .ok (.bool true) (wa.alloc o) := fun o => by
                have := (HMa.out.alloc o).look keyI Try.underlying58 (zeroB _) y0
                rwa [decide_eq_true hy] at this
              have HY := Aside0.mk hy
              obtain rfl := hx
              clear hy
              go_wp2_with fail
              go_roundg (gk - 1)
              case measure => exact HTT.out.2
              case rel => exact ⟨S', wait', _, ⟨HTT.out.1⟩, HK, ⟨HW.out.skip filter_or (fun _ => HY.out)⟩, ⟨HMa.out.alloc _⟩, ⟨below_alloc HBa.out _⟩, ⟨Kd.Q_alloc HQa.out _⟩, ⟨HRa.out.alloc _⟩⟩
            · have hlk : ∀ o, (Instr.lookup 58 (.map (some mb)) (.int .i64 y0) false).run Try.prog (wa.alloc o) = .ok (.bool false) (wa.alloc o) := fun o => by
                have := (HMa.out.alloc o).look keyI Try.underlying58 (zeroB _) y0
                rwa [decide_eq_false hy] at this
              have HY := Aside0.mk hy
              obtain rfl := hx
              obtain ⟨w2, hp, hm2, hg2, hs2⟩ := (HMa.out.alloc (.cells #[.int .i64 x0, .int .i64 y0] 65)).put keyI Try.underlying58 y0
              rw [if_neg hy] at hm2
              have hbx := blk_grown (heap_alloc_new wa (.cells #[.int .i64 x0, .int .i64 y0] 65)) hg2 (fun e => absurd (Option.some.inj e) (Nat.ne_of_gt HMa.out.lt))
              have hc1 := blk_cell hbx 1
              have HMm := Aside0.mk hm2
              have HQm := Aside0.mk (Kd.Q_grown1 (Kd.Q_alloc HQa.out (.cells #[.int .i64 x0, .int .i64 y0] 65)) rfl hg2 (Q_notM (Kd.Q_alloc HQa.out (.cells #[.int .i64 x0, .int .i64 y0] 65)) (HMa.out.alloc _)))
              have HRm := Aside0.mk ((HRa.out.alloc (.cells #[.int .i64 x0, .int .i64 y0] 65)).grown hg2 (fun e => absurd (Option.some.inj e) (by have := HMB.out; have h2 := H.out.map.lt; omega)) (fun e => ne_iter (HMa.out.alloc _) (HRa.out.alloc (.cells #[.int .i64 x0, .int .i64 y0] 65)) (Option.some.inj e).symm))
              have HBm := Aside0.mk ((below_alloc HBa.out (.cells #[.int .i64 x0, .int .i64 y0] 65)).grown hg2 (below_alloc HBa.out (.cells #[.int .i64 x0, .int .i64 y0] 65)).size (fun k hk => by injection hk with hk; rw [← hk]; exact Nat.le_of_eq HMB.out.symm))
              have hszm := HBm.out.size
              have hwl : wait'.length ≤ 1000 := by have := HK.out; omega
              clear hy hm2 hg2 hs2 hbx
              go_wp2_with (at_builtin; refine Kd.Q_append (Kd.int .i64) (w0 := w) (W := w2) w.heap.size (by rfl) (.tmp 46) (.tmp 49) 31 3 (.int .i64 0) 8 (by rfl) Try.underlying31 Rf.info3 rfl (by decide) (by omega) (.slice A2 wait'.length c2) wait' y0 [.int .i64 y0] (fun _ => True) (fun _ => False) (by rfl) (by rfl) rfl (fun _ hk => hk.elim) (fun _ _ => trivial) HQm.out HBm.out hszm (by omega) ?_; intro v1 w3 hq3 hb3 hg3 hat3; have HQ3 := Aside0.mk hq3; have HB3 := Aside0.mk hb3; have HM3 := Aside0.mk (HMm.out.grown hg3 (Q_notM HQm.out HMm.out)); have HR3 := Aside0.mk (HRm.out.grown hg3 (Q_notM HQm.out HRm.out.map) (Q_notR HQm.out HRm.out)); clear hq3 hb3 hg3 hat3)
              go_roundg (gk - 1)
              case measure => exact HTT.out.2
              case rel =>
                refine ⟨S' ++ [y0], wait' ++ [y0], _, ⟨HTT.out.1⟩, ⟨?_⟩, ⟨HW.out.find HE.out filter_or⟩, HM3, HB3, HQ3, HR3⟩
                have h1 := fresh_find HE.out HY.out
                have h2 := HK.out
                simp only [List.length_append, List.length_cons, List.length_nil]
                omega
          · have e1 : (x0 == x) = false := by simpa using hx
            have HX := Aside0.mk hx
            clear hx
            go_wp2_with fail
            go_roundg (gk - 1)
            case measure => exact HTT.out.2
            case rel => exact ⟨S', wait', _, ⟨HTT.out.1⟩, HK, ⟨HW.out.skip filter_or (fun h => absurd h HX.out)⟩, ⟨HMa.out.alloc _⟩, ⟨below_alloc HBa.out _⟩, ⟨Kd.Q_alloc HQa.out _⟩, ⟨HRa.out.alloc _⟩⟩
-- GEN]
end Go.Proofs.Ytgjjfldfdkoedaa
