/- The call of page's Delete. -/
import Derived.Test.YtidkdbohkbfhbaaWc
namespace Go.Proofs.Ytidkdbohkbfhbaa
open Go.RowKit Go.Proofs.YtidkdbohkbfhbaaW.PrintWords Go.Proofs.YtidkdbohkbfhbaaW.PrintLast Go.Proofs.YtidkdbohkbfhbaaW.PrintMore
open Rf
set_option linter.unusedVariables false
set_option linter.unusedSimpArgs false

/-! A row of cells as one list of values. -/
def cv (c : SGCell) : List Value := [.bool c.f0, .string c.f1, .string c.f2]
def flat (cs : List SGCell) : List Value := cs.flatMap cv
theorem flat_length (cs : List SGCell) : (flat cs).length = cs.length * 3 := by
  induction cs with
  | nil => rfl
  | cons c cs ih => simp only [flat, List.flatMap_cons, List.length_append, List.length_cons]; have : (List.flatMap cv cs).length = cs.length * 3 := ih; rw [this]; simp [cv]; omega
theorem flat_append (a b : List SGCell) : flat (a ++ b) = flat a ++ flat b := by simp [flat]
theorem flat_take (cs : List SGCell) (k : Nat) (hk : k ≤ cs.length) : flat (cs.take k) = (flat cs).take (k * 3) := by
  have h : flat cs = flat (cs.take k) ++ flat (cs.drop k) := by rw [← flat_append, List.take_append_drop]
  rw [h, List.take_left' (by rw [flat_length, List.length_take]; congr 1; omega)]
theorem flat_drop (cs : List SGCell) (k : Nat) (hk : k ≤ cs.length) : flat (cs.drop k) = (flat cs).drop (k * 3) := by
  have h : flat cs = flat (cs.take k) ++ flat (cs.drop k) := by rw [← flat_append, List.take_append_drop]
  rw [h, List.drop_left' (by rw [flat_length, List.length_take]; congr 1; omega)]
theorem flat_one (cs : List SGCell) : ∀ u ∈ flat cs, u.oneCell' = true := by
  intro u hu
  simp only [flat, List.mem_flatMap] at hu
  obtain ⟨c, _, hc⟩ := hu
  simp only [cv, List.mem_cons, List.not_mem_nil, or_false] at hc
  rcases hc with rfl | rfl | rfl <;> rfl
theorem reps_flat {R : SGCell → List Value → Prop} (hR : ∀ p c, R p c → c = cv p) (cs : List SGCell) (xs : List Value) (h : Reps R 3 cs xs) : xs = flat cs := by
  induction cs generalizing xs with
  | nil => have := h.1; simp at this; subst this; rfl
  | cons c cs ih =>
    have h0 := hR _ _ (h.2 0 c rfl)
    simp only [Nat.zero_mul, List.drop_zero] at h0
    have hl := h.1
    simp only [List.length_cons] at hl
    have h1 : Reps R 3 cs (xs.drop 3) := by
      refine ⟨by rw [List.length_drop]; omega, fun j p hj => ?_⟩
      have := h.2 (j + 1) p hj
      rw [List.drop_drop]
      rw [Nat.add_mul, Nat.add_comm] at this
      exact this
    rw [← List.take_append_drop 3 xs, h0, ih _ h1]
    rfl
theorem flat_reps {R : SGCell → List Value → Prop} (hR : ∀ p, R p (cv p)) (cs : List SGCell) : Reps R 3 cs (flat cs) := by
  refine ⟨flat_length cs, fun j p hj => ?_⟩
  obtain ⟨hl, hp⟩ := List.getElem?_eq_some_iff.1 hj
  rw [← flat_drop cs j (by omega), List.drop_eq_getElem_cons hl]
  show R p ((cv cs[j] ++ flat (cs.drop (j + 1))).take 3)
  rw [hp]
  exact hR p
theorem R_flat {e : TypeId} {w : World} {base : Nat} {ok : Nat → Prop} {v : Value} {cs : List SGCell} (h : Kd.R kGCell e w base ok v cs) : w.ownsRow base e 3 v cs.length (flat cs) := by
  obtain ⟨_, inner, ho, hr⟩ := h
  have := reps_flat (fun p c hc => kGCell_openM hc) cs inner hr
  subst this
  exact ho
theorem R_of_flat {e : TypeId} {w : World} {base : Nat} {ok : Nat → Prop} {v : Value} {cs : List SGCell} (hok : ∀ k, v.ownBlock = some k → ok k) (h : w.ownsRow base e 3 v cs.length (flat cs)) : Kd.R kGCell e w base ok v cs :=
  ⟨hok, flat cs, h, flat_reps (fun p => kGCell_mkM _ _ _ p) cs⟩

/-- The elements behind j go one to the front. -/
theorem row_del {w : World} {base go n c : Nat} {ok : Nat → Prop} {cs : List SGCell} (h : Kd.R kGCell 46 w base ok (.slice (some ⟨go, 0, none⟩) n c) cs) (j : Nat) (hj : j < cs.length) :
    Kd.R kGCell 46 (w.setCells go (j * 3) (flat (cs.drop (j + 1)))) base ok (.slice (some ⟨go, 0, none⟩) (n - 1) c) (delAt cs j) ∧
      w.grownBy (w.setCells go (j * 3) (flat (cs.drop (j + 1)))) (some go) ∧
      (∀ q u, (flat (cs.drop (j + 1)))[q]? = some u → w.cell? ⟨go, (j + 1) * 3 + q, none⟩ = some u) ∧
      (∀ q, q < (flat (cs.drop (j + 1))).length → (w.cell? ⟨go, j * 3 + q, none⟩).isSome = true ∧ w.frozen? ⟨go, j * 3 + q, none⟩ = false) := by
  have hn := (Kd.R_reads' h).1
  have hf := R_flat h
  have hok := h.1
  obtain ⟨hlen, hrest⟩ := hf
  rcases hrest with ⟨hv, _⟩ | ⟨g', cap, cur, hv, hb, hh, hnc, hcm, hcs, ht⟩
  · cases hv
  injection hv with ha hnn hc
  injection ha with ha
  injection ha with hg
  subst hg; subst hc
  have hdl : (delAt cs j).length = n - 1 := by simp [delAt]; omega
  have hml : (flat (cs.drop (j + 1))).length = (n - (j + 1)) * 3 := by rw [flat_length, List.length_drop, hn]
  have hcs' : cur.toList.length = c * 3 := by rw [Array.length_toList, hcs]
  have hfit : j * 3 + (flat (cs.drop (j + 1))).length ≤ cur.size := by
    rw [hml, hcs]
    have : n * 3 ≤ c * 3 := Nat.mul_le_mul_right _ (by omega)
    omega
  have hcell : ∀ i, i < n * 3 → w.cell? ⟨go, i, none⟩ = (flat cs)[i]? := by
    intro i hi
    rw [cell_of_row w go i cur 46 (0, 0) hh, ← ht, List.getElem?_take, if_pos (by rw [← hn]; omega)]
    simp
  obtain ⟨cur', h3, h4, h5⟩ := setCells_row (flat (cs.drop (j + 1))) (j * 3) w cur hh hfit
  obtain ⟨s1, s2, s3, s4⟩ := setCells_same go (flat (cs.drop (j + 1))) (j * 3) w
  refine ⟨R_of_flat (fun k hk => hok k hk) ⟨by rw [flat_length], .inr ⟨go, c, cur', by rw [hdl], hb, h3, by omega, hcm, by rw [h4, hcs], ?_⟩⟩,
    ⟨s1, s2, s3, by rw [s4]; exact Nat.le_refl _, fun k _ hk => setCells_far _ _ k (fun he => hk (by rw [he]))⟩, ?_, ?_⟩
  · rw [h5, hdl]
    have e1 : cur.toList.take (j * 3) = flat (cs.take j) := by
      rw [flat_take cs j (by omega), ← ht, List.take_take]
      congr 1
      have : j * 3 ≤ cs.length * 3 := Nat.mul_le_mul_right _ (by omega)
      omega
    rw [e1, show delAt cs j = cs.take j ++ cs.drop (j + 1) from rfl, flat_append]
    rw [List.take_left' (by rw [List.length_append, hml, flat_length, List.length_take]; omega)]
  · intro q u hu
    have hq : q < (flat (cs.drop (j + 1))).length := (List.getElem?_eq_some_iff.1 hu).1
    rw [hcell _ (by rw [hml] at hq; omega)]
    rw [flat_drop cs (j + 1) (by omega), List.getElem?_drop] at hu
    exact hu
  · intro q hq
    refine ⟨?_, blk_frozen hh _⟩
    rw [hcell _ (by rw [hml] at hq; omega), List.getElem?_eq_getElem (by rw [flat_length]; rw [hml] at hq; omega)]
    rfl

set_option maxHeartbeats 1000000 in
theorem delete_calls (w0 w : World) (ok : Nat → Prop) (g : Nat) (id lsn : Int) (cs : List SGCell) (key : ByteArray)
    (hB : Below w0.heap.size w0 w) (hp : IsPg w w0.heap.size ok g id lsn cs) (hl : cs.length ≤ 1000) :
    Calls Try.prog 20 #[.pointer (some ⟨g, 0, none⟩), .string key] w fun e w' => e = .returned (.int .i64 (del cs key).2) ∧
      IsPg w' w0.heap.size (fun k => ok k ∨ w.heap.size ≤ k) g id lsn (del cs key).1 ∧ Below w0.heap.size w0 w' ∧ Kept w w' ok := by
  have HP := Aside0.mk hp
  obtain ⟨hlow, hmine, v, hat, hR⟩ := hp
  obtain ⟨A, c, rfl, hlc, hC⟩ := Kd.R_reads hR
  have HAT := Aside0.mk hat
  have HR := Aside0.mk hR
  have HC := Aside0.mk hC
  have HB := Aside0.mk hB
  have hg2 : w.cell? ⟨g, 2, none⟩ = some (.slice A cs.length c) := blk_cell HAT.out 2
  clear hat hR hC hB
  by_cases hf : fnd cs key < 0
  · have HI := Aside0.mk (show del cs key = (cs, 8) by unfold del; rw [if_pos hf])
    go_enter Try.func20, Try.ntmps20
    go_wp2_with fail
    refine (find_calls w g id lsn A c cs key HAT.out HC.out (by omega)).mono ?_
    rintro e w2 ⟨rfl, hb2⟩
    go_wp2
    go_ret
    rw [HI.out]
    exact ⟨rfl, HP.out.same HB.out hb2⟩
  · have hfl := fnd_lt cs key
    obtain ⟨j, hj⟩ := Int.eq_ofNat_of_zero_le (show 0 ≤ fnd cs key by omega)
    have HJ := Aside0.mk hj
    rw [hj] at hfl hf
    obtain ⟨go, cap, ev, hgo, hgl, cells, hgc⟩ := Kd.R_form HR.out (by omega)
    obtain ⟨rfl, rfl⟩ : A = some ⟨go, 0, none⟩ ∧ c = cap := by injection ev with e1 e2 e3; exact ⟨e1, e3⟩
    clear ev hj
    have hjl : j < cs.length := by omega
    obtain ⟨i0, hi0, hz0, hz1, hz2⟩ := info_parts Rf.info46
    have HI0 := Aside0.mk hi0
    have HZ1 := Aside0.mk hz1
    clear hi0 hz0 hz1 hz2
    have hwr : IntKind.i64.wrap ((j : Int) + 1) = (j : Int) + 1 := i64w (by omega) (by omega)
    have hp0 : (0 : Int) ≤ (j : Int) + 1 := by omega
    have hp1 : (j : Int) + 1 ≤ (cs.length : Int) := by omega
    have hp2 : ((j : Int) + 1).toNat = j + 1 := by omega
    have hjc : j ≤ c := by omega
    go_enter Try.func20, Try.ntmps20
    go_wp2_with fail
    refine (find_calls w g id lsn _ c cs key HAT.out HC.out (by omega)).mono ?_
    rintro e w2 ⟨rfl, hb2⟩
    have HB2 := Aside0.mk hb2
    clear hb2
    rw [HJ.out]
    have HAT2 := Aside0.mk (HAT.out.below HB2.out)
    have hg2' : w2.cell? ⟨g, 2, none⟩ = some (.slice (some ⟨go, 0, none⟩) cs.length c) := blk_cell HAT2.out 2
    have HR2 := Aside0.mk (Kd.R_drew (Kd.R_mono (Kd.R_below HR.out HB2.out) (fun k hk => (⟨.inl hk.1, hk.2⟩ : (ok k ∨ w.heap.size ≤ k) ∧ k ≠ g))))
    obtain ⟨hrow, hgr, hnews, hspare⟩ := row_del HR2.out j hjl
    have HROW := Aside0.mk hrow
    have HGR := Aside0.mk hgr
    have HSP := Aside0.mk hspare
    obtain ⟨A2, hA2, hcells⟩ : ∃ A2 : Addr, (if c = j + 1 then some (⟨go, 0, none⟩ : Addr) else some ⟨go, (j + 1) * 3, none⟩) = some A2 ∧ ∀ q u, (flat (cs.drop (j + 1)))[q]? = some u → w2.drew.cell? (A2.add q) = some u := by
      by_cases hcj : c = j + 1
      · exact ⟨_, by rw [if_pos hcj], fun q u hu => by rw [List.drop_eq_nil_of_le (by omega)] at hu; simp [flat] at hu⟩
      · exact ⟨_, by rw [if_neg hcj], fun q u hu => by
          have := hnews q u hu
          unfold Addr.add
          split
          · rename_i hq; subst hq; simpa using this
          · exact this⟩
    have HCE := Aside0.mk hcells
    have HONE := Aside0.mk (flat_one (cs.drop (j + 1)))
    have HLEN := Aside0.mk (show (flat (cs.drop (j + 1))).length = (cs.length - (j + 1)) * 3 by rw [flat_length, List.length_drop])
    obtain ⟨w5, hw5⟩ : ∃ w5, w2.drew.setCells go (j * 3) (flat (cs.drop (j + 1))) = w5 := ⟨_, rfl⟩
    rw [hw5] at hrow hgr
    clear HROW HGR
    have HROW := Aside0.mk hrow
    have HGR := Aside0.mk hgr
    have HW5 := Aside0.mk hw5
    have HAT5 := Aside0.mk (blk_grown (blk_drew HAT2.out) hgr (Kd.R_ne HR2.out (blk_drew HAT2.out) (by decide)))
    have hg5 : w5.cell? ⟨g, 2, none⟩ = some (.slice (some ⟨go, 0, none⟩) cs.length c) := blk_cell HAT5.out 2
    have hf5 := blk_frozen HAT5.out 2
    clear hrow hgr hw5 hnews hspare hcells
    have hroom : j + (cs.length - (j + 1)) ≤ c := by omega
    go_wp2_with fail
    go_region_law (refine step_append_room rfl (.tmp 20) (.tmp 27) 31 rfl 46 i0 3 Try.underlying31 HI0.out HZ1.out go 0 j c (by simp [Act.eval, Act.put]) A2 (cs.length - (j + 1)) (c - (j + 1)) (flat (cs.drop (j + 1))) (by simp [Act.eval, Act.put, hA2]) HLEN.out HCE.out HONE.out hroom (by rw [Nat.zero_add]; exact HSP.out) ?_; rw [Nat.zero_add, HW5.out])
    all_goals
      have hm : j + (cs.length - (j + 1)) = (delAt cs j).length := by simp [delAt]; omega
      have hm2 : cs.length - 1 = (delAt cs j).length := by simp [delAt]; omega
      rw [hm]
      obtain ⟨w6, hw6⟩ : ∃ w6, w5.setCell ⟨g, 2, none⟩ (.slice (some ⟨go, 0, none⟩) (delAt cs j).length c) = w6 := ⟨_, rfl⟩
      rw [hw6]
      have hB5 : Below w0.heap.size w0 w5 := (below_drew (below_then HB.out HB.out.size HB2.out)).grown HGR.out (below_then HB.out HB.out.size HB2.out).size (fun k hk => by injection hk with hk; omega)
      have HAT6 : Aside0 (PgAt w6 g id lsn (.slice (some ⟨go, 0, none⟩) (delAt cs j).length c)) := ⟨by rw [← hw6]; exact blk_set HAT5.out 2 _⟩
      have HR6 : Aside0 (Kd.R kGCell 46 w6 w0.heap.size (fun k => (ok k ∨ w.heap.size ≤ k) ∧ k ≠ g) (.slice (some ⟨go, 0, none⟩) (delAt cs j).length c) (delAt cs j)) := ⟨by rw [← hw6, ← hm2]; exact Kd.R_far (p := ⟨g, 2, none⟩) HROW.out (fun _ hk => hk.2) _⟩
      have HB6 : Aside0 (Below w0.heap.size w0 w6) := ⟨by rw [← hw6]; exact hB5.setCell hlow _⟩
      have HK6 : Aside0 (Kept w w6 ok) := ⟨by rw [← hw6]; exact (Kept.of_grown HGR.out (Kept.of_below HB2.out ok).drew (fun k hk => .inl (HR.out.1 k hk).1)).setCell (.inl hmine) _⟩
      have HD := Aside0.mk (show del cs key = (trim (delAt cs j), 0) by unfold del; rw [HJ.out, if_neg (by omega), Int.toNat_natCast])
      have hdl : (delAt cs j).length ≤ 1000 := by omega
      have hg6 : w6.cell? ⟨g, 2, none⟩ = some (.slice (some ⟨go, 0, none⟩) (delAt cs j).length c) := blk_cell HAT6.out 2
      clear HW5 HAT5 hg5 hf5 HROW HGR hw6 hm hm2 hB5 HCE HONE HLEN HSP hA2 hroom
      go_wp2
      go_loopg [6] (delAt cs j).length (fun gk v6 wr => ∃ cs' : List SGCell, v6 = .int .i64 cs'.length ∧ cs'.length ≤ 1000 ∧ Aside0 (cs'.length = gk) ∧ Aside0 (trim (delAt cs j) = trimN gk cs') ∧ Aside0 (PgAt wr g id lsn (.slice (some ⟨go, 0, none⟩) cs'.length c)) ∧ Aside0 (Kd.R kGCell 46 wr w0.heap.size (fun k => (ok k ∨ w.heap.size ≤ k) ∧ k ≠ g) (.slice (some ⟨go, 0, none⟩) cs'.length c) cs') ∧ Aside0 (Below w0.heap.size w0 wr) ∧ Aside0 (Kept w wr ok))
      case atStart => exact ⟨_, rfl, hdl, ⟨rfl⟩, ⟨rfl⟩, HAT6, HR6, HB6, HK6⟩
      case round =>
        clear HAT6 HR6 HB6 HK6 hg6
        obtain ⟨cs', rfl, hl', Hn, HT, HATr, HRr, HBr, HKr⟩ := hrel
        have hgr : wr.cell? ⟨g, 2, none⟩ = some (.slice (some ⟨go, 0, none⟩) cs'.length c) := blk_cell HATr.out 2
        have hfr := blk_frozen HATr.out 2
        by_cases hz : cs'.length = 0
        · have HF := Aside0.mk (show del cs key = (cs', 0) by rw [HD.out, HT.out, trimN_zero _ _ hz])
          rw [hz]
          go_wp2
          go_ret
          rw [HF.out]
          exact ⟨rfl, ⟨hlow, .inl hmine, _, HATr.out, HRr.out⟩, HBr.out, HKr.out⟩
        · obtain ⟨m, hm⟩ : ∃ m, cs'.length = m + 1 := ⟨cs'.length - 1, by omega⟩
          have HM := Aside0.mk hm
          have hmc : m < c := by have := (Kd.R_reads' HRr.out).2.1; omega
          obtain ⟨ad, ea, hq0, hq1, hq2⟩ := cell_at (Kd.R_reads' HRr.out).2.2 m (by omega)
          cases ea
          simp only [add_plain] at hq0 hq1 hq2
          clear hq1 hq2
          rw [hm] at hgr hl'
          rw [hm]
          clear hz hm
          cases hu : (rd_TGCell cs' m).f0 with
          | true =>
            rw [hu] at hq0
            have HF := Aside0.mk (show del cs key = (cs', 0) by rw [HD.out, HT.out, trimN_used _ _ m HM.out hu])
            clear hu
            go_wp2
            go_ret
            rw [HF.out]
            exact ⟨rfl, ⟨hlow, .inl hmine, _, HATr.out, HRr.out⟩, HBr.out, HKr.out⟩
          | false =>
            rw [hu] at hq0
            have HU := Aside0.mk hu
            clear hu
            go_wp2
            go_roundg (gk - 1)
            case measure => have := Hn.out; have := HM.out; omega
            case rel =>
              have htl : (cs'.take m).length = m := by rw [List.length_take]; have := HM.out; omega
              refine ⟨cs'.take m, by rw [htl], by omega, ⟨by have := Hn.out; have := HM.out; omega⟩, ⟨?_⟩, ⟨?_⟩, ⟨?_⟩, ⟨HBr.out.setCell hlow _⟩, ⟨HKr.out.setCell (.inl hmine) _⟩⟩
              · rw [HT.out, show gk = (gk - 1) + 1 by have := Hn.out; have := HM.out; omega, trimN_free _ _ m HM.out HU.out, Nat.add_sub_cancel]
              · rw [htl]; exact blk_set HATr.out 2 _
              · rw [htl]; exact Kd.R_far (p := ⟨g, 2, none⟩) (Kd.R_take HRr.out (by have := HM.out; omega)) (fun _ hk => hk.2) _
end Go.Proofs.Ytidkdbohkbfhbaa
