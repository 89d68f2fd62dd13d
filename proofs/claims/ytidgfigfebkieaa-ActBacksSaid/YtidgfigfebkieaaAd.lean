/- The calls of act's was, Do. -/
import Derived.Test.YtidgfigfebkieaaAt
import Derived.Test.YtidgfigfebkieaaHa
import Derived.Test.YtidgfigfebkieaaWn
namespace Go.Proofs.Ytidgfigfebkieaa
open Go.RowKit Go.Proofs.YtidgfigfebkieaaW.PrintWords Go.Proofs.YtidgfigfebkieaaW.PrintLast Go.Proofs.YtidgfigfebkieaaW.PrintMore
open Rf Go.ChangeMaps
set_option linter.unusedVariables false
set_option linter.unusedSimpArgs false
def wasN (cs : List SGCell) (a b : ByteArray) : Int := if fnd cs a < 0 then 8 else if (rd_TGCell cs (fnd cs a)).f2.toList == b.toList then 0 else 10
def actDo (cs : List SGCell) (k : Int) (a b c : ByteArray) : List SGCell × Int :=
  if actMay k a b c = true then
    if k = 1 then ins cs a c else if wasN cs a b = 0 then (if k = 2 then upd cs a c else del cs a) else (cs, wasN cs a b)
  else (cs, 1)
/-- Behind a call that may write the page. -/
structure After (w0 w w' : World) (ok : Nat → Prop) (g id lsn : Nat) (cs : List SGCell) : Prop where
  here : Here w0 w' (fun k => ok k ∨ w.heap.size ≤ k) g id lsn cs
  kept : Kept w w' ok
theorem After.pre {w0 w w1 w' : World} {ok : Nat → Prop} {g id lsn : Nat} {cs : List SGCell} (hb : Below w.heap.size w w1) (h : After w0 w1 w' ok g id lsn cs) : After w0 w w' ok g id lsn cs :=
  ⟨h.here.mono (fun k hk => hk.elim .inl (fun h => .inr (Nat.le_trans hb.size h))), (Kept.of_below hb ok).then_ h.kept (fun k h => .inl h)⟩
theorem Here.same {w0 w w' : World} {ok : Nat → Prop} {g id lsn : Nat} {cs : List SGCell} (h : Here w0 w ok g id lsn cs) (hb : Below w.heap.size w w') : After w0 w w' ok g id lsn cs :=
  ⟨(h.next hb).mono (fun k hk => .inl hk), Kept.of_below hb ok⟩
section
variable {w0 w : World} {ok : Nat → Prop} {g id lsn : Nat} {cs : List SGCell}
set_option maxHeartbeats 1000000 in
theorem was_calls (h : Here w0 w ok g id lsn cs) (k : Int) (a b c : ByteArray) : Calls Try.prog 51 #[.pointer (some ⟨g, 0, none⟩), .agg #[.int .i64 k, .string a, .string b, .string c]] w fun e w' => e = .returned (.int .i64 (wasN cs a b)) ∧ Below w.heap.size w w' := by
  have H := Aside0.mk h
  clear h
  go_enter Try.func51, Try.ntmps51
  go_wp2_with fail
  have hb0 : Below w.heap.size w (w.alloc (.cells #[.int .i64 k, .string a, .string b, .string c] 24)) := below_alloc (Below.refl _ _) _
  have hbx := heap_alloc_new w (.cells #[.int .i64 k, .string a, .string b, .string c] 24)
  generalize w.alloc (.cells #[.int .i64 k, .string a, .string b, .string c] 24) = w1 at hb0 hbx ⊢
  have H1 := Aside0.mk (H.out.next hb0)
  have HB0 := Aside0.mk hb0
  have HX := Aside0.mk hbx
  have x0 := blk_cell hbx 0
  have x1 := blk_cell hbx 1
  have x2 := blk_cell hbx 2
  have x3 := blk_cell hbx 3
  clear hbx hb0
  refine (H1.out.get a).mono ?_
  rintro e w2 ⟨rfl, _, hb⟩
  have HB := Aside0.mk (below_then HB0.out HB0.out.size hb)
  have y2 := blk_cell (blk_below HX.out hb) 2
  clear hb x0 x1 x2 x3
  by_cases hf : fnd cs a < 0
  · have HW := Aside0.mk (show wasN cs a b = 8 from by unfold wasN; rw [if_pos hf])
    rw [if_pos hf, show decide (0 ≤ fnd cs a) = false from by simp; omega]
    go_wp2
    go_ret
    exact ⟨by rw [HW.out]; rfl, HB.out⟩
  · rw [if_neg hf, show decide (0 ≤ fnd cs a) = true from by simp; omega]
    cases he : (rd_TGCell cs (fnd cs a)).f2.toList == b.toList with
    | true =>
      have HW := Aside0.mk (show wasN cs a b = 0 from by unfold wasN; rw [if_neg hf, if_pos he])
      go_wp2
      go_ret
      exact ⟨by rw [HW.out]; rfl, HB.out⟩
    | false =>
      have HW := Aside0.mk (show wasN cs a b = 10 from by unfold wasN; rw [if_neg hf, if_neg (by rw [he]; simp)])
      go_wp2
      go_ret
      exact ⟨by rw [HW.out]; rfl, HB.out⟩
set_option maxHeartbeats 1000000 in
theorem do1_calls (h : Here w0 w ok g id lsn cs) (k : Int) (a b c : ByteArray) : Calls Try.prog 48 #[.pointer (some ⟨g, 0, none⟩), .agg #[.int .i64 k, .string a, .string b, .string c]] w fun e w' => e = .returned (.int .i64 (ins cs a c).2) ∧ After w0 w w' ok g id lsn (ins cs a c).1 := by
  have H := Aside0.mk h
  clear h
  go_enter Try.func48, Try.ntmps48
  go_wp2_with fail
  have hb0 : Below w.heap.size w (w.alloc (.cells #[.int .i64 k, .string a, .string b, .string c] 24)) := below_alloc (Below.refl _ _) _
  have hbx := heap_alloc_new w (.cells #[.int .i64 k, .string a, .string b, .string c] 24)
  generalize w.alloc (.cells #[.int .i64 k, .string a, .string b, .string c] 24) = w1 at hb0 hbx ⊢
  have H1 := Aside0.mk (H.out.next hb0)
  have HB0 := Aside0.mk hb0
  have HX := Aside0.mk hbx
  have x0 := blk_cell hbx 0
  have x1 := blk_cell hbx 1
  have x2 := blk_cell hbx 2
  have x3 := blk_cell hbx 3
  clear hbx hb0
  refine (H1.out.insert a c).mono ?_
  rintro e w2 ⟨rfl, hh, hk⟩
  have HA := Aside0.mk (After.pre HB0.out ⟨hh, hk⟩)
  clear hh hk
  go_wp2
  go_ret
  exact ⟨rfl, HA.out⟩
set_option maxHeartbeats 1000000 in
theorem do2_calls (h : Here w0 w ok g id lsn cs) (k : Int) (a b c : ByteArray) : Calls Try.prog 50 #[.pointer (some ⟨g, 0, none⟩), .agg #[.int .i64 k, .string a, .string b, .string c]] w fun e w' => e = .returned (.int .i64 (if wasN cs a b = 0 then upd cs a c else (cs, wasN cs a b)).2) ∧ After w0 w w' ok g id lsn (if wasN cs a b = 0 then upd cs a c else (cs, wasN cs a b)).1 := by
  have H := Aside0.mk h
  clear h
  by_cases hz : wasN cs a b = 0
  · rw [if_pos hz]
    have HZ := Aside0.mk hz
    clear hz
    go_enter Try.func50, Try.ntmps50
    go_wp2_with fail
    have hb0 : Below w.heap.size w (w.alloc (.cells #[.int .i64 k, .string a, .string b, .string c] 24)) := below_alloc (Below.refl _ _) _
    have hbx := heap_alloc_new w (.cells #[.int .i64 k, .string a, .string b, .string c] 24)
    generalize w.alloc (.cells #[.int .i64 k, .string a, .string b, .string c] 24) = w1 at hb0 hbx ⊢
    have H1 := Aside0.mk (H.out.next hb0)
    have HB0 := Aside0.mk hb0
    have HX := Aside0.mk hbx
    have x0 := blk_cell hbx 0
    have x1 := blk_cell hbx 1
    have x2 := blk_cell hbx 2
    have x3 := blk_cell hbx 3
    clear hbx hb0
    refine (was_calls H1.out k a b c).mono ?_
    rintro e w2 ⟨rfl, hb⟩
    have HB := Aside0.mk (below_then HB0.out HB0.out.size hb)
    have H2 := Aside0.mk (H1.out.next hb)
    have HX2 := Aside0.mk (blk_below HX.out hb)
    have y1 := blk_cell HX2.out 1
    have y3 := blk_cell HX2.out 3
    clear hb x0 x1 x2 x3
    rw [HZ.out]
    go_wp2_with fail
    refine (H2.out.update a c).mono ?_
    rintro e w3 ⟨rfl, hh, hk⟩
    have HA := Aside0.mk (After.pre HB.out ⟨hh, hk⟩)
    clear hh hk
    go_wp2
    go_ret
    exact ⟨rfl, HA.out⟩
  · rw [if_neg hz]
    go_enter Try.func50, Try.ntmps50
    go_wp2_with fail
    have hb0 : Below w.heap.size w (w.alloc (.cells #[.int .i64 k, .string a, .string b, .string c] 24)) := below_alloc (Below.refl _ _) _
    have hbx := heap_alloc_new w (.cells #[.int .i64 k, .string a, .string b, .string c] 24)
    generalize w.alloc (.cells #[.int .i64 k, .string a, .string b, .string c] 24) = w1 at hb0 hbx ⊢
    have H1 := Aside0.mk (H.out.next hb0)
    have HB0 := Aside0.mk hb0
    have HX := Aside0.mk hbx
    have x0 := blk_cell hbx 0
    have x1 := blk_cell hbx 1
    have x2 := blk_cell hbx 2
    have x3 := blk_cell hbx 3
    clear hbx hb0
    refine (was_calls H1.out k a b c).mono ?_
    rintro e w2 ⟨rfl, hb⟩
    have HB := Aside0.mk (below_then HB0.out HB0.out.size hb)
    clear hb x0 x1 x2 x3
    go_wp2
    go_ret
    exact ⟨rfl, H.out.same HB.out⟩
set_option maxHeartbeats 1000000 in
theorem do3_calls (h : Here w0 w ok g id lsn cs) (k : Int) (a b c : ByteArray) : Calls Try.prog 54 #[.pointer (some ⟨g, 0, none⟩), .agg #[.int .i64 k, .string a, .string b, .string c]] w fun e w' => e = .returned (.int .i64 (if wasN cs a b = 0 then del cs a else (cs, wasN cs a b)).2) ∧ After w0 w w' ok g id lsn (if wasN cs a b = 0 then del cs a else (cs, wasN cs a b)).1 := by
  have H := Aside0.mk h
  clear h
  by_cases hz : wasN cs a b = 0
  · rw [if_pos hz]
    have HZ := Aside0.mk hz
    clear hz
    go_enter Try.func54, Try.ntmps54
    go_wp2_with fail
    have hb0 : Below w.heap.size w (w.alloc (.cells #[.int .i64 k, .string a, .string b, .string c] 24)) := below_alloc (Below.refl _ _) _
    have hbx := heap_alloc_new w (.cells #[.int .i64 k, .string a, .string b, .string c] 24)
    generalize w.alloc (.cells #[.int .i64 k, .string a, .string b, .string c] 24) = w1 at hb0 hbx ⊢
    have H1 := Aside0.mk (H.out.next hb0)
    have HB0 := Aside0.mk hb0
    have HX := Aside0.mk hbx
    have x0 := blk_cell hbx 0
    have x1 := blk_cell hbx 1
    have x2 := blk_cell hbx 2
    have x3 := blk_cell hbx 3
    clear hbx hb0
    refine (was_calls H1.out k a b c).mono ?_
    rintro e w2 ⟨rfl, hb⟩
    have HB := Aside0.mk (below_then HB0.out HB0.out.size hb)
    have H2 := Aside0.mk (H1.out.next hb)
    have HX2 := Aside0.mk (blk_below HX.out hb)
    have y1 := blk_cell HX2.out 1
    have y3 := blk_cell HX2.out 3
    clear hb x0 x1 x2 x3
    rw [HZ.out]
    go_wp2_with fail
    refine (H2.out.delete a).mono ?_
    rintro e w3 ⟨rfl, hh, hk⟩
    have HA := Aside0.mk (After.pre HB.out ⟨hh, hk⟩)
    clear hh hk
    go_wp2
    go_ret
    exact ⟨rfl, HA.out⟩
  · rw [if_neg hz]
    go_enter Try.func54, Try.ntmps54
    go_wp2_with fail
    have hb0 : Below w.heap.size w (w.alloc (.cells #[.int .i64 k, .string a, .string b, .string c] 24)) := below_alloc (Below.refl _ _) _
    have hbx := heap_alloc_new w (.cells #[.int .i64 k, .string a, .string b, .string c] 24)
    generalize w.alloc (.cells #[.int .i64 k, .string a, .string b, .string c] 24) = w1 at hb0 hbx ⊢
    have H1 := Aside0.mk (H.out.next hb0)
    have HB0 := Aside0.mk hb0
    have HX := Aside0.mk hbx
    have x0 := blk_cell hbx 0
    have x1 := blk_cell hbx 1
    have x2 := blk_cell hbx 2
    have x3 := blk_cell hbx 3
    clear hbx hb0
    refine (was_calls H1.out k a b c).mono ?_
    rintro e w2 ⟨rfl, hb⟩
    have HB := Aside0.mk (below_then HB0.out HB0.out.size hb)
    clear hb x0 x1 x2 x3
    go_wp2
    go_ret
    exact ⟨rfl, H.out.same HB.out⟩
theorem After.mono {w' : World} {ok' : Nat → Prop} (h : After w0 w w' ok g id lsn cs) (hk : ∀ k, ok k → ok' k) : After w0 w w' ok' g id lsn cs :=
  ⟨h.here.mono (fun k h => h.elim (fun h => .inl (hk k h)) .inr), h.kept.mono hk⟩
set_option maxHeartbeats 1000000 in
theorem do_nil (w : World) (k : Int) (a b c : ByteArray) : Calls Try.prog 21 #[.pointer none, .agg #[.int .i64 k, .string a, .string b, .string c]] w fun e w' => e = .returned (.int .i64 1) ∧ Below w.heap.size w w' := by
  go_enter Try.func21, Try.ntmps21
  go_wp2
  go_ret
  exact ⟨rfl, by repeat (first | exact Below.refl _ _ | apply below_alloc | apply below_drew)⟩
theorem field1 (x y z : Value) (w : World) : (Instr.field 69 (.agg #[x, y, z]) 1).run Try.prog w = .ok y w := by
  kernel_rfl
set_option maxRecDepth 100000 in
set_option maxHeartbeats 2000000 in
theorem do_calls (h : Here w0 w ok g id lsn cs) (k : Int) (a b c : ByteArray) (ha : a.size ≤ 140737488351232) (hb : b.size ≤ 140737488351232) (hc : c.size ≤ 140737488351232) : Calls Try.prog 21 #[.pointer (some ⟨g, 0, none⟩), .agg #[.int .i64 k, .string a, .string b, .string c]] w fun e w' => e = .returned (.int .i64 (actDo cs k a b c).2) ∧ After w0 w w' ok g id lsn (actDo cs k a b c).1 := by
  have HH := Aside0.mk h
  have H := Aside0.mk h.bound
  clear h
  go_enter Try.func21, Try.ntmps21
  go_wp2_with fail
  have hb0 : Below w.heap.size w (w.alloc (.cells #[.int .i64 k, .string a, .string b, .string c] 24)) := below_alloc (Below.refl _ _) _
  have hbx := heap_alloc_new w (.cells #[.int .i64 k, .string a, .string b, .string c] 24)
  generalize w.alloc (.cells #[.int .i64 k, .string a, .string b, .string c] 24) = w1 at hb0 hbx ⊢
  have H1 := Aside0.mk (H.out.next hb0)
  have HB0 := Aside0.mk hb0
  have HX := Aside0.mk hbx
  have x0 := blk_cell hbx 0
  have x1 := blk_cell hbx 1
  have x2 := blk_cell hbx 2
  have x3 := blk_cell hbx 3
  clear hbx hb0
  have hle : w.heap.size < w1.heap.size := blk_lt HX.out
  refine (actmay_calls w1 k a b c ha hb hc).mono ?_
  rintro e w2 ⟨rfl, hb2⟩
  have HB2 := Aside0.mk (below_then HB0.out HB0.out.size hb2)
  have H2 := Aside0.mk (H1.out.next hb2)
  have HX2 := Aside0.mk (blk_below HX.out hb2)
  clear hb2 x0 x1 x2 x3 hle
  have x0 := blk_cell HX2.out 0
  have x1 := blk_cell HX2.out 1
  have x2 := blk_cell HX2.out 2
  have x3 := blk_cell HX2.out 3
  cases hm : actMay k a b c with
  | false =>
    have HD := Aside0.mk (show actDo cs k a b c = (cs, 1) from by unfold actDo; rw [hm]; rfl)
    clear hm
    go_wp2
    go_ret
    exact ⟨by rw [HD.out]; rfl, by rw [HD.out]; exact HH.out.same HB2.out⟩
  | true =>
    have HX3 := HX2
    have HB3 := HB2
    have H3 := H2
    have hfl : ∀ (x y z : Value) (wz : World), (Instr.field 69 (.agg #[x, y, z]) 1).run Try.prog wz = .ok y wz := field1
    rcases may_kind hm with rfl | rfl | rfl
    · skip
      have HD := Aside0.mk (show actDo cs 1 a b c = (ins cs a c) from by unfold actDo; rw [hm]; rfl)
      clear hm
      go_wp2_with fail
      go_region_held3 (fun wx => wx.cell? ⟨w.heap.size, 0, none⟩ = some (.int .i64 1) ∧ wx.cell? ⟨w.heap.size, 1, none⟩ = some (.string a) ∧ wx.cell? ⟨w.heap.size, 2, none⟩ = some (.string b) ∧ wx.cell? ⟨w.heap.size, 3, none⟩ = some (.string c)) (go_keep) ((first | (go_at_call 29; refine (ways_calls _).mono ?_; rintro e w4 ⟨rfl, hmap, hb⟩; have y0 := blk_cell (blk_below (blk_drew HX3.out) hb) 0; have y1 := blk_cell (blk_below (blk_drew HX3.out) hb) 1; have y2 := blk_cell (blk_below (blk_drew HX3.out) hb) 2; have y3 := blk_cell (blk_below (blk_drew HX3.out) hb) 3; have HX4 := Aside0.mk (blk_below (blk_drew HX3.out) hb); have HM := Aside0.mk hmap; have H4 := Aside0.mk (H3.out.drew.next hb); have HB4 := Aside0.mk (below_then (below_drew HB3.out) (below_drew HB3.out).size hb); clear hmap hb) | (rw [run_look (v := (.agg #[.func (.func 47) #[] #[], .func (.func 48) #[] #[], .int .i64 3])) Try.underlying70 Try.underlying22 (by exact HM.out) 1 rfl]) | (go_at_call 48; refine (do1_calls H4.out 1 a b c).mono ?_; rintro e w5 ⟨rfl, hA⟩; have hz := blk_kept HX4.out hA.kept (fun h => Nat.lt_irrefl _ h.2); have z0 := blk_cell hz 0; have z1 := blk_cell hz 1; have z2 := blk_cell hz 2; have z3 := blk_cell hz 3; have HA := Aside0.mk (After.pre HB4.out hA); clear hA hz)))
      all_goals
        go_wp2
        go_ret
        exact ⟨by rw [HD.out]; rfl, by rw [HD.out]; exact HA.out.mono (fun k hk => hk.1)⟩
    · by_cases hz : wasN cs a b = 0
      · have HZ := Aside0.mk hz
        clear hz
        have HD := Aside0.mk (show actDo cs 2 a b c = (upd cs a c) from by unfold actDo; rw [hm]; rw [if_pos rfl, if_neg (by decide)]; rw [if_pos HZ.out]; rfl)
        clear hm
        go_wp2_with fail
        go_region_held3 (fun wx => wx.cell? ⟨w.heap.size, 0, none⟩ = some (.int .i64 2) ∧ wx.cell? ⟨w.heap.size, 1, none⟩ = some (.string a) ∧ wx.cell? ⟨w.heap.size, 2, none⟩ = some (.string b) ∧ wx.cell? ⟨w.heap.size, 3, none⟩ = some (.string c)) (go_keep) ((first | (go_at_call 29; refine (ways_calls _).mono ?_; rintro e w4 ⟨rfl, hmap, hb⟩; have y0 := blk_cell (blk_below (blk_drew HX3.out) hb) 0; have y1 := blk_cell (blk_below (blk_drew HX3.out) hb) 1; have y2 := blk_cell (blk_below (blk_drew HX3.out) hb) 2; have y3 := blk_cell (blk_below (blk_drew HX3.out) hb) 3; have HX4 := Aside0.mk (blk_below (blk_drew HX3.out) hb); have HM := Aside0.mk hmap; have H4 := Aside0.mk (H3.out.drew.next hb); have HB4 := Aside0.mk (below_then (below_drew HB3.out) (below_drew HB3.out).size hb); clear hmap hb) | (rw [run_look (v := (.agg #[.func (.func 49) #[] #[], .func (.func 50) #[] #[], .int .i64 2])) Try.underlying70 Try.underlying22 (by exact HM.out) 2 rfl]) | (go_at_call 50; refine (do2_calls H4.out 2 a b c).mono ?_; rintro e w5 ⟨rfl, hA⟩; rw [if_pos HZ.out] at hA; rw [if_pos HZ.out]; have hz := blk_kept HX4.out hA.kept (fun h => Nat.lt_irrefl _ h.2); have z0 := blk_cell hz 0; have z1 := blk_cell hz 1; have z2 := blk_cell hz 2; have z3 := blk_cell hz 3; have HA := Aside0.mk (After.pre HB4.out hA); clear hA hz)))
        all_goals
          go_wp2
          go_ret
          exact ⟨by rw [HD.out]; rfl, by rw [HD.out]; exact HA.out.mono (fun k hk => hk.1)⟩
      · have HZ := Aside0.mk hz
        clear hz
        have HD := Aside0.mk (show actDo cs 2 a b c = (cs, wasN cs a b) from by unfold actDo; rw [hm]; rw [if_pos rfl, if_neg (by decide)]; rw [if_neg HZ.out])
        clear hm
        go_wp2_with fail
        go_region_held3 (fun wx => wx.cell? ⟨w.heap.size, 0, none⟩ = some (.int .i64 2) ∧ wx.cell? ⟨w.heap.size, 1, none⟩ = some (.string a) ∧ wx.cell? ⟨w.heap.size, 2, none⟩ = some (.string b) ∧ wx.cell? ⟨w.heap.size, 3, none⟩ = some (.string c)) (go_keep) ((first | (go_at_call 29; refine (ways_calls _).mono ?_; rintro e w4 ⟨rfl, hmap, hb⟩; have y0 := blk_cell (blk_below (blk_drew HX3.out) hb) 0; have y1 := blk_cell (blk_below (blk_drew HX3.out) hb) 1; have y2 := blk_cell (blk_below (blk_drew HX3.out) hb) 2; have y3 := blk_cell (blk_below (blk_drew HX3.out) hb) 3; have HX4 := Aside0.mk (blk_below (blk_drew HX3.out) hb); have HM := Aside0.mk hmap; have H4 := Aside0.mk (H3.out.drew.next hb); have HB4 := Aside0.mk (below_then (below_drew HB3.out) (below_drew HB3.out).size hb); clear hmap hb) | (rw [run_look (v := (.agg #[.func (.func 49) #[] #[], .func (.func 50) #[] #[], .int .i64 2])) Try.underlying70 Try.underlying22 (by exact HM.out) 2 rfl]) | (go_at_call 50; refine (do2_calls H4.out 2 a b c).mono ?_; rintro e w5 ⟨rfl, hA⟩; rw [if_neg HZ.out] at hA; rw [if_neg HZ.out]; have hz := blk_kept HX4.out hA.kept (fun h => Nat.lt_irrefl _ h.2); have z0 := blk_cell hz 0; have z1 := blk_cell hz 1; have z2 := blk_cell hz 2; have z3 := blk_cell hz 3; have HA := Aside0.mk (After.pre HB4.out hA); clear hA hz)))
        all_goals
          go_wp2
          go_ret
          exact ⟨by rw [HD.out]; rfl, by rw [HD.out]; exact HA.out.mono (fun k hk => hk.1)⟩
    · by_cases hz : wasN cs a b = 0
      · have HZ := Aside0.mk hz
        clear hz
        have HD := Aside0.mk (show actDo cs 3 a b c = (del cs a) from by unfold actDo; rw [hm]; rw [if_pos rfl, if_neg (by decide)]; rw [if_pos HZ.out]; rfl)
        clear hm
        go_wp2_with fail
        go_region_held3 (fun wx => wx.cell? ⟨w.heap.size, 0, none⟩ = some (.int .i64 3) ∧ wx.cell? ⟨w.heap.size, 1, none⟩ = some (.string a) ∧ wx.cell? ⟨w.heap.size, 2, none⟩ = some (.string b) ∧ wx.cell? ⟨w.heap.size, 3, none⟩ = some (.string c)) (go_keep) ((first | (go_at_call 29; refine (ways_calls _).mono ?_; rintro e w4 ⟨rfl, hmap, hb⟩; have y0 := blk_cell (blk_below (blk_drew HX3.out) hb) 0; have y1 := blk_cell (blk_below (blk_drew HX3.out) hb) 1; have y2 := blk_cell (blk_below (blk_drew HX3.out) hb) 2; have y3 := blk_cell (blk_below (blk_drew HX3.out) hb) 3; have HX4 := Aside0.mk (blk_below (blk_drew HX3.out) hb); have HM := Aside0.mk hmap; have H4 := Aside0.mk (H3.out.drew.next hb); have HB4 := Aside0.mk (below_then (below_drew HB3.out) (below_drew HB3.out).size hb); clear hmap hb) | (rw [run_look (v := (.agg #[.func (.func 53) #[] #[], .func (.func 54) #[] #[], .int .i64 1])) Try.underlying70 Try.underlying22 (by exact HM.out) 3 rfl]) | (go_at_call 54; refine (do3_calls H4.out 3 a b c).mono ?_; rintro e w5 ⟨rfl, hA⟩; rw [if_pos HZ.out] at hA; rw [if_pos HZ.out]; have hz := blk_kept HX4.out hA.kept (fun h => Nat.lt_irrefl _ h.2); have z0 := blk_cell hz 0; have z1 := blk_cell hz 1; have z2 := blk_cell hz 2; have z3 := blk_cell hz 3; have HA := Aside0.mk (After.pre HB4.out hA); clear hA hz)))
        all_goals
          go_wp2
          go_ret
          exact ⟨by rw [HD.out]; rfl, by rw [HD.out]; exact HA.out.mono (fun k hk => hk.1)⟩
      · have HZ := Aside0.mk hz
        clear hz
        have HD := Aside0.mk (show actDo cs 3 a b c = (cs, wasN cs a b) from by unfold actDo; rw [hm]; rw [if_pos rfl, if_neg (by decide)]; rw [if_neg HZ.out])
        clear hm
        go_wp2_with fail
        go_region_held3 (fun wx => wx.cell? ⟨w.heap.size, 0, none⟩ = some (.int .i64 3) ∧ wx.cell? ⟨w.heap.size, 1, none⟩ = some (.string a) ∧ wx.cell? ⟨w.heap.size, 2, none⟩ = some (.string b) ∧ wx.cell? ⟨w.heap.size, 3, none⟩ = some (.string c)) (go_keep) ((first | (go_at_call 29; refine (ways_calls _).mono ?_; rintro e w4 ⟨rfl, hmap, hb⟩; have y0 := blk_cell (blk_below (blk_drew HX3.out) hb) 0; have y1 := blk_cell (blk_below (blk_drew HX3.out) hb) 1; have y2 := blk_cell (blk_below (blk_drew HX3.out) hb) 2; have y3 := blk_cell (blk_below (blk_drew HX3.out) hb) 3; have HX4 := Aside0.mk (blk_below (blk_drew HX3.out) hb); have HM := Aside0.mk hmap; have H4 := Aside0.mk (H3.out.drew.next hb); have HB4 := Aside0.mk (below_then (below_drew HB3.out) (below_drew HB3.out).size hb); clear hmap hb) | (rw [run_look (v := (.agg #[.func (.func 53) #[] #[], .func (.func 54) #[] #[], .int .i64 1])) Try.underlying70 Try.underlying22 (by exact HM.out) 3 rfl]) | (go_at_call 54; refine (do3_calls H4.out 3 a b c).mono ?_; rintro e w5 ⟨rfl, hA⟩; rw [if_neg HZ.out] at hA; rw [if_neg HZ.out]; have hz := blk_kept HX4.out hA.kept (fun h => Nat.lt_irrefl _ h.2); have z0 := blk_cell hz 0; have z1 := blk_cell hz 1; have z2 := blk_cell hz 2; have z3 := blk_cell hz 3; have HA := Aside0.mk (After.pre HB4.out hA); clear hA hz)))
        all_goals
          go_wp2
          go_ret
          exact ⟨by rw [HD.out]; rfl, by rw [HD.out]; exact HA.out.mono (fun k hk => hk.1)⟩
end
end Go.Proofs.Ytidgfigfebkieaa
