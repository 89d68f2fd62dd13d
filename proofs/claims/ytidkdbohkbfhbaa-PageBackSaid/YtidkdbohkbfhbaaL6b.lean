/- Layer 6: PageRoom's walk. -/
import Derived.Test.YtidkdbohkbfhbaaL6m
import Derived.Test.YtidkdbohkbfhbaaLr
namespace Go.Proofs.Ytidkdbohkbfhbaa
open Go.RowKit Go.Proofs.YtidkdbohkbfhbaaW.PrintWords Go.Proofs.YtidkdbohkbfhbaaW.PrintLast Go.Proofs.YtidkdbohkbfhbaaW.PrintMore
open Rf
set_option linter.unusedVariables false
set_option linter.unusedSimpArgs false

theorem IsPg.drew {w : World} {base : Nat} {ok : Nat → Prop} {g : Nat} {id lsn : Int} {cs : List SGCell} (h : IsPg w base ok g id lsn cs) : IsPg w.drew base ok g id lsn cs := by
  obtain ⟨a, b, v, h1, h2⟩ := h
  exact ⟨a, b, v, h1, Kd.R_drew h2⟩
theorem mkS_ints (L : List UInt8) : strOfNums (ints L) = mkS L := by
  apply ByteArray.ext
  apply Array.ext'
  have h : ∀ x : UInt8, UInt8.ofNat (((x.toNat : Nat) : Int)).toNat = x := fun x => by simp
  simp only [strOfNums, ints, mkS, List.map_map]
  conv => rhs; rw [← List.map_id L]
  refine List.map_congr_left (fun x _ => h x)
theorem buf_string {w : World} {g : Nat} {L : List UInt8} (h : BufAt w g L) (n : Nat) (hn : L.length = n) (hl : n ≤ 1000000) : (convert 38 9 (.slice (some ⟨g, 0, none⟩) n n)).run Try.prog w = .ok (.string (mkS L)) w := by
  have hr := h.reads 0 (Nat.zero_le _) (by omega)
  rw [Nat.sub_zero, List.drop_zero, hn] at hr
  rw [string_of_reads Try.underlying38 Try.underlying5 Try.underlying9 hr, mkS_ints]
theorem pg_string {w : World} {g id lsn : Nat} {cs : List SGCell} (h : BufAt w g (pgB id lsn cs)) (hv : Valid cs) : (convert 38 9 (.slice (some ⟨g, 0, none⟩) 512 512)).run Try.prog w = .ok (.string (mkS (pgB id lsn cs))) w :=
  buf_string h 512 (pgB_length id lsn cs hv.room4) (by omega)

/-- The call's own page, as it stands in a world behind w0. -/
structure Here (w0 w : World) (ok : Nat → Prop) (g : Nat) (id lsn : Nat) (cs : List SGCell) : Prop where
  pg : IsPg w w0.heap.size ok g id lsn cs
  bel : Below w0.heap.size w0 w
  val : Valid cs
  id16 : id < 16
  lsn64 : lsn < 18446744073709551616
theorem Here.drew {w0 w : World} {ok : Nat → Prop} {g id lsn : Nat} {cs : List SGCell} (h : Here w0 w ok g id lsn cs) : Here w0 w.drew ok g id lsn cs := ⟨h.pg.drew, below_drew h.bel, h.val, h.id16, h.lsn64⟩
theorem Here.next {w0 w w' : World} {ok : Nat → Prop} {g id lsn : Nat} {cs : List SGCell} (h : Here w0 w ok g id lsn cs) (hb : Below w.heap.size w w') : Here w0 w' ok g id lsn cs := ⟨h.pg.below hb, below_then h.bel h.bel.size hb, h.val, h.id16, h.lsn64⟩
section
variable {w0 w : World} {ok : Nat → Prop} {g id lsn : Nat} {cs : List SGCell}
theorem Here.free (h : Here w0 w ok g id lsn cs) : Calls Try.prog 16 #[.pointer (some ⟨g, 0, none⟩)] w fun e w' => e = .returned (.int .i64 (free cs)) ∧ Here w0 w' ok g id lsn cs ∧ Below w.heap.size w w' :=
  (free_pg w _ ok g id lsn cs h.pg h.val.small).mono (by rintro e w' ⟨rfl, hb⟩; exact ⟨rfl, h.next hb, hb⟩)
theorem Here.get (h : Here w0 w ok g id lsn cs) (key : ByteArray) : Calls Try.prog 18 #[.pointer (some ⟨g, 0, none⟩), .string key] w fun e w' => e = .returned (.tuple #[.string (if fnd cs key < 0 then ⟨#[]⟩ else (rd_TGCell cs (fnd cs key)).f2), .bool (decide (0 ≤ fnd cs key))]) ∧ Here w0 w' ok g id lsn cs ∧ Below w.heap.size w w' :=
  (get_pg w _ ok g id lsn cs key h.pg h.val.small.big).mono (by rintro e w' ⟨rfl, hb⟩; exact ⟨rfl, h.next hb, hb⟩)
theorem Here.bytes (h : Here w0 w ok g id lsn cs) : Calls Try.prog 15 #[.pointer (some ⟨g, 0, none⟩)] w fun e w' => e = .returned (.slice (some ⟨w.heap.size, 0, none⟩) 512 512) ∧ BufAt w' w.heap.size (pgB id lsn cs) ∧ Here w0 w' ok g id lsn cs ∧ Below w.heap.size w w' :=
  (bytes_pg w _ ok g id lsn cs h.pg h.val.small h.val.room4 (by have := h.id16; omega) h.lsn64).mono (by rintro e w' ⟨rfl, hf, hb⟩; exact ⟨rfl, hf, h.next hb, hb⟩)
theorem Here.cells (h : Here w0 w ok g id lsn cs) : Calls Try.prog 17 #[.pointer (some ⟨g, 0, none⟩)] w fun e w' => ∃ A c, e = .returned (.slice A cs.length c) ∧ Kd.R kGCell 46 w' w.heap.size (fun k => w.heap.size ≤ k) (.slice A cs.length c) cs ∧ Here w0 w' ok g id lsn cs ∧ Below w.heap.size w w' :=
  (cells_pg w _ ok g id lsn cs h.pg h.val.small.big).mono (by
    rintro e w' ⟨v, rfl, hR, hb⟩
    obtain ⟨A, c, rfl⟩ := Kd.R_slice hR
    exact ⟨A, c, rfl, hR, h.next hb, hb⟩)
theorem Here.insert (h : Here w0 w ok g id lsn cs) (key value : ByteArray) : Calls Try.prog 19 #[.pointer (some ⟨g, 0, none⟩), .string key, .string value] w fun e w' => e = .returned (.int .i64 (ins cs key value).2) ∧ Here w0 w' (fun k => ok k ∨ w.heap.size ≤ k) g id lsn (ins cs key value).1 ∧ Kept w w' ok :=
  (insert_calls w0 w ok g id lsn cs key value h.bel h.pg h.val.small h.val.len).mono (by rintro e w' ⟨rfl, hp, hb, hk⟩; exact ⟨rfl, ⟨hp, hb, h.val.ins key value, h.id16, h.lsn64⟩, hk⟩)
theorem Here.update (h : Here w0 w ok g id lsn cs) (key value : ByteArray) : Calls Try.prog 26 #[.pointer (some ⟨g, 0, none⟩), .string key, .string value] w fun e w' => e = .returned (.int .i64 (upd cs key value).2) ∧ Here w0 w' (fun k => ok k ∨ w.heap.size ≤ k) g id lsn (upd cs key value).1 ∧ Kept w w' ok :=
  (update_calls w0 w ok g id lsn cs key value h.bel h.pg h.val.small).mono (by rintro e w' ⟨rfl, hp, hb, hk⟩; exact ⟨rfl, ⟨hp, hb, h.val.upd key value, h.id16, h.lsn64⟩, hk⟩)
theorem Here.delete (h : Here w0 w ok g id lsn cs) (key : ByteArray) : Calls Try.prog 20 #[.pointer (some ⟨g, 0, none⟩), .string key] w fun e w' => e = .returned (.int .i64 (del cs key).2) ∧ Here w0 w' (fun k => ok k ∨ w.heap.size ≤ k) g id lsn (del cs key).1 ∧ Kept w w' ok :=
  (delete_calls w0 w ok g id lsn cs key h.bel h.pg h.val.small.big).mono (by rintro e w' ⟨rfl, hp, hb, hk⟩; exact ⟨rfl, ⟨hp, hb, h.val.del key, h.id16, h.lsn64⟩, hk⟩)
end
theorem Own.here {w0 w : World} {g : Nat} {id : Int} (h : Own w0 w g id) (h0 : 0 ≤ id) (h1 : id < 16) : ∃ ok, ∃ id' lsn' : Nat, ∃ cs, id = id' ∧ Here w0 w ok g id' lsn' cs ∧ Used cs := by
  obtain ⟨⟨ok, lsn, cs, hp, hv, hu, h2, h3⟩, hb⟩ := h
  obtain ⟨id', rfl⟩ := Int.eq_ofNat_of_zero_le h0
  obtain ⟨lsn', rfl⟩ := Int.eq_ofNat_of_zero_le h2
  exact ⟨ok, id', lsn', cs, rfl, ⟨hp, hb, hv, by omega, by omega⟩, hu⟩

set_option maxRecDepth 100000 in
set_option maxHeartbeats 4000000 in
theorem room_walk (w : World) (id : Int) (l : List SGOp) (A : Option Addr) (c : Nat) (key value : ByteArray) (hC : Kd.C kGOp w A l.length l) (hl : l.length ≤ 140737488351232) (hw : ∀ o ∈ l, 0 ≤ o.f3 ∧ o.f3 < 18446744073709551616)
    (hk : key.size ≤ 140737488351232) (hv : value.size ≤ 140737488351232) :
    Calls Try.prog 4 #[.int .i64 id, .slice A l.length c, .agg #[.string key, .string value]] w fun e w' => e = .returned (.bool true) ∧ Below w.heap.size w w' := by
  have HC := Aside0.mk hC
  have HW := Aside0.mk hw
  clear hC hw
  go_enter Try.func4, Try.ntmps4
  go_wp2_with fail
  have hb0 : Below w.heap.size w (w.alloc (.cells #[.string key, .string value] 36)) := below_alloc (Below.refl _ _) _
  have hx0 : (w.alloc (.cells #[.string key, .string value] 36)).cell? ⟨w.heap.size, 0, none⟩ = some (.string key) := blk_cell (heap_alloc_new w _) 0
  have hx1 : (w.alloc (.cells #[.string key, .string value] 36)).cell? ⟨w.heap.size, 1, none⟩ = some (.string value) := blk_cell (heap_alloc_new w _) 1
  generalize w.alloc (.cells #[.string key, .string value] 36) = wb at hb0 hx0 hx1 ⊢
  have HB0 := Aside0.mk hb0
  clear hb0
  by_cases hid : 0 ≤ id ∧ id < 16
  · refine (made_ok wb id l A c (Kd.C_below HC.out HB0.out) hl HW.out hid.1 hid.2).mono ?_
    rintro e w1 ⟨g, rfl, ho⟩
    have hy0 : w1.cell? ⟨w.heap.size, 0, none⟩ = some (.string key) := pw_cell_below ho.bel hx0
    have hy1 : w1.cell? ⟨w.heap.size, 1, none⟩ = some (.string value) := pw_cell_below ho.bel hx1
    clear hx0 hx1
    obtain ⟨ok, id', lsn', cs, rfl, hh, hu⟩ := ho.here hid.1 hid.2
    have HB1 := Aside0.mk (below_then HB0.out HB0.out.size ho.bel)
    have HH := Aside0.mk hh
    have HU := Aside0.mk hu
    clear ho hid hh hu
    have hbad : ¬ mayB key value = true → key.size < 1 ∨ 16 < key.size ∨ 32 < value.size := by rw [mayB_iff]; omega
    have hgood : mayB key value = true → ¬ key.size < 1 ∧ ¬ 16 < key.size ∧ ¬ 32 < value.size := by rw [mayB_iff]; omega
    by_cases hm : mayB key value = true
    · obtain ⟨m1, m2, m3⟩ := hgood hm
      clear hbad hgood
      go_wp2_with fail
      go_region_held3 (fun wx => wx.cell? ⟨w.heap.size, 0, none⟩ = some (.string key) ∧ wx.cell? ⟨w.heap.size, 1, none⟩ = some (.string value)) (go_keep) (fail)
      go_wp2_with fail
      go_region_with ((first | (go_at_call 15; refine HH.out.drew.drew.bytes.mono ?_; rintro e w2 ⟨rfl, hbuf, hh, hb⟩; replace hbuf : BufAt w2 w1.heap.size (pgB id' lsn' cs) := hbuf; have hcv2 := pg_string hbuf HH.out.val; have HBUF := Aside0.mk hbuf; have HH2 := Aside0.mk hh; clear hbuf hh hb) | (go_at_call 16; refine HH2.out.free.mono ?_; rintro e w3 ⟨rfl, hh, hb⟩; have hcv3 := pg_string (HBUF.out.below hb) HH.out.val; have HBUF3 := Aside0.mk (HBUF.out.below hb); have HH3 := Aside0.mk hh; clear hh hb) | (go_at_call 17; refine HH3.out.cells.mono ?_; rintro e w4 ⟨As, csz, rfl, hR, hh, hb⟩; have hcv4 := pg_string (HBUF3.out.below hb) HH.out.val; have HH4 := Aside0.mk hh; have HR := Aside0.mk hR; clear hh hb hR)))
      all_goals
        have hf0 := HH.out.val.free_le.1
        have hf1 := HH.out.val.free_le.2
        have hlen := HH.out.val.len
        go_wp2_with fail
        refine (HH4.out.get key).mono ?_
        rintro e w5 ⟨rfl, hh, hb⟩
        have HH5 := Aside0.mk hh
        have HCC := Aside0.mk (Kd.C_below (Kd.R_reads' HR.out).2.2 hb)
        clear hh hb
        by_cases hf : 0 ≤ fnd cs key
        · have hf2 : decide (0 ≤ fnd cs key) = true := by simpa using hf
          have HI := Aside0.mk (show ins cs key value = (cs, 9) by unfold ins; rw [if_pos hm, if_pos hf])
          rw [hf2]
          go_wp2_with (first | (go_at_call 19; refine (HH5.out.insert key value).mono ?_; rintro e w6 ⟨rfl, hh, hk⟩; rw [HI.out]; rw [HI.out] at hh; have HH6 := Aside0.mk hh; clear hh hk) | (go_at_call 15; refine HH6.out.bytes.mono ?_; rintro e w7 ⟨rfl, hbuf, hh, hb⟩; have hcv7 := pg_string hbuf HH.out.val; have HH7 := Aside0.mk hh; clear hbuf hh hb) | (go_at_call 12; refine (lives_calls _).mono ?_; rintro e w8 ⟨rfl, hb⟩; have HB8 := Aside0.mk (HH7.out.next hb); clear hb))
          go_ret
          exact ⟨rfl, below_then HB0.out HB0.out.size HB8.out.bel⟩
        · have hf2 : decide (0 ≤ fnd cs key) = false := by simpa using hf
          rw [hf2]
          have hn1 : IntKind.i64.wrap (1 + (key.size : Int)) = 1 + (key.size : Int) := i64w (by omega) (by omega)
          have hn2 : IntKind.i64.wrap (1 + (key.size : Int) + (value.size : Int)) = 1 + (key.size : Int) + (value.size : Int) := i64w (by omega) (by omega)
          have hn3 : IntKind.i64.wrap (1 + (key.size : Int) + (value.size : Int) + 4) = 1 + (key.size : Int) + (value.size : Int) + 4 := i64w (by omega) (by omega)
          go_wp2_with fail
          go_loopg [16, 17] cs.length (fun gk v16 v17 wr => ∃ k : Nat, Aside0 (k + gk = cs.length) ∧ v16 = .bool false ∧ v17 = .int .i64 k ∧ k ≤ cs.length ∧ Aside0 (w5 = wr))
          case atStart => exact ⟨0, ⟨by omega⟩, rfl, rfl, by omega, ⟨rfl⟩⟩
          case round =>
            obtain ⟨k, Hk, rfl, rfl, hkl, Hw⟩ := hrel
            obtain rfl := Hw.out
            clear Hw
            by_cases hlt : k < cs.length
            · obtain ⟨ad, rfl, hx0, hx1, hx2⟩ := cell_at HCC.out k hlt
              rw [HU.out _ (rd_mem cs k hlt)] at hx0
              go_wp2
              go_roundg (gk - 1)
              case measure => have := Hk.out; omega
              case rel => exact ⟨k + 1, ⟨by have := Hk.out; omega⟩, rfl, by simp, by omega, ⟨rfl⟩⟩
            · rcases ins_room cs HU.out hlen key value hm (by omega) with ⟨hc, hi⟩ | ⟨hc, hi, hfr⟩
              · have HI := Aside0.mk hi
                clear hi
                have hc2 : ¬ (1 + (key.size : Int) + (value.size : Int) + 4 > free cs) → cs.length = 64 := by omega
                go_wp2_with (first | (go_at_call 19; refine (HH5.out.insert key value).mono ?_; rintro e w6 ⟨rfl, hh, hk⟩; rw [HI.out]; rw [HI.out] at hh; have HH6 := Aside0.mk hh; clear hh hk) | (go_at_call 15; refine HH6.out.bytes.mono ?_; rintro e w7 ⟨rfl, hbuf, hh, hb⟩; have hcv7 := pg_string hbuf HH.out.val; have HH7 := Aside0.mk hh; clear hbuf hh hb) | (go_at_call 12; refine (lives_calls _).mono ?_; rintro e w8 ⟨rfl, hb⟩; have HB8 := Aside0.mk (HH7.out.next hb); clear hb))
                all_goals
                  go_ret
                  exact ⟨rfl, below_then HB0.out HB0.out.size HB8.out.bel⟩
              · have HI := Aside0.mk hi
                have HF := Aside0.mk hfr
                have hd : IntKind.i64.wrap (free cs - (1 + (key.size : Int) + (value.size : Int) + 4)) = free cs - (1 + (key.size : Int) + (value.size : Int) + 4) := i64w (by omega) (by omega)
                have HD := Aside0.mk (del_append cs HU.out key value (by omega))
                clear hi hfr
                go_wp2_with (first | (go_at_call 19; refine (HH5.out.insert key value).mono ?_; rintro e w6 ⟨rfl, hh, hk⟩; rw [HI.out]; rw [HI.out] at hh; have HHi := Aside0.mk hh; clear hh hk) | (go_at_call 16; refine HHi.out.free.mono ?_; rintro e w61 ⟨rfl, hh, hb⟩; rw [HF.out]; have HHj := Aside0.mk hh; clear hh hb) | (go_at_call 20; refine (HHj.out.delete key).mono ?_; rintro e w62 ⟨rfl, hh, hk⟩; rw [HD.out]; rw [HD.out] at hh; have HH6 := Aside0.mk hh; clear hh hk) | (go_at_call 15; refine HH6.out.bytes.mono ?_; rintro e w7 ⟨rfl, hbuf, hh, hb⟩; have hcv7 := pg_string hbuf HH.out.val; have HH7 := Aside0.mk hh; clear hbuf hh hb) | (go_at_call 12; refine (lives_calls _).mono ?_; rintro e w8 ⟨rfl, hb⟩; have HB8 := Aside0.mk (HH7.out.next hb); clear hb))
                all_goals
                  go_ret
                  exact ⟨rfl, below_then HB0.out HB0.out.size HB8.out.bel⟩
    · rcases hbad hm with m1 | m2 | m3
      all_goals
        clear hgood
        go_wp2_with fail
        go_region_held3 (fun wx => wx.cell? ⟨w.heap.size, 0, none⟩ = some (.string key) ∧ wx.cell? ⟨w.heap.size, 1, none⟩ = some (.string value)) (go_keep) (fail)
        go_wp2_with (go_at_call 12; refine (lives_calls _).mono ?_; rintro e w2 ⟨rfl, hb2⟩; have HB := Aside0.mk (below_then (below_drew HB1.out) (below_drew HB1.out).size hb2); clear hb2)
        all_goals
          go_ret
          exact ⟨rfl, HB.out⟩
  · refine (made_bad wb id l A c (by omega)).mono ?_
    rintro e w1 ⟨rfl, ho⟩
    have hy0 : w1.cell? ⟨w.heap.size, 0, none⟩ = some (.string key) := pw_cell_below ho hx0
    have hy1 : w1.cell? ⟨w.heap.size, 1, none⟩ = some (.string value) := pw_cell_below ho hx1
    have HB1 := Aside0.mk (below_then HB0.out HB0.out.size ho)
    clear ho hx0 hx1
    go_wp2_with fail
    go_region_held3 (fun wx => wx.cell? ⟨w.heap.size, 0, none⟩ = some (.string key) ∧ wx.cell? ⟨w.heap.size, 1, none⟩ = some (.string value)) (go_keep) (fail)
    go_wp2_with (go_at_call 12; refine (lives_calls _).mono ?_; rintro e w2 ⟨rfl, hb2⟩; have HB := Aside0.mk (below_then (below_drew HB1.out) (below_drew HB1.out).size hb2); clear hb2)
    all_goals
      go_ret
      exact ⟨rfl, HB.out⟩
end Go.Proofs.Ytidkdbohkbfhbaa
