/- PageOwn's walk. -/
import Derived.Test.YtidkdbohkbfhbaaL6h
import Derived.Test.YtidkdbohkbfhbaaL6w
import Derived.Test.YtidkdbohkbfhbaaWn
import Derived.Test.YtidkdbohkbfhbaaRf2
namespace Go.Proofs.Ytidkdbohkbfhbaa
open Go.RowKit Go.Proofs.YtidkdbohkbfhbaaW.PrintWords Go.Proofs.YtidkdbohkbfhbaaW.PrintLast Go.Proofs.YtidkdbohkbfhbaaW.PrintMore
open Rf
set_option linter.unusedVariables false
set_option linter.unusedSimpArgs false

/-- A block of 512 bytes. -/
def Raw (w : World) (g : Nat) : Prop := ∃ xs : Array Value, xs.size = 512 ∧ (∀ j, j < 512 → ∃ n, xs[j]? = some (.int .u8 n)) ∧ w.heap[g]? = some (.cells xs 5 (0, 0))
theorem BufAt.raw {w : World} {g : Nat} {L : List UInt8} (h : BufAt w g L) (hl : L.length = 512) : Raw w g :=
  ⟨(bv L).toArray, by simp [bv, hl], fun j hj => ⟨((L[j]'(by omega)).toNat : Nat), by simp [bv, hl, hj]⟩, h⟩
theorem Raw.cell {w : World} {g : Nat} (h : Raw w g) (j : Nat) (hj : j < 512) : ∃ n, w.cell? ⟨g, j, none⟩ = some (.int .u8 n) := by
  obtain ⟨xs, h1, h2, h3⟩ := h
  rw [blk_cell h3 j]; exact h2 j hj
theorem Raw.set {w : World} {g : Nat} (h : Raw w g) (j : Nat) (n : Int) : Raw (w.setCell ⟨g, j, none⟩ (.int .u8 n)) g := by
  obtain ⟨xs, h1, h2, h3⟩ := h
  refine ⟨_, ?_, ?_, blk_set h3 j _⟩
  · simp [h1]
  · intro i hi
    by_cases e : j = i
    · subst e; exact ⟨n, by simp [h1, hi]⟩
    · rw [Array.getElem?_setIfInBounds_ne e]; exact h2 i hi
theorem Raw.frozen {w : World} {g : Nat} (h : Raw w g) (j : Nat) : w.frozen? ⟨g, j, none⟩ = false := by
  obtain ⟨xs, h1, h2, h3⟩ := h
  exact blk_frozen h3 j
theorem Raw.below {w w' : World} {g : Nat} (h : Raw w g) (hb : Below w.heap.size w w') : Raw w' g := by
  obtain ⟨xs, h1, h2, h3⟩ := h
  exact ⟨xs, h1, h2, blk_below h3 hb⟩
theorem Raw.grown {w w' : World} {g : Nat} {row : Option Nat} (h : Raw w g) (hg : w.grownBy w' row) (hne : some g ≠ row) : Raw w' g := by
  obtain ⟨xs, h1, h2, h3⟩ := h
  exact ⟨xs, h1, h2, blk_grown h3 hg hne⟩
theorem Here.grown {w0 w w' : World} {ok : Nat → Prop} {g id lsn : Nat} {cs : List SGCell} {row : Option Nat} (h : Here w0 w ok g id lsn cs) (hg : w.grownBy w' row) (hr : ∀ k, row = some k → ¬ ok k ∧ w0.heap.size ≤ k) : Here w0 w' ok g id lsn cs :=
  h.kept (Kept.of_grown hg (Kept.refl _ (fun k => row = some k)) (fun k e => .inl e)) (fun k hk e => (hr k e).1 hk) (h.bel.grown hg h.bel.size (fun g hg' => (hr g hg').2))
set_option maxRecDepth 100000 in
set_option maxHeartbeats 4000000 in
theorem own_walk (w : World) (id : Int) (l : List SGOp) (A : Option Addr) (c : Nat) (o : SGOp) (hC : Kd.C kGOp w A l.length l) (hl : l.length ≤ 140737488351232) (hw : ∀ o ∈ l, 0 ≤ o.f3 ∧ o.f3 < 18446744073709551616)
    (hk : o.f1.size ≤ 140737488351232) (hv : o.f2.size ≤ 140737488351232) (h64 : 0 ≤ o.f3 ∧ o.f3 < 18446744073709551616) :
    Calls Try.prog 8 #[.int .i64 id, .slice A l.length c, .agg #[.int .i64 o.f0, .string o.f1, .string o.f2, .int .u64 o.f3]] w fun e w' => e = .returned (.bool true) ∧ Below w.heap.size w w' := by
  have HC := Aside0.mk hC
  have HW := Aside0.mk hw
  have H64 := Aside0.mk h64
  clear hC hw h64
  go_enter Try.func8, Try.ntmps8
  go_wp2_with fail
  have hb0 : Below w.heap.size w (w.alloc (.cells #[.int .i64 o.f0, .string o.f1, .string o.f2, .int .u64 o.f3] 59)) := below_alloc (Below.refl _ _) _
  have hbx : (w.alloc (.cells #[.int .i64 o.f0, .string o.f1, .string o.f2, .int .u64 o.f3] 59)).heap[w.heap.size]? = some (.cells #[.int .i64 o.f0, .string o.f1, .string o.f2, .int .u64 o.f3] 59) := heap_alloc_new w _
  generalize w.alloc (.cells #[.int .i64 o.f0, .string o.f1, .string o.f2, .int .u64 o.f3] 59) = wb at hb0 hbx ⊢
  have HB0 := Aside0.mk hb0
  have HX0 := Aside0.mk hbx
  clear hb0 hbx
  by_cases hid : 0 ≤ id ∧ id < 16
  · refine (made_ok wb id l A c (Kd.C_below HC.out HB0.out) hl HW.out hid.1 hid.2).mono ?_
    rintro e w1 ⟨g, rfl, ho⟩
    have HX1 := Aside0.mk (blk_below HX0.out ho.bel)
    have hy0 := blk_cell HX1.out 0
    have hy1 := blk_cell HX1.out 1
    have hy2 := blk_cell HX1.out 2
    have hy3 := blk_cell HX1.out 3
    obtain ⟨ok, id', lsn', cs, rfl, hh, hu⟩ := ho.here hid.1 hid.2
    have HB1 := Aside0.mk (below_then HB0.out HB0.out.size ho.bel)
    have HH := Aside0.mk hh.bound
    clear ho hid hh hu
    have hsh : wrap64 ((o.f1.size : Int) + (o.f2.size : Int)) = (o.f1.size : Int) + (o.f2.size : Int) := w64 (by omega) (by omega)
    by_cases hs : (o.f1.size : Int) + (o.f2.size : Int) ≤ 1000
    · go_wp2_with (first | (go_at_call 28; refine (flotillalaw06_short.calls o.f0 o.f1 o.f2 o.f3 true _ (by unfold flotillalaw06_short.f; rw [hsh]; simp [hs])).mono ?_; rintro e w2 ⟨rfl, hb⟩; have HS2 := Aside0.mk hb; clear hb))
      have HH2 := Aside0.mk (HH.out.next HS2.out)
      have HX2 := Aside0.mk (blk_below HX1.out HS2.out)
      clear hy0 hy1 hy2 hy3
      have hy0 := blk_cell HX2.out 0
      have hy1 := blk_cell HX2.out 1
      have hy2 := blk_cell HX2.out 2
      have hy3 := blk_cell HX2.out 3
      refine HH2.out.bytes.mono ?_
      rintro e w3 ⟨rfl, hbuf, hh, hb⟩
      have hcv3 := pg_string hbuf HH.out.val
      have HH3 := Aside0.mk hh
      have HS3 := Aside0.mk hb
      clear hh hb
      go_wp2_with fail
      refine HH3.out.clone.mono ?_
      rintro e w4 ⟨gq, rfl, hq, hb⟩
      have HH4 := Aside0.mk (HH3.out.next hb)
      have HQ4 := Aside0.mk hq.bound
      have HS4 := Aside0.mk hb
      clear hq hb hbuf hcv3
      go_wp2_with fail
      refine HH4.out.bytes.mono ?_
      rintro e w5 ⟨rfl, hbuf, hh, hb⟩
      have HRAW5 := Aside0.mk (hbuf.raw (pgB_length id' lsn' cs HH.out.val.room4))
      have HH5 := Aside0.mk hh
      have HQ5 := Aside0.mk (HQ4.out.next hb)
      have HS5 := Aside0.mk hb
      clear hh hb hbuf
      go_wp2_with fail
      refine HH5.out.cells.mono ?_
      rintro e w6 ⟨As, csz, rfl, hR, hh, hb⟩
      have HRAW6 := Aside0.mk (HRAW5.out.below hb)
      have HH6 := Aside0.mk hh
      have HQ6 := Aside0.mk (HQ5.out.next hb)
      have HS6 := Aside0.mk hb
      have HR6 := Aside0.mk (show Kd.R kGCell 46 w6 w5.heap.size (fun k => w5.heap.size ≤ k ∧ k < w6.heap.size) (.slice As cs.length csz) cs from Kd.R_mono (Kd.R_bound hR) (fun k hk => ⟨hk.1, hk.2.2.1⟩))
      clear hh hb hR
      go_wp2_with fail
      refine HH6.out.pairs.mono ?_
      rintro e w7 ⟨Ad, csd, ps, rfl, hR, hpm, _, hh, hb⟩
      have hps64 : ps.length ≤ 64 := by rw [hpm.length_eq]; unfold prs; rw [List.length_map]; exact Nat.le_trans (List.length_filter_le _ _) HH.out.val.len
      have hcs64 : cs.length ≤ 64 := HH.out.val.len
      clear hpm
      have HRAW7 := Aside0.mk (HRAW6.out.below hb)
      have HH7 := Aside0.mk hh
      have HQ7 := Aside0.mk (HQ6.out.next hb)
      have HR7 := Aside0.mk (Kd.R_below HR6.out hb)
      have HS7 := Aside0.mk hb
      have HD7 := Aside0.mk (show Kd.R kGPair 36 w7 w6.heap.size (fun k => w6.heap.size ≤ k ∧ k < w7.heap.size) (.slice Ad ps.length csd) ps from Kd.R_mono (Kd.R_bound hR) (fun k hk => ⟨hk.1, hk.2.2.1⟩))
      clear hh hb hR
      go_wp2_with fail
      go_loopg [13] 512 (fun gk v13 wr => ∃ k : Nat, Aside0 (k + gk = 512) ∧ v13 = .int .i64 k ∧ k ≤ 512 ∧ Aside0 (Raw wr w4.heap.size) ∧ Aside0 (w7.grownBy wr (some w4.heap.size)))
      case atStart => exact ⟨0, ⟨by omega⟩, rfl, by omega, HRAW7, ⟨World.grownBy.refl _ _⟩⟩
      case round =>
        obtain ⟨k, Hk, rfl, hkl, HRAW, HG⟩ := hrel
        by_cases hlt : k < 512
        · obtain ⟨n, hn⟩ := HRAW.out.cell k hlt
          have hfz := HRAW.out.frozen k
          go_wp2_with fail
          go_roundg (gk - 1)
          case measure => have := Hk.out; omega
          case rel =>
            refine ⟨k + 1, ⟨by have := Hk.out; omega⟩, by simp, by omega, ⟨HRAW.out.set k _⟩, ⟨HG.out.trans ⟨rfl, rfl, rfl, by simp [World.setCell], fun q _ hq => Below.heap_setCell wr ⟨w4.heap.size, k, none⟩ _ q (fun e => hq (by rw [e]))⟩⟩⟩
        · obtain rfl : k = 512 := by omega
          have hsz5 := HS5.out.size
          have hsz6 := HS6.out.size
          have hsz7 := HS7.out.size
          have hsz2 := HS2.out.size
          have hsz3 := HS3.out.size
          have hsz4 := HS4.out.size
          have hsb := HH.out.bel.size
          have hlt4 : w4.heap.size < w5.heap.size := by
            obtain ⟨xs, _, _, h⟩ := HRAW5.out
            exact blk_lt h
          obtain ⟨w8, rfl⟩ : ∃ x, x = wr := ⟨_, rfl⟩
          have HH8 := Aside0.mk (HH7.out.grown HG.out (fun q hq => by injection hq with hq; subst hq; exact ⟨fun h => by have := h.2; omega, by omega⟩))
          have HQ8 := Aside0.mk (HQ7.out.grown HG.out (fun q hq => by injection hq with hq; subst hq; exact ⟨fun h => by have := h.2; omega, by omega⟩))
          have HR8 := Aside0.mk (Kd.R_grown HR7.out HG.out (fun q hq e => by injection e with e; omega))
          have HD8 := Aside0.mk (Kd.R_grown HD7.out HG.out (fun q hq e => by injection e with e; omega))
          have hs8 : w7.heap.size ≤ w8.heap.size := HG.out.size
          clear HG HRAW
          go_wp2_with fail
          go_loopg [14] cs.length (fun gk v14 wr => ∃ (k : Nat) (cs' : List SGCell), Aside0 (k + gk = cs.length) ∧ v14 = .int .i64 k ∧ k ≤ cs.length ∧ Aside0 (cs'.length = cs.length) ∧ Aside0 (Kd.R kGCell 46 wr w5.heap.size (fun k => w5.heap.size ≤ k ∧ k < w6.heap.size) (.slice As cs.length csz) cs') ∧ Aside0 (w8.grownBy wr (Value.slice As cs.length csz).ownBlock))
          case atStart => exact ⟨0, cs, ⟨by omega⟩, rfl, by omega, ⟨rfl⟩, HR8, ⟨World.grownBy.refl _ _⟩⟩
          case round =>
            obtain ⟨k, cs', Hk, rfl, hkl, hcl, HR, HG⟩ := hrel
            by_cases hlt : k < cs.length
            · obtain ⟨gc, cap', he, hgc, hlt2, cells, hcells⟩ := Kd.R_form HR.out (by have := hcl.out; omega)
              injection he with e1 e2 e3
              subst e1
              clear e2 e3
              obtain ⟨ad, ea, hx0, hx1, hx2⟩ := cell_at (Kd.R_reads' HR.out).2.2 k (by have := hcl.out; omega)
              cases ea
              simp only [add_plain] at hx0 hx1 hx2
              have hf0 := blk_frozen hcells (k * 3)
              have hf1 := blk_frozen hcells (k * 3 + 1)
              have hf2 := blk_frozen hcells (k * 3 + 2)
              go_wp2_with fail
              go_roundg (gk - 1)
              case measure => have := Hk.out; omega
              case rel =>
                have hp := row_put HR.out k (by have := hcl.out; omega) zGCell
                exact ⟨k + 1, cs'.set k zGCell, ⟨by have := Hk.out; omega⟩, by simp, by omega, ⟨by simp [hcl.out]⟩, ⟨hp.1⟩, ⟨HG.out.trans hp.2⟩⟩
            · have hlow : ∀ q, (Value.slice As cs.length csz).ownBlock = some q → w5.heap.size ≤ q ∧ q < w6.heap.size := HR8.out.1
              obtain ⟨w9, rfl⟩ : ∃ x, x = wr := ⟨_, rfl⟩
              have HH9 := Aside0.mk (HH8.out.grown HG.out (fun q hq => ⟨fun h => by have := h.2; have := hlow q hq; omega, by have := hlow q hq; omega⟩))
              have HQ9 := Aside0.mk (HQ8.out.grown HG.out (fun q hq => ⟨fun h => by have := h.2; have := hlow q hq; omega, by have := hlow q hq; omega⟩))
              have HD9 := Aside0.mk (Kd.R_grown HD8.out HG.out (fun q hq e => by have := hlow q e.symm; omega))
              have hs9 : w8.heap.size ≤ w9.heap.size := HG.out.size
              clear HG HR
              go_wp2_with fail
              go_loopg [15] ps.length (fun gk v15 wr => ∃ (k : Nat) (ps' : List SGPair), Aside0 (k + gk = ps.length) ∧ v15 = .int .i64 k ∧ k ≤ ps.length ∧ Aside0 (ps'.length = ps.length) ∧ Aside0 (Kd.R kGPair 36 wr w6.heap.size (fun k => w6.heap.size ≤ k ∧ k < w7.heap.size) (.slice Ad ps.length csd) ps') ∧ Aside0 (w9.grownBy wr (Value.slice Ad ps.length csd).ownBlock))
              case atStart => exact ⟨0, ps, ⟨by omega⟩, rfl, by omega, ⟨rfl⟩, HD9, ⟨World.grownBy.refl _ _⟩⟩
              case round =>
                obtain ⟨k, ps', Hk, rfl, hkl, hcl, HR, HG⟩ := hrel
                by_cases hlt : k < ps.length
                · obtain ⟨gc, cap', he, hgc, hlt2, cells, hcells⟩ := Kd.R_form HR.out (by have := hcl.out; omega)
                  injection he with e1 e2 e3
                  subst e1
                  clear e2 e3
                  obtain ⟨ad, ea, hx0, hx1⟩ := pair_at (Kd.R_reads' HR.out).2.2 k (by have := hcl.out; omega)
                  cases ea
                  simp only [add_plain] at hx0 hx1
                  have hf0 := blk_frozen hcells (k * 2)
                  have hf1 := blk_frozen hcells (k * 2 + 1)
                  go_wp2_with fail
                  go_roundg (gk - 1)
                  case measure => have := Hk.out; omega
                  case rel =>
                    have hp := row_putP HR.out k (by have := hcl.out; omega) zGPair
                    exact ⟨k + 1, ps'.set k zGPair, ⟨by have := Hk.out; omega⟩, by simp, by omega, ⟨by simp [hcl.out]⟩, ⟨hp.1⟩, ⟨HG.out.trans hp.2⟩⟩
                · have hlow2 : ∀ q, (Value.slice Ad ps.length csd).ownBlock = some q → w6.heap.size ≤ q ∧ q < w7.heap.size := HD9.out.1
                  obtain ⟨wa, rfl⟩ : ∃ x, x = wr := ⟨_, rfl⟩
                  have HHa := Aside0.mk (HH9.out.grown HG.out (fun q hq => ⟨fun h => by have := h.2; have := hlow2 q hq; omega, by have := hlow2 q hq; omega⟩))
                  have HQa := Aside0.mk (HQ9.out.grown HG.out (fun q hq => ⟨fun h => by have := h.2; have := hlow2 q hq; omega, by have := hlow2 q hq; omega⟩))
                  have HSA := Aside0.mk (show w1.heap.size ≤ wa.heap.size by have : w9.heap.size ≤ wa.heap.size := HG.out.size; omega)
                  clear HG HR hs8 hs9
                  obtain rfl : k = ps.length := by omega
                  clear hlow hlow2 hlt4 hsz2 hsz3 hsz4 hsz5 hsz6 hsz7 hy0 hy1 hy2 hy3 hsb
                  go_wp2_with fail
                  refine HHa.out.bytes.mono ?_
                  rintro e wb1 ⟨rfl, hbuf, hh, hb⟩
                  have hcvb := pg_string hbuf HH.out.val
                  have HHb := Aside0.mk hh
                  have HSB := Aside0.mk (Nat.le_trans HSA.out hb.size)
                  have HQb := Aside0.mk (HQa.out.next hb)
                  clear hh hb hbuf
                  go_wp2_with fail
                  refine HQb.out.bytes.mono ?_
                  rintro e wb2 ⟨rfl, hbuf, hh, hb⟩
                  have hcvb2 := pg_string hbuf HH.out.val
                  have HHc := Aside0.mk (HHb.out.next hb)
                  have HQc := Aside0.mk hh
                  have HSC := Aside0.mk (Nat.le_trans HSB.out hb.size)
                  have HXc := Aside0.mk (blk_below HX0.out HHc.out.bel)
                  have hz1 := blk_cell HXc.out 1
                  have hz2 := blk_cell HXc.out 2
                  clear hh hb hbuf
                  go_wp2_with fail
                  refine (HQc.out.insert o.f1 o.f2).mono ?_
                  rintro e wb3 ⟨rfl, hh, hk⟩
                  have HHd := Aside0.mk (HHc.out.kept hk (fun q hq h => by have := hq.2; have := h.1; have := HS2.out.size; have := HS3.out.size; omega) hh.bel)
                  have HQd := Aside0.mk hh.bound
                  have HXd := Aside0.mk (blk_below HX0.out hh.bel)
                  have hu1 := blk_cell HXd.out 1
                  have HSD := Aside0.mk (Nat.le_trans HSC.out hk.1)
                  have HLD := Aside0.mk (show ∀ q, ((w3.heap.size ≤ q ∧ q < w4.heap.size) ∨ wb2.heap.size ≤ q) ∧ q < wb3.heap.size → w1.heap.size ≤ q from fun q hq => by have := HSC.out; have := HS2.out.size; have := HS3.out.size; omega)
                  clear hh hk hz1 hz2
                  go_wp2_with fail
                  refine (HQd.out.delete o.f1).mono ?_
                  rintro e wb4 ⟨rfl, hh, hk⟩
                  have HHe := Aside0.mk (HHd.out.kept hk (fun q hq h => by have := hq.2; have := HLD.out q h; omega) hh.bel)
                  have HXe := Aside0.mk (blk_below HX0.out hh.bel)
                  have hu3 := blk_cell HXe.out 3
                  have HQe := Aside0.mk hh
                  have HLE := Aside0.mk (show ∀ q, ((((w3.heap.size ≤ q ∧ q < w4.heap.size) ∨ wb2.heap.size ≤ q) ∧ q < wb3.heap.size) ∨ wb3.heap.size ≤ q) → w1.heap.size ≤ q from fun q hq => hq.elim (HLD.out q) (fun h => Nat.le_trans HSD.out h))
                  clear hh hk hu1
                  obtain ⟨f3, hf3⟩ := Int.eq_ofNat_of_zero_le H64.out.1
                  have hf64 : f3 < 18446744073709551616 := by have := H64.out.2; omega
                  rw [hf3] at hu3
                  have hu3' : wb4.cell? ⟨w.heap.size, 3, none⟩ = some (.int .u64 f3) := hu3
                  clear hu3
                  go_wp2_with fail
                  refine (HQe.out.stamp f3 hf64).mono ?_
                  rintro e wb5 ⟨rfl, hh, hk⟩
                  have HHf := Aside0.mk (HHe.out.kept hk (fun q hq h => by have := hq.2; have := HLE.out q h; omega) hh.bel)
                  have HXf := Aside0.mk (blk_below HX0.out hh.bel)
                  have hu1 := blk_cell HXf.out 1
                  clear hh hk hu3' hf64
                  go_wp2_with fail
                  refine HHf.out.bytes.mono ?_
                  rintro e wb6 ⟨rfl, hbuf, hh, hb⟩
                  have hcvb3 := pg_string hbuf HH.out.val
                  have HXg := Aside0.mk (blk_below HX0.out hh.bel)
                  have hu1 := blk_cell HXg.out 1
                  have HHg := Aside0.mk hh
                  have HBg := Aside0.mk (below_then HB0.out HB0.out.size hh.bel)
                  clear hh hb hbuf
                  go_wp2_with fail
                  refine (stamp_nil wb6 1).mono ?_
                  rintro e wb7 ⟨rfl, hb⟩
                  have HBh := Aside0.mk (below_then HBg.out HBg.out.size hb)
                  have hu1 := blk_cell (blk_below HXg.out hb) 1
                  have HXh := Aside0.mk (blk_below HXg.out hb)
                  clear hb
                  go_wp2_with fail
                  refine (get_nil wb7 o.f1).mono ?_
                  rintro e wb8 ⟨rfl, hb⟩
                  have HBi := Aside0.mk (below_then HBh.out HBh.out.size hb)
                  clear hb
                  go_wp2_with (first | (go_at_call 19; refine (insert_nil _ _ _).mono ?_; rintro e wx ⟨rfl, hb⟩; have HBi := Aside0.mk (below_then HBi.out HBi.out.size hb); clear hb) | (go_at_call 26; refine (update_nil _ _ _).mono ?_; rintro e wx ⟨rfl, hb⟩; have HBi := Aside0.mk (below_then HBi.out HBi.out.size hb); clear hb) | (go_at_call 20; refine (delete_nil _ _).mono ?_; rintro e wx ⟨rfl, hb⟩; have HBi := Aside0.mk (below_then HBi.out HBi.out.size hb); clear hb) | (go_at_call 15; refine (bytes_nil _).mono ?_; rintro e wx ⟨rfl, hb⟩; have HBi := Aside0.mk (below_then HBi.out HBi.out.size hb); clear hb) | (go_at_call 17; refine (cells_nil _).mono ?_; rintro e wx ⟨rfl, hb⟩; have HBi := Aside0.mk (below_then HBi.out HBi.out.size hb); clear hb) | (go_at_call 16; refine (free_nil _).mono ?_; rintro e wx ⟨rfl, hb⟩; have HBi := Aside0.mk (below_then HBi.out HBi.out.size hb); clear hb) | (go_at_call 25; refine (id_nil _).mono ?_; rintro e wx ⟨rfl, hb⟩; have HBi := Aside0.mk (below_then HBi.out HBi.out.size hb); clear hb) | (go_at_call 24; refine (lsn_nil _).mono ?_; rintro e wx ⟨rfl, hb⟩; have HBi := Aside0.mk (below_then HBi.out HBi.out.size hb); clear hb) | (go_at_call 29; refine (clone_nil _).mono ?_; rintro e wx ⟨rfl, hb⟩; have HBi := Aside0.mk (below_then HBi.out HBi.out.size hb); clear hb) | (go_at_call 12; refine (lives_calls _).mono ?_; rintro e wx ⟨rfl, hb⟩; have HBi := Aside0.mk (below_then HBi.out HBi.out.size hb); clear hb) | (go_at_call 27; refine (pairs_nil _).mono ?_; rintro e wx ⟨Ax, cx, rfl, hb⟩; have HBi := Aside0.mk (below_then HBi.out HBi.out.size hb); clear hb))
                  go_ret
                  exact ⟨rfl, HBi.out⟩
    · go_wp2_with (first | (go_at_call 28; refine (flotillalaw06_short.calls o.f0 o.f1 o.f2 o.f3 false _ (by unfold flotillalaw06_short.f; rw [hsh]; simp [hs])).mono ?_; rintro e w2 ⟨rfl, hb⟩; have HS2 := Aside0.mk hb; clear hb) | (go_at_call 12; refine (lives_calls _).mono ?_; rintro e w8 ⟨rfl, hb⟩; have HB8 := Aside0.mk hb; clear hb))
      go_ret
      exact ⟨rfl, below_then HB1.out HB1.out.size (below_then HS2.out HS2.out.size HB8.out)⟩
  · refine (made_bad wb id l A c (by omega)).mono ?_
    rintro e w1 ⟨rfl, ho⟩
    have HB1 := Aside0.mk (below_then HB0.out HB0.out.size ho)
    clear ho
    go_wp2_with (go_at_call 12; refine (lives_calls _).mono ?_; rintro e w2 ⟨rfl, hb2⟩; have HB := Aside0.mk (below_then HB1.out HB1.out.size hb2); clear hb2)
    go_ret
    exact ⟨rfl, HB.out⟩
end Go.Proofs.Ytidkdbohkbfhbaa
