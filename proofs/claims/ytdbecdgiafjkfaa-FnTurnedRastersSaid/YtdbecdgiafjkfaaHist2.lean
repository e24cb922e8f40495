/-
  DERIVED. Histogram: contracts.
-/
import Derived.Test.YtdbecdgiafjkfaaHist
import Derived.Conc.MuLone
namespace Go.Proofs.Ytdbecdgiafjkfaa
open Go.RowKit
set_option linter.unusedVariables false
set_option maxHeartbeats 2000000 in
theorem iHistogram_no (r c : Int) (a : Option Addr) (n cp : Nat) (zs : List Int) (w : World) (h : Rd w a n zs) (hn : n ≤ 1048576) (hr : rasterB r c n zs = false) :
    Calls Try.prog 41 #[.agg #[.int .i64 r, .int .i64 c, .slice a n cp]] w (ResI w [] 1) := by
  have HH := Lib.hid h
  clear h
  go_enter Try.func41, Try.ntmps41
  go_wp2_with fail
  refine (iIsRaster r c a n cp zs _ (HH.out.below (by repeat' (first | (with_reducible exact Below.refl _ _) | (with_reducible assumption) | (with_reducible refine Below.alloc ?_ ?_ _) | (with_reducible refine Below.setCell ?_ ?_ _) | (with_reducible refine Below.drew ?_) | (with_reducible refine below_drewN ?_ _) | (with_reducible refine below_via (by with_reducible assumption) ?_ ?_) | go_size))) hn).mono ?_
  rintro e w1 ⟨rfl, hb1⟩
  have hz1 := hb1.size; try simp at hz1
  rw [hr]
  go_wp2
  go_returns
  exact ⟨none, 0, rfl, World.ownsRow_nil _ _ _ _, by repeat' (first | (with_reducible exact Below.refl _ _) | (with_reducible assumption) | (with_reducible refine Below.alloc ?_ ?_ _) | (with_reducible refine Below.setCell ?_ ?_ _) | (with_reducible refine Below.drew ?_) | (with_reducible refine below_drewN ?_ _) | (with_reducible refine below_via (by with_reducible assumption) ?_ ?_) | go_size), by simp⟩
set_option maxHeartbeats 2000000 in
theorem iHistogram_ok (r c : Int) (a : Option Addr) (n cp : Nat) (zs : List Int) (w : World) (h : Rd w a n zs) (hn : n ≤ 1048576) (hr : rasterB r c n zs = true) :
    Calls Try.prog 41 #[.agg #[.int .i64 r, .int .i64 c, .slice a n cp]] w (ResI w (histP zs n) 0) := by
  obtain ⟨r1, r2, r3, r4, r5, r6, r7, r8⟩ := rasterB_yes hr
  have hp : 0 < n := by omega
  obtain ⟨b, off, rfl, hb, hcell⟩ := h.2 hp
  have HH := Lib.hid h
  have HL := Lib.hid h.1
  have HC := Lib.hid hcell
  have H8 := Lib.hid r8
  clear h r8 r7 r5 r6 hcell
  have hB3 := Lib.hid (Box3.new w 26 (.int .i64 r) (.int .i64 c) (.slice (some ⟨b, off, none⟩) n cp))
  have hmk : ∀ w : World, (Instr.makeSlice 22 (.int .i64 256) (.int .i64 256)).run Try.prog w = .ok (.slice (some ⟨w.heap.size, 0, none⟩) 256 256) (w.alloc (.cells (vals (zerN 256)) 2)) := make_ints 256 (by decide)
  go_enter Try.func41, Try.ntmps41
  go_wp2_with fail
  refine (iIsRaster r c _ n cp zs _ (HH.out.below (by repeat' (first | (with_reducible exact Below.refl _ _) | (with_reducible assumption) | (with_reducible refine Below.alloc ?_ ?_ _) | (with_reducible refine Below.setCell ?_ ?_ _) | (with_reducible refine Below.drew ?_) | (with_reducible refine below_drewN ?_ _) | (with_reducible refine below_via (by with_reducible assumption) ?_ ?_) | go_size))) hn).mono ?_
  rintro e w1 ⟨rfl, hb1⟩
  have hz1 := hb1.size; try simp at hz1
  obtain ⟨_, _, _, _⟩ := (hB3.out.keep (by repeat' (first | (with_reducible exact Below.refl _ _) | (with_reducible assumption) | (with_reducible refine Below.alloc ?_ ?_ _) | (with_reducible refine Below.setCell ?_ ?_ _) | (with_reducible refine Below.drew ?_) | (with_reducible refine below_drewN ?_ _) | (with_reducible refine below_via (by with_reducible assumption) ?_ ?_) | go_size)) : Box3 w1 _ _ _ _)
  have hw1 : Below w.heap.size w w1 := by repeat' (first | (with_reducible exact Below.refl _ _) | (with_reducible assumption) | (with_reducible refine Below.alloc ?_ ?_ _) | (with_reducible refine Below.setCell ?_ ?_ _) | (with_reducible refine Below.drew ?_) | (with_reducible refine below_drewN ?_ _) | (with_reducible refine below_via (by with_reducible assumption) ?_ ?_) | go_size)
  rw [hr]
  go_wp2
  clear hmk
  obtain ⟨W, hW⟩ : ∃ W, W = w1.alloc (.cells (vals (zerN 256)) 2) := ⟨_, rfl⟩
  have hB : Below w1.heap.size w1 W := by rw [hW]; repeat' (first | (with_reducible exact Below.refl _ _) | (with_reducible assumption) | (with_reducible refine Below.alloc ?_ ?_ _) | (with_reducible refine Below.setCell ?_ ?_ _) | (with_reducible refine Below.drew ?_) | (with_reducible refine below_drewN ?_ _) | (with_reducible refine below_via (by with_reducible assumption) ?_ ?_) | go_size)
  have hs : W.heap.size = w1.heap.size + 1 := by rw [hW]; simp
  have hk : Blk W w1.heap.size 2 (vals (zerN 256)) := by rw [hW]; exact Blk.new _ _ _
  have HS := Lib.hid hs
  rw [← hW]
  clear hW hs
  have hbW : b < W.heap.size := by have := HS.out; omega
  have HCW : Hid (∀ i, i < n → W.cell? ⟨b, off + i, none⟩ = some (.int .i64 (zs.getD i 0))) := fun i hi => (hB.cell (p := ⟨b, off + i, none⟩) (by show b < _; omega)).trans ((hw1.cell (p := ⟨b, off + i, none⟩) hb).trans (HC.out i hi))
  go_loopw [14] (fun i wr => ∃ k : Nat, k ≤ n ∧ i = .int .i64 k ∧ Blk wr w1.heap.size 2 (vals (histP zs k)) ∧ W.grownBy wr (some w1.heap.size)) (fun i _ => n - (intOf i).toNat)
  case atStart => exact ⟨0, Nat.zero_le _, rfl, hk, World.grownBy.refl W _⟩
  case round =>
    obtain ⟨k, hkn, rfl, hblk, hgr⟩ := hrel
    have hsz : w1.heap.size < wr.heap.size := by have := hgr.size; have := HS.out; omega
    by_cases hlt : k < n
    · have hx : wr.cell? ⟨b, off + k, none⟩ = some (.int .i64 (zs.getD k 0)) := (only_cell hgr hbW (by omega)).trans (HCW.out k hlt)
      obtain ⟨e1, e2⟩ := H8.out _ (getD_mem (zs := zs) (i := k) (by rw [HL.out]; exact hlt))
      obtain ⟨v, hv⟩ := Int.eq_ofNat_of_zero_le e1
      have hN : Hid (histP zs (k + 1) = (histP zs k).set v ((histP zs k).getD v 0 + 1)) := by unfold Hid; rw [histP, hv]; rfl
      rw [hv] at hx e2
      have hy : wr.cell? ⟨w1.heap.size, v, none⟩ = some (.int .i64 ((histP zs k).getD v 0)) := by
        rw [hblk.cell]; exact vals_get _ _ (by rw [histP_length]; omega)
      have hz : wr.frozen? ⟨w1.heap.size, v, none⟩ = false := hblk.frozen v
      obtain ⟨b1, b2⟩ := histP_bd zs k v
      generalize hq : (histP zs k).getD v 0 = q at hy b1 b2
      have HN : Hid (Blk (wr.setCell ⟨w1.heap.size, v, none⟩ (.int .i64 (q + 1))) (w1.heap.size) 2 (vals (histP zs (k + 1)))) := by
        have := hblk.set_ v (.int .i64 (q + 1))
        rw [vals_set, ← hq, ← hN.out, hq] at this
        exact this
      have HG : Hid (W.grownBy (wr.setCell ⟨w1.heap.size, v, none⟩ (.int .i64 (q + 1))) (some (w1.heap.size))) := only_setCell hgr _
      clear hblk hgr hk hq hv e1
      go_wp2
      go_roundw
      case rel => exact ⟨k + 1, by omega, by go_num, HN.out, HG.out⟩
      case measure => simp [intOf]; omega
    · have hke : k = n := by omega
      have HK := Lib.hid hke
      clear hke
      go_wp2
      go_returns
      rw [HK.out] at hblk
      have hlen := histP_length zs n
      refine ⟨some ⟨w1.heap.size, 0, none⟩, 256, by rw [hlen]; rfl, ?_, below_only (hw1.trans (hB.mono (by omega))) hgr (by have := HS.out; omega) (by omega), by rw [hlen]; decide⟩
      rw [hlen]
      exact hblk.own (by omega) hlen (by unfold maxLen; decide)
end Go.Proofs.Ytdbecdgiafjkfaa
