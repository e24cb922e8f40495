/-
  DERIVED. InvertRaster: the spec's contract.
-/
import Derived.Test.YtmcpgaidllpmcaaInv
import Derived.Conc.MuLone
namespace Go.Proofs.Ytmcpgaidllpmcaa
open Go.RowKit
set_option linter.unusedVariables false
theorem take_map_snoc (f : Int → Int) (zs : List Int) (k : Nat) (h : k < zs.length) : (zs.take (k + 1)).map f = (zs.take k).map f ++ [f (zs.getD k 0)] := by
  rw [List.take_succ_eq_append_getElem h, List.map_append, List.map_cons, List.map_nil]
  simp only [List.getD_eq_getElem?_getD, List.getElem?_eq_getElem h, Option.getD_some]
set_option maxHeartbeats 4000000 in
theorem sInvertRaster_ok (r c : Int) (a : Option Addr) (n cp : Nat) (zs : List Int) (w : World) (h : Rd w a n zs) (hn : n ≤ 1048576) (hr : rasterB r c n zs = true) :
    Calls Try.prog 35 #[.agg #[.int .i64 r, .int .i64 c, .slice a n cp]] w (ResG w r c (zs.map fun x => 255 - x) 0) := by
  obtain ⟨r1, r2, r3, r4, r5, r6, r7, r8⟩ := rasterB_yes hr
  have hp : 0 < n := by omega
  obtain ⟨rows, rfl⟩ := Int.eq_ofNat_of_zero_le (show 0 ≤ r by omega)
  obtain ⟨cols, rfl⟩ := Int.eq_ofNat_of_zero_le (show 0 ≤ c by omega)
  have hnn : n = rows * cols := by
    have : ((rows : Int) * (cols : Int)) = ((rows * cols : Nat) : Int) := by simp
    omega
  have HN := Lib.hid hnn
  have HH := Lib.hid h
  have hl := Lib.hid h.1
  have H7 := Lib.hid r7
  have H8 := Lib.hid r8
  have HR := Lib.hid hr
  clear h r5 r6 r7 r8 hnn
  have bP := Lib.hid (Box3.new w 27 (.int .i64 (rows : Int)) (.int .i64 (cols : Int)) (.slice a n cp))
  have bO := Lib.hid (Out3.new (w.alloc (.cells #[.int .i64 (rows : Int), .int .i64 (cols : Int), .slice a n cp] 27)) 27)
  go_enter Try.func35, Try.ntmps35
  go_wp2_with fail
  refine (sIsRaster (rows : Int) (cols : Int) a n cp zs _ (HH.out.below (by repeat' (first | (with_reducible exact Below.refl _ _) | (with_reducible assumption) | (with_reducible refine Below.alloc ?_ ?_ _) | (with_reducible refine Below.setCell ?_ ?_ _) | (with_reducible refine Below.drew ?_) | (with_reducible refine below_drewN ?_ _) | (with_reducible refine below_via (by with_reducible assumption) ?_ ?_) | go_size))) hn).mono ?_
  rintro e w1 ⟨rfl, hb1⟩
  have hz1 := hb1.size; try simp at hz1
  obtain ⟨_, _, _, _⟩ := (bP.out.keep (by repeat' (first | (with_reducible exact Below.refl _ _) | (with_reducible assumption) | (with_reducible refine Below.alloc ?_ ?_ _) | (with_reducible refine Below.setCell ?_ ?_ _) | (with_reducible refine Below.drew ?_) | (with_reducible refine below_drewN ?_ _) | (with_reducible refine below_via (by with_reducible assumption) ?_ ?_) | go_size)) : Box3 w1 _ _ _ _)
  rw [hr]
  clear hr
  have HP2 : Hid (∀ wr, Below w1.heap.size w1 wr → Below w.heap.size w wr ∧ Box3 wr w.heap.size (.int .i64 (rows : Int)) (.int .i64 (cols : Int)) (.slice a n cp) ∧ Out3 wr (w.heap.size + 1)) := by
    intro wr hwr
    have x1 := (bP.out.keep (by repeat' (first | (with_reducible exact Below.refl _ _) | (with_reducible assumption) | (with_reducible refine Below.alloc ?_ ?_ _) | (with_reducible refine Below.setCell ?_ ?_ _) | (with_reducible refine Below.drew ?_) | (with_reducible refine below_drewN ?_ _) | (with_reducible refine below_via (by with_reducible assumption) ?_ ?_) | go_size)) : Box3 wr w.heap.size (.int .i64 (rows : Int)) (.int .i64 (cols : Int)) (.slice a n cp))
    have x2 := bO.out.keep (by repeat' (first | (with_reducible exact Below.refl _ _) | (with_reducible assumption) | (with_reducible refine Below.alloc ?_ ?_ _) | (with_reducible refine Below.setCell ?_ ?_ _) | (with_reducible refine Below.drew ?_) | (with_reducible refine below_drewN ?_ _) | (with_reducible refine below_via (by with_reducible assumption) ?_ ?_) | go_size) : Below _ _ wr)
    simp only [World.size_alloc] at x2
    exact ⟨by repeat' (first | (with_reducible exact Below.refl _ _) | (with_reducible assumption) | (with_reducible refine Below.alloc ?_ ?_ _) | (with_reducible refine Below.setCell ?_ ?_ _) | (with_reducible refine Below.drew ?_) | (with_reducible refine below_drewN ?_ _) | (with_reducible refine below_via (by with_reducible assumption) ?_ ?_) | go_size), x1, x2⟩
  have HRd : Hid (∀ wr, Below w.heap.size w wr → Rd wr a n zs) := fun wr h => HH.out.below h
  obtain ⟨i0, hi, hz0, hz1', hz2⟩ := info_parts infoInt
  clear hb1 bP bO HH
  go_wp2
  obtain ⟨W, hW⟩ : ∃ W, W = w1.alloc (.cells #[] 2) := ⟨_, rfl⟩
  have hBW : Hid (Below w1.heap.size w1 W) := by rw [hW]; exact (Below.refl _ _).alloc (Nat.le_refl _) _
  have HS : Hid (W.heap.size = w1.heap.size + 1) := by unfold Hid; rw [hW]; simp
  have HO0 : Hid (W.ownsRow w1.heap.size 2 1 (.slice (some ⟨w1.heap.size, 0, none⟩) 0 0) 0 []) := by
    have := World.ownsRow_lit (base := w1.heap.size) (e := 2) (size := 1) w1 #[] 0 (by simp) (by unfold maxLen; omega) (by simp)
    rw [hW]
    exact this
  rw [← hW]
  have hs1 : w.heap.size + 2 ≤ w1.heap.size := by omega
  clear hW
  go_loopw [4, 5] (fun v i wr => ∃ k : Nat, k ≤ n ∧ i = .int .i64 k ∧ wr.ownsRow w1.heap.size 2 1 v k (((zs.take k).map fun x => 255 - x).map (Value.int .i64)) ∧ Below w1.heap.size W wr) (fun _ i _ => n - (intOf i).toNat)
  case atStart => exact ⟨0, Nat.zero_le _, rfl, by simpa using HO0.out, Below.refl _ _⟩
  case round =>
    obtain ⟨k, hkn, rfl, hown, hbel⟩ := hrel
    obtain ⟨d0, ⟨d1, d2, d3, d4⟩, d5⟩ := HP2.out wr (hBW.out.trans hbel)
    have hsz : w1.heap.size < wr.heap.size := by have := hbel.size; have := HS.out; omega
    by_cases hlt : k < n
    · obtain ⟨b, off, rfl, hb, hcell⟩ := (HRd.out wr d0).2 (by omega)
      have hx := hcell k hlt
      have HV : Hid (((zs.take (k + 1)).map fun x => 255 - x).map (Value.int .i64) = ((zs.take k).map fun x => 255 - x).map (Value.int .i64) ++ [.int .i64 (255 - zs.getD k 0)]) := by
        unfold Hid
        rw [take_map_snoc _ _ _ (by rw [hl.out]; exact hlt)]; simp
      have hx8 := H8.out _ (getD_mem (zs := zs) (i := k) (by rw [hl.out]; exact hlt))
      generalize zs.getD k 0 = x at hx hx8 HV
      clear d0 d5 hcell
      go_wp2_with (at_builtin; refine wpList_append_own _ rfl _ _ 22 rfl w1.heap.size 2 i0 (.int .i64 0) 1 8 Try.underlying22 hi hz0 hz1' hz2 rfl (by decide) _ _ _ rfl (hown.alloc _) ⟨wr.heap.size, 0, none⟩ 1 1 [.int .i64 (255 - x)] rfl rfl (cell_one_new _ _ _) (by simp [Value.oneCell']) (by unfold maxLen; omega) (by omega) (by simp; omega) ?_; intro v' w2 hown' hgrow _)
      have HO : Hid (w2.ownsRow w1.heap.size 2 1 v' (k + 1) (((zs.take (k + 1)).map fun x => 255 - x).map (Value.int .i64))) := by rw [HV.out]; exact hown'
      have HB : Hid (Below w1.heap.size W w2) := (hbel.alloc (by omega) _).grown hgrow (by simp; omega) (fun j e => (hown.lt j e).1)
      clear hown hown' hgrow hbel
      go_wp2
      go_roundw
      case rel => exact ⟨k + 1, by omega, by go_num, HO.out, HB.out⟩
      case measure => simp [intOf]; omega
    · have hke : k = n := by omega
      obtain ⟨o2, o3, o4, o5, o6, o7, o8⟩ := d5
      obtain ⟨av, cv, rfl⟩ := own_shape hown
      have HO : Hid (wr.ownsRow w1.heap.size 2 1 (.slice av n cv) n ((zs.map fun x => 255 - x).map (Value.int .i64))) := by
        have := hown
        rw [hke, show zs.take n = zs from by rw [List.take_of_length_le (by rw [hl.out]; exact Nat.le_refl _)]] at this
        exact this
      have HK := Lib.hid hke
      have HB := Lib.hid d0
      clear hke hown hbel d0
      go_wp2
      have hlen : (zs.map fun x => 255 - x).length = n := by simp [hl.out]
      refine bodyPost_ret (v := .tuple #[.agg #[.int .i64 rows, .int .i64 cols, .slice av k cv], .int .i64 0]) (by simp [results, Try.results35, go_sem, o3, o4, o5]) rfl ?_
      rw [HK.out]
      refine ⟨av, cv, by rw [hlen], ?_, (((HB.out.setCell (by simp) _).setCell (by simp) _).setCell (by simp) _), by rw [hlen]; exact hn⟩
      rw [hlen]
      exact own_mono (own_far (own_far (own_far HO.out (by simp; omega) _) (by simp; omega) _) (by simp; omega) _) (by omega)
end Go.Proofs.Ytmcpgaidllpmcaa
