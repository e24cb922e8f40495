/-
  DERIVED. The walk of FnExactPasteRaster.
-/
import Derived.Test.YtdbecdgiafjkfaaCPaste
namespace Go.Proofs.Ytdbecdgiafjkfaa
open Go.RowKit
set_option linter.unusedVariables false
set_option maxRecDepth 20000 in
set_option maxHeartbeats 4000000 in
theorem walk_FnExactPasteRaster (aP_Rows : Int) (aP_Cols : Int) (aP_Pixels_a : Option Addr) (aP_Pixels_n aP_Pixels_c : Nat) (aP_Pixels_z : List Int) (aQ_Rows : Int) (aQ_Cols : Int) (aQ_Pixels_a : Option Addr) (aQ_Pixels_n aQ_Pixels_c : Nat) (aQ_Pixels_z : List Int) (aRow : Int) (aCol : Int) (w : World) (f_aP_Rows : (Lit.int .i64 aP_Rows).wf = true) (f_aP_Cols : (Lit.int .i64 aP_Cols).wf = true) (h_aP_Pixels : Ints .i64 w aP_Pixels_a aP_Pixels_n aP_Pixels_c aP_Pixels_z) (f_aQ_Rows : (Lit.int .i64 aQ_Rows).wf = true) (f_aQ_Cols : (Lit.int .i64 aQ_Cols).wf = true) (h_aQ_Pixels : Ints .i64 w aQ_Pixels_a aQ_Pixels_n aQ_Pixels_c aQ_Pixels_z) (f_aRow : (Lit.int .i64 aRow).wf = true) (f_aCol : (Lit.int .i64 aCol).wf = true) :
    Calls Try.prog 3 #[.agg #[.int .i64 aP_Rows, .int .i64 aP_Cols, .slice aP_Pixels_a aP_Pixels_n aP_Pixels_c], .agg #[.int .i64 aQ_Rows, .int .i64 aQ_Cols, .slice aQ_Pixels_a aQ_Pixels_n aQ_Pixels_c], .int .i64 aRow, .int .i64 aCol] w fun e w' => e = .returned (.bool true) ∧ Below w.heap.size w w' := by
  have hmP := h_aP_Pixels.max
  have hmQ := h_aQ_Pixels.max
  have hRP := h_aP_Pixels.rd
  have hRQ := h_aQ_Pixels.rd
  clear h_aP_Pixels h_aQ_Pixels
  rcases Int.lt_or_le (1048576 : Int) aP_Pixels_n with hbig | hsm
  · have HS := szV_no hbig
    clear hRP hRQ
    go_enter Try.func3, Try.ntmps3
    go_wp2_with fail
    refine (szRast _ _ _ _ _ _ hmP).mono ?_
    rintro e w1 ⟨rfl, hb1⟩
    have hz1 := hb1.size; try simp at hz1
    rw [HS]
    go_wp2
    go_returns
    exact ⟨rfl, by repeat' (first | (with_reducible exact Below.refl _ _) | (with_reducible assumption) | (with_reducible refine Below.alloc ?_ ?_ _) | (with_reducible refine Below.setCell ?_ ?_ _) | (with_reducible refine Below.drew ?_) | (with_reducible refine below_drewN ?_ _) | (with_reducible refine below_via (by with_reducible assumption) ?_ ?_) | go_size)⟩
  rcases Int.lt_or_le (1048576 - (aP_Pixels_n : Int)) aQ_Pixels_n with hbig | hsm2
  · have HZ := szV_yes hsm
    have HS := szV_no hbig
    clear hRP hRQ
    have HLQ := Lib.hid (lq_new aP_Rows aP_Cols aQ_Rows aQ_Cols aP_Pixels_a aQ_Pixels_a aP_Pixels_n aQ_Pixels_n aP_Pixels_c aQ_Pixels_c w)
    go_enter Try.func3, Try.ntmps3
    go_wp2_with fail
    refine (szRast _ _ _ _ _ _ hmP).mono ?_
    rintro e w1 ⟨rfl, hb1⟩
    have hz1 := hb1.size; try simp at hz1
    obtain ⟨⟨_, _, _, _⟩, ⟨_, _, _, _⟩⟩ := HLQ.out w1 (by repeat' (first | (with_reducible exact Below.refl _ _) | (with_reducible assumption) | (with_reducible refine Below.alloc ?_ ?_ _) | (with_reducible refine Below.setCell ?_ ?_ _) | (with_reducible refine Below.drew ?_) | (with_reducible refine below_drewN ?_ _) | (with_reducible refine below_via (by with_reducible assumption) ?_ ?_) | go_size))
    rw [HZ]
    go_wp2_with fail
    refine (szRast2 _ _ _ _ _ _ _ (by omega) (by omega) hmQ).mono ?_
    rintro e w2 ⟨rfl, hb2⟩
    have hz2 := hb2.size; try simp at hz2
    rw [HS]
    go_wp2
    go_returns
    exact ⟨rfl, by repeat' (first | (with_reducible exact Below.refl _ _) | (with_reducible assumption) | (with_reducible refine Below.alloc ?_ ?_ _) | (with_reducible refine Below.setCell ?_ ?_ _) | (with_reducible refine Below.drew ?_) | (with_reducible refine below_drewN ?_ _) | (with_reducible refine below_via (by with_reducible assumption) ?_ ?_) | go_size)⟩
  have hnP : aP_Pixels_n ≤ 1048576 := by omega
  have hnQ : aQ_Pixels_n ≤ 1048576 := by omega
  have hn : aP_Pixels_n + aQ_Pixels_n ≤ 1048576 := by omega
  rcases hr : rasterB aP_Rows aP_Cols aP_Pixels_n aP_Pixels_z with _ | _
  · exact core_FnExactPasteRaster aP_Rows aP_Cols aP_Pixels_a aP_Pixels_n aP_Pixels_c aP_Pixels_z aQ_Rows aQ_Cols aQ_Pixels_a aQ_Pixels_n aQ_Pixels_c aQ_Pixels_z aRow aCol w hRP hRQ hn 0 0 [] _
      (fun a a' cp cp' W _ h h' => sPasteRaster_no1 _ _ _ _ a a' _ _ cp cp' _ _ _ _ W h h' hnP hnQ hr) (fun a a' cp cp' W _ h h' => iPasteRaster_no1 _ _ _ _ a a' _ _ cp cp' _ _ _ _ W h h' hnP hnQ hr)
  rcases hq : rasterB aQ_Rows aQ_Cols aQ_Pixels_n aQ_Pixels_z with _ | _
  · exact core_FnExactPasteRaster aP_Rows aP_Cols aP_Pixels_a aP_Pixels_n aP_Pixels_c aP_Pixels_z aQ_Rows aQ_Cols aQ_Pixels_a aQ_Pixels_n aQ_Pixels_c aQ_Pixels_z aRow aCol w hRP hRQ hn 0 0 [] _
      (fun a a' cp cp' W _ h h' => sPasteRaster_no2 _ _ _ _ a a' _ _ cp cp' _ _ _ _ W h h' hnP hnQ hr hq) (fun a a' cp cp' W _ h h' => iPasteRaster_no2 _ _ _ _ a a' _ _ cp cp' _ _ _ _ W h h' hnP hnQ hr hq)
  rcases hw : withinB aP_Rows aP_Cols aRow aCol aQ_Rows aQ_Cols with _ | _
  · exact core_FnExactPasteRaster aP_Rows aP_Cols aP_Pixels_a aP_Pixels_n aP_Pixels_c aP_Pixels_z aQ_Rows aQ_Cols aQ_Pixels_a aQ_Pixels_n aQ_Pixels_c aQ_Pixels_z aRow aCol w hRP hRQ hn 0 0 [] _
      (fun a a' cp cp' W _ h h' => sPasteRaster_rng _ _ _ _ a a' _ _ cp cp' _ _ _ _ W h h' hnP hnQ hr hq hw) (fun a a' cp cp' W _ h h' => iPasteRaster_rng _ _ _ _ a a' _ _ cp cp' _ _ _ _ W h h' hnP hnQ hr hq hw)
  · exact core_FnExactPasteRaster aP_Rows aP_Cols aP_Pixels_a aP_Pixels_n aP_Pixels_c aP_Pixels_z aQ_Rows aQ_Cols aQ_Pixels_a aQ_Pixels_n aQ_Pixels_c aQ_Pixels_z aRow aCol w hRP hRQ hn _ _ _ _
      (fun a a' cp cp' W _ h h' => sPasteRaster_ok _ _ _ _ a a' _ _ cp cp' _ _ _ _ W h h' hnP hnQ hr hq hw) (fun a a' cp cp' W k h h' => iPasteRaster_ok _ _ _ _ a a' _ _ cp cp' _ _ _ _ W h h' hnP hnQ k hr hq hw)
end Go.Proofs.Ytdbecdgiafjkfaa
