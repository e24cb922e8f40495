/-
  DERIVED. The walk of FnExactCropRaster.
-/
import Derived.Test.YtmcpgaidllpmcaaCCropRaster
import Derived.Test.YtmcpgaidllpmcaaCrop2
import Derived.Test.YtmcpgaidllpmcaaCrop3
namespace Go.Proofs.Ytmcpgaidllpmcaa
open Go.RowKit
set_option linter.unusedVariables false
theorem walk_FnExactCropRaster (aP_Rows : Int) (aP_Cols : Int) (aP_Pixels_a : Option Addr) (aP_Pixels_n aP_Pixels_c : Nat) (aP_Pixels_z : List Int) (aRow : Int) (aCol : Int) (aRows : Int) (aCols : Int) (w : World) (f_aP_Rows : (Lit.int .i64 aP_Rows).wf = true) (f_aP_Cols : (Lit.int .i64 aP_Cols).wf = true) (h_aP_Pixels : Ints .i64 w aP_Pixels_a aP_Pixels_n aP_Pixels_c aP_Pixels_z) (f_aRow : (Lit.int .i64 aRow).wf = true) (f_aCol : (Lit.int .i64 aCol).wf = true) (f_aRows : (Lit.int .i64 aRows).wf = true) (f_aCols : (Lit.int .i64 aCols).wf = true) :
    Calls Try.prog 12 #[.agg #[.int .i64 aP_Rows, .int .i64 aP_Cols, .slice aP_Pixels_a aP_Pixels_n aP_Pixels_c], .int .i64 aRow, .int .i64 aCol, .int .i64 aRows, .int .i64 aCols] w fun e w' => e = .returned (.bool true) ∧ Below w.heap.size w w' := by
  rcases Int.lt_or_le (1048576 : Int) aP_Pixels_n with hbig | hsm
  · exact big_FnExactCropRaster aP_Rows aP_Cols aP_Pixels_a aP_Pixels_n aP_Pixels_c aRow aCol aRows aCols w h_aP_Pixels.max hbig
  · have hn : aP_Pixels_n ≤ 1048576 := by omega
    rcases hc : rasterB aP_Rows aP_Cols aP_Pixels_n aP_Pixels_z with _ | _
    · exact core_FnExactCropRaster aP_Rows aP_Cols aP_Pixels_a aP_Pixels_n aP_Pixels_c aP_Pixels_z aRow aCol aRows aCols w h_aP_Pixels.rd hn 0 0 [] _ (fun a cp W _ h => sCropRaster_no _ _ a _ cp _ _ _ _ _ W h hn hc) (fun a cp W _ h => iCropRaster_no _ _ a _ cp _ _ _ _ _ W h hn hc)
    rcases hw : withinB aP_Rows aP_Cols aRow aCol aRows aCols with _ | _
    · exact core_FnExactCropRaster aP_Rows aP_Cols aP_Pixels_a aP_Pixels_n aP_Pixels_c aP_Pixels_z aRow aCol aRows aCols w h_aP_Pixels.rd hn 0 0 [] _ (fun a cp W _ h => sCropRaster_rng _ _ a _ cp _ _ _ _ _ W h hn hc hw) (fun a cp W _ h => iCropRaster_rng _ _ a _ cp _ _ _ _ _ W h hn hc hw)
    · exact core_FnExactCropRaster aP_Rows aP_Cols aP_Pixels_a aP_Pixels_n aP_Pixels_c aP_Pixels_z aRow aCol aRows aCols w h_aP_Pixels.rd hn _ _ _ _ (fun a cp W k h => sCropRaster_ok _ _ a _ cp _ _ _ _ _ W h hn k hc hw) (fun a cp W _ h => iCropRaster_ok _ _ a _ cp _ _ _ _ _ W h hn hc hw)
end Go.Proofs.Ytmcpgaidllpmcaa
