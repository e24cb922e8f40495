/-
  DERIVED. The walk of FnExactMedianRaster.
-/
import Derived.Test.YtfiddbmjgncabaaCMedianRaster
import Derived.Test.YtfiddbmjgncabaaMedR
namespace Go.Proofs.Ytfiddbmjgncabaa
open Go.RowKit
set_option linter.unusedVariables false
theorem walk_FnExactMedianRaster (aP_Rows : Int) (aP_Cols : Int) (aP_Pixels_a : Option Addr) (aP_Pixels_n aP_Pixels_c : Nat) (aP_Pixels_z : List Int) (w : World) (f_aP_Rows : (Lit.int .i64 aP_Rows).wf = true) (f_aP_Cols : (Lit.int .i64 aP_Cols).wf = true) (h_aP_Pixels : Ints .i64 w aP_Pixels_a aP_Pixels_n aP_Pixels_c aP_Pixels_z) :
    Calls Try.prog 8 #[.agg #[.int .i64 aP_Rows, .int .i64 aP_Cols, .slice aP_Pixels_a aP_Pixels_n aP_Pixels_c]] w fun e w' => e = .returned (.bool true) ∧ Below w.heap.size w w' := by
  rcases Int.lt_or_le (1048576 : Int) aP_Pixels_n with hbig | hsm
  · exact big_FnExactMedianRaster aP_Rows aP_Cols aP_Pixels_a aP_Pixels_n aP_Pixels_c w h_aP_Pixels.max hbig
  · have hn : aP_Pixels_n ≤ 1048576 := by omega
    rcases hc : rasterB aP_Rows aP_Cols aP_Pixels_n aP_Pixels_z with _ | _
    · exact core_FnExactMedianRaster aP_Rows aP_Cols aP_Pixels_a aP_Pixels_n aP_Pixels_c aP_Pixels_z w h_aP_Pixels.rd hn 0 0 [] _ (fun a cp W h => sMedianRaster_no _ _ a _ cp _ W h hn hc) (fun a cp W h => iMedianRaster_no _ _ a _ cp _ W h hn hc)
    · obtain ⟨r1, r2, r3, r4, -⟩ := rasterB_yes hc
      obtain ⟨rows, rfl⟩ := Int.eq_ofNat_of_zero_le (show 0 ≤ aP_Rows by omega)
      obtain ⟨cols, rfl⟩ := Int.eq_ofNat_of_zero_le (show 0 ≤ aP_Cols by omega)
      exact core_FnExactMedianRaster (rows : Int) (cols : Int) aP_Pixels_a aP_Pixels_n aP_Pixels_c aP_Pixels_z w h_aP_Pixels.rd hn _ _ _ _ (fun a cp W h => sMedianRaster_ok rows cols a _ cp _ W h hn hc) (fun a cp W h => iMedianRaster_ok rows cols a _ cp _ W h hn hc)
end Go.Proofs.Ytfiddbmjgncabaa
