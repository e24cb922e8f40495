/-
  DERIVED. The walk of FnExactHistogram.
-/
import Derived.Test.YtmcpgaidllpmcaaCHistogram
import Derived.Test.YtmcpgaidllpmcaaHist2
namespace Go.Proofs.Ytmcpgaidllpmcaa
open Go.RowKit
set_option linter.unusedVariables false
theorem walk_FnExactHistogram (aP_Rows : Int) (aP_Cols : Int) (aP_Pixels_a : Option Addr) (aP_Pixels_n aP_Pixels_c : Nat) (aP_Pixels_z : List Int) (w : World) (f_aP_Rows : (Lit.int .i64 aP_Rows).wf = true) (f_aP_Cols : (Lit.int .i64 aP_Cols).wf = true) (h_aP_Pixels : Ints .i64 w aP_Pixels_a aP_Pixels_n aP_Pixels_c aP_Pixels_z) :
    Calls Try.prog 8 #[.agg #[.int .i64 aP_Rows, .int .i64 aP_Cols, .slice aP_Pixels_a aP_Pixels_n aP_Pixels_c]] w fun e w' => e = .returned (.bool true) ∧ Below w.heap.size w w' := by
  rcases Int.lt_or_le (1048576 : Int) aP_Pixels_n with hbig | hsm
  · exact big_FnExactHistogram aP_Rows aP_Cols aP_Pixels_a aP_Pixels_n aP_Pixels_c w h_aP_Pixels.max hbig
  · have hn : aP_Pixels_n ≤ 1048576 := by omega
    rcases hc : rasterB aP_Rows aP_Cols aP_Pixels_n aP_Pixels_z with _ | _
    · exact core_FnExactHistogram aP_Rows aP_Cols aP_Pixels_a aP_Pixels_n aP_Pixels_c aP_Pixels_z w h_aP_Pixels.rd hn 0 0 [] _ (fun a cp W h => sHistogram_no _ _ a _ cp _ W h hn hc) (fun a cp W h => iHistogram_no _ _ a _ cp _ W h hn hc)
    · exact core_FnExactHistogram aP_Rows aP_Cols aP_Pixels_a aP_Pixels_n aP_Pixels_c aP_Pixels_z w h_aP_Pixels.rd hn 0 0 _ _ (fun a cp W h => sHistogram_ok _ _ a _ cp _ W h hn hc) (fun a cp W h => iHistogram_ok _ _ a _ cp _ W h hn hc)
end Go.Proofs.Ytmcpgaidllpmcaa
