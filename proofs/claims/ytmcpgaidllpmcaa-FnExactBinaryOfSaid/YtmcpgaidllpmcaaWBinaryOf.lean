/-
  DERIVED. The walk of FnExactBinaryOf.
-/
import Derived.Test.YtmcpgaidllpmcaaCBinaryOf
import Derived.Test.YtmcpgaidllpmcaaBinOf
namespace Go.Proofs.Ytmcpgaidllpmcaa
open Go.RowKit
set_option linter.unusedVariables false
theorem walk_FnExactBinaryOf (aP_Rows : Int) (aP_Cols : Int) (aP_Pixels_a : Option Addr) (aP_Pixels_n aP_Pixels_c : Nat) (aP_Pixels_z : List Int) (aLimit : Int) (w : World) (f_aP_Rows : (Lit.int .i64 aP_Rows).wf = true) (f_aP_Cols : (Lit.int .i64 aP_Cols).wf = true) (h_aP_Pixels : Ints .i64 w aP_Pixels_a aP_Pixels_n aP_Pixels_c aP_Pixels_z) (f_aLimit : (Lit.int .i64 aLimit).wf = true) :
    Calls Try.prog 14 #[.agg #[.int .i64 aP_Rows, .int .i64 aP_Cols, .slice aP_Pixels_a aP_Pixels_n aP_Pixels_c], .int .i64 aLimit] w fun e w' => e = .returned (.bool true) ∧ Below w.heap.size w w' := by
  rcases Int.lt_or_le (1048576 : Int) aP_Pixels_n with hbig | hsm
  · exact big_FnExactBinaryOf aP_Rows aP_Cols aP_Pixels_a aP_Pixels_n aP_Pixels_c aLimit w h_aP_Pixels.max hbig
  · have hn : aP_Pixels_n ≤ 1048576 := by omega
    rcases hc : (rasterB aP_Rows aP_Cols aP_Pixels_n aP_Pixels_z && inB aLimit 0 256) with _ | _
    · exact core_FnExactBinaryOf aP_Rows aP_Cols aP_Pixels_a aP_Pixels_n aP_Pixels_c aP_Pixels_z aLimit w h_aP_Pixels.rd hn 0 0 [] _ (fun a cp W h => sBinaryOf_no _ _ a _ cp _ _ W h hn hc) (fun a cp W h => iBinaryOf_no _ _ a _ cp _ _ W h hn hc)
    · exact core_FnExactBinaryOf aP_Rows aP_Cols aP_Pixels_a aP_Pixels_n aP_Pixels_c aP_Pixels_z aLimit w h_aP_Pixels.rd hn aP_Rows aP_Cols (binL aLimit aP_Pixels_z) 0 (fun a cp W h => sBinaryOf_ok _ _ a _ cp _ _ W h hn hc) (fun a cp W h => iBinaryOf_ok _ _ a _ cp _ _ W h hn hc)
end Go.Proofs.Ytmcpgaidllpmcaa
