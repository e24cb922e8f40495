/-
  DERIVED. The walk of FnExactBlankRaster.
-/
import Derived.Test.YtmcpgaidllpmcaaCBlankRaster
import Derived.Test.YtmcpgaidllpmcaaBlank2
namespace Go.Proofs.Ytmcpgaidllpmcaa
open Go.RowKit
set_option linter.unusedVariables false
theorem walk_FnExactBlankRaster (aRows : Int) (aCols : Int) (aGrey : Int) (w : World) (f_aRows : (Lit.int .i64 aRows).wf = true) (f_aCols : (Lit.int .i64 aCols).wf = true) (f_aGrey : (Lit.int .i64 aGrey).wf = true) :
    Calls Try.prog 4 #[.int .i64 aRows, .int .i64 aCols, .int .i64 aGrey] w fun e w' => e = .returned (.bool true) ∧ Below w.heap.size w w' := by
  rcases hc : blankB aRows aCols aGrey with _ | _
  · exact core_FnExactBlankRaster aRows aCols aGrey w 0 0 [] _ (fun W => sBlankRaster_no _ _ _ W hc) (fun W => iBlankRaster_no _ _ _ W hc)
  · exact core_FnExactBlankRaster aRows aCols aGrey w _ _ _ _ (fun W => sBlankRaster_ok _ _ _ W hc) (fun W => iBlankRaster_ok _ _ _ W hc)
end Go.Proofs.Ytmcpgaidllpmcaa
