/-
  DERIVED. The walk of FnExactSectionsIn.
-/
import Derived.Test.YtbcbdphnbfjhoaaCSectionsIn
import Derived.Test.YtbcbdphnbfjhoaaSecS
import Derived.Test.YtbcbdphnbfjhoaaSecI
namespace Go.Proofs.Ytbcbdphnbfjhoaa
open Go.RowKit
set_option linter.unusedVariables false
theorem walk_FnExactSectionsIn (aLine_a : Option Addr) (aLine_n aLine_c : Nat) (aLine_z : List Int) (w : World) (h_aLine : Ints .i64 w aLine_a aLine_n aLine_c aLine_z) :
    Calls Try.prog 5 #[.slice aLine_a aLine_n aLine_c] w fun e w' => e = .returned (.bool true) ∧ Below w.heap.size w w' := by
  rcases Int.lt_or_le (1048576 : Int) aLine_n with hbig | hsm
  · exact big_FnExactSectionsIn aLine_a aLine_n aLine_c w h_aLine.max hbig
  · have hn : aLine_n ≤ 1048576 := by omega
    rcases hc : lineB aLine_n aLine_z with _ | _
    · exact core_FnExactSectionsIn aLine_a aLine_n aLine_c aLine_z w h_aLine.rd hn [] _ (fun a cp W h => sSectionsIn_no a _ cp _ W h hn hc) (fun a cp W h => iSectionsIn_no a _ cp _ W h hn hc)
    · exact core_FnExactSectionsIn aLine_a aLine_n aLine_c aLine_z w h_aLine.rd hn _ _ (fun a cp W h => sSectionsIn_ok a _ cp _ W h hn hc) (fun a cp W h => iSectionsIn_ok a _ cp _ W h hn hc)
end Go.Proofs.Ytbcbdphnbfjhoaa
