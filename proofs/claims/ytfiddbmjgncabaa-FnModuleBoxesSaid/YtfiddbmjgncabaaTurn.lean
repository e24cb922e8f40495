/-
  DERIVED. TurnRaster: contracts.
-/
import Derived.Test.YtfiddbmjgncabaaInv
import Derived.Conc.MuLone
namespace Go.Proofs.Ytfiddbmjgncabaa
open Go.RowKit
set_option linter.unusedVariables false
end Go.Proofs.Ytfiddbmjgncabaa
