/-
  DERIVED. IsLayout: contracts.
-/
import Derived.Test.YtenelpollcabnaaLay1
namespace Go.Proofs.Ytenelpollcabnaa
open Go.RowKit
set_option linter.unusedVariables false
end Go.Proofs.Ytenelpollcabnaa
