/-
  DERIVED. A raster drawn: the walk.
-/
import Derived.Test.YtenelpollcabnaaDGrid
import Derived.Conc.MuLone
import Derived.Maps.AppendAt
import Derived.Deep.AppendLies
namespace Go.Proofs.Ytenelpollcabnaa
open Go.RowKit
set_option linter.unusedVariables false
theorem cellsR7 {R C : Int} (h1 : 1 ≤ R) (h2 : R ≤ 7) (h3 : 1 ≤ C) (h4 : C ≤ 7) : 1 ≤ R * C ∧ R * C ≤ 49 := by
  have a := Int.mul_le_mul h2 h4 (by omega) (by omega)
  have b := Int.mul_le_mul h1 h3 (by omega) (by omega)
  omega
end Go.Proofs.Ytenelpollcabnaa
