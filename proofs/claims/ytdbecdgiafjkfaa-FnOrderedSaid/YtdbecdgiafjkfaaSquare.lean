/-
  DERIVED. Squares of distances.
-/
import Derived.Test.YtdbecdgiafjkfaaSpot2
import Derived.Conc.MuLone
namespace Go.Proofs.Ytdbecdgiafjkfaa
open Go.RowKit
set_option linter.unusedVariables false
/-- The square of a distance, as the programs reckon it. -/
def sqV (px py qx qy : Int) : Int := wrap64 (wrap64 (wrap64 (px - qx) * wrap64 (px - qx)) + wrap64 (wrap64 (py - qy) * wrap64 (py - qy)))
def sq2V (x y : Int) : Int := wrap64 (wrap64 (x * x) + wrap64 (y * y))
theorem sq2V_minus (px py qx qy : Int) : sq2V (wrap64 (px - qx)) (wrap64 (py - qy)) = sqV px py qx qy := rfl
set_option maxHeartbeats 400000 in
theorem sSquare (px py qx qy : Int) (w : World) : Calls Try.prog 103 #[.agg #[.int .i64 px, .int .i64 py], .agg #[.int .i64 qx, .int .i64 qy]] w
    fun e w' => e = .returned (.int .i64 (sqV px py qx qy)) ∧ (w.alloc (.cells #[.int .i64 px, .int .i64 py] 35)).alloc (.cells #[.int .i64 qx, .int .i64 qy] 35) = w' := by
  go_enter Try.func103, Try.ntmps103
  go_wp2
  go_returns
  exact ⟨rfl, rfl⟩
set_option maxHeartbeats 400000 in
theorem iSquare (x y : Int) (w : World) : Calls Try.prog 106 #[.agg #[.int .i64 x, .int .i64 y]] w
    fun e w' => e = .returned (.int .i64 (sq2V x y)) ∧ w.alloc (.cells #[.int .i64 x, .int .i64 y] 35) = w' := by
  go_enter Try.func106, Try.ntmps106
  go_wp2
  go_returns
  exact ⟨rfl, rfl⟩
end Go.Proofs.Ytdbecdgiafjkfaa
