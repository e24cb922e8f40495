/-
  DERIVED. SPOTS: contracts.
-/
import Derived.Test.YtdbecdgiafjkfaaNum
namespace Go.Proofs.Ytdbecdgiafjkfaa
open Go.RowKit
set_option linter.unusedVariables false

def spotB (x y : Int) : Bool := inB x (-4000) 4000 && inB y (-4000) 4000
set_option maxHeartbeats 400000 in
theorem toSpot (x y : Int) (w : World) : Calls Try.prog 20 #[.agg #[.int .i64 x, .int .i64 y]] w fun e w' => e = .returned (.agg #[.int .i64 x, .int .i64 y]) ∧ Below w.heap.size w w' := by
  go_enter Try.func20, Try.ntmps20
  go_wp2
  go_returns
  exact ⟨rfl, by go_grown⟩
set_option maxHeartbeats 400000 in
theorem sIsSpot (x y : Int) (w : World) : Calls Try.prog 68 #[.agg #[.int .i64 x, .int .i64 y]] w fun e w' => e = .returned (.bool (spotB x y)) ∧ Below w.heap.size w w' := by
  cases h : inB x (-4000) 4000
  · go_enter Try.func68, Try.ntmps68
    go_wp2_with (go_at_call 75; refine (sIn _ _ _ _).mono ?_; rintro e w' ⟨rfl, rfl⟩)
    go_returns
    exact ⟨ret_bool (by simp [spotB, h]), by go_grown⟩
  · go_enter Try.func68, Try.ntmps68
    go_wp2_with (go_at_call 75; refine (sIn _ _ _ _).mono ?_; rintro e w' ⟨rfl, rfl⟩)
    go_returns
    exact ⟨ret_bool (by simp [spotB, h]), by go_grown⟩
set_option maxHeartbeats 400000 in
theorem iIsSpot (x y : Int) (w : World) : Calls Try.prog 104 #[.agg #[.int .i64 x, .int .i64 y]] w fun e w' => e = .returned (.bool (spotB x y)) ∧ Below w.heap.size w w' := by
  cases h : inB x (-4000) 4000
  · go_enter Try.func104, Try.ntmps104
    go_wp2_with (go_at_call 77; refine (iIn _ _ _ _).mono ?_; rintro e w' ⟨rfl, rfl⟩)
    go_returns
    exact ⟨ret_bool (by simp [spotB, h]), by go_grown⟩
  · go_enter Try.func104, Try.ntmps104
    go_wp2_with (go_at_call 77; refine (iIn _ _ _ _).mono ?_; rintro e w' ⟨rfl, rfl⟩)
    go_returns
    exact ⟨ret_bool (by simp [spotB, h]), by go_grown⟩
end Go.Proofs.Ytdbecdgiafjkfaa
