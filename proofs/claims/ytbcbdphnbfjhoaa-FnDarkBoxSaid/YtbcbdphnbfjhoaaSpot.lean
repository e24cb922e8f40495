/-
  DERIVED. SPOTS: contracts.
-/
import Derived.Test.YtbcbdphnbfjhoaaNum
namespace Go.Proofs.Ytbcbdphnbfjhoaa
open Go.RowKit
set_option linter.unusedVariables false

def spotB (x y : Int) : Bool := inB x (-4000) 4000 && inB y (-4000) 4000
set_option maxHeartbeats 400000 in
theorem toSpot (x y : Int) (w : World) : Calls Try.prog 55 #[.agg #[.int .i64 x, .int .i64 y]] w fun e w' => e = .returned (.agg #[.int .i64 x, .int .i64 y]) ∧ Below w.heap.size w w' := by
  go_enter Try.func55, Try.ntmps55
  go_wp2
  go_returns
  exact ⟨rfl, by go_grown⟩
set_option maxHeartbeats 400000 in
theorem sIsSpot (x y : Int) (w : World) : Calls Try.prog 91 #[.agg #[.int .i64 x, .int .i64 y]] w fun e w' => e = .returned (.bool (spotB x y)) ∧ Below w.heap.size w w' := by
  cases h : inB x (-4000) 4000
  · go_enter Try.func91, Try.ntmps91
    go_wp2_with (go_at_call 81; refine (sIn _ _ _ _).mono ?_; rintro e w' ⟨rfl, rfl⟩)
    go_returns
    exact ⟨ret_bool (by simp [spotB, h]), by go_grown⟩
  · go_enter Try.func91, Try.ntmps91
    go_wp2_with (go_at_call 81; refine (sIn _ _ _ _).mono ?_; rintro e w' ⟨rfl, rfl⟩)
    go_returns
    exact ⟨ret_bool (by simp [spotB, h]), by go_grown⟩
set_option maxHeartbeats 400000 in
theorem iIsSpot (x y : Int) (w : World) : Calls Try.prog 96 #[.agg #[.int .i64 x, .int .i64 y]] w fun e w' => e = .returned (.bool (spotB x y)) ∧ Below w.heap.size w w' := by
  cases h : inB x (-4000) 4000
  · go_enter Try.func96, Try.ntmps96
    go_wp2_with (go_at_call 83; refine (iIn _ _ _ _).mono ?_; rintro e w' ⟨rfl, rfl⟩)
    go_returns
    exact ⟨ret_bool (by simp [spotB, h]), by go_grown⟩
  · go_enter Try.func96, Try.ntmps96
    go_wp2_with (go_at_call 83; refine (iIn _ _ _ _).mono ?_; rintro e w' ⟨rfl, rfl⟩)
    go_returns
    exact ⟨ret_bool (by simp [spotB, h]), by go_grown⟩
end Go.Proofs.Ytbcbdphnbfjhoaa
