/-
  DERIVED. SPOTS: contracts.
-/
import Derived.Test.YtdjoidhkogmclaaNum
namespace Go.Proofs.Ytdjoidhkogmclaa
open Go.RowKit
set_option linter.unusedVariables false

def spotB (x y : Int) : Bool := inB x (-4000) 4000 && inB y (-4000) 4000
set_option maxHeartbeats 400000 in
theorem toSpot (x y : Int) (w : World) : Calls Try.prog 16 #[.agg #[.int .i64 x, .int .i64 y]] w fun e w' => e = .returned (.agg #[.int .i64 x, .int .i64 y]) ∧ Below w.heap.size w w' := by
  go_enter Try.func16, Try.ntmps16
  go_wp2
  go_returns
  exact ⟨rfl, by go_grown⟩
set_option maxHeartbeats 400000 in
theorem sIsSpot (x y : Int) (w : World) : Calls Try.prog 15 #[.agg #[.int .i64 x, .int .i64 y]] w fun e w' => e = .returned (.bool (spotB x y)) ∧ Below w.heap.size w w' := by
  cases h : inB x (-4000) 4000
  · go_enter Try.func15, Try.ntmps15
    go_wp2_with (go_at_call 48; refine (sIn _ _ _ _).mono ?_; rintro e w' ⟨rfl, rfl⟩)
    go_returns
    exact ⟨ret_bool (by simp [spotB, h]), by go_grown⟩
  · go_enter Try.func15, Try.ntmps15
    go_wp2_with (go_at_call 48; refine (sIn _ _ _ _).mono ?_; rintro e w' ⟨rfl, rfl⟩)
    go_returns
    exact ⟨ret_bool (by simp [spotB, h]), by go_grown⟩
set_option maxHeartbeats 400000 in
theorem iIsSpot (x y : Int) (w : World) : Calls Try.prog 17 #[.agg #[.int .i64 x, .int .i64 y]] w fun e w' => e = .returned (.bool (spotB x y)) ∧ Below w.heap.size w w' := by
  cases h : inB x (-4000) 4000
  · go_enter Try.func17, Try.ntmps17
    go_wp2_with (go_at_call 49; refine (iIn _ _ _ _).mono ?_; rintro e w' ⟨rfl, rfl⟩)
    go_returns
    exact ⟨ret_bool (by simp [spotB, h]), by go_grown⟩
  · go_enter Try.func17, Try.ntmps17
    go_wp2_with (go_at_call 49; refine (iIn _ _ _ _).mono ?_; rintro e w' ⟨rfl, rfl⟩)
    go_returns
    exact ⟨ret_bool (by simp [spotB, h]), by go_grown⟩
set_option maxHeartbeats 400000 in
theorem walk_FnExactIsSpot (aP_X : Int) (aP_Y : Int) (w : World) (f_aP_X : (Lit.int .i64 aP_X).wf = true) (f_aP_Y : (Lit.int .i64 aP_Y).wf = true) :
    Calls Try.prog 3 #[.agg #[.int .i64 aP_X, .int .i64 aP_Y]] w fun e w' => e = .returned (.bool true) ∧ Below w.heap.size w w' := by
  clear f_aP_X f_aP_Y
  go_enter Try.func3, Try.ntmps3
  go_wp2_with (first
    | (go_at_call 16; refine (toSpot _ _ _).mono ?_; rintro e w' ⟨rfl, hb⟩; obtain ⟨hc, hf⟩ := bcell hb; have hz := hb.size; (try simp at hz); have hz0 : w.heap.size < w'.heap.size := by omega)
    | (go_at_call 15; refine (sIsSpot _ _ _).mono ?_; rintro e w' ⟨rfl, hb⟩; obtain ⟨hc, hf⟩ := bcell hb; have hz := hb.size; (try simp at hz); have hz0 : w.heap.size < w'.heap.size := by omega)
    | (go_at_call 17; refine (iIsSpot _ _ _).mono ?_; rintro e w' ⟨rfl, hb⟩; obtain ⟨hc, hf⟩ := bcell hb; have hz := hb.size; (try simp at hz); have hz0 : w.heap.size < w'.heap.size := by omega))
  go_returns
  exact ⟨rfl, by repeat' (first | (with_reducible exact Below.refl _ _) | (with_reducible assumption) | (with_reducible refine Below.alloc ?_ ?_ _) | (with_reducible refine Below.setCell ?_ ?_ _) | (with_reducible refine Below.drew ?_) | (with_reducible refine below_drewN ?_ _) | (with_reducible refine below_via (by with_reducible assumption) ?_ ?_) | go_size)⟩
end Go.Proofs.Ytdjoidhkogmclaa
