/-
  DERIVED. TURNS, QUADS, THREE SPOTS IN ORDER, CORNERS: contracts and laws.
-/
import Derived.Test.YtdbecdgiafjkfaaSpot
import Derived.Deep.RegionHeld3
namespace Go.Proofs.Ytdbecdgiafjkfaa
open Go.RowKit
set_option linter.unusedVariables false

def turnV (px py qx qy rx ry : Int) : Int := wrap64 (wrap64 (wrap64 (qx - px) * wrap64 (ry - qy)) - wrap64 (wrap64 (qy - py) * wrap64 (rx - qx)))
set_option maxHeartbeats 400000 in
theorem sTurn (px py qx qy rx ry : Int) (w : World) : Calls Try.prog 102 #[.agg #[.int .i64 px, .int .i64 py], .agg #[.int .i64 qx, .int .i64 qy], .agg #[.int .i64 rx, .int .i64 ry]] w
    fun e w' => e = .returned (.int .i64 (turnV px py qx qy rx ry)) ∧ Below w.heap.size w w' := by
  go_enter Try.func102, Try.ntmps102
  go_wp2
  go_returns
  exact ⟨rfl, by repeat' (first | (with_reducible exact Below.refl _ _) | (with_reducible assumption) | (with_reducible refine Below.alloc ?_ ?_ _) | (with_reducible refine Below.setCell ?_ ?_ _) | (with_reducible refine Below.drew ?_) | (with_reducible refine below_drewN ?_ _) | (with_reducible refine below_via (by with_reducible assumption) ?_ ?_) | go_size)⟩
set_option maxHeartbeats 400000 in
theorem iMinus (px py qx qy : Int) (w : World) : Calls Try.prog 105 #[.agg #[.int .i64 px, .int .i64 py], .agg #[.int .i64 qx, .int .i64 qy]] w
    fun e w' => e = .returned (.agg #[.int .i64 (wrap64 (px - qx)), .int .i64 (wrap64 (py - qy))]) ∧
      ((w.alloc (.cells #[.int .i64 px, .int .i64 py] 35)).alloc (.cells #[.int .i64 qx, .int .i64 qy] 35)).alloc (.cells #[.int .i64 (wrap64 (px - qx)), .int .i64 (wrap64 (py - qy))] 35) = w' := by
  go_enter Try.func105, Try.ntmps105
  go_wp2
  go_returns
  exact ⟨rfl, rfl⟩
noncomputable def boxed3 (px py qx qy rx ry : Int) (w : World) : World := ((w.alloc (.cells #[.int .i64 px, .int .i64 py] 35)).alloc (.cells #[.int .i64 qx, .int .i64 qy] 35)).alloc (.cells #[.int .i64 rx, .int .i64 ry] 35)
theorem boxes3 (px py qx qy rx ry : Int) (w : World) : ∀ w', Below (w.heap.size + 3) (boxed3 px py qx qy rx ry w) w' → Below (w.heap.size + 3) (boxed3 px py qx qy rx ry w) w' ∧ w.heap.size + 2 < w'.heap.size ∧
      w'.cell? ⟨w.heap.size, 0, none⟩ = some (.int .i64 px) ∧ w'.cell? ⟨w.heap.size, 1, none⟩ = some (.int .i64 py) ∧
      w'.cell? ⟨w.heap.size + 1, 0, none⟩ = some (.int .i64 qx) ∧ w'.cell? ⟨w.heap.size + 1, 1, none⟩ = some (.int .i64 qy) ∧
      w'.cell? ⟨w.heap.size + 1 + 1, 0, none⟩ = some (.int .i64 rx) ∧ w'.cell? ⟨w.heap.size + 1 + 1, 1, none⟩ = some (.int .i64 ry) := by
  intro w' h
  have hs := h.size
  simp [boxed3] at hs
  refine ⟨h, by omega, ?_, ?_, ?_, ?_, ?_, ?_⟩ <;> (refine (h.cell (p := ⟨_, _, none⟩) (by simp)).trans ?_; simp [boxed3, go_sem])
set_option maxHeartbeats 400000 in
theorem iTurn (px py qx qy rx ry : Int) (w : World) : Calls Try.prog 66 #[.agg #[.int .i64 px, .int .i64 py], .agg #[.int .i64 qx, .int .i64 qy], .agg #[.int .i64 rx, .int .i64 ry]] w
    fun e w' => e = .returned (.int .i64 (turnV px py qx qy rx ry)) ∧ Below w.heap.size w w' := by
  have HS := Lib.hid (boxes3 px py qx qy rx ry w)
  go_enter Try.func66, Try.ntmps66
  go_wp2_with fail
  go_region_held3 (fun w' => Below (w.heap.size + 3) (boxed3 px py qx qy rx ry w) w' ∧ w.heap.size + 2 < w'.heap.size ∧
      w'.cell? ⟨w.heap.size, 0, none⟩ = some (.int .i64 px) ∧ w'.cell? ⟨w.heap.size, 1, none⟩ = some (.int .i64 py) ∧
      w'.cell? ⟨w.heap.size + 1, 0, none⟩ = some (.int .i64 qx) ∧ w'.cell? ⟨w.heap.size + 1, 1, none⟩ = some (.int .i64 qy) ∧
      w'.cell? ⟨w.heap.size + 1 + 1, 0, none⟩ = some (.int .i64 rx) ∧ w'.cell? ⟨w.heap.size + 1 + 1, 1, none⟩ = some (.int .i64 ry))
    (exact HS.out _ (by unfold boxed3; repeat' (first | (with_reducible exact Below.refl _ _) | (with_reducible assumption) | (with_reducible refine Below.alloc ?_ ?_ _) | (with_reducible refine Below.setCell ?_ ?_ _) | (with_reducible refine Below.drew ?_) | (with_reducible refine below_drewN ?_ _) | (with_reducible refine below_via (by with_reducible assumption) ?_ ?_) | go_size)))
    (first | (go_at_call 105; refine (iMinus _ _ _ _ _).mono ?_; rintro e w' ⟨rfl, rfl⟩))
  all_goals
    go_wp2
    go_returns
    exact ⟨rfl, by repeat' (first | (with_reducible exact Below.refl _ _) | (with_reducible assumption) | (with_reducible refine Below.alloc ?_ ?_ _) | (with_reducible refine Below.setCell ?_ ?_ _) | (with_reducible refine Below.drew ?_) | (with_reducible refine below_drewN ?_ _) | (with_reducible refine below_via (by with_reducible assumption) ?_ ?_) | go_size)⟩
end Go.Proofs.Ytdbecdgiafjkfaa
