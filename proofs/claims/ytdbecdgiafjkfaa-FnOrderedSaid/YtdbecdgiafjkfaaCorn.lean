/-
  DERIVED. CornersOf: the contracts of its helpers.
-/
import Derived.Test.YtdbecdgiafjkfaaSpot2
import Derived.Conc.MuLone
namespace Go.Proofs.Ytdbecdgiafjkfaa
open Go.RowKit
set_option linter.unusedVariables false
def floorV (a b : Int) : Int := if a.tmod b < 0 then wrap64 (wrap64 (a.tdiv b) - 1) else wrap64 (a.tdiv b)
theorem floorV_yes {a b : Int} (h : a.tmod b < 0) : floorV a b = wrap64 (wrap64 (a.tdiv b) - 1) := if_pos h
theorem floorV_no {a b : Int} (h : ¬ a.tmod b < 0) : floorV a b = wrap64 (a.tdiv b) := if_neg h
set_option maxHeartbeats 400000 in
theorem sFloor (a b : Int) (w : World) (hb : 0 < b) : Calls Try.prog 116 #[.int .i64 a, .int .i64 b] w fun e w' => e = .returned (.int .i64 (floorV a b)) ∧ w = w' := by
  have hb0 : b ≠ 0 := by omega
  have hb1 : ¬ b = 0 := by omega
  by_cases h : a.tmod b < 0
  · have e := floorV_yes h
    go_enter Try.func116, Try.ntmps116
    go_wp2
    go_returns
    exact ⟨by first | rfl | (rw [e]; rfl), rfl⟩
  · have e := floorV_no h
    go_enter Try.func116, Try.ntmps116
    go_wp2
    go_returns
    exact ⟨by first | rfl | (rw [e]; rfl), rfl⟩
set_option maxHeartbeats 400000 in
theorem iFloor (a b : Int) (w : World) (hb : 0 < b) : Calls Try.prog 117 #[.int .i64 a, .int .i64 b] w fun e w' => e = .returned (.int .i64 (floorV a b)) ∧ w = w' := by
  have hb0 : b ≠ 0 := by omega
  have hb1 : ¬ b = 0 := by omega
  by_cases h : a.tmod b < 0
  · have e := floorV_yes h
    go_enter Try.func117, Try.ntmps117
    go_wp2
    go_returns
    exact ⟨by first | rfl | (rw [e]; rfl), rfl⟩
  · have e := floorV_no h
    go_enter Try.func117, Try.ntmps117
    go_wp2
    go_returns
    exact ⟨by first | rfl | (rw [e]; rfl), rfl⟩
set_option maxHeartbeats 400000 in
theorem iPlus (px py qx qy : Int) (w : World) : Calls Try.prog 108 #[.agg #[.int .i64 px, .int .i64 py], .agg #[.int .i64 qx, .int .i64 qy]] w
    fun e w' => e = .returned (.agg #[.int .i64 (wrap64 (px + qx)), .int .i64 (wrap64 (py + qy))]) ∧ Below w.heap.size w w' := by
  go_enter Try.func108, Try.ntmps108
  go_wp2
  go_returns
  exact ⟨rfl, by repeat' (first | (with_reducible exact Below.refl _ _) | (with_reducible assumption) | (with_reducible refine Below.alloc ?_ ?_ _) | (with_reducible refine Below.setCell ?_ ?_ _) | (with_reducible refine Below.drew ?_) | (with_reducible refine below_drewN ?_ _) | (with_reducible refine below_via (by with_reducible assumption) ?_ ?_) | go_size)⟩
theorem iMinusB (px py qx qy : Int) (w : World) : Calls Try.prog 105 #[.agg #[.int .i64 px, .int .i64 py], .agg #[.int .i64 qx, .int .i64 qy]] w
    fun e w' => e = .returned (.agg #[.int .i64 (wrap64 (px - qx)), .int .i64 (wrap64 (py - qy))]) ∧ Below w.heap.size w w' :=
  (iMinus px py qx qy w).mono fun e w' h => ⟨h.1, by rw [← h.2]; repeat' (first | (with_reducible exact Below.refl _ _) | (with_reducible assumption) | (with_reducible refine Below.alloc ?_ ?_ _) | (with_reducible refine Below.setCell ?_ ?_ _) | (with_reducible refine Below.drew ?_) | (with_reducible refine below_drewN ?_ _) | (with_reducible refine below_via (by with_reducible assumption) ?_ ?_) | go_size)⟩
set_option maxHeartbeats 1000000 in
theorem sPlus (px py x y t b : Int) (w : World) (hb : 0 < b) : Calls Try.prog 107 #[.agg #[.int .i64 px, .int .i64 py], .int .i64 x, .int .i64 y, .int .i64 t, .int .i64 b] w
    fun e w' => e = .returned (.agg #[.int .i64 (wrap64 (px + floorV (wrap64 (t * x)) b)), .int .i64 (wrap64 (py + floorV (wrap64 (t * y)) b))]) ∧ Below w.heap.size w w' := by
  have HS : Hid (∀ w', Below (w.heap.size + 1) (w.alloc (.cells #[.int .i64 px, .int .i64 py] 35)) w' → Below (w.heap.size + 1) (w.alloc (.cells #[.int .i64 px, .int .i64 py] 35)) w' ∧ w'.cell? ⟨w.heap.size, 0, none⟩ = some (.int .i64 px) ∧ w'.cell? ⟨w.heap.size, 1, none⟩ = some (.int .i64 py)) := by
    intro w' h
    refine ⟨h, ?_, ?_⟩ <;> (refine (h.cell (p := ⟨_, _, none⟩) (by simp)).trans ?_; simp [go_sem])
  go_enter Try.func107, Try.ntmps107
  go_wp2_with fail
  go_region_held3 (fun w' => Below (w.heap.size + 1) (w.alloc (.cells #[.int .i64 px, .int .i64 py] 35)) w' ∧ w'.cell? ⟨w.heap.size, 0, none⟩ = some (.int .i64 px) ∧ w'.cell? ⟨w.heap.size, 1, none⟩ = some (.int .i64 py)) (exact HS.out _ (by repeat' (first | (with_reducible exact Below.refl _ _) | (with_reducible assumption) | (with_reducible refine Below.alloc ?_ ?_ _) | (with_reducible refine Below.setCell ?_ ?_ _) | (with_reducible refine Below.drew ?_) | (with_reducible refine below_drewN ?_ _) | (with_reducible refine below_via (by with_reducible assumption) ?_ ?_) | go_size))) (first | (go_at_call 116; refine (sFloor _ _ _ hb).mono ?_; rintro e w' ⟨rfl, rfl⟩))
  all_goals
    go_wp2
    go_returns
    exact ⟨by simp only [IntWalk.i64_left], by repeat' (first | (with_reducible exact Below.refl _ _) | (with_reducible assumption) | (with_reducible refine Below.alloc ?_ ?_ _) | (with_reducible refine Below.setCell ?_ ?_ _) | (with_reducible refine Below.drew ?_) | (with_reducible refine below_drewN ?_ _) | (with_reducible refine below_via (by with_reducible assumption) ?_ ?_) | go_size)⟩
set_option maxHeartbeats 1000000 in
theorem iShare (x y t b : Int) (w : World) (hb : 0 < b) : Calls Try.prog 109 #[.agg #[.int .i64 x, .int .i64 y], .int .i64 t, .int .i64 b] w
    fun e w' => e = .returned (.agg #[.int .i64 (floorV (wrap64 (x * t)) b), .int .i64 (floorV (wrap64 (y * t)) b)]) ∧ Below w.heap.size w w' := by
  have HS : Hid (∀ w', Below (w.heap.size + 1) (w.alloc (.cells #[.int .i64 x, .int .i64 y] 35)) w' → Below (w.heap.size + 1) (w.alloc (.cells #[.int .i64 x, .int .i64 y] 35)) w' ∧ w'.cell? ⟨w.heap.size, 0, none⟩ = some (.int .i64 x) ∧ w'.cell? ⟨w.heap.size, 1, none⟩ = some (.int .i64 y)) := by
    intro w' h
    refine ⟨h, ?_, ?_⟩ <;> (refine (h.cell (p := ⟨_, _, none⟩) (by simp)).trans ?_; simp [go_sem])
  go_enter Try.func109, Try.ntmps109
  go_wp2_with fail
  go_region_held3 (fun w' => Below (w.heap.size + 1) (w.alloc (.cells #[.int .i64 x, .int .i64 y] 35)) w' ∧ w'.cell? ⟨w.heap.size, 0, none⟩ = some (.int .i64 x) ∧ w'.cell? ⟨w.heap.size, 1, none⟩ = some (.int .i64 y)) (exact HS.out _ (by repeat' (first | (with_reducible exact Below.refl _ _) | (with_reducible assumption) | (with_reducible refine Below.alloc ?_ ?_ _) | (with_reducible refine Below.setCell ?_ ?_ _) | (with_reducible refine Below.drew ?_) | (with_reducible refine below_drewN ?_ _) | (with_reducible refine below_via (by with_reducible assumption) ?_ ?_) | go_size))) (first | (go_at_call 117; refine (iFloor _ _ _ hb).mono ?_; rintro e w' ⟨rfl, rfl⟩))
  all_goals
    go_wp2
    go_returns
    exact ⟨by simp only [IntWalk.i64_left], by repeat' (first | (with_reducible exact Below.refl _ _) | (with_reducible assumption) | (with_reducible refine Below.alloc ?_ ?_ _) | (with_reducible refine Below.setCell ?_ ?_ _) | (with_reducible refine Below.drew ?_) | (with_reducible refine below_drewN ?_ _) | (with_reducible refine below_via (by with_reducible assumption) ?_ ?_) | go_size)⟩
end Go.Proofs.Ytdbecdgiafjkfaa
