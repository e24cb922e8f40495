/-
  DERIVED. TurnOf, IsQuad: contracts and laws.
-/
import Derived.Test.YtdbecdgiafjkfaaSpot2
namespace Go.Proofs.Ytdbecdgiafjkfaa
open Go.RowKit
set_option linter.unusedVariables false

def spots3B (px py qx qy rx ry : Int) : Bool := spotB px py && (spotB qx qy && spotB rx ry)
set_option maxHeartbeats 2000000 in
theorem iSpots3 (g : Nat) (px py qx qy rx ry : Int) (w : World) (hg : g < w.heap.size)
    (c0 : w.cell? ⟨g, 0, none⟩ = some (.int .i64 px)) (c1 : w.cell? ⟨g, 1, none⟩ = some (.int .i64 py)) (c2 : w.cell? ⟨g, 2, none⟩ = some (.int .i64 qx)) (c3 : w.cell? ⟨g, 3, none⟩ = some (.int .i64 qy))
    (c4 : w.cell? ⟨g, 4, none⟩ = some (.int .i64 rx)) (c5 : w.cell? ⟨g, 5, none⟩ = some (.int .i64 ry)) :
    Calls Try.prog 65 #[.slice (some ⟨g, 0, none⟩) 3 3] w fun e w' => e = .returned (.bool (spots3B px py qx qy rx ry)) ∧ Below w.heap.size w w' := by
  rcases and3 (spotB px py) (spotB qx qy) (spotB rx ry) with h1 | ⟨h1, h2⟩ | ⟨h1, h2, h3⟩ | ⟨h1, h2, h3⟩
  all_goals
    go_enter Try.func65, Try.ntmps65
    go_wp2_with fail
    refine wp_loop_rounds 4 ?_
    repeat any_goals (rw [rounds_succ]; go_wp2_with (go_at_call 104; refine (iIsSpot _ _ _).mono ?_; rintro e w' ⟨rfl, hb⟩; obtain ⟨hc, hf⟩ := bcell hb; have hz := hb.size; (try simp at hz); have hg : g < w'.heap.size := (by omega)))
    go_returns
    exact ⟨ret_bool (by simp [spots3B, *]), by repeat' (first | (with_reducible exact Below.refl _ _) | (with_reducible assumption) | (with_reducible refine Below.alloc ?_ ?_ _) | (with_reducible refine Below.setCell ?_ ?_ _) | (with_reducible refine Below.drew ?_) | (with_reducible refine below_drewN ?_ _) | (with_reducible refine below_via (by with_reducible assumption) ?_ ?_) | go_size)⟩
set_option maxHeartbeats 2000000 in
theorem sTurnOf (px py qx qy rx ry : Int) (w : World) : Calls Try.prog 63 #[.agg #[.int .i64 px, .int .i64 py], .agg #[.int .i64 qx, .int .i64 qy], .agg #[.int .i64 rx, .int .i64 ry]] w
    fun e w' => e = .returned (.tuple #[.int .i64 (selI (spots3B px py qx qy rx ry) (turnV px py qx qy rx ry) 0), .int .i64 (selI (spots3B px py qx qy rx ry) 0 1)]) ∧ Below w.heap.size w w' := by
  rcases and3 (spotB px py) (spotB qx qy) (spotB rx ry) with h1 | ⟨h1, h2⟩ | ⟨h1, h2, h3⟩ | ⟨h1, h2, h3⟩
  all_goals
    go_enter Try.func63, Try.ntmps63
    go_wp2_with (first | (go_at_call 68; refine (sIsSpot _ _ _).mono ?_; rintro e w' ⟨rfl, hb⟩; obtain ⟨hc, hf⟩ := bcell hb; have hz := hb.size; (try simp at hz); have hz0 : w.heap.size < w'.heap.size := (by omega); have hz1 : w.heap.size + 1 < w'.heap.size := (by omega); have hz2 : w.heap.size + 1 + 1 < w'.heap.size := (by omega)) | (go_at_call 102; refine (sTurn _ _ _ _ _ _ _).mono ?_; rintro e w' ⟨rfl, hb⟩; obtain ⟨hc, hf⟩ := bcell hb; have hz := hb.size; (try simp at hz); have hz0 : w.heap.size < w'.heap.size := (by omega); have hz1 : w.heap.size + 1 < w'.heap.size := (by omega); have hz2 : w.heap.size + 1 + 1 < w'.heap.size := (by omega)))
    go_returns
    exact ⟨ret_ints2 (by simp [spots3B, selI, *]) (by simp [spots3B, selI, *]), by repeat' (first | (with_reducible exact Below.refl _ _) | (with_reducible assumption) | (with_reducible refine Below.alloc ?_ ?_ _) | (with_reducible refine Below.setCell ?_ ?_ _) | (with_reducible refine Below.drew ?_) | (with_reducible refine below_drewN ?_ _) | (with_reducible refine below_via (by with_reducible assumption) ?_ ?_) | go_size)⟩
set_option maxHeartbeats 2000000 in
theorem iTurnOf (px py qx qy rx ry : Int) (w : World) : Calls Try.prog 32 #[.agg #[.int .i64 px, .int .i64 py], .agg #[.int .i64 qx, .int .i64 qy], .agg #[.int .i64 rx, .int .i64 ry]] w
    fun e w' => e = .returned (.tuple #[.int .i64 (selI (spots3B px py qx qy rx ry) (turnV px py qx qy rx ry) 0), .int .i64 (selI (spots3B px py qx qy rx ry) 0 1)]) ∧ Below w.heap.size w w' := by
  cases h1 : spots3B px py qx qy rx ry
  all_goals
    go_enter Try.func32, Try.ntmps32
    go_wp2_with (first | (go_at_call 65; go_call (iSpots3 _ px py qx qy rx ry _) as e w' ⟨rfl, hb⟩; obtain ⟨hc, hf⟩ := bcell hb; have hz := hb.size; (try simp at hz); have hz0 : w.heap.size < w'.heap.size := (by omega); have hz1 : w.heap.size + 1 < w'.heap.size := (by omega); have hz2 : w.heap.size + 1 + 1 < w'.heap.size := (by omega)) | (go_at_call 66; refine (iTurn _ _ _ _ _ _ _).mono ?_; rintro e w' ⟨rfl, hb⟩; obtain ⟨hc, hf⟩ := bcell hb; have hz := hb.size; (try simp at hz); have hz0 : w.heap.size < w'.heap.size := (by omega); have hz1 : w.heap.size + 1 < w'.heap.size := (by omega); have hz2 : w.heap.size + 1 + 1 < w'.heap.size := (by omega)))
    go_returns
    exact ⟨ret_ints2 (by simp [selI]) (by simp [selI]), by repeat' (first | (with_reducible exact Below.refl _ _) | (with_reducible assumption) | (with_reducible refine Below.alloc ?_ ?_ _) | (with_reducible refine Below.setCell ?_ ?_ _) | (with_reducible refine Below.drew ?_) | (with_reducible refine below_drewN ?_ _) | (with_reducible refine below_via (by with_reducible assumption) ?_ ?_) | go_size)⟩
theorem held_spots3 (px py qx qy rx ry : Int) (w : World) : ∀ w', Below (w.heap.size + 3) (((w.alloc (.cells #[.int .i64 px, .int .i64 py] 34)).alloc (.cells #[.int .i64 qx, .int .i64 qy] 34)).alloc (.cells #[.int .i64 rx, .int .i64 ry] 34)) w' → Below (w.heap.size + 3) (((w.alloc (.cells #[.int .i64 px, .int .i64 py] 34)).alloc (.cells #[.int .i64 qx, .int .i64 qy] 34)).alloc (.cells #[.int .i64 rx, .int .i64 ry] 34)) w' ∧ w.heap.size < w'.heap.size ∧ w.heap.size + 1 < w'.heap.size ∧ w.heap.size + 1 + 1 < w'.heap.size ∧ w'.cell? ⟨w.heap.size, 0, none⟩ = some (.int .i64 px) ∧ w'.cell? ⟨w.heap.size, 1, none⟩ = some (.int .i64 py) ∧ w'.cell? ⟨w.heap.size + 1, 0, none⟩ = some (.int .i64 qx) ∧ w'.cell? ⟨w.heap.size + 1, 1, none⟩ = some (.int .i64 qy) ∧ w'.cell? ⟨w.heap.size + 1 + 1, 0, none⟩ = some (.int .i64 rx) ∧ w'.cell? ⟨w.heap.size + 1 + 1, 1, none⟩ = some (.int .i64 ry) := by
  intro w' h
  have hs := h.size
  simp at hs
  refine ⟨h, by omega, by omega, by omega, ?_, ?_, ?_, ?_, ?_, ?_⟩ <;> (refine (h.cell (p := ⟨_, _, none⟩) (by simp)).trans ?_; simp [go_sem])
end Go.Proofs.Ytdbecdgiafjkfaa
