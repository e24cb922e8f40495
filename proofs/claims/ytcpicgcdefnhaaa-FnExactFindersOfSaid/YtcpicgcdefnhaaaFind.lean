/-
  DERIVED. SameFinder: contracts and law.
-/
import Derived.Test.YtcpicgcdefnhaaaBas
namespace Go.Proofs.Ytcpicgcdefnhaaa
open Go.RowKit
set_option linter.unusedVariables false

theorem and8 (a b c d e f g h : Bool) : a = false ∨ (a = true ∧ b = false) ∨ (a = true ∧ b = true ∧ c = false) ∨ (a = true ∧ b = true ∧ c = true ∧ d = false) ∨ (a = true ∧ b = true ∧ c = true ∧ d = true ∧ e = false) ∨
    (a = true ∧ b = true ∧ c = true ∧ d = true ∧ e = true ∧ f = false) ∨ (a = true ∧ b = true ∧ c = true ∧ d = true ∧ e = true ∧ f = true ∧ g = false) ∨ (a = true ∧ b = true ∧ c = true ∧ d = true ∧ e = true ∧ f = true ∧ g = true ∧ h = false) ∨
    (a = true ∧ b = true ∧ c = true ∧ d = true ∧ e = true ∧ f = true ∧ g = true ∧ h = true) := by
  cases a <;> cases b <;> cases c <;> cases d <;> cases e <;> cases f <;> cases g <;> cases h <;> simp

def fitB (n : Int) : Bool := inB n 0 80000
def closeB (a0 a1 b0 b1 b2 b3 : Int) : Bool := inB (a0 - b0) (-((b2 + b3) / 2)) ((b2 + b3) / 2) && inB (a1 - b1) (-((b2 + b3) / 2)) ((b2 + b3) / 2)
def sameB (a0 a1 a2 a3 b0 b1 b2 b3 : Int) : Bool := fitB a0 && (fitB a1 && (fitB a2 && (fitB a3 && (fitB b0 && (fitB b1 && (fitB b2 && (fitB b3 && closeB a0 a1 b0 b1 b2 b3)))))))
theorem fitB_eq (n : Int) : fitB n = inB n 0 80000 := rfl
set_option maxRecDepth 10000 in
set_option maxHeartbeats 4000000 in
theorem sSame (a0 a1 a2 a3 b0 b1 b2 b3 : Int) (w : World) : Calls Try.prog 35 #[.agg #[.int .i64 a0, .int .i64 a1, .int .i64 a2, .int .i64 a3], .agg #[.int .i64 b0, .int .i64 b1, .int .i64 b2, .int .i64 b3]] w
    fun e w' => e = .returned (.bool (sameB a0 a1 a2 a3 b0 b1 b2 b3)) ∧ Below w.heap.size w w' := by
  rcases and8 (inB a0 0 80000) (inB a1 0 80000) (inB a2 0 80000) (inB a3 0 80000) (inB b0 0 80000) (inB b1 0 80000) (inB b2 0 80000) (inB b3 0 80000) with h1 | ⟨h1, h2⟩ | ⟨h1, h2, h3⟩ | ⟨h1, h2, h3, h4⟩ | ⟨h1, h2, h3, h4, h5⟩ | ⟨h1, h2, h3, h4, h5, h6⟩ | ⟨h1, h2, h3, h4, h5, h6, h7⟩ | ⟨h1, h2, h3, h4, h5, h6, h7, h8⟩ | ⟨h1, h2, h3, h4, h5, h6, h7, h8⟩
  rotate_right
  · obtain ⟨_, _⟩ := inB_iff.1 h1
    obtain ⟨_, _⟩ := inB_iff.1 h2
    obtain ⟨_, _⟩ := inB_iff.1 h5
    obtain ⟨_, _⟩ := inB_iff.1 h6
    obtain ⟨_, _⟩ := inB_iff.1 h7
    obtain ⟨_, _⟩ := inB_iff.1 h8
    cases h9 : inB (a0 - b0) (-((b2 + b3) / 2)) ((b2 + b3) / 2)
    all_goals
      go_enter Try.func35, Try.ntmps35
      go_wp2_with (go_at_call 27; refine (sIn _ _ _ _).mono ?_; rintro e w' ⟨rfl, rfl⟩)
      refine wp_loop_rounds 9 ?_
      repeat any_goals (rw [rounds_succ]; go_wp2_with (go_at_call 27; refine (sIn _ _ _ _).mono ?_; rintro e w' ⟨rfl, rfl⟩))
      go_returns
      exact ⟨ret_bool (by simp [sameB, fitB, closeB, *]), by repeat' (first | (with_reducible exact Below.refl _ _) | (with_reducible assumption) | (with_reducible refine Below.alloc ?_ ?_ _) | (with_reducible refine Below.setCell ?_ ?_ _) | (with_reducible refine Below.drew ?_) | (with_reducible refine below_drewN ?_ _) | (with_reducible refine below_via (by with_reducible assumption) ?_ ?_) | go_size)⟩
  all_goals
    go_enter Try.func35, Try.ntmps35
    go_wp2_with (go_at_call 27; refine (sIn _ _ _ _).mono ?_; rintro e w' ⟨rfl, rfl⟩)
    refine wp_loop_rounds 9 ?_
    repeat any_goals (rw [rounds_succ]; go_wp2_with (go_at_call 27; refine (sIn _ _ _ _).mono ?_; rintro e w' ⟨rfl, rfl⟩))
    go_returns
    exact ⟨ret_bool (by simp [sameB, fitB, *]), by repeat' (first | (with_reducible exact Below.refl _ _) | (with_reducible assumption) | (with_reducible refine Below.alloc ?_ ?_ _) | (with_reducible refine Below.setCell ?_ ?_ _) | (with_reducible refine Below.drew ?_) | (with_reducible refine below_drewN ?_ _) | (with_reducible refine below_via (by with_reducible assumption) ?_ ?_) | go_size)⟩
def distV (n : Int) : Int := max n (-n)
set_option maxHeartbeats 400000 in
theorem iDist (n : Int) (w : World) (h1 : -9223372036854775807 ≤ n) (h2 : n ≤ 9223372036854775807) : Calls Try.prog 42 #[.int .i64 n] w fun e w' => e = .returned (.int .i64 (distV n)) ∧ w = w' := by
  go_enter Try.func42, Try.ntmps42
  go_wp2
  all_goals
    go_ret
    exact ⟨ret_int (by unfold distV; omega), rfl⟩
set_option maxHeartbeats 1000000 in
theorem iNear (a0 a1 a2 a3 b0 b1 b2 b3 : Int) (w : World) (h1 : inB a0 0 80000 = true) (h2 : inB a1 0 80000 = true) (h3 : inB b0 0 80000 = true) (h4 : inB b1 0 80000 = true) (h5 : inB b2 0 80000 = true) (h6 : inB b3 0 80000 = true) :
    Calls Try.prog 36 #[.agg #[.int .i64 a0, .int .i64 a1, .int .i64 a2, .int .i64 a3], .agg #[.int .i64 b0, .int .i64 b1, .int .i64 b2, .int .i64 b3]] w
    fun e w' => e = .returned (.bool (closeB a0 a1 b0 b1 b2 b3)) ∧ Below w.heap.size w w' := by
  obtain ⟨_, _⟩ := inB_iff.1 h1
  obtain ⟨_, _⟩ := inB_iff.1 h2
  obtain ⟨_, _⟩ := inB_iff.1 h3
  obtain ⟨_, _⟩ := inB_iff.1 h4
  obtain ⟨_, _⟩ := inB_iff.1 h5
  obtain ⟨_, _⟩ := inB_iff.1 h6
  clear h1 h2 h3 h4 h5 h6
  have HF : Hid (∀ x r : Int, decide (distV x ≤ r) = inB x (-r) r) := fun x r => by rw [Bool.eq_iff_iff, decide_eq_true_iff, inB_iff]; unfold distV; omega
  by_cases h : distV (a0 - b0) ≤ (b2 + b3) / 2
  all_goals
    go_enter Try.func36, Try.ntmps36
    go_wp2_with (go_at_call 42; refine (iDist _ _ (by omega) (by omega)).mono ?_; rintro e w' ⟨rfl, rfl⟩)
    go_returns
    refine ⟨ret_bool ?_, by repeat' (first | (with_reducible exact Below.refl _ _) | (with_reducible assumption) | (with_reducible refine Below.alloc ?_ ?_ _) | (with_reducible refine Below.setCell ?_ ?_ _) | (with_reducible refine Below.drew ?_) | (with_reducible refine below_drewN ?_ _) | (with_reducible refine below_via (by with_reducible assumption) ?_ ?_) | go_size)⟩
    unfold closeB
    rw [← HF.out, ← HF.out]
    first | (simp [*]; done) | (simp; omega)
end Go.Proofs.Ytcpicgcdefnhaaa
