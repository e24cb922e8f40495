/-
  DERIVED. SameFinder: contracts and law.
-/
import Derived.Test.YtdbecdgiafjkfaaNum
namespace Go.Proofs.Ytdbecdgiafjkfaa
open Go.RowKit
set_option linter.unusedVariables false

theorem and8 (a b c d e f g h : Bool) : a = false ∨ (a = true ∧ b = false) ∨ (a = true ∧ b = true ∧ c = false) ∨ (a = true ∧ b = true ∧ c = true ∧ d = false) ∨ (a = true ∧ b = true ∧ c = true ∧ d = true ∧ e = false) ∨
    (a = true ∧ b = true ∧ c = true ∧ d = true ∧ e = true ∧ f = false) ∨ (a = true ∧ b = true ∧ c = true ∧ d = true ∧ e = true ∧ f = true ∧ g = false) ∨ (a = true ∧ b = true ∧ c = true ∧ d = true ∧ e = true ∧ f = true ∧ g = true ∧ h = false) ∨
    (a = true ∧ b = true ∧ c = true ∧ d = true ∧ e = true ∧ f = true ∧ g = true ∧ h = true) := by
  cases a <;> cases b <;> cases c <;> cases d <;> cases e <;> cases f <;> cases g <;> cases h <;> simp

def fitB (n : Int) : Bool := inB n 0 80000
def closeB (a0 a1 b0 b1 b2 b3 : Int) : Bool := inB (a0 - b0) (-((b2 + b3) / 2)) ((b2 + b3) / 2) && inB (a1 - b1) (-((b2 + b3) / 2)) ((b2 + b3) / 2)
def sameB (a0 a1 a2 a3 b0 b1 b2 b3 : Int) : Bool := fitB a0 && (fitB a1 && (fitB a2 && (fitB a3 && (fitB b0 && (fitB b1 && (fitB b2 && (fitB b3 && closeB a0 a1 b0 b1 b2 b3)))))))
theorem fitB_eq (n : Int) : fitB n = inB n 0 80000 := rfl
def distV (n : Int) : Int := max n (-n)
set_option maxHeartbeats 400000 in
theorem iDist (n : Int) (w : World) (h1 : -9223372036854775807 ≤ n) (h2 : n ≤ 9223372036854775807) : Calls Try.prog 114 #[.int .i64 n] w fun e w' => e = .returned (.int .i64 (distV n)) ∧ w = w' := by
  go_enter Try.func114, Try.ntmps114
  go_wp2
  all_goals
    go_ret
    exact ⟨ret_int (by unfold distV; omega), rfl⟩
end Go.Proofs.Ytdbecdgiafjkfaa
