/-
  DERIVED. CONTRACTS OF SMALL FUNCTIONS ON NUMBERS.
-/
import Derived.Test.YtdjoidhkogmclaaKit
namespace Go.Proofs.Ytdjoidhkogmclaa
open Go.RowKit
set_option linter.unusedVariables false

/-- low ≤ n ≤ high, as a test. -/
def inB (n lo hi : Int) : Bool := decide (lo ≤ n) && decide (n ≤ hi)
theorem inB_iff {n lo hi : Int} : inB n lo hi = true ↔ lo ≤ n ∧ n ≤ hi := by simp [inB]
theorem inB_no {n lo hi : Int} (h : inB n lo hi = false) : n < lo ∨ hi < n := by
  simp [inB] at h; omega
theorem inB_yes {n lo hi : Int} (h1 : lo ≤ n) (h2 : n ≤ hi) : inB n lo hi = true := inB_iff.2 ⟨h1, h2⟩

theorem inB_and {n lo hi : Int} (h : lo ≤ n) : decide (n ≤ hi) = inB n lo hi := by simp [inB, h]
theorem inB_lo {n lo hi : Int} (h : ¬ lo ≤ n) : false = inB n lo hi := by simp [inB, h]
set_option maxHeartbeats 400000 in
theorem sIn (n lo hi : Int) (w : World) : Calls Try.prog 48 #[.int .i64 n, .int .i64 lo, .int .i64 hi] w fun e w' => e = .returned (.bool (inB n lo hi)) ∧ w = w' := by
  by_cases h : lo ≤ n
  · have H := Lib.hid (inB_and (hi := hi) h)
    go_enter Try.func48, Try.ntmps48
    go_wp2
    go_ret
    exact ⟨ret_bool H.out, rfl⟩
  · have H := Lib.hid (inB_lo (hi := hi) h)
    go_enter Try.func48, Try.ntmps48
    go_wp2
    go_ret
    exact ⟨ret_bool H.out, rfl⟩
set_option maxHeartbeats 400000 in
theorem iIn (n lo hi : Int) (w : World) : Calls Try.prog 49 #[.int .i64 n, .int .i64 lo, .int .i64 hi] w fun e w' => e = .returned (.bool (inB n lo hi)) ∧ w = w' := by
  by_cases h : lo ≤ n
  · have H := Lib.hid (inB_and (hi := hi) h)
    go_enter Try.func49, Try.ntmps49
    go_wp2
    go_ret
    exact ⟨ret_bool H.out, rfl⟩
  · have H := Lib.hid (inB_lo (hi := hi) h)
    go_enter Try.func49, Try.ntmps49
    go_wp2
    go_ret
    exact ⟨ret_bool H.out, rfl⟩
end Go.Proofs.Ytdjoidhkogmclaa
