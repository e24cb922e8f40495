/-
  DERIVED. IsField: contracts of the small functions.
-/
import Derived.Test.YtenelpollcabnaaFldP
namespace Go.Proofs.Ytenelpollcabnaa
open Go.RowKit
set_option linter.unusedVariables false
noncomputable def prmB (n : Int) : Bool := @decide (Prm n) (Classical.propDecidable _)
theorem prmB_yes {n : Int} (h : Prm n) : prmB n = true := by simp [prmB, h]
theorem prmB_no {n : Int} (h : ¬ Prm n) : prmB n = false := by simp [prmB, h]
noncomputable def fillB (T : Int → Int) (m : Nat) : Bool := @decide (Fills T m) (Classical.propDecidable _)
theorem fillB_yes {T : Int → Int} {m : Nat} (h : Fills T m) : fillB T m = true := by simp [fillB, h]
theorem fillB_no {T : Int → Int} {m : Nat} (h : ¬ Fills T m) : fillB T m = false := by simp [fillB, h]
theorem fillB_iff {T : Int → Int} {m : Nat} {b : Bool} (h : b = true ↔ Fills T m) : b = fillB T m := by
  by_cases hf : Fills T m
  · rw [fillB_yes hf]; exact h.2 hf
  · rw [fillB_no hf]
    cases b with
    | false => rfl
    | true => exact absurd (h.1 rfl) hf
set_option maxHeartbeats 1000000 in
theorem sPrm (n : Int) (w : World) (h0 : 3 ≤ n) (h1 : n ≤ 1021) : Calls Try.prog 96 #[.int .i64 n] w fun e w' => e = .returned (.bool (prmB n)) ∧ w = w' := by
  go_enter Try.func96, Try.ntmps96
  go_wp2
  go_loopw [3] (fun v wr => ∃ (c : Int), v = .int .i64 c ∧ 2 ≤ c ∧ c ≤ 1000 ∧ Hid (PrmTo n c) ∧ w = wr) (fun v _ => (1000 - intOf v).toNat)
  case atStart => exact ⟨2, rfl, by omega, by omega, PrmTo.two n, rfl⟩
  case round =>
    obtain ⟨c, rfl, c2, c3, HC, rfl⟩ := hrel
    have q2 : (c + 1) * (c + 1) = c * c + 2 * c + 1 := by rw [Int.add_mul, Int.mul_add]; omega
    have q0 : 0 ≤ c * c := Int.mul_nonneg (by omega) (by omega)
    have q1 : c * c ≤ 1000 * c := Int.mul_le_mul_of_nonneg_right c3 (by omega)
    have hcz : ¬ (c = 0) := by omega
    by_cases hq : c * c ≤ n
    · have c4 : c < 1000 := by
        rcases Int.lt_or_le c 1000 with h | h
        · exact h
        · have := Int.mul_le_mul_of_nonneg_right h (show 0 ≤ c by omega)
          omega
      by_cases ht : n % c = 0
      · have HE : Hid (false = prmB n) := (prmB_no (Prm.no c2 hq ht)).symm
        go_wp2
        go_returns
        exact ⟨ret_bool HE.out, rfl⟩
      · have HE := Lib.hid (HC.out.succ ht)
        go_wp2
        go_roundw
        case rel => exact ⟨c + 1, rfl, by omega, by omega, HE, trivial⟩
        case measure => simp [intOf]; omega
    · have HE : Hid (true = prmB n) := (prmB_yes (HC.out.prm c2 (by omega))).symm
      have n2 : 2 ≤ n := by omega
      go_wp2
      go_returns
      exact ⟨ret_bool HE.out, rfl⟩
set_option maxHeartbeats 1000000 in
theorem iPrm (n : Int) (w : World) (h0 : 3 ≤ n) (h1 : n ≤ 1021) : Calls Try.prog 88 #[.int .i64 n] w fun e w' => e = .returned (.bool (prmB n)) ∧ w = w' := by
  have n2 : ¬ n < 2 := by omega
  go_enter Try.func88, Try.ntmps88
  go_wp2
  go_loopw [3] (fun v wr => ∃ (c : Int), v = .int .i64 c ∧ 2 ≤ c ∧ c ≤ 1000 ∧ Hid (PrmTo n c) ∧ w = wr) (fun v _ => (1000 - intOf v).toNat)
  case atStart => exact ⟨2, rfl, by omega, by omega, PrmTo.two n, rfl⟩
  case round =>
    obtain ⟨c, rfl, c2, c3, HC, rfl⟩ := hrel
    have q2 : (c + 1) * (c + 1) = c * c + 2 * c + 1 := by rw [Int.add_mul, Int.mul_add]; omega
    have q0 : 0 ≤ c * c := Int.mul_nonneg (by omega) (by omega)
    have q1 : c * c ≤ 1000 * c := Int.mul_le_mul_of_nonneg_right c3 (by omega)
    have hcz : ¬ (c = 0) := by omega
    by_cases hq : c * c ≤ n
    · have c4 : c < 1000 := by
        rcases Int.lt_or_le c 1000 with h | h
        · exact h
        · have := Int.mul_le_mul_of_nonneg_right h (show 0 ≤ c by omega)
          omega
      by_cases ht : n % c = 0
      · have HE : Hid (false = prmB n) := (prmB_no (Prm.no c2 hq ht)).symm
        go_wp2
        go_returns
        exact ⟨ret_bool HE.out, rfl⟩
      · have HE := Lib.hid (HC.out.succ ht)
        go_wp2
        go_roundw
        case rel => exact ⟨c + 1, rfl, by omega, by omega, HE, trivial⟩
        case measure => simp [intOf]; omega
    · have HE : Hid (true = prmB n) := (prmB_yes (HC.out.prm c2 (by omega))).symm
      go_wp2
      go_returns
      exact ⟨ret_bool HE.out, rfl⟩
theorem sSz1 (p po : Int) (w : World) : Calls Try.prog 105 #[.agg #[.int .i64 p, .int .i64 1, .int .i64 po]] w fun e w' => e = .returned (.int .i64 p) ∧ Below w.heap.size w w' := by
  go_enter Try.func105, Try.ntmps105
  go_wp2
  go_returns
  exact ⟨rfl, by repeat' (first | (with_reducible exact Below.refl _ _) | (with_reducible assumption) | (with_reducible refine Below.alloc ?_ ?_ _) | (with_reducible refine Below.setCell ?_ ?_ _) | (with_reducible refine Below.drew ?_) | (with_reducible refine below_drewN ?_ _) | (with_reducible refine below_via (by with_reducible assumption) ?_ ?_) | go_size)⟩
theorem sSzB (k : Nat) (h3 : 3 ≤ k) (h8 : k ≤ 8) (po : Int) (w : World) : Calls Try.prog 105 #[.agg #[.int .i64 2, .int .i64 (k : Int), .int .i64 po]] w fun e w' => e = .returned (.int .i64 (2 ^ k)) ∧ Below w.heap.size w w' := by
  obtain rfl | rfl | rfl | rfl | rfl | rfl : k = 3 ∨ k = 4 ∨ k = 5 ∨ k = 6 ∨ k = 7 ∨ k = 8 := by omega
  all_goals
    go_enter Try.func105, Try.ntmps105
    go_wp2
    go_returns
    exact ⟨rfl, by repeat' (first | (with_reducible exact Below.refl _ _) | (with_reducible assumption) | (with_reducible refine Below.alloc ?_ ?_ _) | (with_reducible refine Below.setCell ?_ ?_ _) | (with_reducible refine Below.drew ?_) | (with_reducible refine below_drewN ?_ _) | (with_reducible refine below_via (by with_reducible assumption) ?_ ?_) | go_size)⟩
set_option maxHeartbeats 1000000 in
theorem sMulP (p po a b : Int) (w : World) (hp : 3 ≤ p) (hp2 : p ≤ 1021) (a0 : 0 ≤ a) (a1 : a < p) (b0 : 0 ≤ b) (b1 : b < p) : Calls Try.prog 106 #[.agg #[.int .i64 p, .int .i64 1, .int .i64 po], .int .i64 a, .int .i64 b] w fun e w' => e = .returned (.int .i64 (Tp p b a)) ∧ Below w.heap.size w w' := by
  have q0 : 0 ≤ a * b := Int.mul_nonneg a0 b0
  have q1 : a * b ≤ 1021 * b := Int.mul_le_mul_of_nonneg_right (by omega) b0
  have hpz : ¬ (p = 0) := by omega
  go_enter Try.func106, Try.ntmps106
  go_wp2
  go_returns
  exact ⟨rfl, by repeat' (first | (with_reducible exact Below.refl _ _) | (with_reducible assumption) | (with_reducible refine Below.alloc ?_ ?_ _) | (with_reducible refine Below.setCell ?_ ?_ _) | (with_reducible refine Below.drew ?_) | (with_reducible refine below_drewN ?_ _) | (with_reducible refine below_via (by with_reducible assumption) ?_ ?_) | go_size)⟩
end Go.Proofs.Ytenelpollcabnaa
