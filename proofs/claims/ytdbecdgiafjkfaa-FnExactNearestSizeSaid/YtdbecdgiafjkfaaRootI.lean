/-
  DERIVED. root, l24Root: contracts.
-/
import Derived.Test.YtdbecdgiafjkfaaRootZ
import Derived.Test.YtdbecdgiafjkfaaSqrtN
import Derived.Laws.Externs
import Derived.Conc.MuLone
namespace Go.Proofs.Ytdbecdgiafjkfaa
open Go.RowKit
set_option linter.unusedVariables false
theorem runSqrt (x r : Nat) (h : FloatKind.f64.format.sqrt x = some r) : ∀ W : World, (callFunc 119 #[.float .f64 x]).run Try.prog W = .ok (.value (.float .f64 r)) W := by
  intro W
  rw [run_callFunc_extern (e := Go.Extern.MathSqrt.sqrt) Try.func119 (by kernel_rfl) (by kernel_rfl) (by kernel_rfl) (by kernel_rfl)]
  have e : Go.Extern.MathSqrt.sqrt #[.float .f64 x] = pure (.float .f64 r) := by
    show (match FloatKind.f64.format.sqrt x with | some r => (pure (.float .f64 r) : Sem Value) | none => do pure (.float .f64 (← choose (.nanBits .f64 x x)))) = _
    rw [h]
  rw [e]
  rfl
theorem iSqrt (x r : Nat) (w : World) (h : FloatKind.f64.format.sqrt x = some r) : Calls Try.prog 118 #[.float .f64 x] w fun e w' => e = .returned (.float .f64 r) ∧ w = w' := by
  have hr := runSqrt x r h
  clear h
  go_enter Try.func118, Try.ntmps118
  go_wp2
  go_returns
  exact ⟨rfl, rfl⟩
set_option maxHeartbeats 1000000 in
theorem sRoot (n : Int) (w : World) (h0 : 0 ≤ n) (h1 : n < 134217728) : Calls Try.prog 111 #[.int .i64 n] w fun e w' => e = .returned (.int .i64 (rootZ n)) ∧ w = w' := by
  go_enter Try.func111, Try.ntmps111
  go_wp2
  go_loopw [3, 4] (fun l h wr => ∃ (a b : Int), l = .int .i64 a ∧ h = .int .i64 b ∧ 0 ≤ a ∧ a ≤ b ∧ b ≤ 100000 ∧ Hid (a * a ≤ n) ∧ Hid (n < (b + 1) * (b + 1)) ∧ w = wr) (fun l h _ => (intOf h - intOf l).toNat)
  case atStart => exact ⟨0, 100000, rfl, rfl, by omega, by omega, by omega, by unfold Hid; omega, by unfold Hid; omega, rfl⟩
  case round =>
    obtain ⟨a, b, rfl, rfl, a0, a1, a2, HA, HB, rfl⟩ := hrel
    by_cases hlt : a < b
    · have hm1 : a < (a + b + 1) / 2 := by omega
      have hm2 : (a + b + 1) / 2 ≤ b := by omega
      obtain ⟨q1, q2⟩ := sq_bd (d := (a + b + 1) / 2) (B := 100000) (by omega) (by omega)
      by_cases hq : (a + b + 1) / 2 * ((a + b + 1) / 2) ≤ n
      · have HQ : Hid ((a + b + 1) / 2 * ((a + b + 1) / 2) ≤ n) := hq
        go_wp2
        go_roundw
        case rel => exact ⟨(a + b + 1) / 2, b, rfl, rfl, by omega, by omega, by omega, HQ, HB, trivial⟩
        case measure => simp [intOf]; omega
      · have HQ : Hid (n < ((a + b + 1) / 2 - 1 + 1) * ((a + b + 1) / 2 - 1 + 1)) := by
          unfold Hid
          rw [Int.sub_add_cancel]
          omega
        go_wp2
        go_roundw
        case rel => exact ⟨a, (a + b + 1) / 2 - 1, rfl, rfl, by omega, by omega, by omega, HA, HQ, trivial⟩
        case measure => simp [intOf]; omega
    · have HE : Hid (a = rootZ n) := by
        have e : a = b := by omega
        exact IsRoot.eq ⟨a0, HA.out, by rw [e]; exact HB.out⟩
      go_wp2
      go_returns
      exact ⟨ret_int HE.out, rfl⟩
theorem sq_pos_lt {n d : Int} (h : n < d * d) (hn : 0 ≤ n) (hd : 0 ≤ d) : 0 < d := by
  rcases Int.lt_or_le 0 d with h1 | h1
  · exact h1
  · obtain rfl : d = 0 := by omega
    omega
set_option maxHeartbeats 1000000 in
theorem iRoot (n : Int) (w : World) (h0 : 0 ≤ n) (h1 : n < 134217728) : Calls Try.prog 113 #[.int .i64 n] w fun e w' => e = .returned (.int .i64 (rootZ n)) ∧ w = w' := by
  obtain ⟨m, rfl⟩ := Int.eq_ofNat_of_zero_le h0
  obtain ⟨r, d0, hr, hd, d1, d2⟩ := sqrt_small m (by omega)
  have hcv : ∀ W : World, (convert 120 2 (.float .f64 r)).run Try.prog W = .ok (.int .i64 d0) W := fun W => run_convert_float_int W 120 2 .f64 .i64 r d0 (by kernel_rfl) Try.underlying2 hd
  have hci : ∀ W : World, (convert 2 120 (.int .i64 (m : Int))).run Try.prog W = .ok (.float .f64 (floatOfInt .f64 (m : Int))) W := fun W => run_convert_int_float W 2 120 .i64 .f64 m (by kernel_rfl) Try.underlying120
  have HR := Lib.hid hr
  clear hr hd
  generalize floatOfInt .f64 (m : Int) = x at hci HR
  go_enter Try.func113, Try.ntmps113
  go_wp2_with (go_at_call 118; refine (iSqrt x r _ HR.out).mono ?_; rintro e w' ⟨rfl, rfl⟩)
  clear hci hcv HR
  go_loopw [3] (fun v wr => ∃ (d : Int), v = .int .i64 d ∧ 0 ≤ d ∧ d ≤ 32768 ∧ w = wr) (fun v _ => (intOf v).toNat)
  case atStart => exact ⟨d0, rfl, d1, d2, rfl⟩
  case round =>
    obtain ⟨d, rfl, e1, e2, rfl⟩ := hrel
    obtain ⟨q1, q2⟩ := sq_bd (d := d) (B := 32768) e1 e2
    by_cases hq : (m : Int) < d * d
    · have hp := sq_pos_lt hq h0 e1
      go_wp2
      go_roundw
      case rel => exact ⟨d - 1, rfl, by omega, by omega, trivial⟩
      case measure => simp [intOf]; omega
    · have hle : d * d ≤ (m : Int) := by omega
      have HL : Hid (d * d ≤ (m : Int)) := hle
      go_wp2
      clear q1 q2 hq hle e2 d1 d2
      go_loopw [3] (fun v wr => ∃ (d : Int), v = .int .i64 d ∧ 0 ≤ d ∧ Hid (d * d ≤ (m : Int)) ∧ w = wr) (fun v _ => 32768 - (intOf v).toNat)
      case atStart => exact ⟨d, rfl, e1, HL, rfl⟩
      case round =>
        obtain ⟨c, rfl, f1, HC, rfl⟩ := hrel
        have f2 := root_small HC.out f1 h1
        obtain ⟨q1, q2⟩ := sq_bd (d := c + 1) (B := 32768) (by omega) (by omega)
        by_cases hq : (c + 1) * (c + 1) ≤ (m : Int)
        · have HQ : Hid ((c + 1) * (c + 1) ≤ (m : Int)) := hq
          go_wp2
          go_roundw
          case rel => exact ⟨c + 1, rfl, by omega, HQ, trivial⟩
          case measure => simp [intOf]; omega
        · have HE : Hid (c = rootZ (m : Int)) := IsRoot.eq ⟨f1, HC.out, by omega⟩
          go_wp2
          go_returns
          exact ⟨ret_int HE.out, rfl⟩
end Go.Proofs.Ytdbecdgiafjkfaa
