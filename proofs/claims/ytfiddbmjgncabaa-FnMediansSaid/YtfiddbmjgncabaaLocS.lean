/-
  DERIVED. LocalBinary: the contract of spec.
-/
import Derived.Test.YtfiddbmjgncabaaLocW
import Derived.Test.YtfiddbmjgncabaaLocN
namespace Go.Proofs.Ytfiddbmjgncabaa
open Go.RowKit
set_option linter.unusedVariables false
def winN (R i rad : Nat) : Nat := min R (i + rad + 1) - (i - rad)
def locV (zs : List Int) (R C rad : Nat) (off : Int) (i j : Nat) : Int :=
  if (zs.getD (i * C + j) 0 + off) * ((winN R i rad * winN C j rad : Nat) : Int) < winS zs C (i - rad) (j - rad) (winN R i rad) (winN C j rad) then 1 else 0
theorem winS_bd {zs : List Int} (h : ∀ x ∈ zs, 0 ≤ x ∧ x ≤ 255) (C t l n m : Nat) : 0 ≤ winS zs C t l n m ∧ winS zs C t l n m ≤ ((n * (m * 255) : Nat) : Int) := by
  have g : ∀ q, 0 ≤ zs.getD q 0 ∧ zs.getD q 0 ≤ 255 := by
    intro q
    by_cases hq : q < zs.length
    · exact h _ (getD_mem hq)
    · simp [List.getD_eq_getElem?_getD, List.getElem?_eq_none (show zs.length ≤ q by omega)]
  refine sumZ_bd (fun r _ => ?_)
  exact sumZ_bd (M := 255) (fun c _ => g _)
theorem winN_le {R i rad : Nat} (hi : i < R) (hr : rad ≤ 20) : 1 ≤ winN R i rad ∧ winN R i rad ≤ 41 ∧ (i - rad) + winN R i rad ≤ R ∧ (i - rad) + winN R i rad ≤ i + rad + 1 ∧ (R ≤ (i - rad) + winN R i rad ∨ i + rad + 1 ≤ (i - rad) + winN R i rad) := by
  unfold winN
  omega
/-- the window of a pixel, whose length and sum LocalBinary takes. -/
theorem sWinOf (R C i j rad : Nat) (a : Option Addr) (n cp : Nat) (zs : List Int) (w : World) (h : Rd w a n zs) (hn : (n : Int) = (R : Int) * (C : Int)) (hR : R ≤ 400) (hC : C ≤ 400) (hi : i < R) (hj : j < C) (hr : rad ≤ 20) :
    Calls Try.prog 87 #[.agg #[.int .i64 (R : Int), .int .i64 (C : Int), .slice a n cp], .int .i64 (i : Int), .int .i64 (j : Int), .int .i64 (rad : Int)] w
    fun e w' => ∃ av cv, e = .returned (.slice av (winN R i rad * winN C j rad) cv) ∧ w'.ownsRow w.heap.size 2 1 (.slice av (winN R i rad * winN C j rad) cv) (winN R i rad * winN C j rad) ((winL zs C (i - rad) (j - rad) (winN R i rad) (winN C j rad)).map (Value.int .i64)) ∧ Below w.heap.size w w' := by
  obtain ⟨a1, a2, a3, a4, a5⟩ := winN_le (R := R) hi hr
  obtain ⟨b1, b2, b3, b4, b5⟩ := winN_le (R := C) hj hr
  exact sWin R C i j rad (i - rad) (j - rad) (winN R i rad) (winN C j rad) a n cp zs w h hn hR hC hi hj hr (by omega) (by omega) (by omega) (by omega) a3 a4 a5 b3 b4 b5
end Go.Proofs.Ytfiddbmjgncabaa
