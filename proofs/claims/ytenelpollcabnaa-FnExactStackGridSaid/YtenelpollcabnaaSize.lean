/-
  DERIVED. The sizes that a raster can have: contracts.
-/
import Derived.Test.YtenelpollcabnaaNum
namespace Go.Proofs.Ytenelpollcabnaa
open Go.RowKit
set_option linter.unusedVariables false

def sizeB (r c : Int) : Bool := inB r 1 400 && (inB c 1 400 && decide (r * c ≤ 40000))
theorem prod_le {r c R C : Int} (h1 : 0 ≤ r) (h2 : r ≤ R) (h3 : 0 ≤ c) (h4 : c ≤ C) : 0 ≤ r * c ∧ r * c ≤ R * C := by
  refine ⟨Int.mul_nonneg h1 h3, ?_⟩
  exact Int.le_trans (Int.mul_le_mul_of_nonneg_right h2 h3) (Int.mul_le_mul_of_nonneg_left h4 (by omega))
theorem size_cases (r c : Int) : inB r 1 400 = false ∨ (inB r 1 400 = true ∧ inB c 1 400 = false) ∨ (inB r 1 400 = true ∧ inB c 1 400 = true ∧ 0 ≤ r * c ∧ r * c ≤ 160000) := by
  rcases inCases r 1 400 with h | ⟨h, a, b⟩
  · exact .inl h
  · rcases inCases c 1 400 with k | ⟨k, a', b'⟩
    · exact .inr (.inl ⟨h, k⟩)
    · have := prod_le (by omega) b (by omega) b'
      exact .inr (.inr ⟨h, k, this.1, by omega⟩)
theorem sizeB_yes {r c : Int} (h : sizeB r c = true) : 1 ≤ r ∧ r ≤ 400 ∧ 1 ≤ c ∧ c ≤ 400 ∧ 1 ≤ r * c ∧ r * c ≤ 40000 := by
  simp [sizeB, inB] at h
  obtain ⟨⟨a, b⟩, ⟨c', d⟩, e⟩ := h
  have := Int.mul_pos (show 0 < r by omega) (show 0 < c by omega)
  exact ⟨a, b, c', d, by omega, e⟩
end Go.Proofs.Ytenelpollcabnaa
