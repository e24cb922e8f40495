/-
  DERIVED. A part within a raster.
-/
import Derived.Test.YtfiddbmjgncabaaBas
import Derived.Test.YtfiddbmjgncabaaResQ
import Derived.Conc.MuLone
namespace Go.Proofs.Ytfiddbmjgncabaa
open Go.RowKit
set_option linter.unusedVariables false
def withinB (r c ro co rs cs : Int) : Bool := inB rs 1 r && (inB cs 1 c && (inB ro 0 (r - rs) && inB co 0 (c - cs)))
theorem withinB_iff {r c ro co rs cs : Int} : withinB r c ro co rs cs = true ↔ 1 ≤ rs ∧ rs ≤ r ∧ 1 ≤ cs ∧ cs ≤ c ∧ 0 ≤ ro ∧ ro ≤ r - rs ∧ 0 ≤ co ∧ co ≤ c - cs := by
  simp only [withinB, Bool.and_eq_true, inB_iff, and_assoc]
theorem withinB_no {r c ro co rs cs : Int} (h : ¬ (1 ≤ rs ∧ rs ≤ r ∧ 1 ≤ cs ∧ cs ≤ c ∧ 0 ≤ ro ∧ ro ≤ r - rs ∧ 0 ≤ co ∧ co ≤ c - cs)) : false = withinB r c ro co rs cs := by
  cases k : withinB r c ro co rs cs
  · rfl
  · exact absurd (withinB_iff.1 k) h
theorem withinB_yes {r c ro co rs cs : Int} (h : 1 ≤ rs ∧ rs ≤ r ∧ 1 ≤ cs ∧ cs ≤ c ∧ 0 ≤ ro ∧ ro ≤ r - rs ∧ 0 ≤ co ∧ co ≤ c - cs) : true = withinB r c ro co rs cs := (withinB_iff.2 h).symm
theorem withinB_last {r c ro co rs cs : Int} (h : 1 ≤ rs ∧ rs ≤ r ∧ 1 ≤ cs ∧ cs ≤ c ∧ 0 ≤ ro ∧ ro ≤ r - rs ∧ 0 ≤ co) : decide (co ≤ c - cs) = withinB r c ro co rs cs := by
  by_cases k : co ≤ c - cs
  · rw [decide_eq_true k]; exact withinB_yes (by omega)
  · rw [decide_eq_false k]; exact withinB_no (by omega)
theorem withinCases (r c ro co rs cs : Int) : (inB rs 1 r = false ∧ (rs < 1 ∨ r < rs)) ∨ (inB rs 1 r = true ∧ (1 ≤ rs ∧ rs ≤ r) ∧ (inB cs 1 c = false ∧ (cs < 1 ∨ c < cs))) ∨ (inB rs 1 r = true ∧ (1 ≤ rs ∧ rs ≤ r) ∧ inB cs 1 c = true ∧ (1 ≤ cs ∧ cs ≤ c) ∧ (inB ro 0 (r - rs) = false ∧ (ro < 0 ∨ (r - rs) < ro))) ∨
    (inB rs 1 r = true ∧ (1 ≤ rs ∧ rs ≤ r) ∧ inB cs 1 c = true ∧ (1 ≤ cs ∧ cs ≤ c) ∧ inB ro 0 (r - rs) = true ∧ (0 ≤ ro ∧ ro ≤ r - rs) ∧ (inB co 0 (c - cs) = false ∧ (co < 0 ∨ (c - cs) < co))) ∨
    (inB rs 1 r = true ∧ (1 ≤ rs ∧ rs ≤ r) ∧ inB cs 1 c = true ∧ (1 ≤ cs ∧ cs ≤ c) ∧ inB ro 0 (r - rs) = true ∧ (0 ≤ ro ∧ ro ≤ r - rs) ∧ inB co 0 (c - cs) = true ∧ (0 ≤ co ∧ co ≤ c - cs)) := by
  rcases inCases rs 1 r with h1 | ⟨h1, a1⟩
  · exact .inl ⟨h1, inB_no h1⟩
  rcases inCases cs 1 c with h2 | ⟨h2, a2⟩
  · exact .inr (.inl ⟨h1, a1, h2, inB_no h2⟩)
  rcases inCases ro 0 (r - rs) with h3 | ⟨h3, a3⟩
  · exact .inr (.inr (.inl ⟨h1, a1, h2, a2, h3, inB_no h3⟩))
  rcases inCases co 0 (c - cs) with h4 | ⟨h4, a4⟩
  · exact .inr (.inr (.inr (.inl ⟨h1, a1, h2, a2, h3, a3, h4, inB_no h4⟩)))
  · exact .inr (.inr (.inr (.inr ⟨h1, a1, h2, a2, h3, a3, h4, a4⟩)))
theorem containsCases (r c ro co rs cs : Int) : ¬ 0 ≤ ro ∨ (0 ≤ ro ∧ ¬ 0 ≤ co) ∨ ((0 ≤ ro ∧ 0 ≤ co) ∧ (inB rs 1 r = false ∧ (rs < 1 ∨ r < rs))) ∨ ((0 ≤ ro ∧ 0 ≤ co) ∧ inB rs 1 r = true ∧ (1 ≤ rs ∧ rs ≤ r) ∧ (inB cs 1 c = false ∧ (cs < 1 ∨ c < cs))) ∨
    ((0 ≤ ro ∧ 0 ≤ co) ∧ inB rs 1 r = true ∧ (1 ≤ rs ∧ rs ≤ r) ∧ inB cs 1 c = true ∧ (1 ≤ cs ∧ cs ≤ c) ∧ ¬ ro ≤ r - rs) ∨ ((0 ≤ ro ∧ 0 ≤ co) ∧ inB rs 1 r = true ∧ (1 ≤ rs ∧ rs ≤ r) ∧ inB cs 1 c = true ∧ (1 ≤ cs ∧ cs ≤ c) ∧ ro ≤ r - rs ∧ ¬ co ≤ c - cs) ∨
    ((0 ≤ ro ∧ 0 ≤ co) ∧ inB rs 1 r = true ∧ (1 ≤ rs ∧ rs ≤ r) ∧ inB cs 1 c = true ∧ (1 ≤ cs ∧ cs ≤ c) ∧ ro ≤ r - rs ∧ co ≤ c - cs) := by
  rcases inCases rs 1 r with h1 | ⟨h1, a1⟩ <;> rcases inCases cs 1 c with h2 | ⟨h2, a2⟩ <;> simp only [h1, h2] <;> first | (have := inB_no h1; simp <;> omega) | (have := inB_no h2; simp <;> omega) | (simp <;> omega)
end Go.Proofs.Ytfiddbmjgncabaa
