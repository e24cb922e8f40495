/-
  DERIVED. A part within a raster.
-/
import Derived.Test.YtdbecdgiafjkfaaNum
import Derived.Test.YtdbecdgiafjkfaaRes
import Derived.Conc.MuLone
namespace Go.Proofs.Ytdbecdgiafjkfaa
open Go.RowKit
set_option linter.unusedVariables false
def withinB (r c ro co rs cs : Int) : Bool := inB rs 1 r && (inB cs 1 c && (inB ro 0 (r - rs) && inB co 0 (c - cs)))
theorem withinB_iff {r c ro co rs cs : Int} : withinB r c ro co rs cs = true ↔ 1 ≤ rs ∧ rs ≤ r ∧ 1 ≤ cs ∧ cs ≤ c ∧ 0 ≤ ro ∧ ro ≤ r - rs ∧ 0 ≤ co ∧ co ≤ c - cs := by
  simp only [withinB, Bool.and_eq_true, inB_iff, and_assoc]
theorem withinB_no {r c ro co rs cs : Int} (h : ¬ (1 ≤ rs ∧ rs ≤ r ∧ 1 ≤ cs ∧ cs ≤ c ∧ 0 ≤ ro ∧ ro ≤ r - rs ∧ 0 ≤ co ∧ co ≤ c - cs)) : false = withinB r c ro co rs cs := by
  cases k : withinB r c ro co rs cs
  · rfl
  · exact absurd (withinB_iff.1 k) h
theorem withinB_yes {r c ro co rs cs : Int} (h : 1 ≤ rs ∧ rs ≤ r ∧ 1 ≤ cs ∧ cs ≤ c ∧ 0 ≤ ro ∧ ro ≤ r - rs ∧ 0 ≤ co ∧ co ≤ c - cs) : true = withinB r c ro co rs cs := (withinB_iff.2 h).symm
theorem withinB_last {r c ro co rs cs : Int} (h : 1 ≤ rs ∧ rs ≤ r ∧ 1 ≤ cs ∧ cs ≤ c ∧ 0 ≤ ro ∧ ro ≤ r - rs ∧ 0 ≤ co) : decide (co ≤ c - cs) = withinB r c ro co rs cs := by
  by_cases k : co ≤ c - cs
  · rw [decide_eq_true k]; exact withinB_yes (by omega)
  · rw [decide_eq_false k]; exact withinB_no (by omega)
theorem withinCases (r c ro co rs cs : Int) : (inB rs 1 r = false ∧ (rs < 1 ∨ r < rs)) ∨ (inB rs 1 r = true ∧ (1 ≤ rs ∧ rs ≤ r) ∧ (inB cs 1 c = false ∧ (cs < 1 ∨ c < cs))) ∨ (inB rs 1 r = true ∧ (1 ≤ rs ∧ rs ≤ r) ∧ inB cs 1 c = true ∧ (1 ≤ cs ∧ cs ≤ c) ∧ (inB ro 0 (r - rs) = false ∧ (ro < 0 ∨ (r - rs) < ro))) ∨
    (inB rs 1 r = true ∧ (1 ≤ rs ∧ rs ≤ r) ∧ inB cs 1 c = true ∧ (1 ≤ cs ∧ cs ≤ c) ∧ inB ro 0 (r - rs) = true ∧ (0 ≤ ro ∧ ro ≤ r - rs) ∧ (inB co 0 (c - cs) = false ∧ (co < 0 ∨ (c - cs) < co))) ∨
    (inB rs 1 r = true ∧ (1 ≤ rs ∧ rs ≤ r) ∧ inB cs 1 c = true ∧ (1 ≤ cs ∧ cs ≤ c) ∧ inB ro 0 (r - rs) = true ∧ (0 ≤ ro ∧ ro ≤ r - rs) ∧ inB co 0 (c - cs) = true ∧ (0 ≤ co ∧ co ≤ c - cs)) := by
  rcases inCases rs 1 r with h1 | ⟨h1, a1⟩
  · exact .inl ⟨h1, inB_no h1⟩
  rcases inCases cs 1 c with h2 | ⟨h2, a2⟩
  · exact .inr (.inl ⟨h1, a1, h2, inB_no h2⟩)
  rcases inCases ro 0 (r - rs) with h3 | ⟨h3, a3⟩
  · exact .inr (.inr (.inl ⟨h1, a1, h2, a2, h3, inB_no h3⟩))
  rcases inCases co 0 (c - cs) with h4 | ⟨h4, a4⟩
  · exact .inr (.inr (.inr (.inl ⟨h1, a1, h2, a2, h3, a3, h4, inB_no h4⟩)))
  · exact .inr (.inr (.inr (.inr ⟨h1, a1, h2, a2, h3, a3, h4, a4⟩)))
theorem containsCases (r c ro co rs cs : Int) : ¬ 0 ≤ ro ∨ (0 ≤ ro ∧ ¬ 0 ≤ co) ∨ ((0 ≤ ro ∧ 0 ≤ co) ∧ (inB rs 1 r = false ∧ (rs < 1 ∨ r < rs))) ∨ ((0 ≤ ro ∧ 0 ≤ co) ∧ inB rs 1 r = true ∧ (1 ≤ rs ∧ rs ≤ r) ∧ (inB cs 1 c = false ∧ (cs < 1 ∨ c < cs))) ∨
    ((0 ≤ ro ∧ 0 ≤ co) ∧ inB rs 1 r = true ∧ (1 ≤ rs ∧ rs ≤ r) ∧ inB cs 1 c = true ∧ (1 ≤ cs ∧ cs ≤ c) ∧ ¬ ro ≤ r - rs) ∨ ((0 ≤ ro ∧ 0 ≤ co) ∧ inB rs 1 r = true ∧ (1 ≤ rs ∧ rs ≤ r) ∧ inB cs 1 c = true ∧ (1 ≤ cs ∧ cs ≤ c) ∧ ro ≤ r - rs ∧ ¬ co ≤ c - cs) ∨
    ((0 ≤ ro ∧ 0 ≤ co) ∧ inB rs 1 r = true ∧ (1 ≤ rs ∧ rs ≤ r) ∧ inB cs 1 c = true ∧ (1 ≤ cs ∧ cs ≤ c) ∧ ro ≤ r - rs ∧ co ≤ c - cs) := by
  rcases inCases rs 1 r with h1 | ⟨h1, a1⟩ <;> rcases inCases cs 1 c with h2 | ⟨h2, a2⟩ <;> simp only [h1, h2] <;> first | (have := inB_no h1; simp <;> omega) | (have := inB_no h2; simp <;> omega) | (simp <;> omega)
set_option maxHeartbeats 2000000 in
theorem sWithin (r c ro co rs cs : Int) (v : Value) (w : World) (h1 : 1 ≤ r) (h2 : r ≤ 400) (h3 : 1 ≤ c) (h4 : c ≤ 400) :
    Calls Try.prog 57 #[.agg #[.int .i64 r, .int .i64 c, v], .int .i64 ro, .int .i64 co, .int .i64 rs, .int .i64 cs] w fun e w' => e = .returned (.bool (withinB r c ro co rs cs)) ∧ Below w.heap.size w w' := by
  rcases withinCases r c ro co rs cs with ⟨k1, j1⟩ | ⟨k1, ⟨_, _⟩, k2, j1⟩ | ⟨k1, ⟨_, _⟩, k2, ⟨_, _⟩, k3, j1⟩ | ⟨k1, ⟨_, _⟩, k2, ⟨_, _⟩, k3, ⟨_, _⟩, k4, j1⟩ | ⟨k1, ⟨_, _⟩, k2, ⟨_, _⟩, k3, ⟨_, _⟩, k4, ⟨_, _⟩⟩
  all_goals
    go_enter Try.func57, Try.ntmps57
    go_wp2_with (go_at_call 75; refine (sIn _ _ _ _).mono ?_; rintro e w' ⟨rfl, rfl⟩)
    go_returns
    refine ⟨ret_bool ?_, by repeat' (first | (with_reducible exact Below.refl _ _) | (with_reducible assumption) | (with_reducible refine Below.alloc ?_ ?_ _) | (with_reducible refine Below.setCell ?_ ?_ _) | (with_reducible refine Below.drew ?_) | (with_reducible refine below_drewN ?_ _) | (with_reducible refine below_via (by with_reducible assumption) ?_ ?_) | go_size)⟩
    first | exact withinB_no (by omega) | exact withinB_yes (by omega) | exact withinB_last (by omega)
set_option maxHeartbeats 2000000 in
theorem iContains (r c ro co rs cs : Int) (v : Value) (w : World) (h1 : 1 ≤ r) (h2 : r ≤ 400) (h3 : 1 ≤ c) (h4 : c ≤ 400) :
    Calls Try.prog 59 #[.agg #[.int .i64 r, .int .i64 c, v], .int .i64 ro, .int .i64 co, .int .i64 rs, .int .i64 cs] w fun e w' => e = .returned (.bool (withinB r c ro co rs cs)) ∧ Below w.heap.size w w' := by
  rcases containsCases r c ro co rs cs with g1 | ⟨g1, g2⟩ | ⟨⟨g1, g2⟩, k1, j1⟩ | ⟨⟨g1, g2⟩, k1, ⟨_, _⟩, k2, j1⟩ | ⟨⟨g1, g2⟩, k1, ⟨_, _⟩, k2, ⟨_, _⟩, g3⟩ | ⟨⟨g1, g2⟩, k1, ⟨_, _⟩, k2, ⟨_, _⟩, g3, g4⟩ | ⟨⟨g1, g2⟩, k1, ⟨_, _⟩, k2, ⟨_, _⟩, g3, g4⟩
  all_goals
    go_enter Try.func59, Try.ntmps59
    go_wp2_with (go_at_call 77; refine (iIn _ _ _ _).mono ?_; rintro e w' ⟨rfl, rfl⟩)
    go_returns
    refine ⟨ret_bool ?_, by repeat' (first | (with_reducible exact Below.refl _ _) | (with_reducible assumption) | (with_reducible refine Below.alloc ?_ ?_ _) | (with_reducible refine Below.setCell ?_ ?_ _) | (with_reducible refine Below.drew ?_) | (with_reducible refine below_drewN ?_ _) | (with_reducible refine below_via (by with_reducible assumption) ?_ ?_) | go_size)⟩
    first | exact withinB_no (by omega) | exact withinB_yes (by omega) | exact withinB_last (by omega)
end Go.Proofs.Ytdbecdgiafjkfaa
