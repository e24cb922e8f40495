/-
  DERIVED. PRINTS: contracts, and the laws BleedBound, IsPrint, PlainPrint, ModuleBox, PrintSize.
-/
import Derived.Test.YtfiddbmjgncabaaNum
namespace Go.Proofs.Ytfiddbmjgncabaa
open Go.RowKit
set_option linter.unusedVariables false

theorem and7 (a b c d e f g : Bool) : a = false ∨ (a = true ∧ b = false) ∨ (a = true ∧ b = true ∧ c = false) ∨ (a = true ∧ b = true ∧ c = true ∧ d = false) ∨ (a = true ∧ b = true ∧ c = true ∧ d = true ∧ e = false) ∨
    (a = true ∧ b = true ∧ c = true ∧ d = true ∧ e = true ∧ f = false) ∨ (a = true ∧ b = true ∧ c = true ∧ d = true ∧ e = true ∧ f = true ∧ g = false) ∨ (a = true ∧ b = true ∧ c = true ∧ d = true ∧ e = true ∧ f = true ∧ g = true) := by
  cases a <;> cases b <;> cases c <;> cases d <;> cases e <;> cases f <;> cases g <;> simp

def printB (p t q b d l : Int) : Bool := inB p 1 12 && (inB t 1 12 && (inB q 0 16 && (inB b (1 - p) (p - 1) && (decide (0 ≤ d) && (decide (d < l) && decide (l ≤ 255))))))
theorem printB_of (p t q b d l : Int) (h1 : inB p 1 12 = true) (h2 : inB t 1 12 = true) (h3 : inB q 0 16 = true) (h4 : inB b (1 - p) (p - 1) = true) : printB p t q b d l = (inB d 0 255 && (inB l 0 255 && decide (d < l))) := by
  simp only [printB, h1, h2, h3, h4, Bool.true_and]
  rw [Bool.eq_iff_iff]; simp [inB]; omega
set_option maxHeartbeats 400000 in
theorem sGrey (n : Int) (w : World) : Calls Try.prog 105 #[.int .i64 n] w fun e w' => e = .returned (.bool (inB n 0 255)) ∧ w = w' := by
  go_enter Try.func105, Try.ntmps105
  go_wp2_with (go_at_call 95; refine (sIn _ _ _ _).mono ?_; rintro e w' ⟨rfl, rfl⟩)
  go_ret
  exact ⟨rfl, rfl⟩
set_option maxHeartbeats 2000000 in
theorem sIsPrint (p t q b d l : Int) (w : World) : Calls Try.prog 61 #[.agg #[.int .i64 p, .int .i64 t, .int .i64 q, .int .i64 b, .int .i64 d, .int .i64 l]] w fun e w' => e = .returned (.bool (printB p t q b d l)) ∧ Below w.heap.size w w' := by
  have hf : (inB p 1 12 = false ∨ inB t 1 12 = false ∨ inB q 0 16 = false ∨ inB b (1 - p) (p - 1) = false) → false = printB p t q b d l := by
    rintro (h | h | h | h) <;> simp [printB, h]
  have ht := printB_of p t q b d l
  have HF := Lib.hid hf
  have HT := Lib.hid ht
  clear hf ht
  rcases and7 (inB p 1 12) (inB t 1 12) (inB q 0 16) (inB b (1 - p) (p - 1)) (inB d 0 255) (inB l 0 255) (decide (d < l)) with h1 | ⟨h1, h2⟩ | ⟨h1, h2, h3⟩ | ⟨h1, h2, h3, h4⟩ | ⟨h1, h2, h3, h4, h5⟩ | ⟨h1, h2, h3, h4, h5, h6⟩ | ⟨h1, h2, h3, h4, h5, h6, h7⟩ | ⟨h1, h2, h3, h4, h5, h6, h7⟩
  all_goals
    try obtain ⟨_, _⟩ := inB_iff.1 h1
    go_enter Try.func61, Try.ntmps61
    go_wp2_with (first | (go_at_call 95; refine (sIn _ _ _ _).mono ?_; rintro e w' ⟨rfl, rfl⟩) | (go_at_call 105; refine (sGrey _ _).mono ?_; rintro e w' ⟨rfl, rfl⟩))
    go_returns
    refine ⟨ret_bool ?_, by repeat' (first | (with_reducible exact Below.refl _ _) | (with_reducible assumption) | (with_reducible refine Below.alloc ?_ ?_ _) | (with_reducible refine Below.setCell ?_ ?_ _) | (with_reducible refine Below.drew ?_) | (with_reducible refine below_drewN ?_ _) | (with_reducible refine below_via (by with_reducible assumption) ?_ ?_) | go_size)⟩
    first
      | (refine HF.out ?_; simp [*]; done)
      | (rw [HT.out h1 h2 h3 h4]; simp [*]; done)
set_option maxHeartbeats 2000000 in
theorem iIsPrint (p t q b d l : Int) (w : World) : Calls Try.prog 65 #[.agg #[.int .i64 p, .int .i64 t, .int .i64 q, .int .i64 b, .int .i64 d, .int .i64 l]] w fun e w' => e = .returned (.bool (printB p t q b d l)) ∧ Below w.heap.size w w' := by
  rcases and7 (inB p 1 12) (inB t 1 12) (inB q 0 16) (inB b (1 - p) (p - 1)) (decide (0 ≤ d)) (decide (d < l)) (decide (l ≤ 255)) with h1 | ⟨h1, h2⟩ | ⟨h1, h2, h3⟩ | ⟨h1, h2, h3, h4⟩ | ⟨h1, h2, h3, h4, h5⟩ | ⟨h1, h2, h3, h4, h5, h6⟩ | ⟨h1, h2, h3, h4, h5, h6, h7⟩ | ⟨h1, h2, h3, h4, h5, h6, h7⟩
  all_goals
    try obtain ⟨_, _⟩ := inB_iff.1 h1
    go_enter Try.func65, Try.ntmps65
    go_wp2_with (go_at_call 80; refine (iIn _ _ _ _).mono ?_; rintro e w' ⟨rfl, rfl⟩)
    go_returns
    refine ⟨ret_bool ?_, by repeat' (first | (with_reducible exact Below.refl _ _) | (with_reducible assumption) | (with_reducible refine Below.alloc ?_ ?_ _) | (with_reducible refine Below.setCell ?_ ?_ _) | (with_reducible refine Below.drew ?_) | (with_reducible refine below_drewN ?_ _) | (with_reducible refine below_via (by with_reducible assumption) ?_ ?_) | go_size)⟩
    simp [printB, *]
set_option maxHeartbeats 400000 in
theorem toPrint (p t q b d l : Int) (w : World) : Calls Try.prog 15 #[.agg #[.int .i64 p, .int .i64 t, .int .i64 q, .int .i64 b, .int .i64 d, .int .i64 l]] w fun e w' => e = .returned (.agg #[.int .i64 p, .int .i64 t, .int .i64 q, .int .i64 b, .int .i64 d, .int .i64 l]) ∧ Below w.heap.size w w' := by
  go_enter Try.func15, Try.ntmps15
  go_wp2
  go_returns
  exact ⟨rfl, by repeat' (first | (with_reducible exact Below.refl _ _) | (with_reducible assumption) | (with_reducible refine Below.alloc ?_ ?_ _) | (with_reducible refine Below.setCell ?_ ?_ _) | (with_reducible refine Below.drew ?_) | (with_reducible refine below_drewN ?_ _) | (with_reducible refine below_via (by with_reducible assumption) ?_ ?_) | go_size)⟩
def bleedLo (p : Int) : Int := if inB p 1 12 = true then p / 2 + 1 - p else 0
def bleedHi (p : Int) : Int := if inB p 1 12 = true then p / 2 else 0
theorem bleedLo_yes {p : Int} (h : inB p 1 12 = true) : bleedLo p = p / 2 + 1 - p := if_pos h
theorem bleedHi_yes {p : Int} (h : inB p 1 12 = true) : bleedHi p = p / 2 := if_pos h
theorem bleedLo_no {p : Int} (h : inB p 1 12 = false) : bleedLo p = 0 := if_neg (by simp [h])
theorem bleedHi_no {p : Int} (h : inB p 1 12 = false) : bleedHi p = 0 := if_neg (by simp [h])
end Go.Proofs.Ytfiddbmjgncabaa
