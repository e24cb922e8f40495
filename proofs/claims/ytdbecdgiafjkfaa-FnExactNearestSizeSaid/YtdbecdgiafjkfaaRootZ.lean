/-
  DERIVED. The greatest whole number whose square is not above a number; the nearest size: plain laws.
-/
import Derived.Test.YtdbecdgiafjkfaaFind
namespace Go.Proofs.Ytdbecdgiafjkfaa
set_option linter.unusedVariables false

def IsRoot (n d : Int) : Prop := 0 ≤ d ∧ d * d ≤ n ∧ n < (d + 1) * (d + 1)
theorem sq_le {a b : Int} (h0 : 0 ≤ a) (h : a ≤ b) : a * a ≤ b * b := Int.mul_le_mul h h h0 (by omega)
theorem IsRoot.not_lt {n d e : Int} (h : IsRoot n d) (k : IsRoot n e) : ¬ d < e := by
  intro hlt
  have := sq_le (a := d + 1) (b := e) (by have := h.1; omega) (by omega)
  have h1 := h.2.2
  have h2 := k.2.1
  omega
theorem IsRoot.uniq {n d e : Int} (h : IsRoot n d) (k : IsRoot n e) : d = e := by
  have := h.not_lt k
  have := k.not_lt h
  omega
noncomputable def rootZ (n : Int) : Int := @Classical.epsilon Int ⟨0⟩ (IsRoot n)
theorem IsRoot.eq {n d : Int} (h : IsRoot n d) : d = rootZ n := h.uniq (Classical.epsilon_spec ⟨d, h⟩)

/-- a square between bounds. -/
theorem sq_bd {d : Int} {B : Int} (h0 : 0 ≤ d) (h : d ≤ B) : 0 ≤ d * d ∧ d * d ≤ B * B := ⟨Int.mul_nonneg h0 h0, sq_le h0 h⟩
theorem root_small {n d : Int} (h : d * d ≤ n) (h0 : 0 ≤ d) (hn : n < 134217728) : d ≤ 11585 := by
  rcases Int.lt_or_le 11585 d with hl | hl
  · have := sq_le (a := 11586) (b := d) (by omega) (by omega)
    omega
  · exact hl

noncomputable def wantZ (n num den : Int) : Int := (rootZ n * den + num) / (2 * num) + 7
def pickZ (want : Int) (zs : List Int) : Nat → Int
  | 0 => zs.getD 0 0
  | k + 1 => if distV (zs.getD k 0 - want) < distV (pickZ want zs k - want) then zs.getD k 0 else pickZ want zs k
theorem pickZ_one (want : Int) (zs : List Int) : pickZ want zs 1 = zs.getD 0 0 := by simp [pickZ]
theorem pickZ_yes {want : Int} {zs : List Int} {k : Nat} {x b : Int} (hx : zs.getD k 0 = x) (hb : pickZ want zs k = b) (h : distV (x - want) < distV (b - want)) : pickZ want zs (k + 1) = x := by
  rw [pickZ, hx, hb, if_pos h]
theorem pickZ_no {want : Int} {zs : List Int} {k : Nat} {x b : Int} (hx : zs.getD k 0 = x) (hb : pickZ want zs k = b) (h : ¬ distV (x - want) < distV (b - want)) : pickZ want zs (k + 1) = b := by
  rw [pickZ, hx, hb, if_neg h]
def sizesB (zs : List Int) (n : Nat) : Bool := (List.range n).all fun i => inB (zs.getD i 0) 1 400
theorem sizesB_yes {zs : List Int} {n : Nat} (h : ∀ j, j < n → inB (zs.getD j 0) 1 400 = true) : sizesB zs n = true := by
  rw [sizesB, List.all_eq_true]
  intro j hj
  exact h j (List.mem_range.1 hj)
theorem sizesB_no {zs : List Int} {n k : Nat} (hk : k < n) (h : inB (zs.getD k 0) 1 400 = false) : sizesB zs n = false := by
  rw [sizesB, List.all_eq_false]
  exact ⟨k, List.mem_range.2 hk, by rw [h]; decide⟩
theorem sizesB_at {zs : List Int} {n k : Nat} (h : sizesB zs n = true) (hk : k < n) : 1 ≤ zs.getD k 0 ∧ zs.getD k 0 ≤ 400 := by
  rw [sizesB, List.all_eq_true] at h
  exact inB_iff.1 (h k (List.mem_range.2 hk))
theorem pickZ_bd {want : Int} {zs : List Int} {n : Nat} (h : sizesB zs n = true) : ∀ k, k ≤ n → 0 < n → 1 ≤ pickZ want zs k ∧ pickZ want zs k ≤ 400 := by
  intro k
  induction k with
  | zero => intro _ h0; exact sizesB_at h h0
  | succ k ih =>
    intro hk h0
    rw [pickZ]
    split
    · exact sizesB_at h (by omega)
    · exact ih (by omega) h0
end Go.Proofs.Ytdbecdgiafjkfaa
