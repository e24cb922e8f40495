/-
  DERIVED. Stacked symbols read back: plain laws.
-/
import Derived.Test.YtenelpollcabnaaGrdQ
import Derived.Test.YtenelpollcabnaaPntR
import Derived.Test.YtenelpollcabnaaStkT
namespace Go.Proofs.Ytenelpollcabnaa
open Go.RowKit
set_option linter.unusedVariables false
section
variable {els : List Int} {co R lv : Nat} (h : ∀ x ∈ els, 0 ≤ x ∧ x ≤ 31) (h2 : R ≤ 31) (h3 : co ≤ 31) (h4 : lv ≤ 31) (hl : els.length = R * co)
include h h2 h3 h4 hl
theorem rowC_lenG {i : Nat} (hi : i < R) : (rowC (i % 3) (rv els co R lv i)).length = 15 + 11 * (co + 2) := by
  have h5 : i * co + co ≤ els.length := by
    rw [hl]
    have : (i + 1) * co ≤ R * co := Nat.mul_le_mul_right _ hi
    rw [Nat.add_mul, Nat.one_mul] at this
    exact this
  rw [rowC_len (by omega) (rv_bd h (by omega) h2 h3 h4), rv_len h5]
theorem gRow_grid : ∀ r, r ≤ R → ∀ i, i < r → gRow (gridTo els co R lv r) (15 + 11 * (co + 2)) i = rowC (i % 3) (rv els co R lv i)
  | 0, _, i, hi => absurd hi (by omega)
  | r + 1, hr, i, hi => by
    have hA := gridTo_len h h2 h3 h4 hl r (by omega)
    have hB := rowC_lenG h h2 h3 h4 hl (show r < R by omega)
    obtain ⟨C, hC⟩ : ∃ C, 15 + 11 * (co + 2) = C := ⟨_, rfl⟩
    rw [hC] at hA hB ⊢
    unfold gRow
    rw [gridTo_succ]
    rcases Nat.lt_or_ge i r with hlt | hge
    · have ih := gRow_grid r (by omega) i hlt
      rw [hC] at ih
      unfold gRow at ih
      have hic : i * C + C ≤ r * C := by
        have : (i + 1) * C ≤ r * C := Nat.mul_le_mul_right _ hlt
        rw [Nat.add_mul, Nat.one_mul] at this
        exact this
      rw [List.drop_append_of_le_length (by omega), List.take_append_of_le_length (by rw [List.length_drop]; omega)]
      exact ih
    · obtain rfl : i = r := by omega
      rw [← hA, List.drop_left, List.take_of_length_le (by omega)]
theorem gVal_grid {i : Nat} (hi : i < R) : gVal (gridTo els co R lv R) (15 + 11 * (co + 2)) i = rv els co R lv i := by
  have h5 : i * co + co ≤ els.length := by
    rw [hl]
    have : (i + 1) * co ≤ R * co := Nat.mul_le_mul_right _ hi
    rw [Nat.add_mul, Nat.one_mul] at this
    exact this
  have h6 := row_back (cl := i % 3) (vs := rv els co R lv i) (by omega) (rv_bd h (by omega) h2 h3 h4)
  rw [rv_len h5] at h6
  unfold gVal
  rw [gRow_grid h h2 h3 h4 hl R (Nat.le_refl _) i hi, show (15 + 11 * (co + 2) - 15) / 11 = co + 2 by omega]
  exact h6
omit h h2 h3 h4 in
theorem inner_rv {i : Nat} (hi : i < R) : inner (rv els co R lv i) = (els.drop (i * co)).take co := by
  have h5 : i * co + co ≤ els.length := by
    rw [hl]
    have : (i + 1) * co ≤ R * co := Nat.mul_le_mul_right _ hi
    rw [Nat.add_mul, Nat.one_mul] at this
    exact this
  unfold inner
  rw [rv_len h5]
  have hp : ((els.drop (i * co)).take co).length = co := by simp; omega
  obtain ⟨P, hP⟩ : ∃ P, (els.drop (i * co)).take co = P := ⟨_, rfl⟩
  unfold rv
  rw [hP] at hp ⊢
  simp only [List.cons_append, List.nil_append, List.drop_succ_cons, List.drop_zero, Nat.add_sub_cancel]
  rw [List.take_append_of_le_length (by omega), List.take_of_length_le (by omega)]
theorem flatP_grid : ∀ r, r ≤ R → flatP (gridTo els co R lv R) (15 + 11 * (co + 2)) r = els.take (r * co)
  | 0, _ => by simp [flatP]
  | r + 1, hr => by
    rw [flatP_succ, flatP_grid r (by omega), gVal_grid h h2 h3 h4 hl (by omega), inner_rv hl (by omega), Nat.add_mul, Nat.one_mul, List.take_add]
theorem flatP_all : flatP (gridTo els co R lv R) (15 + 11 * (co + 2)) R = els := by
  rw [flatP_grid h h2 h3 h4 hl R (Nat.le_refl _), List.take_of_length_le (by omega)]
theorem lvV_grid {i : Nat} (hi : i < R) (h3i : i % 3 = 2) : lvV (gridTo els co R lv R) (15 + 11 * (co + 2)) co i = (lv : Int) := by
  have h5 : i * co + co ≤ els.length := by
    rw [hl]
    have : (i + 1) * co ≤ R * co := Nat.mul_le_mul_right _ hi
    rw [Nat.add_mul, Nat.one_mul] at this
    exact this
  have hp : ([(i : Int)] ++ (els.drop (i * co)).take co).length = co + 1 := by simp; omega
  unfold lvV
  rw [gVal_grid h h2 h3 h4 hl hi]
  unfold rv
  rw [h3i, List.getD_eq_getElem?_getD, ← hp, List.getElem?_append_right (Nat.le_refl _), Nat.sub_self]
  rfl
theorem lvI_grid {ln : Nat} (hln : lv < ln) : ∀ r, r ≤ R → ∃ n, lvI (gridTo els co R lv R) (15 + 11 * (co + 2)) co ln r = List.replicate n (lv : Int) ∧ (3 ≤ r → 1 ≤ n)
  | 0, _ => ⟨0, rfl, fun h => by omega⟩
  | r + 1, hr => by
    obtain ⟨n, e, hn⟩ := lvI_grid hln r (by omega)
    by_cases h3r : r % 3 = 2
    · have hv := lvV_grid h h2 h3 h4 hl (show r < R by omega) h3r
      rw [lvI_yes h3r (by rw [hv]; exact inB_yes (by omega) (by omega)), hv, e]
      exact ⟨n + 1, by rw [List.replicate_succ'], fun _ => by omega⟩
    · rw [lvI_no (fun hh => h3r hh.1), e]
      exact ⟨n, rfl, fun h7 => hn (by omega)⟩
end
theorem sBest_one {c : Nat → Int} {v : Nat} (h0 : ∀ j, j ≠ v → c j = 0) (h1 : 0 < c v) : ∀ k, sBest c k = if v < k then (v : Int) else -1
  | 0 => by rw [if_neg (by omega)]; rfl
  | k + 1 => by
    have ih := sBest_one h0 h1 k
    by_cases e : k = v
    · subst e
      rw [if_neg (by omega)] at ih
      rw [sBest_yes h1 (.inl (by rw [ih]; omega)), if_pos (by omega)]
    · rw [sBest_no (fun hh => by have := h0 k e; omega), ih]
      by_cases hk : v < k
      · rw [if_pos hk, if_pos (by omega)]
      · rw [if_neg hk, if_neg (by omega)]
theorem lvO_grid {els : List Int} {co R lv ln : Nat} (h : ∀ x ∈ els, 0 ≤ x ∧ x ≤ 31) (h2 : R ≤ 31) (h3 : co ≤ 31) (h4 : lv ≤ 31) (hl : els.length = R * co) (hln : lv < ln) (hR : 3 ≤ R) :
    lvO (gridTo els co R lv R) (15 + 11 * (co + 2)) co ln R = ((lv : Int), 0) := by
  obtain ⟨n, e, hn⟩ := lvI_grid h h2 h3 h4 hl hln R (Nat.le_refl _)
  have hn1 := hn hR
  unfold lvO
  rw [e]
  have hb := sBest_one (c := cnt (List.replicate n (lv : Int))) (v := lv) (fun j hj => by
    unfold cnt
    rw [List.count_replicate, if_neg (by simp; omega)]
    rfl) (by
    unfold cnt
    rw [List.count_replicate, if_pos (by simp)]
    omega) ln
  rw [if_pos hln] at hb
  rw [hb, if_neg (by omega)]
theorem elV_same {X : List Int} (h : ∀ x ∈ X, 0 ≤ x) : elV X = X := by
  unfold elV
  conv => rhs; rw [← List.map_id X]
  exact List.map_congr_left fun x hx => by unfold pos0; rw [if_neg (by have := h x hx; omega)]; rfl
theorem negs_none {X : List Int} (h : ∀ x ∈ X, 0 ≤ x) : negs X = [] := by
  unfold negs
  rw [List.filter_eq_nil_iff.2 (fun i hi hc => by
    have h1 := h _ (getD_mem (zs := X) (List.mem_range.1 hi))
    have h2 := of_decide_eq_true hc
    omega)]
  rfl
theorem grid_bd (els : List Int) (co R lv : Nat) : ∀ r, ∀ x ∈ gridTo els co R lv r, 0 ≤ x ∧ x ≤ 1 := fun r x hx => by
  unfold gridTo at hx
  rw [List.mem_flatMap] at hx
  obtain ⟨i, _, hi⟩ := hx
  exact rowC_bd _ _ x hi
end Go.Proofs.Ytenelpollcabnaa
