/-
  DERIVED. RowCells of both sides; a row read back.
-/
import Derived.Test.YtenelpollcabnaaPntI
import Derived.Test.YtenelpollcabnaaPatF
namespace Go.Proofs.Ytenelpollcabnaa
open Go.RowKit
set_option linter.unusedVariables false
theorem pat_read : ∀ i, i < 96 → valF (paint (PATS.getD i [])) ((i % 3 : Nat) : Int) = ((i / 3 : Nat) : Int) := by decide +kernel
theorem rowP_split (cl : Nat) (vs : List Int) : ∀ (d k : Nat), k + d = vs.length → ∃ rest, rowC cl vs = rowP cl vs k ++ rest ∧ (0 < d → ∃ r2, rest = paint (PATS.getD (3 * (vs.getD k 0).toNat + cl) []) ++ r2)
  | 0, k, h => ⟨paint [1, 1, 1, 1, 4], by rw [rowC, show k = vs.length by omega], fun h => absurd h (by omega)⟩
  | d + 1, k, h => by
    obtain ⟨rest, h1, _⟩ := rowP_split cl vs d (k + 1) (by omega)
    rw [rowP, List.append_assoc] at h1
    exact ⟨_, h1, fun _ => ⟨rest, rfl⟩⟩
theorem row_part {cl : Nat} {vs : List Int} {k : Nat} (hc : cl ≤ 2) (h : ∀ x ∈ vs, 0 ≤ x ∧ x ≤ 31) (hk : k < vs.length) : ((rowC cl vs).drop (7 + 11 * k)).take 11 = paint (PATS.getD (3 * (vs.getD k 0).toNat + cl) []) := by
  obtain ⟨rest, h1, h2⟩ := rowP_split cl vs (vs.length - k) k (by omega)
  obtain ⟨r2, rfl⟩ := h2 (by omega)
  have hv := h _ (getD_mem (zs := vs) (i := k) hk)
  have e1 := rowP_len cl vs hc h k (by omega)
  rw [h1, ← e1, List.drop_left, ← pat_paint_len (3 * (vs.getD k 0).toNat + cl) (by omega), List.take_left]
theorem row_val {cl : Nat} {vs : List Int} {k : Nat} (hc : cl ≤ 2) (h : ∀ x ∈ vs, 0 ≤ x ∧ x ≤ 31) (hk : k < vs.length) : valF (((rowC cl vs).drop (7 + 11 * k)).take 11) (cl : Int) = vs.getD k 0 := by
  rw [row_part hc h hk]
  have hv := h _ (getD_mem (zs := vs) (i := k) hk)
  have := pat_read (3 * (vs.getD k 0).toNat + cl) (by omega)
  rw [show (3 * (vs.getD k 0).toNat + cl) % 3 = cl by omega, show (3 * (vs.getD k 0).toNat + cl) / 3 = (vs.getD k 0).toNat by omega] at this
  rw [this]
  omega
theorem rowF_get (c : List Int) (cl : Int) : ∀ {n k : Nat}, k < n → (rowF c cl n).getD k 0 = valF ((c.drop (7 + 11 * k)).take 11) cl
  | n + 1, k, h => by
    rw [rowF]
    rcases Nat.lt_or_ge k n with h1 | h1
    · rw [List.getD_eq_getElem?_getD, List.getElem?_append_left (by rw [rowF_len]; exact h1), ← List.getD_eq_getElem?_getD]
      exact rowF_get c cl h1
    · obtain rfl : k = n := by omega
      rw [List.getD_eq_getElem?_getD, List.getElem?_append_right (by rw [rowF_len]; omega), rowF_len]
      simp
/-- A row is read back. -/
theorem row_back {cl : Nat} {vs : List Int} (hc : cl ≤ 2) (h : ∀ x ∈ vs, 0 ≤ x ∧ x ≤ 31) : rowF (rowC cl vs) (cl : Int) vs.length = vs := by
  apply List.ext_getElem
  · rw [rowF_len]
  · intro i h1 h2
    have e1 := rowF_get (rowC cl vs) (cl : Int) (n := vs.length) (k := i) h2
    rw [row_val hc h h2] at e1
    rw [List.getD_eq_getElem?_getD, List.getElem?_eq_getElem h1, List.getD_eq_getElem?_getD, List.getElem?_eq_getElem h2] at e1
    simpa using e1
/-- One cell is hurt: the other patterns' values are read. -/
theorem row_hurt {cl : Nat} {vs : List Int} {k p : Nat} (x : Int) (hc : cl ≤ 2) (h : ∀ x ∈ vs, 0 ≤ x ∧ x ≤ 31) (hk : k < vs.length) (hp : p < 7 + 11 * k ∨ 7 + 11 * k + 11 ≤ p) : (rowF ((rowC cl vs).set p x) (cl : Int) vs.length).getD k 0 = vs.getD k 0 := by
  rw [rowF_get _ _ hk, ← row_val hc h hk]
  congr 1
  apply List.ext_getElem?
  intro i
  rcases Nat.lt_or_ge i 11 with h1 | h1
  · rw [List.getElem?_take, List.getElem?_take, if_pos h1, if_pos h1, List.getElem?_drop, List.getElem?_drop, List.getElem?_set_ne (by omega)]
  · rw [List.getElem?_take, List.getElem?_take, if_neg (by omega), if_neg (by omega)]
theorem bar_bd (ws : List Int) (k : Nat) : ∀ x ∈ bar ws k, 0 ≤ x ∧ x ≤ 1 := fun x hx => by
  have := List.eq_of_mem_replicate hx
  omega
theorem paint_bd (ws : List Int) : ∀ x ∈ paint ws, 0 ≤ x ∧ x ≤ 1 := fun x hx => by
  unfold paint paintTo at hx
  obtain ⟨k, _, h2⟩ := List.mem_flatMap.1 hx
  exact bar_bd ws k x h2
theorem rowP_bd (cl : Nat) (vs : List Int) : ∀ k, ∀ x ∈ rowP cl vs k, 0 ≤ x ∧ x ≤ 1
  | 0, x, h => paint_bd _ x h
  | k + 1, x, h => by
    rw [rowP] at h
    rcases List.mem_append.1 h with h1 | h1
    · exact rowP_bd cl vs k x h1
    · exact paint_bd _ x h1
theorem rowC_bd (cl : Nat) (vs : List Int) : ∀ x ∈ rowC cl vs, 0 ≤ x ∧ x ≤ 1 := fun x h => by
  rw [rowC] at h
  rcases List.mem_append.1 h with h1 | h1
  · exact rowP_bd cl vs _ x h1
  · exact paint_bd _ x h1
end Go.Proofs.Ytenelpollcabnaa
