/-
  DERIVED. A raster turned four times is the raster; a turned one has the same histogram: plain laws.
-/
import Derived.Test.YtfiddbmjgncabaaTurn
import Derived.Test.YtfiddbmjgncabaaHist
namespace Go.Proofs.Ytfiddbmjgncabaa
open Go.RowKit
set_option linter.unusedVariables false
def turnL (r c : Nat) (zs : List Int) : List Int := rastL r (fun i j => pixV (c : Int) zs ((r : Int) - 1 - (j : Int)) (i : Int)) (c * r)
theorem turnL_length (r c : Nat) (zs : List Int) : (turnL r c zs).length = c * r := rastL_length _ _ _
theorem div_row {i r j : Nat} (h : j < r) : (i * r + j) / r = i := by rw [Nat.mul_comm, Nat.mul_add_div (by omega), Nat.div_eq_of_lt h, Nat.add_zero]
theorem mod_row {i r j : Nat} (h : j < r) : (i * r + j) % r = j := by rw [Nat.mul_comm, Nat.mul_add_mod, Nat.mod_eq_of_lt h]
theorem row_lt {i c j r : Nat} (hi : i < c) (hj : j < r) : i * r + j < c * r := by
  have : (i + 1) * r ≤ c * r := Nat.mul_le_mul_right _ hi
  rw [Nat.add_mul, Nat.one_mul] at this
  omega
theorem rastL_getD (cols : Nat) (f : Nat → Nat → Int) (k q : Nat) (h : q < k) : (rastL cols f k).getD q 0 = f (q / cols) (q % cols) := by
  simp [rastL, List.getD_eq_getElem?_getD, h]
theorem turnL_get (r c : Nat) (zs : List Int) {i j : Nat} (hi : i < c) (hj : j < r) : (turnL r c zs).getD (i * r + j) 0 = zs.getD ((r - 1 - j) * c + i) 0 := by
  unfold turnL
  rw [rastL_getD _ _ _ _ (row_lt hi hj), div_row hj, mod_row hj]
  have e : (r : Int) - 1 - (j : Int) = ((r - 1 - j : Nat) : Int) := by omega
  rw [e, pixV_nat]
theorem turn2_get (r c : Nat) (zs : List Int) {i j : Nat} (hi : i < r) (hj : j < c) : (turnL c r (turnL r c zs)).getD (i * c + j) 0 = zs.getD ((r - 1 - i) * c + (c - 1 - j)) 0 := by
  rw [turnL_get c r _ hi hj, turnL_get r c zs (show c - 1 - j < c by omega) hi]
theorem turn4 (r c : Nat) (zs : List Int) (hl : zs.length = r * c) (hc : 0 < c) : turnL c r (turnL r c (turnL c r (turnL r c zs))) = zs := by
  refine list_eq_of (by rw [turnL_length, hl]) (fun q hq => ?_)
  rw [turnL_length] at hq
  obtain ⟨i, j, hi, hj, rfl⟩ : ∃ i j, i < r ∧ j < c ∧ q = i * c + j := ⟨q / c, q % c, by rw [Nat.div_lt_iff_lt_mul hc]; exact hq, Nat.mod_lt _ hc, (Nat.div_add_mod' q c).symm⟩
  rw [turn2_get r c _ hi hj, turn2_get r c zs (show r - 1 - i < r by omega) (show c - 1 - j < c by omega)]
  congr 1
  rw [show r - 1 - (r - 1 - i) = i by omega, show c - 1 - (c - 1 - j) = j by omega]
def sumN : Nat → (Nat → Nat) → Nat
  | 0, _ => 0
  | n + 1, f => sumN n f + f n
theorem sumN_congr {n : Nat} {f g : Nat → Nat} (h : ∀ i, i < n → f i = g i) : sumN n f = sumN n g := by
  induction n with
  | zero => rfl
  | succ n ih => simp only [sumN]; rw [ih fun i hi => h i (by omega), h n (by omega)]
theorem sumN_add (m n : Nat) (f : Nat → Nat) : sumN (m + n) f = sumN m f + sumN n fun j => f (m + j) := by
  induction n with
  | zero => rfl
  | succ n ih => rw [← Nat.add_assoc]; simp only [sumN]; rw [ih]; omega
theorem sumN_fun (n : Nat) (f g : Nat → Nat) : sumN n (fun i => f i + g i) = sumN n f + sumN n g := by
  induction n with
  | zero => rfl
  | succ n ih => simp only [sumN]; rw [ih]; omega
theorem sumN_zero (n : Nat) : sumN n (fun _ => 0) = 0 := by
  induction n with
  | zero => rfl
  | succ n ih => simp only [sumN]; rw [ih]
theorem sumN_mul (c r : Nat) (f : Nat → Nat) : sumN (c * r) f = sumN c fun i => sumN r fun j => f (i * r + j) := by
  induction c with
  | zero => simp [sumN]
  | succ c ih => rw [Nat.add_mul, Nat.one_mul, sumN_add, ih]; rfl
theorem sumN_swap (c r : Nat) (g : Nat → Nat → Nat) : sumN c (fun i => sumN r fun j => g i j) = sumN r fun j => sumN c fun i => g i j := by
  induction c with
  | zero => simp only [sumN]; exact (sumN_zero r).symm
  | succ c ih => simp only [sumN]; rw [ih, sumN_fun]
theorem sumN_shift (n : Nat) (f : Nat → Nat) : sumN (n + 1) f = f 0 + sumN n fun j => f (j + 1) := by
  rw [Nat.add_comm n 1, sumN_add]
  simp only [sumN, Nat.zero_add]
  congr 1
  exact sumN_congr fun i _ => by rw [Nat.add_comm]
theorem sumN_rev (n : Nat) (f : Nat → Nat) : sumN n (fun j => f (n - 1 - j)) = sumN n f := by
  induction n generalizing f with
  | zero => rfl
  | succ n ih =>
    rw [sumN_shift n f, ← ih fun j => f (j + 1)]
    simp only [sumN]
    rw [Nat.add_comm]
    congr 1
    · congr 1; omega
    · exact sumN_congr fun i hi => by congr 1; omega
def isV (v : Nat) (zs : List Int) (i : Nat) : Nat := if (zs.getD i 0).toNat = v then 1 else 0
theorem hist_get (zs : List Int) (k v : Nat) (hk : k ≤ zs.length) (h8 : ∀ x ∈ zs, 0 ≤ x ∧ x ≤ 255) (hv : v < 256) : (histP zs k).getD v 0 = ((sumN k (isV v zs) : Nat) : Int) := by
  induction k with
  | zero => simp only [histP, sumN]; exact zerN_getD 256 v
  | succ k ih =>
    have hx := h8 _ (getD_mem (zs := zs) (i := k) (by omega))
    have ih := ih (by omega)
    have hl := histP_length zs k
    simp only [histP, sumN]
    by_cases e : (zs.getD k 0).toNat = v
    · have : isV v zs k = 1 := if_pos e
      rw [this, e]
      simp only [List.getD_eq_getElem?_getD, List.getElem?_set] at ih ⊢
      rw [if_pos trivial, if_pos (by omega)]
      simp only [Option.getD_some]
      omega
    · have : isV v zs k = 0 := if_neg e
      rw [this]
      simp only [List.getD_eq_getElem?_getD, List.getElem?_set] at ih e ⊢
      rw [if_neg e]
      omega
theorem hist_turn (r c : Nat) (zs : List Int) (hl : zs.length = r * c) (h8 : ∀ x ∈ zs, 0 ≤ x ∧ x ≤ 255) (h8' : ∀ x ∈ turnL r c zs, 0 ≤ x ∧ x ≤ 255) : histP (turnL r c zs) (c * r) = histP zs (r * c) := by
  refine list_eq_of (by rw [histP_length, histP_length]) (fun v hv => ?_)
  rw [histP_length] at hv
  rw [hist_get _ _ _ (by rw [turnL_length]; exact Nat.le_refl _) h8' hv, hist_get _ _ _ (by rw [hl]; exact Nat.le_refl _) h8 hv]
  congr 1
  rw [sumN_mul, sumN_mul]
  have e1 : sumN c (fun i => sumN r fun j => isV v (turnL r c zs) (i * r + j)) = sumN c (fun i => sumN r fun j => isV v zs ((r - 1 - j) * c + i)) :=
    sumN_congr fun i hi => sumN_congr fun j hj => by unfold isV; rw [turnL_get r c zs hi hj]
  rw [e1, sumN_swap]
  exact sumN_rev r fun q => sumN c fun i => isV v zs (q * c + i)
theorem turnL_mem (r c : Nat) (zs : List Int) (hl : zs.length = r * c) (h8 : ∀ x ∈ zs, 0 ≤ x ∧ x ≤ 255) : ∀ x ∈ turnL r c zs, 0 ≤ x ∧ x ≤ 255 := by
  intro x hx
  obtain ⟨q, hq, rfl⟩ := List.getElem_of_mem hx
  rw [turnL_length] at hq
  have hr : 0 < r := by rcases Nat.eq_zero_or_pos r with h | h; · subst h; simp at hq
                        exact h
  have hi : q / r < c := by rw [Nat.div_lt_iff_lt_mul hr]; exact hq
  have hj : q % r < r := Nat.mod_lt _ hr
  have e : (turnL r c zs)[q] = (turnL r c zs).getD q 0 := by simp [List.getD_eq_getElem?_getD, List.getElem?_eq_getElem (show q < (turnL r c zs).length by rw [turnL_length]; exact hq)]
  have g : (turnL r c zs).getD q 0 = zs.getD ((r - 1 - q % r) * c + q / r) 0 := by
    have := turnL_get r c zs hi hj
    rwa [Nat.div_add_mod' q r] at this
  rw [e, g]
  exact h8 _ (getD_mem (by rw [hl]; exact row_lt (show r - 1 - q % r < r by omega) hi))
end Go.Proofs.Ytfiddbmjgncabaa
