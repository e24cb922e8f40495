/-
  DERIVED. A table of sums: plain laws for LocalBinary.
-/
import Derived.Test.YtfiddbmjgncabaaTurn4
namespace Go.Proofs.Ytfiddbmjgncabaa
open Go.RowKit
set_option linter.unusedVariables false
def sumZ : Nat → (Nat → Int) → Int
  | 0, _ => 0
  | n + 1, f => sumZ n f + f n
theorem sumZ_congr {n : Nat} {f g : Nat → Int} (h : ∀ i, i < n → f i = g i) : sumZ n f = sumZ n g := by
  induction n with
  | zero => rfl
  | succ n ih => simp only [sumZ]; rw [ih fun i hi => h i (by omega), h n (by omega)]
theorem sumZ_bd {n : Nat} {f : Nat → Int} {M : Nat} (h : ∀ i, i < n → 0 ≤ f i ∧ f i ≤ (M : Int)) : 0 ≤ sumZ n f ∧ sumZ n f ≤ ((n * M : Nat) : Int) := by
  induction n with
  | zero => simp [sumZ]
  | succ n ih =>
    have h1 := ih fun i hi => h i (by omega)
    have h2 := h n (by omega)
    have e : (n + 1) * M = n * M + M := by rw [Nat.add_mul, Nat.one_mul]
    simp only [sumZ]
    rw [e]
    omega
theorem sumZ_add (m n : Nat) (f : Nat → Int) : sumZ (m + n) f = sumZ m f + sumZ n fun j => f (m + j) := by
  induction n with
  | zero => simp [sumZ]
  | succ n ih => rw [← Nat.add_assoc]; simp only [sumZ]; rw [ih]; omega
theorem sumZ_sub (n : Nat) (f g : Nat → Int) : sumZ n (fun i => f i - g i) = sumZ n f - sumZ n g := by
  induction n with
  | zero => rfl
  | succ n ih => simp only [sumZ]; rw [ih]; omega
/-- the pixels above row i and left of column j. -/
def rowS (zs : List Int) (C r j : Nat) : Int := sumZ j fun c => zs.getD (r * C + c) 0
def preS (zs : List Int) (C i j : Nat) : Int := sumZ i fun r => rowS zs C r j
theorem preS_zero (zs : List Int) (C i : Nat) : preS zs C i 0 = 0 := by
  unfold preS
  induction i with
  | zero => rfl
  | succ i ih => simp only [sumZ]; rw [ih]; rfl
theorem preS_step (zs : List Int) (C i j : Nat) : zs.getD (i * C + j) 0 + preS zs C i (j + 1) + preS zs C (i + 1) j - preS zs C i j = preS zs C (i + 1) (j + 1) := by
  have e1 : preS zs C (i + 1) j = preS zs C i j + rowS zs C i j := rfl
  have e2 : preS zs C (i + 1) (j + 1) = preS zs C i (j + 1) + rowS zs C i (j + 1) := rfl
  have e3 : rowS zs C i (j + 1) = rowS zs C i j + zs.getD (i * C + j) 0 := rfl
  omega
/-- the sum of a window: n rows from t, m columns from l. -/
def winS (zs : List Int) (C t l n m : Nat) : Int := sumZ n fun i => sumZ m fun j => zs.getD ((t + i) * C + (l + j)) 0
theorem winS_pre (zs : List Int) (C t l n m : Nat) : preS zs C (t + n) (l + m) - preS zs C t (l + m) - preS zs C (t + n) l + preS zs C t l = winS zs C t l n m := by
  have r : ∀ q, rowS zs C q (l + m) - rowS zs C q l = sumZ m fun j => zs.getD (q * C + (l + j)) 0 := by
    intro q
    unfold rowS
    rw [sumZ_add]
    omega
  have e : winS zs C t l n m = sumZ n fun i => rowS zs C (t + i) (l + m) - rowS zs C (t + i) l := sumZ_congr fun i _ => (r (t + i)).symm
  rw [e, sumZ_sub]
  have a1 : preS zs C (t + n) (l + m) = preS zs C t (l + m) + sumZ n fun i => rowS zs C (t + i) (l + m) := sumZ_add _ _ _
  have a2 : preS zs C (t + n) l = preS zs C t l + sumZ n fun i => rowS zs C (t + i) l := sumZ_add _ _ _
  omega
/-- the table when k pixels are done. -/
def tabS (zs : List Int) (C R : Nat) : Nat → List Int
  | 0 => zerN ((R + 1) * (C + 1))
  | k + 1 => (tabS zs C R k).set ((k / C + 1) * (C + 1) + (k % C + 1))
      (zs.getD k 0 + (tabS zs C R k).getD (k / C * (C + 1) + (k % C + 1)) 0 + (tabS zs C R k).getD ((k / C + 1) * (C + 1) + k % C) 0 - (tabS zs C R k).getD (k / C * (C + 1) + k % C) 0)
theorem tabS_length (zs : List Int) (C R k : Nat) : (tabS zs C R k).length = (R + 1) * (C + 1) := by
  induction k with
  | zero => exact zerN_length _
  | succ k ih => simp only [tabS]; rw [List.length_set, ih]
theorem idx_inj {W i j i' j' : Nat} (h : j < W) (h' : j' < W) (e : i * W + j = i' * W + j') : i = i' ∧ j = j' := by
  have h1 := congrArg (· / W) e
  have h2 := congrArg (· % W) e
  simp only [div_row h, div_row h', mod_row h, mod_row h'] at h1 h2
  exact ⟨h1, h2⟩
theorem tabS_get (zs : List Int) (C R : Nat) (hC : 0 < C) : ∀ k, k ≤ R * C → ∀ i j, i ≤ R → j ≤ C → (tabS zs C R k).getD (i * (C + 1) + j) 0 = if i = 0 ∨ j = 0 ∨ (i - 1) * C + (j - 1) < k then preS zs C i j else 0 := by
  intro k
  induction k with
  | zero =>
    intro _ i j hi hj
    simp only [tabS]
    rw [zerN_getD]
    split
    · rename_i h
      rcases h with rfl | rfl | h
      · rfl
      · exact (preS_zero zs C i).symm
      · omega
    · rfl
  | succ k ih =>
    intro hk i j hi hj
    have ih := ih (by omega)
    have hkR : k / C < R := by rw [Nat.div_lt_iff_lt_mul hC]; omega
    have hkC : k % C < C := Nat.mod_lt _ hC
    have hkk : k / C * C + k % C = k := Nat.div_add_mod' k C
    simp only [tabS]
    have hlen := tabS_length zs C R k
    have g1 := ih (k / C) (k % C + 1) (by omega) (by omega)
    have g2 := ih (k / C + 1) (k % C) (by omega) (by omega)
    have g3 := ih (k / C) (k % C) (by omega) (by omega)
    rw [if_pos (by
      rcases Nat.eq_zero_or_pos (k / C) with h | h
      · exact .inl h
      · refine .inr (.inr ?_)
        obtain ⟨q, hq⟩ : ∃ q, k / C = q + 1 := ⟨k / C - 1, by omega⟩
        rw [hq] at hkk ⊢
        rw [Nat.add_mul, Nat.one_mul] at hkk
        simp only [Nat.add_sub_cancel]
        omega)] at g1
    rw [if_pos (by
      rcases Nat.eq_zero_or_pos (k % C) with h | h
      · exact .inr (.inl h)
      · refine .inr (.inr ?_)
        simp only [Nat.add_sub_cancel]
        omega)] at g2
    rw [if_pos (by
      rcases Nat.eq_zero_or_pos (k / C) with h | h
      · exact .inl h
      · rcases Nat.eq_zero_or_pos (k % C) with h' | h'
        · exact .inr (.inl h')
        · refine .inr (.inr ?_)
          obtain ⟨q, hq⟩ : ∃ q, k / C = q + 1 := ⟨k / C - 1, by omega⟩
          rw [hq] at hkk ⊢
          rw [Nat.add_mul, Nat.one_mul] at hkk
          simp only [Nat.add_sub_cancel]
          omega)] at g3
    rw [g1, g2, g3]
    have st := preS_step zs C (k / C) (k % C)
    rw [hkk] at st
    rw [st]
    by_cases e : i = k / C + 1 ∧ j = k % C + 1
    · obtain ⟨rfl, rfl⟩ := e
      have hin : (k / C + 1) * (C + 1) + (k % C + 1) < (tabS zs C R k).length := by
        rw [hlen]
        exact row_lt (show k / C + 1 < R + 1 by omega) (show k % C + 1 < C + 1 by omega)
      rw [if_pos (by right; right; simp only [Nat.add_sub_cancel]; omega)]
      simp [List.getD_eq_getElem?_getD, hin]
    · have hne : (k / C + 1) * (C + 1) + (k % C + 1) ≠ i * (C + 1) + j := by
        intro he
        obtain ⟨a, b⟩ := idx_inj (show k % C + 1 < C + 1 by omega) (show j < C + 1 by omega) he
        exact e ⟨a.symm, b.symm⟩
      have hset : ∀ v, ((tabS zs C R k).set ((k / C + 1) * (C + 1) + (k % C + 1)) v).getD (i * (C + 1) + j) 0 = (tabS zs C R k).getD (i * (C + 1) + j) 0 := by
        intro v
        simp only [List.getD_eq_getElem?_getD, List.getElem?_set]
        rw [if_neg hne]
      rw [hset, ih i j hi hj]
      by_cases hc : i = 0 ∨ j = 0 ∨ (i - 1) * C + (j - 1) < k
      · rw [if_pos hc, if_pos (by rcases hc with h | h | h; · exact .inl h
                                  · exact .inr (.inl h)
                                  · exact .inr (.inr (by omega)))]
      · rw [if_neg hc, if_neg (fun hd => by
          rcases hd with h | h | h
          · exact hc (.inl h)
          · exact hc (.inr (.inl h))
          · have hk' : (i - 1) * C + (j - 1) = k / C * C + k % C := by omega
            have hi0 : i ≠ 0 := fun h0 => hc (.inl h0)
            have hj0 : j ≠ 0 := fun h0 => hc (.inr (.inl h0))
            obtain ⟨a, b⟩ := idx_inj (show j - 1 < C by omega) hkC hk'
            exact e ⟨by omega, by omega⟩)]
theorem tabS_all (zs : List Int) (C R : Nat) (hC : 0 < C) (i j : Nat) (hi : i ≤ R) (hj : j ≤ C) : (tabS zs C R (R * C)).getD (i * (C + 1) + j) 0 = preS zs C i j := by
  rw [tabS_get zs C R hC (R * C) (Nat.le_refl _) i j hi hj]
  split
  · rfl
  · rename_i h
    exfalso
    apply h
    rcases Nat.eq_zero_or_pos i with h0 | h0
    · exact .inl h0
    · rcases Nat.eq_zero_or_pos j with h1 | h1
      · exact .inr (.inl h1)
      · right; right
        exact row_lt (show i - 1 < R by omega) (show j - 1 < C by omega)
theorem preS_bd {zs : List Int} (h : ∀ x ∈ zs, 0 ≤ x ∧ x ≤ 255) (C i j : Nat) : 0 ≤ preS zs C i j ∧ preS zs C i j ≤ ((i * (j * 255) : Nat) : Int) := by
  have g : ∀ q, 0 ≤ zs.getD q 0 ∧ zs.getD q 0 ≤ 255 := by
    intro q
    by_cases hq : q < zs.length
    · exact h _ (getD_mem hq)
    · simp [List.getD_eq_getElem?_getD, List.getElem?_eq_none (show zs.length ≤ q by omega)]
  refine sumZ_bd (fun r _ => ?_)
  exact sumZ_bd (M := 255) (fun c _ => g _)
theorem sumZ_mul (n m : Nat) (f : Nat → Int) : sumZ (n * m) f = sumZ n fun i => sumZ m fun j => f (i * m + j) := by
  induction n with
  | zero => simp [sumZ]
  | succ n ih => rw [Nat.add_mul, Nat.one_mul, sumZ_add, ih]; rfl
/-- the pixels of a window, row by row. -/
def winL (zs : List Int) (C t l n m : Nat) : List Int := rastL m (fun i j => zs.getD ((t + i) * C + (l + j)) 0) (n * m)
theorem winL_length (zs : List Int) (C t l n m : Nat) : (winL zs C t l n m).length = n * m := rastL_length _ _ _
theorem winL_sum (zs : List Int) (C t l n m : Nat) : (sumZ (n * m) fun q => (winL zs C t l n m).getD q 0) = winS zs C t l n m := by
  rw [sumZ_mul]
  exact sumZ_congr fun i hi => sumZ_congr fun j hj => by
    unfold winL
    rw [rastL_getD _ _ _ _ (row_lt hi hj), div_row hj, mod_row hj]
end Go.Proofs.Ytfiddbmjgncabaa
