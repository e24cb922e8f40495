/-
  DERIVED. MedianRaster: plain laws of sorting.
-/
import Derived.Test.YtfiddbmjgncabaaKit
namespace Go.Proofs.Ytfiddbmjgncabaa
open Go.RowKit
set_option linter.unusedVariables false
def bub : Nat → List Int → List Int
  | 0, ys => ys
  | k + 1, ys => if ys.getD (k + 1) 0 < ys.getD k 0 then bub k ((ys.set (k + 1) (ys.getD k 0)).set k (ys.getD (k + 1) 0)) else ys
def srt (zs : List Int) : Nat → List Int
  | 0 => zs
  | i + 1 => bub i (srt zs i)
theorem bub_length (k : Nat) (ys : List Int) : (bub k ys).length = ys.length := by
  induction k generalizing ys with
  | zero => rfl
  | succ k ih =>
    simp only [bub]
    split
    · rw [ih]; simp
    · rfl
theorem srt_length (zs : List Int) (i : Nat) : (srt zs i).length = zs.length := by
  induction i with
  | zero => rfl
  | succ i ih => simp only [srt]; rw [bub_length, ih]
theorem bub_stop {k : Nat} {ys : List Int} (h : ¬ ys.getD (k + 1) 0 < ys.getD k 0) : bub (k + 1) ys = ys := by simp only [bub]; rw [if_neg h]
theorem bub_go {k : Nat} {ys : List Int} (h : ys.getD (k + 1) 0 < ys.getD k 0) : bub (k + 1) ys = bub k ((ys.set (k + 1) (ys.getD k 0)).set k (ys.getD (k + 1) 0)) := by simp only [bub]; rw [if_pos h]
theorem getD_set' (ys : List Int) (i j : Nat) (v : Int) (h : i < ys.length) : (ys.set i v).getD j 0 = if i = j then v else ys.getD j 0 := by
  simp only [List.getD_eq_getElem?_getD, List.getElem?_set]
  by_cases e : i = j
  · subst e
    rw [if_pos rfl, if_pos h, if_pos rfl]
    rfl
  · rw [if_neg e, if_neg e]
theorem swap_perm (ys : List Int) (k : Nat) (h : k + 1 < ys.length) : ((ys.set (k + 1) (ys.getD k 0)).set k (ys.getD (k + 1) 0)).Perm ys := by
  rw [List.perm_iff_count]
  intro x
  have e1 : ys.getD k 0 = ys[k] := by simp [List.getD_eq_getElem?_getD, List.getElem?_eq_getElem (show k < ys.length by omega)]
  have e2 : ys.getD (k + 1) 0 = ys[k + 1] := by simp [List.getD_eq_getElem?_getD, List.getElem?_eq_getElem h]
  rw [e1, e2, List.count_set (by simp; omega), List.count_set h]
  have e3 : (ys.set (k + 1) ys[k])[k]'(by simp; omega) = ys[k] := by rw [List.getElem_set_ne (by omega)]
  rw [e3]
  have p1 : (ys[k + 1] == x) = true → 0 < ys.count x := fun h' => List.count_pos_iff.2 (by rw [← eq_of_beq h']; exact List.getElem_mem _)
  have p2 : (ys[k] == x) = true → 0 < ys.count x := fun h' => List.count_pos_iff.2 (by rw [← eq_of_beq h']; exact List.getElem_mem _)
  cases h1 : (ys[k + 1] == x) <;> cases h2 : (ys[k] == x)
  · simp
  · have := p2 h2; first | (simp; done) | (simp; omega)
  · have := p1 h1; first | (simp; done) | (simp; omega)
  · have := p1 h1; first | (simp; done) | (simp; omega)
theorem bub_perm (k : Nat) (ys : List Int) (h : k < ys.length) : (bub k ys).Perm ys := by
  induction k generalizing ys with
  | zero => exact List.Perm.refl _
  | succ k ih =>
    simp only [bub]
    split
    · exact (ih _ (by simp; omega)).trans (swap_perm ys k h)
    · exact List.Perm.refl _
theorem srt_perm (zs : List Int) (i : Nat) (h : i ≤ zs.length) : (srt zs i).Perm zs := by
  induction i with
  | zero => exact List.Perm.refl _
  | succ i ih =>
    simp only [srt]
    exact (bub_perm i _ (by rw [srt_length]; omega)).trans (ih (by omega))
theorem bub_sorted (k i : Nat) (ys : List Int) (hk : k ≤ i) (hi : i < ys.length) (h1 : ∀ a b, a < b → b ≤ i → a ≠ k → b ≠ k → ys.getD a 0 ≤ ys.getD b 0) (h2 : ∀ b, k < b → b ≤ i → ys.getD k 0 ≤ ys.getD b 0) :
    ∀ a b, a < b → b ≤ i → (bub k ys).getD a 0 ≤ (bub k ys).getD b 0 := by
  induction k generalizing ys with
  | zero =>
    intro a b hab hb
    simp only [bub]
    by_cases ha : a = 0
    · subst ha; exact h2 b hab hb
    · exact h1 a b hab hb ha (by omega)
  | succ k ih =>
    by_cases hlt : ys.getD (k + 1) 0 < ys.getD k 0
    · rw [bub_go hlt]
      have g : ∀ j, ((ys.set (k + 1) (ys.getD k 0)).set k (ys.getD (k + 1) 0)).getD j 0 = if k = j then ys.getD (k + 1) 0 else if k + 1 = j then ys.getD k 0 else ys.getD j 0 := by
        intro j
        rw [getD_set' _ _ _ _ (by simp; omega), getD_set' _ _ _ _ (by omega)]
      refine ih _ (by omega) (by simp; omega) ?_ ?_
      · intro a b hab hb ha hb2
        rw [g, g, if_neg (Ne.symm ha), if_neg (Ne.symm hb2)]
        by_cases e1 : k + 1 = a
        · rw [if_pos e1, if_neg (by omega)]
          exact h1 k b (by omega) hb (by omega) (by omega)
        · rw [if_neg e1]
          by_cases e2 : k + 1 = b
          · rw [if_pos e2]
            exact h1 a k (by omega) (by omega) (by omega) (by omega)
          · rw [if_neg e2]
            exact h1 a b hab hb (by omega) (by omega)
      · intro b hb hbi
        rw [g, g, if_pos rfl, if_neg (by omega)]
        by_cases e2 : k + 1 = b
        · rw [if_pos e2]; omega
        · rw [if_neg e2]
          exact h2 b (by omega) hbi
    · rw [bub_stop hlt]
      intro a b hab hb
      by_cases ha : a = k + 1
      · subst ha; exact h2 b hab hb
      · by_cases hb2 : b = k + 1
        · subst hb2
          by_cases hak : a = k
          · subst hak; omega
          · have := h1 a k (by omega) (by omega) ha (by omega)
            omega
        · exact h1 a b hab hb ha hb2
theorem srt_sorted (zs : List Int) : ∀ i, i ≤ zs.length → ∀ a b, a < b → b < i → (srt zs i).getD a 0 ≤ (srt zs i).getD b 0 := by
  intro i
  induction i with
  | zero => intro _ a b _ hb; omega
  | succ i ih =>
    intro hi a b hab hb
    simp only [srt]
    refine bub_sorted i i _ (Nat.le_refl _) (by rw [srt_length]; omega) (fun a b hab hb ha hb2 => ih (by omega) a b hab (by omega)) (fun b h1 h2 => by omega) a b hab (by omega)
def sortZ (zs : List Int) : List Int := zs.mergeSort fun x y => decide (x ≤ y)
theorem sortZ_length (zs : List Int) : (sortZ zs).length = zs.length := List.length_mergeSort _
theorem srt_all (zs : List Int) : srt zs zs.length = sortZ zs := by
  have hp := srt_perm zs zs.length (Nat.le_refl _)
  have hs : (srt zs zs.length).Pairwise (fun x y => decide (x ≤ y) = true) := by
    rw [List.pairwise_iff_getElem]
    intro a b ha hb hab
    have := srt_sorted zs zs.length (Nat.le_refl _) a b hab (by rw [← srt_length zs zs.length]; exact hb)
    simp only [List.getD_eq_getElem?_getD, List.getElem?_eq_getElem ha, List.getElem?_eq_getElem hb, Option.getD_some] at this
    simpa using this
  have ht : ∀ a b c : Int, decide (a ≤ b) = true → decide (b ≤ c) = true → decide (a ≤ c) = true := by intro a b c h1 h2; simp at *; omega
  have htot : ∀ a b : Int, (decide (a ≤ b) || decide (b ≤ a)) = true := by intro a b; simp; omega
  have h2 : (sortZ zs).Pairwise (fun x y => decide (x ≤ y) = true) := List.pairwise_mergeSort ht htot zs
  have hpp : (srt zs zs.length).Perm (sortZ zs) := hp.trans (List.mergeSort_perm zs _).symm
  exact hpp.eq_of_pairwise (fun a b _ _ h1 h2 => by simp at h1 h2; omega) hs h2
end Go.Proofs.Ytfiddbmjgncabaa
