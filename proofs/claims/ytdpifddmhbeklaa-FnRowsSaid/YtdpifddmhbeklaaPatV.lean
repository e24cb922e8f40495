/-
  DERIVED. The value that eleven cells show: plain laws.
-/
import Derived.Test.YtdpifddmhbeklaaPatI
namespace Go.Proofs.Ytdpifddmhbeklaa
open Go.RowKit
set_option linter.unusedVariables false
/-- One more in the last run. -/
def incL (W : List Int) : List Int := W.set (W.length - 1) (W.getD (W.length - 1) 0 + 1)
/-- The widths of the runs of the first k cells. -/
def wid (c : List Int) : Nat → List Int
  | 0 => []
  | k + 1 => if 0 < k ∧ c.getD k 0 = c.getD (k - 1) 0 then incL (wid c k) else wid c k ++ [1]
theorem wid_same {c : List Int} {k : Nat} (h : 0 < k) (e : c.getD k 0 = c.getD (k - 1) 0) : wid c (k + 1) = incL (wid c k) := by
  show (if 0 < k ∧ c.getD k 0 = c.getD (k - 1) 0 then incL (wid c k) else wid c k ++ [1]) = _
  rw [if_pos ⟨h, e⟩]
theorem wid_new {c : List Int} {k : Nat} (h : ¬ (0 < k ∧ c.getD k 0 = c.getD (k - 1) 0)) : wid c (k + 1) = wid c k ++ [1] := by
  show (if 0 < k ∧ c.getD k 0 = c.getD (k - 1) 0 then incL (wid c k) else wid c k ++ [1]) = _
  rw [if_neg h]
theorem incL_len (W : List Int) : (incL W).length = W.length := by simp [incL]
theorem wid_len (c : List Int) : ∀ k, (wid c k).length ≤ k ∧ (0 < k → 0 < (wid c k).length)
  | 0 => by simp [wid]
  | k + 1 => by
    have ih := wid_len c k
    by_cases h : 0 < k ∧ c.getD k 0 = c.getD (k - 1) 0
    · rw [wid_same h.1 h.2, incL_len]; omega
    · rw [wid_new h, List.length_append]; simp; omega
theorem wid_mono (c : List Int) {k n : Nat} (h : k ≤ n) : (wid c k).length ≤ (wid c n).length := by
  induction n with
  | zero => obtain rfl : k = 0 := by omega
            exact Nat.le_refl _
  | succ n ih =>
    rcases Nat.lt_or_ge k (n + 1) with h1 | h1
    · have := ih (by omega)
      by_cases h : 0 < n ∧ c.getD n 0 = c.getD (n - 1) 0
      · rw [wid_same h.1 h.2, incL_len]; exact this
      · rw [wid_new h, List.length_append]; omega
    · obtain rfl : k = n + 1 := by omega
      exact Nat.le_refl _
theorem incL_bd {W : List Int} {k : Nat} (h : ∀ x ∈ W, 1 ≤ x ∧ x ≤ (k : Int)) (hp : 0 < W.length) : ∀ x ∈ incL W, 1 ≤ x ∧ x ≤ (k : Int) + 1 := by
  intro x hx
  unfold incL at hx
  have hl : W.getD (W.length - 1) 0 ∈ W := by simp [List.getD_eq_getElem?_getD, List.getElem?_eq_getElem (show W.length - 1 < W.length by omega)]
  rcases List.mem_or_eq_of_mem_set hx with h1 | h1
  · have := h x h1; omega
  · have := h _ hl; omega
theorem wid_bd (c : List Int) : ∀ k, ∀ x ∈ wid c k, 1 ≤ x ∧ x ≤ (k : Int)
  | 0 => by simp [wid]
  | k + 1 => by
    have ih := wid_bd c k
    by_cases h : 0 < k ∧ c.getD k 0 = c.getD (k - 1) 0
    · rw [wid_same h.1 h.2]
      intro x hx
      have := incL_bd ih ((wid_len c k).2 h.1) x hx
      omega
    · rw [wid_new h]
      intro x hx
      rcases List.mem_append.1 hx with h1 | h1
      · have := ih x h1; omega
      · simp at h1; omega
/-- The colour of the last cell that came tells whether the runs are odd. -/
theorem wid_odd {c : List Int} (h0 : c.getD 0 0 = 1) : ∀ k, (∀ j, j ≤ k → c.getD j 0 = 0 ∨ c.getD j 0 = 1) → (c.getD k 0 = 1 ↔ (wid c (k + 1)).length % 2 = 1)
  | 0, _ => ⟨fun _ => rfl, fun _ => h0⟩
  | k + 1, hc => by
    have ih := wid_odd h0 k (fun j hj => hc j (by omega))
    have h1 := hc (k + 1) (Nat.le_refl _)
    have h2 := hc k (by omega)
    by_cases h : c.getD (k + 1) 0 = c.getD k 0
    · rw [wid_same (k := k + 1) (by omega) (by simpa using h), incL_len, h]
      exact ih
    · rw [wid_new (k := k + 1) (fun h3 => h (by simpa using h3.2)), List.length_append, List.length_singleton]
      constructor
      · intro h3
        have : c.getD k 0 = 0 := by rcases h2 with h2 | h2 <;> omega
        have : ¬ (wid c (k + 1)).length % 2 = 1 := fun h4 => by have := ih.2 h4; omega
        omega
      · intro h3
        have : ¬ (wid c (k + 1)).length % 2 = 1 := by omega
        have : ¬ c.getD k 0 = 1 := fun h4 => this (ih.1 h4)
        omega
/-- Padded with zeros to eight. -/
def pad8 (W : List Int) : List Int := W ++ List.replicate (8 - W.length) 0
theorem pad8_len {W : List Int} (h : W.length ≤ 8) : (pad8 W).length = 8 := by simp [pad8]; omega
theorem pad8_full {W : List Int} (h : W.length = 8) : pad8 W = W := by simp [pad8, h]
theorem pad8_new {W : List Int} (h : W.length < 8) : (pad8 W).getD W.length 0 = 0 ∧ (pad8 W).set W.length 1 = pad8 (W ++ [1]) := by
  unfold pad8
  obtain ⟨m, hm⟩ : ∃ m, 8 - W.length = m + 1 := ⟨8 - W.length - 1, by omega⟩
  rw [hm, List.replicate_succ]
  constructor
  · simp [List.getD_eq_getElem?_getD]
  · rw [List.set_append_right _ _ (Nat.le_refl _)]
    have : 8 - (W ++ [(1 : Int)]).length = m := by simp; omega
    rw [this]
    simp
theorem pad8_inc {W : List Int} (h0 : 0 < W.length) : (pad8 W).getD (W.length - 1) 0 = W.getD (W.length - 1) 0 ∧ (pad8 W).set (W.length - 1) (W.getD (W.length - 1) 0 + 1) = pad8 (incL W) := by
  unfold pad8
  rw [incL_len]
  constructor
  · simp only [List.getD_eq_getElem?_getD]
    rw [List.getElem?_append_left (by omega)]
  · rw [List.set_append_left _ _ (by omega)]
    rfl
def okc (c : List Int) : Bool := c.all (fun x => decide (0 ≤ x)) && decide (c.getD 0 0 ≠ 0)
theorem okc_neg {c : List Int} {x : Int} (hx : x ∈ c) (h : x < 0) : okc c = false := by
  have : c.all (fun x => decide (0 ≤ x)) = false := by
    rw [List.all_eq_false]
    exact ⟨x, hx, by simp; omega⟩
  unfold okc
  rw [this]
  rfl
theorem okc_head {c : List Int} (h : c.getD 0 0 = 0) : okc c = false := by
  unfold okc
  have : decide (c.getD 0 0 ≠ 0) = false := by simp only [h]; decide
  rw [this, Bool.and_false]
theorem okc_yes {c : List Int} (h : ∀ x ∈ c, 0 ≤ x) (h0 : c.getD 0 0 ≠ 0) : okc c = true := by
  unfold okc
  have : c.all (fun x => decide (0 ≤ x)) = true := by
    rw [List.all_eq_true]
    intro x hx
    simpa using h x hx
  rw [this]
  simpa using h0
/-- The value that cells show in a cluster. -/
def valF (c : List Int) (cl : Int) : Int := if okc c = true ∧ PATS.idxOf (wid c c.length) < 96 ∧ ((PATS.idxOf (wid c c.length) % 3 : Nat) : Int) = cl then ((PATS.idxOf (wid c c.length) / 3 : Nat) : Int) else -1
theorem idx_mem {x : List Int} (h : x ∈ PATS) : PATS.idxOf x < 120 ∧ PATS.getD (PATS.idxOf x) [] = x := by
  have h1 := List.idxOf_lt_length_of_mem h
  rw [PATS_len] at h1
  refine ⟨h1, ?_⟩
  have h2 : PATS.idxOf x < PATS.length := by rw [PATS_len]; exact h1
  simp [List.getD_eq_getElem?_getD, List.getElem?_eq_getElem h2, List.getElem_idxOf]
theorem idx_of {i : Nat} (h : i < 120) : PATS.idxOf (PATS.getD i []) = i := by
  have h2 : i < PATS.length := by rw [PATS_len]; exact h
  have h3 : PATS.getD i [] = PATS[i] := by simp [List.getD_eq_getElem?_getD, List.getElem?_eq_getElem h2]
  rw [h3]
  exact List.Nodup.idxOf_getElem PATS_nodup i h2
theorem idx_none {x : List Int} (h : x ∉ PATS) : PATS.idxOf x = 120 := by rw [← PATS_len]; exact List.idxOf_eq_length h
theorem valF_bad {c : List Int} (cl : Int) (h : ¬ (okc c = true ∧ (wid c c.length).length = 8)) : valF c cl = -1 := by
  unfold valF
  rw [if_neg]
  rintro ⟨h1, h2, -⟩
  by_cases hm : wid c c.length ∈ PATS
  · exact h ⟨h1, PATS_row _ hm⟩
  · rw [idx_none hm] at h2; omega
theorem valF_hit {c : List Int} {cl : Int} {i : Nat} (ho : okc c = true) (hi : i < 120) (he : PATS.getD i [] = wid c c.length) (h1 : ((i % 3 : Nat) : Int) = cl) (h2 : i / 3 < 32) : valF c cl = ((i / 3 : Nat) : Int) := by
  have e := idx_of hi
  rw [he] at e
  unfold valF
  rw [e, if_pos ⟨ho, by omega, h1⟩]
theorem valF_none {c : List Int} {cl : Int} (h : ∀ j, j < 120 → ¬ (PATS.getD j [] = wid c c.length ∧ ((j % 3 : Nat) : Int) = cl ∧ j / 3 < 32)) : valF c cl = -1 := by
  unfold valF
  rw [if_neg]
  rintro ⟨h1, h2, h3⟩
  by_cases hm : wid c c.length ∈ PATS
  · obtain ⟨a, b⟩ := idx_mem hm
    exact h _ a ⟨b, h3, by omega⟩
  · rw [idx_none hm] at h2; omega
theorem valF_bd (c : List Int) (cl : Int) : -1 ≤ valF c cl ∧ valF c cl ≤ 31 := by
  unfold valF
  split
  · rename_i h; omega
  · omega
end Go.Proofs.Ytdpifddmhbeklaa
