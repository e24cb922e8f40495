/-
  DERIVED. What was pasted is cut out again; what lay there, pasted back, restores the raster: plain laws.
-/
import Derived.Test.YtdbecdgiafjkfaaPasteI
import Derived.Test.YtdbecdgiafjkfaaCrop2
import Derived.Test.YtdbecdgiafjkfaaTurn4
namespace Go.Proofs.Ytdbecdgiafjkfaa
open Go.RowKit
set_option linter.unusedVariables false
theorem splice_in (L : List Int) (o : Nat) (cs : List Int) (k : Nat) (hk : k < cs.length) (h : o + cs.length ≤ L.length) : (splice L o cs).getD (o + k) 0 = cs.getD k 0 := by
  unfold splice
  have e : (L.take o).length = o := by rw [List.length_take]; omega
  simp only [List.getD_eq_getElem?_getD]
  rw [List.getElem?_append_right (by omega), e, Nat.add_sub_cancel_left, List.getElem?_append_left hk]
theorem splice_out (L : List Int) (o : Nat) (cs : List Int) (t : Nat) (ht : ¬ (o ≤ t ∧ t < o + cs.length)) (h : o + cs.length ≤ L.length) : (splice L o cs).getD t 0 = L.getD t 0 := by
  unfold splice
  have e : (L.take o).length = o := by rw [List.length_take]; omega
  simp only [List.getD_eq_getElem?_getD]
  by_cases h1 : t < o
  · rw [List.getElem?_append_left (by omega), List.getElem?_take_of_lt h1]
  · rw [List.getElem?_append_right (by omega), List.getElem?_append_right (by omega), e, List.getElem?_drop]
    congr 2
    omega
section
variable {zp zq : List Int} {q c x y R : Nat}
theorem atP_step (h : x + q ≤ c) {i j : Nat} (hij : i < j) : atP y x c i + q ≤ atP y x c j := by
  unfold atP
  have : (y + i + 1) * c ≤ (y + j) * c := Nat.mul_le_mul_right _ (by omega)
  rw [Nat.add_mul, Nat.one_mul] at this
  omega
theorem paste_out (hq : zq.length = R * q) (ho : ∀ r, r < R → atP y x c r + q ≤ zp.length) {t : Nat} : ∀ m, m ≤ R → (∀ r, r < m → ¬ (atP y x c r ≤ t ∧ t < atP y x c r + q)) → (pasteL zp zq q (atP y x c) m).getD t 0 = zp.getD t 0 := by
  intro m
  induction m with
  | zero => intro _ _; rfl
  | succ m ih =>
    intro hm hn
    have hrl := rowOf_length zq q m R hq (by omega)
    have hpl := pasteL_length zp zq q (atP y x c) R hq ho m (by omega)
    rw [pasteL, splice_out _ _ _ _ (by rw [hrl]; exact hn m (by omega)) (by rw [hrl, hpl]; exact ho m (by omega))]
    exact ih (by omega) (fun r hr => hn r (by omega))
theorem paste_in (hq : zq.length = R * q) (ho : ∀ r, r < R → atP y x c r + q ≤ zp.length) (hx : x + q ≤ c) {r k : Nat} (hk : k < q) : ∀ m, m ≤ R → r < m → (pasteL zp zq q (atP y x c) m).getD (atP y x c r + k) 0 = zq.getD (r * q + k) 0 := by
  intro m
  induction m with
  | zero => intro _ h; omega
  | succ m ih =>
    intro hm hr
    have hrl := rowOf_length zq q m R hq (by omega)
    have hpl := pasteL_length zp zq q (atP y x c) R hq ho m (by omega)
    rw [pasteL]
    by_cases e : r = m
    · subst e
      rw [splice_in _ _ _ _ (by rw [hrl]; exact hk) (by rw [hrl, hpl]; exact ho r (by omega)), rowOf_get _ _ _ _ hk]
    · have := atP_step (y := y) hx (show r < m by omega)
      rw [splice_out _ _ _ _ (by rw [hrl]; omega) (by rw [hrl, hpl]; exact ho m (by omega))]
      exact ih (by omega) (by omega)
def cropL (zs : List Int) (c y x R q : Nat) : List Int := rastL q (fun i j => pixV (c : Int) zs ((y : Int) + (i : Int)) ((x : Int) + (j : Int))) (R * q)
theorem cropL_length (zs : List Int) : (cropL zs c y x R q).length = R * q := rastL_length _ _ _
theorem cropL_get (zs : List Int) {i j : Nat} (hi : i < R) (hj : j < q) : (cropL zs c y x R q).getD (i * q + j) 0 = zs.getD (atP y x c i + j) 0 := by
  unfold cropL
  rw [rastL_getD _ _ _ _ (row_lt hi hj), div_row hj, mod_row hj]
  have e1 : (y : Int) + (i : Int) = ((y + i : Nat) : Int) := by omega
  have e2 : (x : Int) + (j : Int) = ((x + j : Nat) : Int) := by omega
  rw [e1, e2, pixV_nat]
  unfold atP
  rw [Nat.add_assoc]
theorem split_idx {t : Nat} (hq0 : 0 < q) (ht : t < R * q) : ∃ i j, i < R ∧ j < q ∧ t = i * q + j :=
  ⟨t / q, t % q, by rw [Nat.div_lt_iff_lt_mul hq0]; exact ht, Nat.mod_lt _ hq0, (Nat.div_add_mod' t q).symm⟩
theorem crop_paste (hq : zq.length = R * q) (ho : ∀ r, r < R → atP y x c r + q ≤ zp.length) (hx : x + q ≤ c) (hq0 : 0 < q) : cropL (pasteL zp zq q (atP y x c) R) c y x R q = zq := by
  refine list_eq_of (by rw [cropL_length, hq]) (fun t ht => ?_)
  rw [cropL_length] at ht
  obtain ⟨i, j, hi, hj, rfl⟩ := split_idx hq0 ht
  rw [cropL_get _ hi hj]
  exact paste_in hq ho hx hj R (Nat.le_refl _) hi
theorem paste_back (hq : zq.length = R * q) (ho : ∀ r, r < R → atP y x c r + q ≤ zp.length) (hx : x + q ≤ c) (hq0 : 0 < q) : pasteL (pasteL zp zq q (atP y x c) R) (cropL zp c y x R q) q (atP y x c) R = zp := by
  have hl := pasteL_length zp zq q (atP y x c) R hq ho R (Nat.le_refl _)
  have ho' : ∀ r, r < R → atP y x c r + q ≤ (pasteL zp zq q (atP y x c) R).length := by rw [hl]; exact ho
  have hl2 := pasteL_length _ (cropL zp c y x R q) q (atP y x c) R (cropL_length zp) ho' R (Nat.le_refl _)
  refine list_eq_of (by rw [hl2, hl]) (fun t ht => ?_)
  by_cases h : ∃ r, r < R ∧ atP y x c r ≤ t ∧ t < atP y x c r + q
  · obtain ⟨r, hr, h1, h2⟩ := h
    obtain ⟨k, rfl⟩ : ∃ k, t = atP y x c r + k := ⟨t - atP y x c r, by omega⟩
    rw [paste_in (cropL_length zp) ho' hx (show k < q by omega) R (Nat.le_refl _) hr, cropL_get _ hr (by omega)]
  · have hn : ∀ r, r < R → ¬ (atP y x c r ≤ t ∧ t < atP y x c r + q) := fun r hr hh => h ⟨r, hr, hh.1, hh.2⟩
    rw [paste_out (cropL_length zp) ho' R (Nat.le_refl _) hn, paste_out hq ho R (Nat.le_refl _) hn]
end
theorem getD_bd {zs : List Int} (h : ∀ x ∈ zs, 0 ≤ x ∧ x ≤ 255) (i : Nat) : 0 ≤ zs.getD i 0 ∧ zs.getD i 0 ≤ 255 := by
  by_cases hi : i < zs.length
  · exact h _ (getD_mem hi)
  · simp [List.getD_eq_getElem?_getD, List.getElem?_eq_none (show zs.length ≤ i by omega)]
theorem mem_bd {zs : List Int} (h : ∀ i, i < zs.length → 0 ≤ zs.getD i 0 ∧ zs.getD i 0 ≤ 255) : ∀ x ∈ zs, 0 ≤ x ∧ x ≤ 255 := by
  intro x hx
  obtain ⟨i, hi, rfl⟩ := List.getElem_of_mem hx
  have := h i hi
  simpa [List.getD_eq_getElem?_getD, List.getElem?_eq_getElem hi] using this
theorem paste_bd {zp zq : List Int} {q c x y R : Nat} (hq : zq.length = R * q) (ho : ∀ r, r < R → atP y x c r + q ≤ zp.length) (hx : x + q ≤ c) (h1 : ∀ x ∈ zp, 0 ≤ x ∧ x ≤ 255) (h2 : ∀ x ∈ zq, 0 ≤ x ∧ x ≤ 255) :
    ∀ x' ∈ pasteL zp zq q (atP y x c) R, 0 ≤ x' ∧ x' ≤ 255 := by
  refine mem_bd (fun t ht => ?_)
  by_cases h : ∃ r, r < R ∧ atP y x c r ≤ t ∧ t < atP y x c r + q
  · obtain ⟨r, hr, e1, e2⟩ := h
    obtain ⟨k, rfl⟩ : ∃ k, t = atP y x c r + k := ⟨t - atP y x c r, by omega⟩
    rw [paste_in hq ho hx (show k < q by omega) R (Nat.le_refl _) hr]
    exact getD_bd h2 _
  · have hn : ∀ r, r < R → ¬ (atP y x c r ≤ t ∧ t < atP y x c r + q) := fun r hr hh => h ⟨r, hr, hh.1, hh.2⟩
    rw [paste_out hq ho R (Nat.le_refl _) hn]
    exact getD_bd h1 _
theorem crop_bd {zs : List Int} {c y x R q : Nat} (hq0 : 0 < q) (h1 : ∀ x ∈ zs, 0 ≤ x ∧ x ≤ 255) : ∀ x' ∈ cropL zs c y x R q, 0 ≤ x' ∧ x' ≤ 255 := by
  refine mem_bd (fun t ht => ?_)
  rw [cropL_length] at ht
  obtain ⟨i, j, hi, hj, rfl⟩ := split_idx hq0 ht
  rw [cropL_get _ hi hj]
  exact getD_bd h1 _
theorem rastB_of {R C n : Nat} {zs : List Int} (h1 : 0 < R) (h2 : R ≤ 400) (h3 : 0 < C) (h4 : C ≤ 400) (h5 : R * C ≤ 40000) (hn : n = R * C) (h : ∀ x ∈ zs, 0 ≤ x ∧ x ≤ 255) : rasterB (R : Int) (C : Int) n zs = true := by
  have hall : zs.all (fun x => inB x 0 255) = true := by
    rw [List.all_eq_true]
    intro x hx
    obtain ⟨p, q⟩ := h x hx
    exact inB_yes p q
  have hm : (R : Int) * (C : Int) = ((R * C : Nat) : Int) := by simp
  unfold rasterB sizeB
  rw [inB_yes (n := (R : Int)) (by omega) (by omega), inB_yes (n := (C : Int)) (by omega) (by omega), hall]
  simp only [Bool.true_and, Bool.and_true, Bool.and_eq_true, decide_eq_true_eq]
  omega
end Go.Proofs.Ytdbecdgiafjkfaa
