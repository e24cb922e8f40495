/-
  DERIVED. Finders: plain laws.
-/
import Derived.Test.YtcpicgcdefnhaaaCndQ
import Derived.Test.YtcpicgcdefnhaaaFind
namespace Go.Proofs.Ytcpicgcdefnhaaa
open Go.RowKit
set_option linter.unusedVariables false
def f0 : F4 := (0, 0, 0, 0)
def fitF (x : F4) : Prop := (0 ≤ x.1 ∧ x.1 ≤ 80000) ∧ (0 ≤ x.2.1 ∧ x.2.1 ≤ 80000) ∧ (0 ≤ x.2.2.1 ∧ x.2.2.1 ≤ 80000) ∧ (0 ≤ x.2.2.2 ∧ x.2.2.2 ≤ 80000)
def nearF (y x : F4) : Bool := closeB y.1 y.2.1 x.1 x.2.1 x.2.2.1 x.2.2.2
theorem sameB_near {y x : F4} (hy : fitF y) (hx : fitF x) : sameB y.1 y.2.1 y.2.2.1 y.2.2.2 x.1 x.2.1 x.2.2.1 x.2.2.2 = nearF y x := by
  obtain ⟨⟨a1, a2⟩, ⟨a3, a4⟩, ⟨a5, a6⟩, a7, a8⟩ := hy
  obtain ⟨⟨b1, b2⟩, ⟨b3, b4⟩, ⟨b5, b6⟩, b7, b8⟩ := hx
  unfold sameB nearF fitB
  rw [inB_yes a1 a2, inB_yes a3 a4, inB_yes a5 a6, inB_yes a7 a8, inB_yes b1 b2, inB_yes b3 b4, inB_yes b5 b6, inB_yes b7 b8]
  simp
/-- Is a finder far from the first j ones? -/
def farK (O : List F4) (x : F4) : Nat → Bool
  | 0 => true
  | j + 1 => farK O x j && !nearF (O.getD j f0) x
theorem farK_false {O : List F4} {x : F4} {j : Nat} (h : farK O x j = false) : ∀ d, farK O x (j + d) = false
  | 0 => h
  | d + 1 => by
    have := farK_false h d
    show (farK O x (j + d) && _) = false
    rw [this]; rfl
theorem farK_hit {O : List F4} {x : F4} {j : Nat} (hj : j < O.length) (h : nearF (O.getD j f0) x = true) : farK O x O.length = false := by
  have h1 : farK O x (j + 1) = false := by show (farK O x j && !nearF (O.getD j f0) x) = false; rw [h]; simp
  have := farK_false h1 (O.length - (j + 1))
  rwa [show j + 1 + (O.length - (j + 1)) = O.length by omega] at this
theorem farK_step {O : List F4} {x : F4} {j : Nat} (h1 : farK O x j = true) (h : nearF (O.getD j f0) x = false) : farK O x (j + 1) = true := by
  show (farK O x j && !nearF (O.getD j f0) x) = true
  rw [h1, h]; rfl
/-- The finders among the first k candidates. -/
def fnd (L : List F4) : Nat → List F4
  | 0 => []
  | k + 1 => if farK (fnd L k) (L.getD k f0) (fnd L k).length = true then fnd L k ++ [L.getD k f0] else fnd L k
theorem fnd_yes {L : List F4} {k : Nat} (h : farK (fnd L k) (L.getD k f0) (fnd L k).length = true) : fnd L (k + 1) = fnd L k ++ [L.getD k f0] := by rw [fnd, if_pos h]
theorem fnd_no {L : List F4} {k : Nat} (h : farK (fnd L k) (L.getD k f0) (fnd L k).length = false) : fnd L (k + 1) = fnd L k := by rw [fnd, if_neg (by rw [h]; decide)]
theorem fnd_len (L : List F4) : ∀ k, (fnd L k).length ≤ k
  | 0 => Nat.le_refl _
  | k + 1 => by
    have := fnd_len L k
    cases h : farK (fnd L k) (L.getD k f0) (fnd L k).length with
    | false => rw [fnd_no h]; omega
    | true => rw [fnd_yes h, List.length_append]; simp; omega
theorem fnd_mono (L : List F4) (k : Nat) : ∀ d, (fnd L k).length ≤ (fnd L (k + d)).length
  | 0 => Nat.le_refl _
  | d + 1 => by
    have := fnd_mono L k d
    show _ ≤ (fnd L (k + d + 1)).length
    cases h : farK (fnd L (k + d)) (L.getD (k + d) f0) (fnd L (k + d)).length with
    | false => rw [fnd_no h]; omega
    | true => rw [fnd_yes h, List.length_append]; omega
theorem fnd_mem (L : List F4) : ∀ k, k ≤ L.length → ∀ x ∈ fnd L k, x ∈ L
  | 0, _, x, hx => by simp [fnd] at hx
  | k + 1, hk, x, hx => by
    cases h : farK (fnd L k) (L.getD k f0) (fnd L k).length with
    | false => rw [fnd_no h] at hx; exact fnd_mem L k (by omega) x hx
    | true =>
      rw [fnd_yes h, List.mem_append] at hx
      rcases hx with hx | hx
      · exact fnd_mem L k (by omega) x hx
      · rw [List.mem_singleton.1 hx, List.getD_eq_getElem?_getD, List.getElem?_eq_getElem (by omega)]
        simp
theorem getD_memF {L : List F4} {k : Nat} (h : k < L.length) : L.getD k f0 ∈ L := by
  rw [List.getD_eq_getElem?_getD, List.getElem?_eq_getElem h]
  simp
theorem secL_end2 {L : List R3} {n : Nat} (h : Chain L n) : ∀ k, ∀ x ∈ secL L k, x.1 + x.2.1 ≤ n
  | 0, x, hx => by simp [secL] at hx
  | k + 1, x, hx => by
    cases hs : secI L k with
    | false => rw [secL_no hs] at hx; exact secL_end2 h k x hx
    | true =>
      rw [secL_yes hs, List.mem_append] at hx
      rcases hx with hx | hx
      · exact secL_end2 h k x hx
      · obtain rfl := List.mem_singleton.1 hx
        have h5 := secI_bd hs
        have e := five_eq h h5
        have b := h.bd (j := k + 4) (by omega)
        show stR L k + fiveR L k ≤ n
        omega
theorem cand_fit (gs : List Int) (C R : Nat) (hC : C ≤ 40000) (hR : R ≤ 40000) : ∀ r, ∀ x ∈ cand gs C R r, fitF x
  | 0, x, hx => by simp [cand] at hx
  | r + 1, x, hx => by
    rw [cand_succ, List.mem_append] at hx
    rcases hx with hx | hx
    · exact cand_fit gs C R hC hR r x hx
    · rw [acr_secs, List.mem_flatMap] at hx
      obtain ⟨s, hs, hx⟩ := hx
      unfold acrF secD at hx
      rw [List.mem_flatMap] at hx
      obtain ⟨y, hy, hx⟩ := hx
      have a1 := secL_bd (runF_chain (lineL gs C r) C) _ s hs
      have a2 := secL_end2 (runF_chain (lineL gs C r) C) _ s hs
      have b1 := secL_bd (runF_chain _ R) _ y hy
      have b2 := secL_end2 (runF_chain _ R) _ y hy
      cases hh : hitB (r : Int) y with
      | false => rw [oneF_no hh] at hx; cases hx
      | true =>
        rw [oneF_yes hh] at hx
        obtain rfl := List.mem_singleton.1 hx
        unfold fitF hitF
        simp only
        omega
end Go.Proofs.Ytcpicgcdefnhaaa
