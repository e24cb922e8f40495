/-
  DERIVED. Candidates: plain laws.
-/
import Derived.Test.YtcpicgcdefnhaaaSec0
namespace Go.Proofs.Ytcpicgcdefnhaaa
set_option linter.unusedVariables false
theorem Chain.tot_mono {L : List R3} {n : Nat} (h : Chain L n) : ∀ d i, i + d ≤ L.length → totR L i ≤ totR L (i + d)
  | 0, i, _ => Int.le_refl _
  | d + 1, i, hi => by
    have h1 := h.tot_mono d i (by omega)
    have h2 := (h.1 (i + d) (by omega)).2
    have e : totR L (i + (d + 1)) = totR L (i + d) + lnR L (i + d) := rfl
    omega
def inM (D : List R3) (k : Nat) (r : Int) : Bool := inB r (stR D (k + 2)) (stR D (k + 2) + lnR D (k + 2) - 1)
def mkF (st five : Int) (D : List R3) (k : Nat) : F4 := (2 * stR D k + fiveR D k, 2 * st + five, fiveR D k, five)
def dwn (D : List R3) (r st five : Int) : Nat → List F4
  | 0 => []
  | k + 1 => if (secI D k && inM D k r) = true then dwn D r st five k ++ [mkF st five D k] else dwn D r st five k
theorem dwn_yes {D : List R3} {r st five : Int} {k : Nat} (h1 : secI D k = true) (h2 : inM D k r = true) : dwn D r st five (k + 1) = dwn D r st five k ++ [mkF st five D k] := by rw [dwn, h1, h2]; rfl
theorem dwn_no1 {D : List R3} {r st five : Int} {k : Nat} (h1 : secI D k = false) : dwn D r st five (k + 1) = dwn D r st five k := by rw [dwn, h1]; rfl
theorem dwn_no2 {D : List R3} {r st five : Int} {k : Nat} (h2 : inM D k r = false) : dwn D r st five (k + 1) = dwn D r st five k := by rw [dwn, h2, Bool.and_false]; rfl
theorem secI_bd {L : List R3} {i : Nat} (h : secI L i = true) : i + 5 ≤ L.length := by
  rcases Nat.lt_or_ge L.length (i + 5) with h1 | h1
  · rw [secI_short h1] at h; cases h
  · exact h1
theorem dwn_len {D : List R3} {n : Nat} (h : Chain D n) (r st five : Int) : ∀ k, (dwn D r st five k).length ≤ 1 ∧ (0 < (dwn D r st five k).length → ∃ j, j < k ∧ secI D j = true ∧ inM D j r = true)
  | 0 => ⟨Nat.zero_le _, fun h => absurd h (by simp [dwn])⟩
  | k + 1 => by
    obtain ⟨h1, h2⟩ := dwn_len h r st five k
    cases hs : secI D k with
    | false => rw [dwn_no1 hs]; exact ⟨h1, fun hh => by obtain ⟨j, a, b⟩ := h2 hh; exact ⟨j, by omega, b⟩⟩
    | true =>
      cases hm : inM D k r with
      | false => rw [dwn_no2 hm]; exact ⟨h1, fun hh => by obtain ⟨j, a, b⟩ := h2 hh; exact ⟨j, by omega, b⟩⟩
      | true =>
        rw [dwn_yes hs hm, List.length_append]
        refine ⟨?_, fun _ => ⟨k, by omega, hs, hm⟩⟩
        rcases Nat.eq_zero_or_pos (dwn D r st five k).length with h3 | h3
        · rw [h3]; exact Nat.le_refl _
        · exfalso
          obtain ⟨j, hj, hsj, hmj⟩ := h2 h3
          have a := inB_iff.1 hm
          have b := inB_iff.1 hmj
          have k5 := secI_bd hs
          have e1 := (h.1 (j + 2) (by omega)).1
          have e2 := (h.1 (k + 2) (by omega)).1
          have e3 := h.tot_mono (k - 1 - j) (j + 3) (by omega)
          rw [show j + 3 + (k - 1 - j) = k + 2 by omega] at e3
          have e4 : totR D (j + 3) = totR D (j + 2) + lnR D (j + 2) := rfl
          omega
def colL (gs : List Int) (C R c : Nat) : List Int := (List.range R).map fun i => gs.getD (i * C + c) 0
theorem colL_len (gs : List Int) (C R c : Nat) : (colL gs C R c).length = R := by simp [colL]
theorem colL_succ (gs : List Int) (C R c : Nat) : colL gs C (R + 1) c = colL gs C R c ++ [gs.getD (R * C + c) 0] := by simp [colL, List.range_succ]
def midC (L : List R3) (i : Nat) : Int := stR L (i + 2) + lnR L (i + 2) / 2
theorem midC_bd {L : List R3} {n i : Nat} (h : Chain L n) (hi : i + 5 ≤ L.length) : 0 ≤ midC L i ∧ midC L i < n := by
  have := h.bd (j := i + 2) (by omega)
  unfold midC
  omega
def dwnD (gs : List Int) (C R : Nat) (r : Int) (L : List R3) (i : Nat) : List F4 :=
  dwn (runF (colL gs C R (midC L i).toNat) R) r (stR L i) (fiveR L i) (runF (colL gs C R (midC L i).toNat) R).length
def acr (gs : List Int) (C R : Nat) (r : Int) (L : List R3) : Nat → List F4
  | 0 => []
  | i + 1 => if secI L i = true then acr gs C R r L i ++ dwnD gs C R r L i else acr gs C R r L i
theorem acr_yes {gs : List Int} {C R : Nat} {r : Int} {L : List R3} {i : Nat} (h : secI L i = true) : acr gs C R r L (i + 1) = acr gs C R r L i ++ dwnD gs C R r L i := by rw [acr, if_pos h]
theorem acr_no {gs : List Int} {C R : Nat} {r : Int} {L : List R3} {i : Nat} (h : secI L i = false) : acr gs C R r L (i + 1) = acr gs C R r L i := by rw [acr, if_neg (by rw [h]; decide)]
theorem acr_len (gs : List Int) (C R : Nat) (r : Int) (L : List R3) : ∀ i, (acr gs C R r L i).length ≤ i
  | 0 => Nat.le_refl _
  | i + 1 => by
    have h1 := acr_len gs C R r L i
    cases hs : secI L i with
    | false => rw [acr_no hs]; omega
    | true =>
      rw [acr_yes hs, List.length_append]
      have := (dwn_len (runF_chain (colL gs C R (midC L i).toNat) R) r (stR L i) (fiveR L i) (runF (colL gs C R (midC L i).toNat) R).length).1
      unfold dwnD
      omega
def lineL (gs : List Int) (C r : Nat) : List Int := (gs.drop (r * C)).take C
def cand (gs : List Int) (C R : Nat) : Nat → List F4
  | 0 => []
  | r + 1 => cand gs C R r ++ acr gs C R (r : Int) (runF (lineL gs C r) C) (runF (lineL gs C r) C).length
theorem cand_succ (gs : List Int) (C R r : Nat) : cand gs C R (r + 1) = cand gs C R r ++ acr gs C R (r : Int) (runF (lineL gs C r) C) (runF (lineL gs C r) C).length := rfl
theorem cand_len (gs : List Int) (C R : Nat) : ∀ r, (cand gs C R r).length ≤ r * C
  | 0 => Nat.zero_le _
  | r + 1 => by
    have h1 := cand_len gs C R r
    have h2 := acr_len gs C R (r : Int) (runF (lineL gs C r) C) (runF (lineL gs C r) C).length
    have h3 := runF_len (lineL gs C r) C
    rw [cand_succ, List.length_append, Nat.add_mul, Nat.one_mul]
    omega
/-- The same, out of the sections themselves. -/
def oneF (r st five : Int) (y : S5) : List F4 := if inB r y.2.2.1 (y.2.2.1 + y.2.2.2.1 - 1) = true then [(2 * y.1 + y.2.1, 2 * st + five, y.2.1, five)] else []
theorem dwn_secs (D : List R3) (r st five : Int) : ∀ k, dwn D r st five k = (secL D k).flatMap (oneF r st five)
  | 0 => rfl
  | k + 1 => by
    have ih := dwn_secs D r st five k
    cases hs : secI D k with
    | false => rw [dwn_no1 hs, secL_no hs, ih]
    | true =>
      rw [secL_yes hs, List.flatMap_append, ← ih]
      cases hm : inM D k r with
      | false =>
        rw [dwn_no2 hm]
        have e : oneF r st five (stR D k, fiveR D k, D.getD (k + 2) rz) = [] := by
          unfold oneF
          rw [if_neg]
          have : inB r (stR D (k + 2)) (stR D (k + 2) + lnR D (k + 2) - 1) = false := hm
          unfold stR lnR at this
          rw [this]; decide
        simp only [List.flatMap_cons, List.flatMap_nil, e, List.append_nil]
      | true =>
        rw [dwn_yes hs hm]
        have e : oneF r st five (stR D k, fiveR D k, D.getD (k + 2) rz) = [mkF st five D k] := by
          unfold oneF
          rw [if_pos]
          · rfl
          · have : inB r (stR D (k + 2)) (stR D (k + 2) + lnR D (k + 2) - 1) = true := hm
            unfold stR lnR at this
            exact this
        simp only [List.flatMap_cons, List.flatMap_nil, e, List.append_nil]
def secD (gs : List Int) (C R : Nat) (x : S5) : List S5 := secL (runF (colL gs C R (x.2.2.1 + x.2.2.2.1 / 2).toNat) R) (runF (colL gs C R (x.2.2.1 + x.2.2.2.1 / 2).toNat) R).length
def acrF (gs : List Int) (C R : Nat) (r : Int) (x : S5) : List F4 := (secD gs C R x).flatMap (oneF r x.1 x.2.1)
theorem acr_secs (gs : List Int) (C R : Nat) (r : Int) (L : List R3) : ∀ i, acr gs C R r L i = (secL L i).flatMap (acrF gs C R r)
  | 0 => rfl
  | i + 1 => by
    have ih := acr_secs gs C R r L i
    cases hs : secI L i with
    | false => rw [acr_no hs, secL_no hs, ih]
    | true =>
      rw [acr_yes hs, secL_yes hs, List.flatMap_append, ← ih]
      have e : dwnD gs C R r L i = acrF gs C R r (stR L i, fiveR L i, L.getD (i + 2) rz) := by
        unfold dwnD acrF secD
        rw [dwn_secs]
        rfl
      simp only [List.flatMap_cons, List.flatMap_nil, e, List.append_nil]
end Go.Proofs.Ytcpicgcdefnhaaa
