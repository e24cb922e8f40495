/-
  DERIVED. Sections: plain law.
-/
import Derived.Test.YtcpicgcdefnhaaaRuns0
import Derived.Test.YtcpicgcdefnhaaaSect
namespace Go.Proofs.Ytcpicgcdefnhaaa
open Go.RowKit
set_option linter.unusedVariables false
abbrev rz : R3 := (0, 0, false)
def stR (L : List R3) (j : Nat) : Int := (L.getD j rz).1
def lnR (L : List R3) (j : Nat) : Int := (L.getD j rz).2.1
def dkR (L : List R3) (j : Nat) : Bool := (L.getD j rz).2.2
def totR (L : List R3) : Nat → Int
  | 0 => 0
  | j + 1 => totR L j + lnR L j
/-- Runs that lie one behind the other from 0 to n, no two neighbours of one colour. -/
def Chain (L : List R3) (n : Nat) : Prop := (∀ j, j < L.length → stR L j = totR L j ∧ 1 ≤ lnR L j) ∧ totR L L.length = (n : Int) ∧ ∀ j, j + 1 < L.length → dkR L (j + 1) ≠ dkR L j
theorem getD_app1 {L : List R3} {x : R3} {j : Nat} (h : j < L.length) : (L ++ [x]).getD j rz = L.getD j rz := by
  simp [List.getD_eq_getElem?_getD, List.getElem?_append_left h]
theorem getD_app2 (L : List R3) (x : R3) : (L ++ [x]).getD L.length rz = x := by simp [List.getD_eq_getElem?_getD]
theorem totR_app {L : List R3} {x : R3} {j : Nat} (h : j ≤ L.length) : totR (L ++ [x]) j = totR L j := by
  induction j with
  | zero => rfl
  | succ j ih => simp only [totR, lnR]; rw [ih (by omega), getD_app1 (by omega)]
theorem Chain.app {L : List R3} {n : Nat} {len : Int} {d : Bool} (h : Chain L n) (hl : 1 ≤ len) (hd : ∀ j, j + 1 = L.length → d ≠ dkR L j) {m : Nat} (hm : (m : Int) = (n : Int) + len) : Chain (L ++ [((n : Int), len, d)]) m := by
  obtain ⟨h1, h2, h3⟩ := h
  refine ⟨fun j hj => ?_, ?_, fun j hj => ?_⟩
  · rw [List.length_append, List.length_cons, List.length_nil] at hj
    by_cases hlt : j < L.length
    · simp only [stR, lnR]
      rw [getD_app1 hlt, totR_app (by omega)]
      exact h1 j hlt
    · have : j = L.length := by omega
      subst this
      simp only [stR, lnR]
      rw [getD_app2, totR_app (Nat.le_refl _)]
      exact ⟨h2.symm, hl⟩
  · rw [List.length_append, List.length_cons, List.length_nil]
    simp only [totR, lnR]
    rw [getD_app2, totR_app (Nat.le_refl _), h2, hm]
  · rw [List.length_append, List.length_cons, List.length_nil] at hj
    by_cases hlt : j + 1 < L.length
    · simp only [dkR]
      rw [getD_app1 hlt, getD_app1 (by omega)]
      exact h3 j hlt
    · have e : j + 1 = L.length := by omega
      have e2 := hd j e
      simp only [dkR] at e2 ⊢
      rw [e, getD_app2, getD_app1 (by omega)]
      exact e2
theorem rO_chain (zs : List Int) (k : Nat) : Chain (rO zs k).1 (rO zs k).2 ∧ ∀ j, j + 1 = (rO zs k).1.length → dk zs k ≠ dkR (rO zs k).1 j := by
  induction k with
  | zero => exact ⟨⟨fun j hj => by simp [rO] at hj, rfl, fun j hj => by simp [rO] at hj⟩, fun j hj => by simp [rO] at hj⟩
  | succ k ih =>
    obtain ⟨i1, i2⟩ := ih
    have hb := rO_bd zs k
    by_cases h : dk zs (k + 1) = dk zs k
    · rw [rO_same h, h]
      exact ⟨i1, i2⟩
    · rw [rO_new h, runF]
      refine ⟨i1.app (by omega) i2 (by omega), fun j hj => ?_⟩
      rw [List.length_append, List.length_cons, List.length_nil] at hj
      have : j = (rO zs k).1.length := by omega
      subst this
      simp only [dkR]
      rw [getD_app2]
      exact h
theorem runF_chain (zs : List Int) (n : Nat) : Chain (runF zs n) n := by
  cases n with
  | zero => exact ⟨fun j hj => by simp [runF] at hj, rfl, fun j hj => by simp [runF] at hj⟩
  | succ k =>
    obtain ⟨i1, i2⟩ := rO_chain zs k
    have hb := rO_bd zs k
    rw [runF]
    exact i1.app (by omega) i2 (by omega)
theorem Chain.tot_le {L : List R3} {n : Nat} (h : Chain L n) {j : Nat} (hj : j ≤ L.length) : 0 ≤ totR L j ∧ totR L j ≤ n ∧ (j : Int) ≤ totR L j := by
  have up : ∀ i, i ≤ L.length → (i : Int) ≤ totR L i := by
    intro i
    induction i with
    | zero => intro _; simp [totR]
    | succ i ih => intro hi; have := (h.1 i (by omega)).2; have := ih (by omega); simp only [totR]; omega
  have mono : ∀ d i, i + d = L.length → totR L i ≤ n := by
    intro d
    induction d with
    | zero => intro i hi; rw [show i = L.length by omega, h.2.1]; exact Int.le_refl _
    | succ d ih => intro i hi; have := (h.1 i (by omega)).2; have h2 := ih (i + 1) (by omega); simp only [totR] at h2; omega
  have := up j hj
  exact ⟨by omega, mono (L.length - j) j (by omega), this⟩
theorem Chain.bd {L : List R3} {n : Nat} (h : Chain L n) {j : Nat} (hj : j < L.length) : stR L j = totR L j ∧ 1 ≤ lnR L j ∧ lnR L j ≤ n ∧ 0 ≤ stR L j ∧ stR L j + lnR L j ≤ n := by
  obtain ⟨e1, e2⟩ := h.1 j hj
  have a := h.tot_le (j := j) (by omega)
  have b := h.tot_le (j := j + 1) (by omega)
  simp only [totR] at b
  omega
def fiveR (L : List R3) (i : Nat) : Int := lnR L i + lnR L (i + 1) + lnR L (i + 2) + lnR L (i + 3) + lnR L (i + 4)
def secI (L : List R3) (i : Nat) : Bool := decide (i + 5 ≤ L.length) && (dkR L i && sectB (lnR L i) (lnR L (i + 1)) (lnR L (i + 2)) (lnR L (i + 3)) (lnR L (i + 4)))
theorem five_eq {L : List R3} {n : Nat} (h : Chain L n) {i : Nat} (hi : i + 5 ≤ L.length) : stR L (i + 4) + lnR L (i + 4) - stR L i = fiveR L i := by
  have e1 := (h.1 i (by omega)).1
  have e2 := (h.1 (i + 4) (by omega)).1
  rw [e1, e2]
  simp only [totR, fiveR]
  omega
theorem secI_short {L : List R3} {i : Nat} (h : L.length < i + 5) : secI L i = false := by simp [secI]; omega
theorem secI_light {L : List R3} {i : Nat} (h : dkR L i = false) : secI L i = false := by simp [secI, h]
def secW (L : List R3) : Nat → List R3
  | 0 => []
  | k + 1 => if secI L k = true then secW L k ++ [(stR L k, fiveR L k, true)] else secW L k
theorem secW_no {L : List R3} {k : Nat} (h : secI L k = false) : secW L (k + 1) = secW L k := by rw [secW, if_neg (by rw [h]; decide)]
theorem secW_yes {L : List R3} {k : Nat} (h : secI L k = true) : secW L (k + 1) = secW L k ++ [(stR L k, fiveR L k, true)] := by rw [secW, if_pos h]
theorem secW_len (L : List R3) (k : Nat) : (secW L k).length ≤ k := by
  induction k with
  | zero => simp [secW]
  | succ k ih =>
    rw [secW]
    split
    · simp; omega
    · omega
abbrev S5 := Int × Int × R3
def secCell (x : S5) : List Value := [.int .i64 x.1, .int .i64 x.2.1, .int .i64 x.2.2.1, .int .i64 x.2.2.2.1, .bool x.2.2.2.2]
def secV (L : List S5) : List Value := L.flatMap secCell
theorem secV_length (L : List S5) : (secV L).length = L.length * 5 := flat_length secCell 5 (fun _ => rfl) L
theorem secV_app (L M : List S5) : secV (L ++ M) = secV L ++ secV M := by simp [secV]
def secL (L : List R3) : Nat → List S5
  | 0 => []
  | k + 1 => if secI L k = true then secL L k ++ [(stR L k, fiveR L k, L.getD (k + 2) rz)] else secL L k
theorem secL_no {L : List R3} {k : Nat} (h : secI L k = false) : secL L (k + 1) = secL L k := by rw [secL, if_neg (by rw [h]; decide)]
theorem secL_yes {L : List R3} {k : Nat} (h : secI L k = true) : secL L (k + 1) = secL L k ++ [(stR L k, fiveR L k, L.getD (k + 2) rz)] := by rw [secL, if_pos h]
theorem secL_len (L : List R3) (k : Nat) : (secL L k).length ≤ k := by
  induction k with
  | zero => simp [secL]
  | succ k ih =>
    rw [secL]
    split
    · simp; omega
    · omega
theorem secL_map (L : List R3) (k : Nat) : (secL L k).map (fun x => ((x.1, x.2.1, true) : R3)) = secW L k := by
  induction k with
  | zero => rfl
  | succ k ih =>
    rw [secL, secW]
    split
    · rw [List.map_append, ih]; rfl
    · exact ih
theorem secL_end (L : List R3) (k d : Nat) (h : L.length < k + 5) : secL L (k + d) = secL L k := by
  induction d with
  | zero => rfl
  | succ d ih => rw [← Nat.add_assoc, secL_no (by simp [secI]; omega), ih]
theorem RdV.sec {w : World} {a : Option Addr} {n : Nat} {L : List S5} (h : RdV w a 5 n (secV L)) {k : Nat} (hk : k < n) : ∃ b off, a = some ⟨b, off, none⟩ ∧ b < w.heap.size ∧
    w.cell? ⟨b, off + k * 5, none⟩ = some (.int .i64 (L.getD k (0, 0, rz)).1) ∧ w.cell? ⟨b, off + k * 5 + 1, none⟩ = some (.int .i64 (L.getD k (0, 0, rz)).2.1) ∧
    w.cell? ⟨b, off + k * 5 + 2, none⟩ = some (.int .i64 (L.getD k (0, 0, rz)).2.2.1) ∧ w.cell? ⟨b, off + k * 5 + 3, none⟩ = some (.int .i64 (L.getD k (0, 0, rz)).2.2.2.1) ∧ w.cell? ⟨b, off + k * 5 + 4, none⟩ = some (.bool (L.getD k (0, 0, rz)).2.2.2.2) := by
  obtain ⟨b, off, e, hb, hc⟩ := h.2 (by omega)
  have hl : L.length = n := by have := h.1; rw [secV_length] at this; omega
  have hkl : k < L.length := by omega
  have g : L.getD k (0, 0, rz) = L[k] := by simp [List.getD_eq_getElem?_getD, List.getElem?_eq_getElem hkl]
  have q : ∀ j, j < 5 → w.cell? ⟨b, off + (k * 5 + j), none⟩ = (secCell (L[k]))[j]? := fun j hj => (hc (k * 5 + j) (by omega)).trans (flat_get secCell 5 (fun _ => rfl) L k j hkl hj)
  rw [g]
  exact ⟨b, off, e, hb, q 0 (by omega), q 1 (by omega), q 2 (by omega), q 3 (by omega), q 4 (by omega)⟩
/-- What one run of a row of runs reads as. -/
theorem RdV.runAt {w : World} {a : Option Addr} {n : Nat} {L : List R3} (h : RdV w a 3 n (runV L)) {k : Nat} (hk : k < n) : ∃ b off, a = some ⟨b, off, none⟩ ∧ b < w.heap.size ∧
    ∀ j, j < n → w.cell? ⟨b, off + j * 3, none⟩ = some (.int .i64 (stR L j)) ∧ w.cell? ⟨b, off + j * 3 + 1, none⟩ = some (.int .i64 (lnR L j)) ∧ w.cell? ⟨b, off + j * 3 + 2, none⟩ = some (.bool (dkR L j)) := by
  obtain ⟨b, off, e, hb, _⟩ := h.2 (by omega)
  refine ⟨b, off, e, hb, fun j hj => ?_⟩
  obtain ⟨b', off', e', _, h0, h1, h2⟩ := h.run hj
  rw [e] at e'
  injection e' with e'
  injection e' with e1 e2
  subst e1 e2
  exact ⟨h0, h1, h2⟩
end Go.Proofs.Ytcpicgcdefnhaaa
