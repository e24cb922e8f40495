/-
  DERIVED. DarkBox: each side of the box is touched.
-/
import Derived.Test.YtbcbdphnbfjhoaaDBox
import Derived.Conc.MuLone
namespace Go.Proofs.Ytbcbdphnbfjhoaa
open Go.RowKit
set_option linter.unusedVariables false
def tB (f : Nat → Bool) (zs : List Int) : Nat → Bool
  | 0 => false
  | k + 1 => if zs.getD k 0 = 1 then (tB f zs k || f k) else tB f zs k
theorem tB_no {f : Nat → Bool} {zs : List Int} {k : Nat} {x : Int} (hx : zs.getD k 0 = x) (h : x ≠ 1) : tB f zs (k + 1) = tB f zs k := by rw [tB, if_neg (by rw [hx]; exact h)]
theorem tB_yes {f : Nat → Bool} {zs : List Int} {k : Nat} (hx : zs.getD k 0 = 1) : tB f zs (k + 1) = (tB f zs k || f k) := by rw [tB, if_pos hx]
theorem tB_ex {f : Nat → Bool} {zs : List Int} {k j : Nat} (hj : j < k) (hx : zs.getD j 0 = 1) (hf : f j = true) : tB f zs k = true := by
  induction k with
  | zero => omega
  | succ k ih =>
    by_cases he : j = k
    · subst he; rw [tB_yes hx, hf]; simp
    · have := ih (by omega)
      rw [tB]; split <;> simp [this]
/-- The box that the loop finds: each dark cell lies in it, and each side is touched. -/
theorem boxS_touch (zs : List Int) (rows cols : Nat) (hc : 0 < cols) (k : Nat) (hk : k ≤ rows * cols) {t b l r : Int} (hs : boxS zs rows cols k = (t, b, l, r)) :
    (∀ j, j < k → zs.getD j 0 = 1 → t ≤ ((j / cols : Nat) : Int) ∧ ((j / cols : Nat) : Int) ≤ b ∧ l ≤ ((j % cols : Nat) : Int) ∧ ((j % cols : Nat) : Int) ≤ r) ∧
    ((b < 0 ∧ t = rows ∧ l = cols ∧ r = -1 ∧ b = -1) ∨ (0 ≤ b ∧ (∃ j, j < k ∧ zs.getD j 0 = 1 ∧ ((j % cols : Nat) : Int) = l) ∧ (∃ j, j < k ∧ zs.getD j 0 = 1 ∧ ((j / cols : Nat) : Int) = t) ∧ (∃ j, j < k ∧ zs.getD j 0 = 1 ∧ ((j % cols : Nat) : Int) = r) ∧ (∃ j, j < k ∧ zs.getD j 0 = 1 ∧ ((j / cols : Nat) : Int) = b))) := by
  induction k generalizing t b l r with
  | zero =>
    simp only [boxS, Prod.mk.injEq] at hs
    obtain ⟨rfl, rfl, rfl, rfl⟩ := hs
    exact ⟨fun j hj => by omega, .inl ⟨by omega, rfl, rfl, rfl, rfl⟩⟩
  | succ k ih =>
    obtain ⟨t', b', l', r', h'⟩ : ∃ t' b' l' r', boxS zs rows cols k = (t', b', l', r') := ⟨_, _, _, _, rfl⟩
    obtain ⟨I, J⟩ := ih (by omega) h'
    have hq : k / cols < rows := by rw [Nat.div_lt_iff_lt_mul hc]; omega
    have hm : k % cols < cols := Nat.mod_lt _ hc
    cases h : (zs.getD k 0 == 1)
    · have hne : zs.getD k 0 ≠ 1 := by simpa using h
      rw [boxS_no rfl h, h'] at hs
      simp only [Prod.mk.injEq] at hs
      obtain ⟨rfl, rfl, rfl, rfl⟩ := hs
      refine ⟨fun j hj hx => ?_, ?_⟩
      · by_cases he : j = k
        · subst he; exact absurd hx hne
        · exact I j (by omega) hx
      · rcases J with J | ⟨j0, ⟨j1, a1, b1, c1⟩, ⟨j2, a2, b2, c2⟩, ⟨j3, a3, b3, c3⟩, ⟨j4, a4, b4, c4⟩⟩
        · exact .inl J
        · exact .inr ⟨j0, ⟨j1, by omega, b1, c1⟩, ⟨j2, by omega, b2, c2⟩, ⟨j3, by omega, b3, c3⟩, ⟨j4, by omega, b4, c4⟩⟩
    · have hx1 : zs.getD k 0 = 1 := by simpa using h
      rw [boxS_yes rfl h h' _ _ rfl rfl] at hs
      simp only [Prod.mk.injEq] at hs
      obtain ⟨e1, e2, e3, e4⟩ := hs
      have Q0 : ∃ q : Nat, q = k / cols := ⟨_, rfl⟩
      obtain ⟨q, hqe⟩ := Q0
      have M0 : ∃ m : Nat, m = k % cols := ⟨_, rfl⟩
      obtain ⟨m, hme⟩ := M0
      rw [← hqe] at e1 e2 hq
      rw [← hme] at e3 e4 hm
      have b1' : t ≤ q ∧ t ≤ t' ∧ (t = q ∨ t = t') := by split at e1 <;> omega
      have b2' : (q : Int) ≤ b ∧ b' ≤ b ∧ (b = q ∨ b = b') := by split at e2 <;> omega
      have b3' : l ≤ m ∧ l ≤ l' ∧ (l = m ∨ l = l') := by split at e3 <;> omega
      have b4' : (m : Int) ≤ r ∧ r' ≤ r ∧ (r = m ∨ r = r') := by split at e4 <;> omega
      have n1 : t' = rows → t = q := fun h => by split at e1 <;> omega
      have n3 : l' = cols → l = m := fun h => by split at e3 <;> omega
      clear e1 e2 e3 e4
      refine ⟨fun j hj hx => ?_, .inr ⟨by omega, ?_⟩⟩
      · by_cases he : j = k
        · subst he
          rw [← hqe, ← hme]
          exact ⟨b1'.1, b2'.1, b3'.1, b4'.1⟩
        · have := I j (by omega) hx
          omega
      · have K : ∃ j, j < k + 1 ∧ zs.getD j 0 = 1 ∧ j / cols = q ∧ j % cols = m := ⟨k, by omega, hx1, hqe.symm, hme.symm⟩
        obtain ⟨j0, k1, k2, k3, k4⟩ := K
        rcases J with ⟨g1, g2, g3, g4, g5⟩ | ⟨_, ⟨j1, a1, d1, c1⟩, ⟨j2, a2, d2, c2⟩, ⟨j3, a3, d3, c3⟩, ⟨j4, a4, d4, c4⟩⟩
        · have m1 := n1 g2
          have m3 := n3 g3
          exact ⟨⟨j0, k1, k2, by rw [k4]; omega⟩, ⟨j0, k1, k2, by rw [k3]; omega⟩, ⟨j0, k1, k2, by rw [k4]; omega⟩, ⟨j0, k1, k2, by rw [k3]; omega⟩⟩
        · refine ⟨?_, ?_, ?_, ?_⟩
          · rcases b3'.2.2 with e | e
            · exact ⟨j0, k1, k2, by rw [k4]; omega⟩
            · exact ⟨j1, by omega, d1, by omega⟩
          · rcases b1'.2.2 with e | e
            · exact ⟨j0, k1, k2, by rw [k3]; omega⟩
            · exact ⟨j2, by omega, d2, by omega⟩
          · rcases b4'.2.2 with e | e
            · exact ⟨j0, k1, k2, by rw [k4]; omega⟩
            · exact ⟨j3, by omega, d3, by omega⟩
          · rcases b2'.2.2 with e | e
            · exact ⟨j0, k1, k2, by rw [k3]; omega⟩
            · exact ⟨j4, by omega, d4, by omega⟩
theorem dbOut_zero {r c : Int} {n : Nat} {zs : List Int} {a1 a2 a3 a4 a5 a6 a7 a8 : Int} (h : dbOut r c n zs = (a1, a2, a3, a4, a5, a6, a7, a8, 0)) :
    gridB r c n zs = true ∧ ∃ t b l q, boxS zs r.toNat c.toNat n = (t, b, l, q) ∧ 0 ≤ b ∧ 2 * (q + 1) ≤ 4000 ∧ 2 * (b + 1) ≤ 4000 ∧ a1 = 2 * l ∧ a2 = 2 * t ∧ a5 = 2 * (q + 1) ∧ a6 = 2 * (b + 1) := by
  unfold dbOut at h
  split at h
  · rename_i hg
    refine ⟨hg, ?_⟩
    obtain ⟨t, b, l, q, hs⟩ : ∃ t b l q, boxS zs r.toNat c.toNat n = (t, b, l, q) := ⟨_, _, _, _, rfl⟩
    rw [hs] at h
    simp only at h
    split at h
    · simp at h
    · split at h
      · simp at h
      · simp only [Prod.mk.injEq] at h
        refine ⟨t, b, l, q, hs, ?_⟩
        omega
  · simp at h
end Go.Proofs.Ytbcbdphnbfjhoaa
