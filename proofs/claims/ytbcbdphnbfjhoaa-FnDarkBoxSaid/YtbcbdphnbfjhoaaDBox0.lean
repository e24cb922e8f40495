/-
  DERIVED. DarkBox: plain law.
-/
import Derived.Test.YtbcbdphnbfjhoaaGridB
import Derived.Conc.MuLone
import Derived.BigQuiet
namespace Go.Proofs.Ytbcbdphnbfjhoaa
open Go.RowKit
set_option linter.unusedVariables false
/-- The least and the greatest row and column of the dark cells among the first k. -/
def boxS (zs : List Int) (rows cols : Nat) : Nat → Int × Int × Int × Int
  | 0 => ((rows : Int), -1, (cols : Int), -1)
  | k + 1 => if zs.getD k 0 = 1 then
      let s := boxS zs rows cols k
      (if ((k / cols : Nat) : Int) < s.1 then ((k / cols : Nat) : Int) else s.1, if s.2.1 < ((k / cols : Nat) : Int) then ((k / cols : Nat) : Int) else s.2.1,
        if ((k % cols : Nat) : Int) < s.2.2.1 then ((k % cols : Nat) : Int) else s.2.2.1, if s.2.2.2 < ((k % cols : Nat) : Int) then ((k % cols : Nat) : Int) else s.2.2.2)
    else boxS zs rows cols k
theorem boxS_no {zs : List Int} {rows cols k : Nat} {x : Int} (hx : zs.getD k 0 = x) (h : (x == 1) = false) : boxS zs rows cols (k + 1) = boxS zs rows cols k := by
  have : ¬ zs.getD k 0 = 1 := by rw [hx]; simpa using h
  rw [boxS, if_neg this]
theorem boxS_yes {zs : List Int} {rows cols k : Nat} {x t b l r : Int} (hx : zs.getD k 0 = x) (h : (x == 1) = true) (hs : boxS zs rows cols k = (t, b, l, r)) (q m : Int) (hq : ((k / cols : Nat) : Int) = q) (hm : ((k % cols : Nat) : Int) = m) :
    boxS zs rows cols (k + 1) = (if q < t then q else t, if b < q then q else b, if m < l then m else l, if r < m then m else r) := by
  have : zs.getD k 0 = 1 := by rw [hx]; simpa using h
  rw [boxS, if_pos this, hs, hq, hm]
theorem boxS_inv (zs : List Int) (rows cols : Nat) (hc : 0 < cols) (k : Nat) (hk : k ≤ rows * cols) {t b l r : Int} (hs : boxS zs rows cols k = (t, b, l, r)) :
    (0 ≤ t ∧ t ≤ rows ∧ -1 ≤ b ∧ b < rows) ∧ (0 ≤ l ∧ l ≤ cols ∧ -1 ≤ r ∧ r < cols) ∧ ((b = -1 ∧ r = -1) ∨ (t ≤ b ∧ l ≤ r)) := by
  induction k generalizing t b l r with
  | zero =>
    have hcr : rows = 0 ∨ 0 < rows := by omega
    simp only [boxS, Prod.mk.injEq] at hs
    obtain ⟨rfl, rfl, rfl, rfl⟩ := hs
    omega
  | succ k ih =>
    obtain ⟨t', b', l', r', h'⟩ : ∃ t' b' l' r', boxS zs rows cols k = (t', b', l', r') := ⟨_, _, _, _, rfl⟩
    have I := ih (by omega) h'
    have hq : k / cols < rows := by rw [Nat.div_lt_iff_lt_mul hc]; omega
    have hm : k % cols < cols := Nat.mod_lt _ hc
    cases h : (zs.getD k 0 == 1)
    · rw [boxS_no rfl h, h'] at hs
      injection hs with e1 hs; injection hs with e2 hs; injection hs with e3 e4
      omega
    · rw [boxS_yes rfl h h' _ _ rfl rfl] at hs
      injection hs with e1 hs; injection hs with e2 hs; injection hs with e3 e4
      generalize k / cols = q at *
      generalize k % cols = m at *
      split at e1 <;> split at e2 <;> split at e3 <;> split at e4 <;> omega
end Go.Proofs.Ytbcbdphnbfjhoaa
