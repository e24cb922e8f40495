/-
  DERIVED. Histogram: the count.
-/
import Derived.Test.YtfiddbmjgncabaaResQ
import Derived.Test.YtfiddbmjgncabaaRast
import Derived.Test.YtfiddbmjgncabaaInv
import Derived.Conc.MuLone
namespace Go.Proofs.Ytfiddbmjgncabaa
open Go.RowKit
set_option linter.unusedVariables false
def zerN (n : Nat) : List Int := List.replicate n 0
theorem zerN_length (n : Nat) : (zerN n).length = n := by simp [zerN]
theorem zerN_getD (n i : Nat) : (zerN n).getD i 0 = 0 := by
  simp only [zerN, List.getD_eq_getElem?_getD, List.getElem?_replicate]
  split <;> simp
def histP (zs : List Int) : Nat → List Int
  | 0 => zerN 256
  | k + 1 => (histP zs k).set (zs.getD k 0).toNat ((histP zs k).getD (zs.getD k 0).toNat 0 + 1)
theorem histP_length (zs : List Int) (k : Nat) : (histP zs k).length = 256 := by
  induction k with
  | zero => exact zerN_length 256
  | succ k ih => simp [histP, ih]
theorem histP_bd (zs : List Int) (k : Nat) (i : Nat) : 0 ≤ (histP zs k).getD i 0 ∧ (histP zs k).getD i 0 ≤ k := by
  induction k generalizing i with
  | zero =>
    have := zerN_getD 256 i
    simp only [histP, this]
    simp
  | succ k ih =>
    have h1 := ih i
    have h2 := ih (zs.getD k 0).toNat
    simp only [histP, List.getD_eq_getElem?_getD, List.getElem?_set] at h1 h2 ⊢
    split
    · split <;> simp <;> omega
    · omega
end Go.Proofs.Ytfiddbmjgncabaa
