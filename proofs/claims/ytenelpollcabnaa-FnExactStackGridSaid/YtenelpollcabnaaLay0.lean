/-
  DERIVED. IsCode, IsLayout: contracts.
-/
import Derived.Test.YtenelpollcabnaaFldD
import Derived.BigQuiet
namespace Go.Proofs.Ytenelpollcabnaa
open Go.RowKit
set_option linter.unusedVariables false
noncomputable def codeB (p pw po len chk : Int) : Bool := fldB p pw po && inB chk 1 64 && inB len (chk + 1) 255 && decide (len < fszZ p pw)
theorem sSzF {p pw po : Int} (h : fldB p pw po = true) (w : World) : Calls Try.prog 105 #[.agg #[.int .i64 p, .int .i64 pw, .int .i64 po]] w fun e w' => e = .returned (.int .i64 (fszZ p pw)) ∧ Below w.heap.size w w' := by
  rcases fldB_true.1 h with ⟨rfl, -⟩ | ⟨h1, rfl, k, h3, h8, rfl, -⟩
  · exact sSz1 p po w
  · have e : fszZ 2 (k : Int) = 2 ^ k := by unfold fszZ; rw [if_neg h1]; rfl
    rw [e]
    exact sSzB k h3 h8 po w
theorem fsz_bd {p pw po : Int} (h : fldB p pw po = true) : 3 ≤ fszZ p pw ∧ fszZ p pw ≤ 1021 := by
  rcases fldB_true.1 h with ⟨rfl, a, b, -⟩ | ⟨h1, rfl, k, h3, h8, rfl, -⟩
  · unfold fszZ; rw [if_pos rfl]; exact ⟨a, b⟩
  · have e : fszZ 2 (k : Int) = 2 ^ k := by unfold fszZ; rw [if_neg h1]; rfl
    rw [e]
    have hs : (8 : Nat) ≤ 2 ^ k := Nat.pow_le_pow_right (n := 2) (by decide) h3
    have hs2 : (2 : Nat) ^ k ≤ 256 := Nat.pow_le_pow_right (n := 2) (by decide) h8
    have e2 : ((2 ^ k : Nat) : Int) = 2 ^ k := by simp
    omega
end Go.Proofs.Ytenelpollcabnaa
