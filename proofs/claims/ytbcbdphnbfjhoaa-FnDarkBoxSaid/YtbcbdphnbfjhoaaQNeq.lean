/-
  DERIVED. Quads that differ.
-/
import Derived.Test.YtbcbdphnbfjhoaaQEq
import Derived.Conc.MuLone
import Derived.Laws.StructEq
namespace Go.Proofs.Ytbcbdphnbfjhoaa
open Go.RowKit
set_option linter.unusedVariables false
theorem neqQuad (a1 a2 a3 a4 a5 a6 a7 a8 : Int) (W : World) : (binOp .neq 44 (.agg #[.int .i64 a1, .int .i64 a2, .int .i64 a3, .int .i64 a4, .int .i64 a5, .int .i64 a6, .int .i64 a7, .int .i64 a8]) (.agg #[.int .i64 a1, .int .i64 a2, .int .i64 a3, .int .i64 a4, .int .i64 a5, .int .i64 a6, .int .i64 a7, .int .i64 a8])).run Try.prog W = .ok (.bool false) W := by
  have hS : Try.prog.underlying 44 = some (.struct (Try.prog.fieldsOf 44)) := by kernel_rfl
  have hp : Try.prog.stoodInHeld 44 = false := by kernel_rfl
  have hS2 : Try.prog.underlying 42 = some (.struct (Try.prog.fieldsOf 42)) := by kernel_rfl
  have hp2 : Try.prog.stoodInHeld 42 = false := by kernel_rfl
  have hE : ∀ (x y : Int) (W : World), (Op.equalIn 9999 42 (.agg #[.int .i64 x, .int .i64 y]) (.agg #[.int .i64 x, .int .i64 y])).run Try.prog W = .ok true W := by
    intro x y W
    have u2 := Try.underlying2
    rw [show (9999 : Nat) = 9998 + 1 from rfl, run_equalIn_agg W 9998 42 _ _ hS2 hp2]
    simp only [Program.fieldsOf, Try.underlying42]
    have i2 := Try.isAgg2
    have z2 := Try.sizeOf2
    go_simp
  rw [run_neq_struct, show (10000 : Nat) = 9999 + 1 from rfl, run_equalIn_agg W 9999 44 _ _ hS hp]
  simp only [Program.fieldsOf, Try.underlying44]
  have i2 := Try.isAgg42
  have z2 := Try.sizeOf42
  clear hS hS2 hp hp2
  go_simp
theorem grdQuad : Try.prog.eqGuardType Try.prog.depth 44 = false := by kernel_rfl
end Go.Proofs.Ytbcbdphnbfjhoaa
