/-
  DERIVED. What the condition of FnRasterText's row gives: the table of powers of ten and the two sentinels.
-/
import Derived.Test.YtcpicgcdefnhaaaDoorErrE
import Derived.Test.YtcpicgcdefnhaaaDoorAppI
namespace Go.Proofs.YtcpicgcdefnhaaaDoor
open Go.RowKit
set_option linter.unusedVariables false
theorem pe_of {W : World} (h : laidMetH Tryd.prog Rows.fnRasterTextRow.laid W) : PowB W.heap.size W ∧ ErrB W.heap.size W := ⟨pow_ofL h (by kernel_rfl), err_ofL h (by kernel_rfl)⟩
end Go.Proofs.YtcpicgcdefnhaaaDoor
