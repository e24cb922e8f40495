/-
  DERIVED. A slice of finders of the call's own, and a code.
-/
import Derived.Test.YtcpicgcdefnhaaaFinS
namespace Go.Proofs.Ytcpicgcdefnhaaa
open Go.RowKit
set_option linter.unusedVariables false
def ResFin (w : World) (L : List F4) (code : Int) (e : Ending) (w' : World) : Prop :=
  ∃ a cp, e = .returned (.tuple #[.slice a L.length cp, .int .i64 code]) ∧ w'.ownsRow w.heap.size 42 4 (.slice a L.length cp) L.length (finV L) ∧ Below w.heap.size w w' ∧ L.length ≤ 1048576
end Go.Proofs.Ytcpicgcdefnhaaa
