/-
  DERIVED. What a function that returns a slice of numbers and a code leaves.
-/
import Derived.Test.YtenelpollcabnaaInts2
import Derived.Test.YtenelpollcabnaaMark
import Derived.Test.YtenelpollcabnaaRes
import Derived.Conc.MuLone
namespace Go.Proofs.Ytenelpollcabnaa
open Go.RowKit
set_option linter.unusedVariables false
/-- A slice of numbers of the call's own, and a code. -/
def ResI (w : World) (L : List Int) (code : Int) (e : Ending) (w' : World) : Prop :=
  ∃ a cp, e = .returned (.tuple #[.slice a L.length cp, .int .i64 code]) ∧ w'.ownsRow w.heap.size 2 1 (.slice a L.length cp) L.length (L.map (Value.int .i64)) ∧ Below w.heap.size w w' ∧ L.length ≤ 1048576
theorem eqIntsT (a a' : Option Addr) (n n' c c' : Nat) (xs : List Int) (w : World) (h : Rd w a n xs) (h' : Rd w a' n' xs) (hn : n ≤ 1048576) (hn' : n' ≤ 1048576) :
    Calls Try.prog 13 #[.slice a n c, .slice a' n' c'] w fun e w' => e = .returned (.bool true) ∧ Below w.heap.size w w' :=
  (eqInts a a' n n' c c' xs xs w h h' hn hn').mono fun _ _ ⟨h1, h2⟩ => ⟨by rw [h1]; simp [eqL], h2⟩
end Go.Proofs.Ytenelpollcabnaa
