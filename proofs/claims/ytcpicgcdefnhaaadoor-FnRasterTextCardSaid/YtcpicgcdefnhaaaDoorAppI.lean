/-
  DERIVED. strconv.AppendInt at base 10, off the shelf.
-/
import Derived.Test.YtcpicgcdefnhaaaDoorRTp
import Derived.Test.YtcpicgcdefnhaaaDoorShl
import Derived.Lib.LaidTab
import Derived.Stop.LaidErr
import Derived.MakeChecks
namespace Go.Proofs.YtcpicgcdefnhaaaDoor
open Go.RowKit Go.Lib
set_option linter.unusedVariables false
/-- The table of powers of ten lies where its initialiser laid it. -/
abbrev PowB (B : Nat) (w : World) : Prop := Lib.TabBelow Tryd.prog B w "internal/strconv.uint64pow10" .u64 Lib.pow10Tab
theorem lAppendInt (B n : Nat) (i : Int) (h0 : -9223372036854775808 ≤ i) (h1 : i ≤ 9223372036854775807) (sv : Value) (xs : List Value) (w : World) (hown : w.ownsRow B 5 1 sv n xs) (hBw : B ≤ w.heap.size) (hlim : n + 21 ≤ 140737488355328) (htab : PowB B w) :
    Calls Tryd.prog 50 #[sv, .int .i64 i, .int .i64 10] w fun e w' => ∃ v', e = .returned v' ∧ w'.ownsRow B 5 1 v' (n + (Lib.itoa i).length) (xs ++ Lib.byteCells (Lib.itoa i)) ∧ Below B w w' := by
  have hcon := Any.strconv_AppendInt_10 Tryd.laysAppendInt B n i h0 h1 sv xs w hown hBw hlim htab
  change Calls Tryd.prog 50 _ _ _ at hcon
  exact hcon.mono fun e w' ⟨v', h1, h2, h3, _⟩ => ⟨v', h1, h2, h3⟩
theorem gPow : Tryd.prog.globalNamed "internal/strconv.uint64pow10" = some 5 := by kernel_rfl
theorem tPow : (Tryd.prog.globals[5]?).map (·.type) = some 113 := by kernel_rfl
/-- What the condition of a row gives of the table of powers of ten: it stands third on the list. -/
theorem pow_ofL {W : World} {l : List (String × DataW Unit)} {d1 d2 : String × DataW Unit} (h : laidMetH Tryd.prog (d1 :: d2 :: ("internal/strconv.uint64pow10", Rows.laid_internal_strconv_uint64pow10) :: l) W) (hp : ((d1 :: d2 :: ("internal/strconv.uint64pow10", Rows.laid_internal_strconv_uint64pow10) :: l).all fun x => x.2.handleName?.isNone) = true) : PowB W.heap.size W := by
  rw [MakeChecks.laidMetH_plain _ _ _ hp] at h
  refine Lib.tabBelow_of_tabIs (Lib.tabIs_of_head (rest := l) gPow tPow Tryd.underlying113 Tryd.underlying80 (by kernel_rfl) (by kernel_rfl) ?_)
  exact h.tail.tail
theorem pow_of {W : World} (h : laidMetH Tryd.prog Rows.fnExactRasterTextRow.laid W) : PowB W.heap.size W := pow_ofL h (by kernel_rfl)
end Go.Proofs.YtcpicgcdefnhaaaDoor
