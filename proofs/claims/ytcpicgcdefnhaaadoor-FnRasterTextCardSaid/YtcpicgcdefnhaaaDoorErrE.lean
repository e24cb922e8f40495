/-
  DERIVED. The two sentinels of strconv lie where their initialisers laid them: what a row's condition gives.
-/
import Derived.Test.YtcpicgcdefnhaaaDoorRDi
import Derived.Test.YtcpicgcdefnhaaaDoorRows
import Derived.Stop.LaidErr
import Derived.MakeChecks
import Derived.LaidHandle
namespace Go.Proofs.YtcpicgcdefnhaaaDoor
open Go.RowKit
set_option linter.unusedVariables false
theorem eStar : "*" ++ "errors.errorString" = "*errors.errorString" := by decide
theorem eRow (u : TypeId) (h : Tryd.prog.typeName? 3 u = some "*errors.errorString") : u = 109 :=
  typeName_ptr_named (P := Tryd.prog) (nm := "errors.errorString") (by rw [eStar]; kernel_rfl) (by kernel_rfl) (by decide) u (by rw [eStar]; exact h)
theorem gRange : Tryd.prog.globalNamed "strconv.ErrRange" = some 4 := by kernel_rfl
theorem tRange : (Tryd.prog.globals[4]?).map (·.type) = some 69 := by kernel_rfl
theorem gSyntax : Tryd.prog.globalNamed "strconv.ErrSyntax" = some 3 := by kernel_rfl
theorem tSyntax : (Tryd.prog.globals[3]?).map (·.type) = some 69 := by kernel_rfl
/-- What the condition of a row gives of the two: they stand fifth and sixth on the list. -/
theorem err_ofL {W : World} {l : List (String × DataW Unit)} {d1 d2 d3 d4 : String × DataW Unit} (h : laidMetH Tryd.prog (d1 :: d2 :: d3 :: d4 :: ("strconv.ErrRange", Rows.laid_strconv_ErrRange) :: ("strconv.ErrSyntax", Rows.laid_strconv_ErrSyntax) :: l) W)
    (hp : ((d1 :: d2 :: d3 :: d4 :: ("strconv.ErrRange", Rows.laid_strconv_ErrRange) :: ("strconv.ErrSyntax", Rows.laid_strconv_ErrSyntax) :: l).all fun x => x.2.handleName?.isNone) = true) : ErrB W.heap.size W := by
  rw [MakeChecks.laidMetH_plain _ _ _ hp] at h
  have h5 := h.tail.tail.tail.tail
  obtain ⟨a1, s1, hv1, _⟩ := laid_sentinel h5 gRange tRange Tryd.underlying69 eRow Tryd.underlying109 Tryd.underlying111 rfl rfl Tryd.underlying9 (by kernel_rfl) (by kernel_rfl)
  obtain ⟨a2, s2, hv2, _⟩ := laid_sentinel h5.tail gSyntax tSyntax Tryd.underlying69 eRow Tryd.underlying109 Tryd.underlying111 rfl rfl Tryd.underlying9 (by kernel_rfl) (by kernel_rfl)
  have c4 := World.var?_cell gRange hv1 0
  have c3 := World.var?_cell gSyntax hv2 0
  simp at c4 c3
  have hlt : 4 < W.heap.size := by
    rcases Nat.lt_or_ge 4 W.heap.size with h' | h'
    · exact h'
    · simp [World.cell?, Array.getElem?_eq_none h'] at c4
  exact ⟨hlt, Nat.le_refl _, _, _, _, _, c3, c4⟩
theorem err_of {W : World} (h : laidMetH Tryd.prog Rows.fnExactReadRasterRow.laid W) : ErrB W.heap.size W := err_ofL h (by kernel_rfl)
end Go.Proofs.YtcpicgcdefnhaaaDoor
