/-
  DERIVED. The walk of FnExactLocalBinary.
-/
import Derived.Test.YtdbecdgiafjkfaaCLocalBinary
import Derived.Test.YtdbecdgiafjkfaaLocN
import Derived.Test.YtdbecdgiafjkfaaLocS2
import Derived.Test.YtdbecdgiafjkfaaLocI
namespace Go.Proofs.Ytdbecdgiafjkfaa
open Go.RowKit
set_option linter.unusedVariables false
theorem walk_FnExactLocalBinary (aP_Rows : Int) (aP_Cols : Int) (aP_Pixels_a : Option Addr) (aP_Pixels_n aP_Pixels_c : Nat) (aP_Pixels_z : List Int) (aRadius : Int) (aOffset : Int) (w : World) (f_aP_Rows : (Lit.int .i64 aP_Rows).wf = true) (f_aP_Cols : (Lit.int .i64 aP_Cols).wf = true) (h_aP_Pixels : Ints .i64 w aP_Pixels_a aP_Pixels_n aP_Pixels_c aP_Pixels_z) (f_aRadius : (Lit.int .i64 aRadius).wf = true) (f_aOffset : (Lit.int .i64 aOffset).wf = true) :
    Calls Try.prog 10 #[.agg #[.int .i64 aP_Rows, .int .i64 aP_Cols, .slice aP_Pixels_a aP_Pixels_n aP_Pixels_c], .int .i64 aRadius, .int .i64 aOffset] w fun e w' => e = .returned (.bool true) ∧ Below w.heap.size w w' := by
  rcases Int.lt_or_le (1048576 : Int) aP_Pixels_n with hbig | hsm
  · exact big_FnExactLocalBinary aP_Rows aP_Cols aP_Pixels_a aP_Pixels_n aP_Pixels_c aRadius aOffset w h_aP_Pixels.max hbig
  · have hn : aP_Pixels_n ≤ 1048576 := by omega
    rcases hc : rasterB aP_Rows aP_Cols aP_Pixels_n aP_Pixels_z with _ | _
    · exact core_FnExactLocalBinary aP_Rows aP_Cols aP_Pixels_a aP_Pixels_n aP_Pixels_c aP_Pixels_z aRadius aOffset w h_aP_Pixels.rd hn 0 0 [] _ (fun a cp W h => sLocal_no _ _ a _ cp _ _ _ W h hn hc) (fun a cp W h => iLocal_no _ _ a _ cp _ _ _ W h hn hc)
    rcases hw : (inB aRadius 0 20 && inB aOffset (-255) 255) with _ | _
    · exact core_FnExactLocalBinary aP_Rows aP_Cols aP_Pixels_a aP_Pixels_n aP_Pixels_c aP_Pixels_z aRadius aOffset w h_aP_Pixels.rd hn 0 0 [] _ (fun a cp W h => sLocal_rng _ _ a _ cp _ _ _ W h hn hc hw) (fun a cp W h => iLocal_rng _ _ a _ cp _ _ _ W h hn hc hw)
    · obtain ⟨r1, r2, r3, r4, -⟩ := rasterB_yes hc
      have hw1 : inB aRadius 0 20 = true ∧ inB aOffset (-255) 255 = true := by simpa using hw
      have q1 : 0 ≤ aRadius ∧ aRadius ≤ 20 := by have := hw1.1; simpa [inB] using this
      have q2 : -255 ≤ aOffset ∧ aOffset ≤ 255 := by have := hw1.2; simpa [inB] using this
      obtain ⟨rows, rfl⟩ := Int.eq_ofNat_of_zero_le (show 0 ≤ aP_Rows by omega)
      obtain ⟨cols, rfl⟩ := Int.eq_ofNat_of_zero_le (show 0 ≤ aP_Cols by omega)
      obtain ⟨rad, rfl⟩ := Int.eq_ofNat_of_zero_le (show 0 ≤ aRadius by omega)
      exact core_FnExactLocalBinary (rows : Int) (cols : Int) aP_Pixels_a aP_Pixels_n aP_Pixels_c aP_Pixels_z (rad : Int) aOffset w h_aP_Pixels.rd hn _ _ _ _ (fun a cp W h => sLocal_ok rows cols rad aOffset a _ cp _ W h hn hc (by omega) (by omega) (by omega)) (fun a cp W h => iLocal_ok rows cols rad aOffset a _ cp _ W h hn hc (by omega) (by omega) (by omega))
end Go.Proofs.Ytdbecdgiafjkfaa
