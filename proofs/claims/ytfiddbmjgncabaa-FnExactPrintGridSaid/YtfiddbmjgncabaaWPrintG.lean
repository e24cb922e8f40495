/-
  DERIVED. The walk of FnExactPrintGrid.
-/
import Derived.Test.YtfiddbmjgncabaaCPrintG
import Derived.Test.YtfiddbmjgncabaaPrI
namespace Go.Proofs.Ytfiddbmjgncabaa
open Go.RowKit
set_option linter.unusedVariables false
theorem bleed_of_print {p t q b d l : Int} (h : printB p t q b d l = true) : 1 - p ≤ b ∧ b ≤ p - 1 := by
  simp only [printB, Bool.and_eq_true, inB_iff] at h
  omega
theorem walk_FnExactPrintGrid (aG_Rows : Int) (aG_Cols : Int) (aG_Cells_a : Option Addr) (aG_Cells_n aG_Cells_c : Nat) (aG_Cells_z : List Int) (aX_Pitch : Int) (aX_Tall : Int) (aX_Quiet : Int) (aX_Bleed : Int) (aX_Dark : Int) (aX_Light : Int) (w : World) (f_aG_Rows : (Lit.int .i64 aG_Rows).wf = true) (f_aG_Cols : (Lit.int .i64 aG_Cols).wf = true) (h_aG_Cells : Ints .i64 w aG_Cells_a aG_Cells_n aG_Cells_c aG_Cells_z) (f_aX_Pitch : (Lit.int .i64 aX_Pitch).wf = true) (f_aX_Tall : (Lit.int .i64 aX_Tall).wf = true) (f_aX_Quiet : (Lit.int .i64 aX_Quiet).wf = true) (f_aX_Bleed : (Lit.int .i64 aX_Bleed).wf = true) (f_aX_Dark : (Lit.int .i64 aX_Dark).wf = true) (f_aX_Light : (Lit.int .i64 aX_Light).wf = true) :
    Calls Try.prog 4 #[.agg #[.int .i64 aG_Rows, .int .i64 aG_Cols, .slice aG_Cells_a aG_Cells_n aG_Cells_c], .agg #[.int .i64 aX_Pitch, .int .i64 aX_Tall, .int .i64 aX_Quiet, .int .i64 aX_Bleed, .int .i64 aX_Dark, .int .i64 aX_Light]] w fun e w' => e = .returned (.bool true) ∧ Below w.heap.size w w' := by
  rcases Int.lt_or_le (1048576 : Int) aG_Cells_n with hbig | hsm
  · exact big_FnExactPrintGrid aG_Rows aG_Cols aG_Cells_a aG_Cells_n aG_Cells_c aX_Pitch aX_Tall aX_Quiet aX_Bleed aX_Dark aX_Light w h_aG_Cells.max hbig
  have hn : aG_Cells_n ≤ 1048576 := by omega
  rcases hg : gridB aG_Rows aG_Cols aG_Cells_n aG_Cells_z with _ | _
  · exact core_FnExactPrintGrid aG_Rows aG_Cols aG_Cells_a aG_Cells_n aG_Cells_c aG_Cells_z aX_Pitch aX_Tall aX_Quiet aX_Bleed aX_Dark aX_Light w h_aG_Cells.rd hn 0 0 [] _ (fun a cp W h => sPrG_no1 _ _ a _ cp _ _ _ _ _ _ _ W h hn hg) (fun a cp W h => iPrG_no1 _ _ a _ cp _ _ _ _ _ _ _ W h hn hg)
  rcases hp : printB aX_Pitch aX_Tall aX_Quiet aX_Bleed aX_Dark aX_Light with _ | _
  · exact core_FnExactPrintGrid aG_Rows aG_Cols aG_Cells_a aG_Cells_n aG_Cells_c aG_Cells_z aX_Pitch aX_Tall aX_Quiet aX_Bleed aX_Dark aX_Light w h_aG_Cells.rd hn 0 0 [] _ (fun a cp W h => sPrG_no2 _ _ a _ cp _ _ _ _ _ _ _ W h hn hg hp) (fun a cp W h => iPrG_no2 _ _ a _ cp _ _ _ _ _ _ _ W h hn hg hp)
  rcases hk : knB aG_Cells_z with _ | _
  · exact core_FnExactPrintGrid aG_Rows aG_Cols aG_Cells_a aG_Cells_n aG_Cells_c aG_Cells_z aX_Pitch aX_Tall aX_Quiet aX_Bleed aX_Dark aX_Light w h_aG_Cells.rd hn 0 0 [] _ (fun a cp W h => sPrG_kn _ _ a _ cp _ _ _ _ _ _ _ W h hn hg hp hk) (fun a cp W h => iPrG_kn _ _ a _ cp _ _ _ _ _ _ _ W h hn hg hp hk)
  rcases psE_cases aX_Pitch aX_Tall aX_Quiet aX_Bleed aX_Dark aX_Light aG_Rows aG_Cols with ⟨hB, hE | hE | hE⟩ | ⟨hB, hE⟩
  · exact core_FnExactPrintGrid aG_Rows aG_Cols aG_Cells_a aG_Cells_n aG_Cells_c aG_Cells_z aX_Pitch aX_Tall aX_Quiet aX_Bleed aX_Dark aX_Light w h_aG_Cells.rd hn 0 0 [] _ (fun a cp W h => sPrG_ps1 _ _ a _ cp _ _ _ _ _ _ _ W h hn hg hp hk hE _ _ rfl rfl) (fun a cp W h => iPrG_ps1 _ _ a _ cp _ _ _ _ _ _ _ W h hn hg hp hk hE _ _ rfl rfl)
  · exact core_FnExactPrintGrid aG_Rows aG_Cols aG_Cells_a aG_Cells_n aG_Cells_c aG_Cells_z aX_Pitch aX_Tall aX_Quiet aX_Bleed aX_Dark aX_Light w h_aG_Cells.rd hn 0 0 [] _ (fun a cp W h => sPrG_ps2 _ _ a _ cp _ _ _ _ _ _ _ W h hn hg hp hk hE _ _ rfl rfl) (fun a cp W h => iPrG_ps2 _ _ a _ cp _ _ _ _ _ _ _ W h hn hg hp hk hE _ _ rfl rfl)
  · exact core_FnExactPrintGrid aG_Rows aG_Cols aG_Cells_a aG_Cells_n aG_Cells_c aG_Cells_z aX_Pitch aX_Tall aX_Quiet aX_Bleed aX_Dark aX_Light w h_aG_Cells.rd hn 0 0 [] _ (fun a cp W h => sPrG_ps3 _ _ a _ cp _ _ _ _ _ _ _ W h hn hg hp hk hE _ _ rfl rfl) (fun a cp W h => iPrG_ps3 _ _ a _ cp _ _ _ _ _ _ _ W h hn hg hp hk hE _ _ rfl rfl)
  have h1 : selI (psB aX_Pitch aX_Tall aX_Quiet aX_Bleed aX_Dark aX_Light aG_Rows aG_Cols) (sideV aG_Rows aX_Quiet aX_Tall) 0 = sideV aG_Rows aX_Quiet aX_Tall := by rw [hB]; rfl
  have h2 : selI (psB aX_Pitch aX_Tall aX_Quiet aX_Bleed aX_Dark aX_Light aG_Rows aG_Cols) (sideV aG_Cols aX_Quiet aX_Pitch) 0 = sideV aG_Cols aX_Quiet aX_Pitch := by rw [hB]; rfl
  obtain ⟨p1, p2, t1, t2, q1, q2⟩ := quiet_of_print hp
  obtain ⟨u1, u2⟩ := bleed_of_print hp
  have hin : (inB aG_Rows 1 400 = true ∧ inB aG_Cols 1 400 = true) ∧ sizeB (sideV aG_Rows aX_Quiet aX_Tall) (sideV aG_Cols aX_Quiet aX_Pitch) = true := by
    unfold psB at hB
    rw [hp] at hB
    simp only [Bool.true_and, Bool.and_eq_true] at hB
    exact hB
  have n1 := inB_iff.1 hin.1.1
  have n2 := inB_iff.1 hin.1.2
  obtain ⟨z1, z2, z3, z4, -⟩ := sizeB_yes hin.2
  obtain ⟨T1, hT1⟩ := Int.eq_ofNat_of_zero_le (show 0 ≤ sideV aG_Rows aX_Quiet aX_Tall by omega)
  obtain ⟨T2, hT2⟩ := Int.eq_ofNat_of_zero_le (show 0 ≤ sideV aG_Cols aX_Quiet aX_Pitch by omega)
  have h1 := h1.trans hT1
  have h2 := h2.trans hT2
  exact core_FnExactPrintGrid aG_Rows aG_Cols aG_Cells_a aG_Cells_n aG_Cells_c aG_Cells_z aX_Pitch aX_Tall aX_Quiet aX_Bleed aX_Dark aX_Light w h_aG_Cells.rd hn _ _ _ _
    (fun a cp W h => sPrG_ok T1 T2 _ _ _ _ _ _ _ _ a _ cp _ W h hn hg hp hk hE h1 h2 (by omega) (by omega) p1 p2 t1 t2 q1 q2 u1 u2 (by omega) (by omega) (by omega) (by omega))
    (fun a cp W h => iPrG_ok T1 T2 _ _ _ _ _ _ _ _ a _ cp _ W h hn hg hp hk hE h1 h2 (by omega) (by omega) p1 p2 t1 t2 q1 q2 u1 u2 (by omega) (by omega) (by omega) (by omega))
end Go.Proofs.Ytfiddbmjgncabaa
