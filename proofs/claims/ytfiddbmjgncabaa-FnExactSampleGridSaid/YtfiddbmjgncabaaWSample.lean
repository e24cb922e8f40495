/-
  DERIVED. The walk of FnExactSampleGrid.
-/
import Derived.Test.YtfiddbmjgncabaaCSample
import Derived.Test.YtfiddbmjgncabaaSampI
namespace Go.Proofs.Ytfiddbmjgncabaa
open Go.RowKit
set_option linter.unusedVariables false
theorem walk_FnExactSampleGrid (aP_Rows : Int) (aP_Cols : Int) (aP_Pixels_a : Option Addr) (aP_Pixels_n aP_Pixels_c : Nat) (aP_Pixels_z : List Int) (aRows : Int) (aCols : Int) (aX_Pitch : Int) (aX_Tall : Int) (aX_Quiet : Int) (aX_Bleed : Int) (aX_Dark : Int) (aX_Light : Int) (aLimit : Int) (w : World) (f_aP_Rows : (Lit.int .i64 aP_Rows).wf = true) (f_aP_Cols : (Lit.int .i64 aP_Cols).wf = true) (h_aP_Pixels : Ints .i64 w aP_Pixels_a aP_Pixels_n aP_Pixels_c aP_Pixels_z) (f_aRows : (Lit.int .i64 aRows).wf = true) (f_aCols : (Lit.int .i64 aCols).wf = true) (f_aX_Pitch : (Lit.int .i64 aX_Pitch).wf = true) (f_aX_Tall : (Lit.int .i64 aX_Tall).wf = true) (f_aX_Quiet : (Lit.int .i64 aX_Quiet).wf = true) (f_aX_Bleed : (Lit.int .i64 aX_Bleed).wf = true) (f_aX_Dark : (Lit.int .i64 aX_Dark).wf = true) (f_aX_Light : (Lit.int .i64 aX_Light).wf = true) (f_aLimit : (Lit.int .i64 aLimit).wf = true) :
    Calls Try.prog 3 #[.agg #[.int .i64 aP_Rows, .int .i64 aP_Cols, .slice aP_Pixels_a aP_Pixels_n aP_Pixels_c], .int .i64 aRows, .int .i64 aCols, .agg #[.int .i64 aX_Pitch, .int .i64 aX_Tall, .int .i64 aX_Quiet, .int .i64 aX_Bleed, .int .i64 aX_Dark, .int .i64 aX_Light], .int .i64 aLimit] w fun e w' => e = .returned (.bool true) ∧ Below w.heap.size w w' := by
  rcases Int.lt_or_le (1048576 : Int) aP_Pixels_n with hbig | hsm
  · exact big_FnExactSampleGrid aP_Rows aP_Cols aP_Pixels_a aP_Pixels_n aP_Pixels_c aRows aCols aX_Pitch aX_Tall aX_Quiet aX_Bleed aX_Dark aX_Light aLimit w h_aP_Pixels.max hbig
  have hn : aP_Pixels_n ≤ 1048576 := by omega
  rcases hr : rasterB aP_Rows aP_Cols aP_Pixels_n aP_Pixels_z with _ | _
  · exact core_FnExactSampleGrid aP_Rows aP_Cols aP_Pixels_a aP_Pixels_n aP_Pixels_c aP_Pixels_z aRows aCols aX_Pitch aX_Tall aX_Quiet aX_Bleed aX_Dark aX_Light aLimit w h_aP_Pixels.rd hn 0 0 [] _ (fun a cp W h => sSamp_no1 _ _ a _ cp _ _ _ _ _ _ _ _ _ _ W h hn hr) (fun a cp W h => iSamp_no1 _ _ a _ cp _ _ _ _ _ _ _ _ _ _ W h hn hr)
  rcases hp : printB aX_Pitch aX_Tall aX_Quiet aX_Bleed aX_Dark aX_Light with _ | _
  · exact core_FnExactSampleGrid aP_Rows aP_Cols aP_Pixels_a aP_Pixels_n aP_Pixels_c aP_Pixels_z aRows aCols aX_Pitch aX_Tall aX_Quiet aX_Bleed aX_Dark aX_Light aLimit w h_aP_Pixels.rd hn 0 0 [] _ (fun a cp W h => sSamp_no2 _ _ a _ cp _ _ _ _ _ _ _ _ _ _ W h hn hr hp) (fun a cp W h => iSamp_no2 _ _ a _ cp _ _ _ _ _ _ _ _ _ _ W h hn hr hp)
  rcases psE_cases aX_Pitch aX_Tall aX_Quiet aX_Bleed aX_Dark aX_Light aRows aCols with ⟨hB, hE | hE | hE⟩ | ⟨hB, hE⟩
  · exact core_FnExactSampleGrid aP_Rows aP_Cols aP_Pixels_a aP_Pixels_n aP_Pixels_c aP_Pixels_z aRows aCols aX_Pitch aX_Tall aX_Quiet aX_Bleed aX_Dark aX_Light aLimit w h_aP_Pixels.rd hn 0 0 [] _ (fun a cp W h => sSamp_ps1 _ _ a _ cp _ _ _ _ _ _ _ _ _ _ W h hn hr hp hE _ _ rfl rfl) (fun a cp W h => iSamp_ps1 _ _ a _ cp _ _ _ _ _ _ _ _ _ _ W h hn hr hp hE _ _ rfl rfl)
  · exact core_FnExactSampleGrid aP_Rows aP_Cols aP_Pixels_a aP_Pixels_n aP_Pixels_c aP_Pixels_z aRows aCols aX_Pitch aX_Tall aX_Quiet aX_Bleed aX_Dark aX_Light aLimit w h_aP_Pixels.rd hn 0 0 [] _ (fun a cp W h => sSamp_ps2 _ _ a _ cp _ _ _ _ _ _ _ _ _ _ W h hn hr hp hE _ _ rfl rfl) (fun a cp W h => iSamp_ps2 _ _ a _ cp _ _ _ _ _ _ _ _ _ _ W h hn hr hp hE _ _ rfl rfl)
  · exact core_FnExactSampleGrid aP_Rows aP_Cols aP_Pixels_a aP_Pixels_n aP_Pixels_c aP_Pixels_z aRows aCols aX_Pitch aX_Tall aX_Quiet aX_Bleed aX_Dark aX_Light aLimit w h_aP_Pixels.rd hn 0 0 [] _ (fun a cp W h => sSamp_ps3 _ _ a _ cp _ _ _ _ _ _ _ _ _ _ W h hn hr hp hE _ _ rfl rfl) (fun a cp W h => iSamp_ps3 _ _ a _ cp _ _ _ _ _ _ _ _ _ _ W h hn hr hp hE _ _ rfl rfl)
  have h1 : selI (psB aX_Pitch aX_Tall aX_Quiet aX_Bleed aX_Dark aX_Light aRows aCols) (sideV aRows aX_Quiet aX_Tall) 0 = sideV aRows aX_Quiet aX_Tall := by rw [hB]; rfl
  have h2 : selI (psB aX_Pitch aX_Tall aX_Quiet aX_Bleed aX_Dark aX_Light aRows aCols) (sideV aCols aX_Quiet aX_Pitch) 0 = sideV aCols aX_Quiet aX_Pitch := by rw [hB]; rfl
  rcases hs1 : (aP_Rows != sideV aRows aX_Quiet aX_Tall) with _ | _
  rotate_left
  · exact core_FnExactSampleGrid aP_Rows aP_Cols aP_Pixels_a aP_Pixels_n aP_Pixels_c aP_Pixels_z aRows aCols aX_Pitch aX_Tall aX_Quiet aX_Bleed aX_Dark aX_Light aLimit w h_aP_Pixels.rd hn 0 0 [] _ (fun a cp W h => sSamp_st1 _ _ a _ cp _ _ _ _ _ _ _ _ _ _ W h hn hr hp hE _ _ h1 h2 hs1) (fun a cp W h => iSamp_st1 _ _ a _ cp _ _ _ _ _ _ _ _ _ _ W h hn hr hp hE _ _ h1 h2 hs1)
  rcases hs2 : (aP_Cols != sideV aCols aX_Quiet aX_Pitch) with _ | _
  rotate_left
  · exact core_FnExactSampleGrid aP_Rows aP_Cols aP_Pixels_a aP_Pixels_n aP_Pixels_c aP_Pixels_z aRows aCols aX_Pitch aX_Tall aX_Quiet aX_Bleed aX_Dark aX_Light aLimit w h_aP_Pixels.rd hn 0 0 [] _ (fun a cp W h => sSamp_st2 _ _ a _ cp _ _ _ _ _ _ _ _ _ _ W h hn hr hp hE _ _ h1 h2 hs1 hs2) (fun a cp W h => iSamp_st2 _ _ a _ cp _ _ _ _ _ _ _ _ _ _ W h hn hr hp hE _ _ h1 h2 hs1 hs2)
  have e1 : aP_Rows = sideV aRows aX_Quiet aX_Tall := by simpa using hs1
  have e2 : aP_Cols = sideV aCols aX_Quiet aX_Pitch := by simpa using hs2
  obtain ⟨p1, p2, t1, t2, q1, q2⟩ := quiet_of_print hp
  have hin : inB aRows 1 400 = true ∧ inB aCols 1 400 = true := by
    unfold psB at hB
    rw [hp] at hB
    simp only [Bool.true_and, Bool.and_eq_true] at hB
    exact hB.1
  have n1 := inB_iff.1 hin.1
  have n2 := inB_iff.1 hin.2
  obtain ⟨rows, rfl⟩ := Int.eq_ofNat_of_zero_le (show 0 ≤ aRows by omega)
  obtain ⟨cols, rfl⟩ := Int.eq_ofNat_of_zero_le (show 0 ≤ aCols by omega)
  have h1 := h1.trans e1.symm
  have h2 := h2.trans e2.symm
  rw [smp_side t1 t2 q1 q2 (by omega)] at e1
  rw [smp_side p1 p2 q1 q2 (by omega)] at e2
  exact core_FnExactSampleGrid aP_Rows aP_Cols aP_Pixels_a aP_Pixels_n aP_Pixels_c aP_Pixels_z (rows : Int) (cols : Int) aX_Pitch aX_Tall aX_Quiet aX_Bleed aX_Dark aX_Light aLimit w h_aP_Pixels.rd hn _ _ _ _
    (fun a cp W h => sSamp_ok rows cols _ _ _ _ _ _ _ _ _ a _ cp _ W h hn hr hp hE h1 h2 e1 e2 p1 p2 t1 t2 q1 q2 (by omega) (by omega) (by omega) (by omega))
    (fun a cp W h => iSamp_ok rows cols _ _ _ _ _ _ _ _ _ a _ cp _ W h hn hr hp hE h1 h2 e1 e2 p1 p2 t1 t2 q1 q2 (by omega) (by omega) (by omega) (by omega))
end Go.Proofs.Ytfiddbmjgncabaa
