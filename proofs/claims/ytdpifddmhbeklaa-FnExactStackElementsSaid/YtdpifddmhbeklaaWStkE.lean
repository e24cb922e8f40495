/-
  DERIVED. The walk of FnExactStackElements.
-/
import Derived.Test.YtdpifddmhbeklaaCStkE
namespace Go.Proofs.Ytdpifddmhbeklaa
open Go.RowKit
set_option linter.unusedVariables false
set_option maxRecDepth 20000 in
set_option maxHeartbeats 4000000 in
theorem walk_FnExactStackElements (aF_Name : ByteArray) (aF_Kind : Int) (aF_Field_Prime : Int) (aF_Field_Power : Int) (aF_Field_Poly : Int) (aF_Sizes_a : Option Addr) (aF_Sizes_n aF_Sizes_c : Nat) (aF_Sizes_z : List Int) (aF_Columns : Int) (aF_Levels_a : Option Addr) (aF_Levels_n aF_Levels_c : Nat) (aF_Levels_z : List Int) (aG_Rows : Int) (aG_Cols : Int) (aG_Cells_a : Option Addr) (aG_Cells_n aG_Cells_c : Nat) (aG_Cells_z : List Int) (w : World) (f_aF_Name : aF_Name.size ≤ maxLen) (f_aF_Kind : (Lit.int .i64 aF_Kind).wf = true) (f_aF_Field_Prime : (Lit.int .i64 aF_Field_Prime).wf = true) (f_aF_Field_Power : (Lit.int .i64 aF_Field_Power).wf = true) (f_aF_Field_Poly : (Lit.int .i64 aF_Field_Poly).wf = true) (h_aF_Sizes : Ints .i64 w aF_Sizes_a aF_Sizes_n aF_Sizes_c aF_Sizes_z) (f_aF_Columns : (Lit.int .i64 aF_Columns).wf = true) (h_aF_Levels : Ints .i64 w aF_Levels_a aF_Levels_n aF_Levels_c aF_Levels_z) (f_aG_Rows : (Lit.int .i64 aG_Rows).wf = true) (f_aG_Cols : (Lit.int .i64 aG_Cols).wf = true) (h_aG_Cells : Ints .i64 w aG_Cells_a aG_Cells_n aG_Cells_c aG_Cells_z) :
    Calls Try.prog 11 #[.agg #[.string aF_Name, .int .i64 aF_Kind, .int .i64 aF_Field_Prime, .int .i64 aF_Field_Power, .int .i64 aF_Field_Poly, .slice aF_Sizes_a aF_Sizes_n aF_Sizes_c, .int .i64 aF_Columns, .slice aF_Levels_a aF_Levels_n aF_Levels_c], .agg #[.int .i64 aG_Rows, .int .i64 aG_Cols, .slice aG_Cells_a aG_Cells_n aG_Cells_c]] w fun e w' => e = .returned (.bool true) ∧ Below w.heap.size w w' := by
  obtain ⟨o, hO⟩ : ∃ o, stkO aF_Name aF_Kind aF_Field_Prime aF_Field_Power aF_Field_Poly aF_Sizes_n aF_Sizes_z aF_Columns aF_Levels_n aF_Levels_z aG_Rows aG_Cols aG_Cells_n aG_Cells_z = o := ⟨_, rfl⟩
  by_cases h0 : o = 0
  · subst h0
    obtain ⟨k1, k2, k3⟩ := stkO_zero hO
    obtain ⟨_, c1, c8⟩ := stk_col k1
    obtain ⟨r1, r2, q1, q2, _, p2, pn, hbd⟩ := gridB_yes k2
    obtain ⟨co, rfl⟩ := Int.eq_ofNat_of_zero_le (show 0 ≤ aF_Columns by omega)
    obtain ⟨R, rfl⟩ := Int.eq_ofNat_of_zero_le (show 0 ≤ aG_Rows by omega)
    obtain ⟨C, rfl⟩ := Int.eq_ofNat_of_zero_le (show 0 ≤ aG_Cols by omega)
    have hn4 : aG_Cells_n ≤ 40000 := by omega
    have hnr : aG_Cells_n = R * C := by
      have : (aG_Cells_n : Int) = ((R * C : Nat) : Int) := by rw [pn]; simp
      omega
    have hC : C = 15 + 11 * (co + 2) := by omega
    have hco : co ≤ 8 := by omega
    have hm : aG_Cells_n ≤ maxLen := by unfold maxLen; omega
    have hX : (flatP aG_Cells_z C R).length ≤ 40000 := by
      rw [flatP_len, show (C - 15) / 11 - 2 = co by omega]
      have : R * co ≤ R * C := Nat.mul_le_mul_left _ (by omega)
      omega
    exact core_StkE aF_Name aF_Kind aF_Field_Prime aF_Field_Power aF_Field_Poly aF_Sizes_a aF_Sizes_n aF_Sizes_c (co : Int) aF_Levels_a aF_Levels_n aF_Levels_c aF_Sizes_z aF_Levels_z (R : Int) (C : Int) aG_Cells_a aG_Cells_n aG_Cells_c aG_Cells_z w f_aF_Name h_aF_Sizes.rd h_aF_Levels.rd h_aG_Cells.rd h_aF_Sizes.max h_aF_Levels.max h_aG_Cells.max
      (flatP aG_Cells_z C R).length (negs (flatP aG_Cells_z C R)).length (elV (flatP aG_Cells_z C R)) (negs (flatP aG_Cells_z C R)) 0 hX (Nat.le_trans (negs_len _) hX)
      (fun hsn hln hgn a1 a2 a3 c1 c2 W h1 h2 h3 => (sSE_ok aF_Name aF_Kind aF_Field_Prime aF_Field_Power aF_Field_Poly a1 aF_Sizes_n c1 co a2 aF_Levels_n c2 aF_Sizes_z aF_Levels_z R C a3 aG_Cells_n aG_Cells_n aG_Cells_z W f_aF_Name h1 hsn h2 hln h3 hgn (Nat.le_refl _) hm hO hC hco hn4 hnr hbd).mono fun _ _ h => h.q)
      (fun hsn hln hgn a1 a2 a3 c1 c2 W h1 h2 h3 => (iSE_ok aF_Name aF_Kind aF_Field_Prime aF_Field_Power aF_Field_Poly a1 aF_Sizes_n c1 co a2 aF_Levels_n c2 aF_Sizes_z aF_Levels_z R C a3 aG_Cells_n aG_Cells_n aG_Cells_z W f_aF_Name h1 hsn h2 hln h3 hgn (Nat.le_refl _) hm hO hC hco hn4 hnr hbd).mono fun _ _ h => h.q)
  · exact core_StkE aF_Name aF_Kind aF_Field_Prime aF_Field_Power aF_Field_Poly aF_Sizes_a aF_Sizes_n aF_Sizes_c aF_Columns aF_Levels_a aF_Levels_n aF_Levels_c aF_Sizes_z aF_Levels_z aG_Rows aG_Cols aG_Cells_a aG_Cells_n aG_Cells_c aG_Cells_z w f_aF_Name h_aF_Sizes.rd h_aF_Levels.rd h_aG_Cells.rd h_aF_Sizes.max h_aF_Levels.max h_aG_Cells.max
      0 0 [] [] o (by omega) (by omega)
      (fun hsn hln hgn a1 a2 a3 c1 c2 W h1 h2 h3 => (sSE_no aF_Name aF_Kind aF_Field_Prime aF_Field_Power aF_Field_Poly a1 aF_Sizes_n c1 aF_Columns a2 aF_Levels_n c2 aF_Sizes_z aF_Levels_z aG_Rows aG_Cols a3 aG_Cells_n aG_Cells_n aG_Cells_z W f_aF_Name h1 hsn h2 hln h3 hgn o hO h0).mono fun _ _ h => h.q)
      (fun hsn hln hgn a1 a2 a3 c1 c2 W h1 h2 h3 => (iSE_no aF_Name aF_Kind aF_Field_Prime aF_Field_Power aF_Field_Poly a1 aF_Sizes_n c1 aF_Columns a2 aF_Levels_n c2 aF_Sizes_z aF_Levels_z aG_Rows aG_Cols a3 aG_Cells_n aG_Cells_n aG_Cells_z W f_aF_Name h1 hsn h2 hln h3 hgn o hO h0).mono fun _ _ h => h.q)
end Go.Proofs.Ytdpifddmhbeklaa
