/-
  DERIVED. The walk of FnExactStackGrid.
-/
import Derived.Test.YtenelpollcabnaaCStkG
import Derived.Test.YtenelpollcabnaaGrdR
namespace Go.Proofs.Ytenelpollcabnaa
open Go.RowKit
set_option linter.unusedVariables false
set_option maxRecDepth 20000 in
set_option maxHeartbeats 4000000 in
theorem walk_FnExactStackGrid (aF_Name : ByteArray) (aF_Kind : Int) (aF_Field_Prime : Int) (aF_Field_Power : Int) (aF_Field_Poly : Int) (aF_Sizes_a : Option Addr) (aF_Sizes_n aF_Sizes_c : Nat) (aF_Sizes_z : List Int) (aF_Columns : Int) (aF_Levels_a : Option Addr) (aF_Levels_n aF_Levels_c : Nat) (aF_Levels_z : List Int) (aSize : Int) (aLevel : Int) (aElements_a : Option Addr) (aElements_n aElements_c : Nat) (aElements_z : List Int) (w : World) (f_aF_Name : aF_Name.size ≤ maxLen) (f_aF_Kind : (Lit.int .i64 aF_Kind).wf = true) (f_aF_Field_Prime : (Lit.int .i64 aF_Field_Prime).wf = true) (f_aF_Field_Power : (Lit.int .i64 aF_Field_Power).wf = true) (f_aF_Field_Poly : (Lit.int .i64 aF_Field_Poly).wf = true) (h_aF_Sizes : Ints .i64 w aF_Sizes_a aF_Sizes_n aF_Sizes_c aF_Sizes_z) (f_aF_Columns : (Lit.int .i64 aF_Columns).wf = true) (h_aF_Levels : Ints .i64 w aF_Levels_a aF_Levels_n aF_Levels_c aF_Levels_z) (f_aSize : (Lit.int .i64 aSize).wf = true) (f_aLevel : (Lit.int .i64 aLevel).wf = true) (h_aElements : Ints .i64 w aElements_a aElements_n aElements_c aElements_z) :
    Calls Try.prog 3 #[.agg #[.string aF_Name, .int .i64 aF_Kind, .int .i64 aF_Field_Prime, .int .i64 aF_Field_Power, .int .i64 aF_Field_Poly, .slice aF_Sizes_a aF_Sizes_n aF_Sizes_c, .int .i64 aF_Columns, .slice aF_Levels_a aF_Levels_n aF_Levels_c], .int .i64 aSize, .int .i64 aLevel, .slice aElements_a aElements_n aElements_c] w fun e w' => e = .returned (.bool true) ∧ Below w.heap.size w w' := by
  cases hk : stkB aF_Name aF_Kind aF_Field_Prime aF_Field_Power aF_Field_Poly aF_Sizes_n aF_Sizes_z aF_Columns aF_Levels_n aF_Levels_z
  · exact core_StkG aF_Name aF_Kind aF_Field_Prime aF_Field_Power aF_Field_Poly aF_Sizes_a aF_Sizes_n aF_Sizes_c aF_Columns aF_Levels_a aF_Levels_n aF_Levels_c aF_Sizes_z aF_Levels_z aSize aLevel aElements_a aElements_n aElements_c aElements_z w f_aF_Name h_aF_Sizes.rd h_aF_Levels.rd h_aElements.rd h_aF_Sizes.max h_aF_Levels.max h_aElements.max
      0 0 [] 1
      (fun hsn hln hen a1 a2 a3 c1 c2 W h1 h2 h3_ => sSG_fam aF_Name aF_Kind aF_Field_Prime aF_Field_Power aF_Field_Poly a1 aF_Sizes_n c1 aF_Columns a2 aF_Levels_n c2 aF_Sizes_z aF_Levels_z aSize aLevel a3 aElements_n aElements_n aElements_z W f_aF_Name h1 hsn h2 hln hk)
      (fun hsn hln hen a1 a2 a3 c1 c2 W h1 h2 h3_ => iSG_fam aF_Name aF_Kind aF_Field_Prime aF_Field_Power aF_Field_Poly a1 aF_Sizes_n c1 aF_Columns a2 aF_Levels_n c2 aF_Sizes_z aF_Levels_z aSize aLevel a3 aElements_n aElements_n aElements_z W f_aF_Name h1 hsn h2 hln hk)
  cases hr : (hasB aF_Sizes_z aSize aF_Sizes_n && inB aLevel 0 ((aF_Levels_n : Int) - 1))
  · exact core_StkG aF_Name aF_Kind aF_Field_Prime aF_Field_Power aF_Field_Poly aF_Sizes_a aF_Sizes_n aF_Sizes_c aF_Columns aF_Levels_a aF_Levels_n aF_Levels_c aF_Sizes_z aF_Levels_z aSize aLevel aElements_a aElements_n aElements_c aElements_z w f_aF_Name h_aF_Sizes.rd h_aF_Levels.rd h_aElements.rd h_aF_Sizes.max h_aF_Levels.max h_aElements.max
      0 0 [] 2
      (fun hsn hln hen a1 a2 a3 c1 c2 W h1 h2 h3_ => sSG_rng aF_Name aF_Kind aF_Field_Prime aF_Field_Power aF_Field_Poly a1 aF_Sizes_n c1 aF_Columns a2 aF_Levels_n c2 aF_Sizes_z aF_Levels_z aSize aLevel a3 aElements_n aElements_n aElements_z W f_aF_Name h1 hsn h2 hln hk hr)
      (fun hsn hln hen a1 a2 a3 c1 c2 W h1 h2 h3_ => iSG_rng aF_Name aF_Kind aF_Field_Prime aF_Field_Power aF_Field_Poly a1 aF_Sizes_n c1 aF_Columns a2 aF_Levels_n c2 aF_Sizes_z aF_Levels_z aSize aLevel a3 aElements_n aElements_n aElements_z W f_aF_Name h1 hsn h2 hln hk hr)
  obtain ⟨h3, h4⟩ := Bool.and_eq_true_iff.1 hr
  by_cases hne : (aElements_n : Int) = aSize * aF_Columns
  case neg =>
    exact core_StkG aF_Name aF_Kind aF_Field_Prime aF_Field_Power aF_Field_Poly aF_Sizes_a aF_Sizes_n aF_Sizes_c aF_Columns aF_Levels_a aF_Levels_n aF_Levels_c aF_Sizes_z aF_Levels_z aSize aLevel aElements_a aElements_n aElements_c aElements_z w f_aF_Name h_aF_Sizes.rd h_aF_Levels.rd h_aElements.rd h_aF_Sizes.max h_aF_Levels.max h_aElements.max
      0 0 [] 3
      (fun hsn hln hen a1 a2 a3 c1 c2 W h1 h2 h3_ => sSG_lim aF_Name aF_Kind aF_Field_Prime aF_Field_Power aF_Field_Poly a1 aF_Sizes_n c1 aF_Columns a2 aF_Levels_n c2 aF_Sizes_z aF_Levels_z aSize aLevel a3 aElements_n aElements_n aElements_z W f_aF_Name h1 hsn h2 hln hk h3 h4 hen hne)
      (fun hsn hln hen a1 a2 a3 c1 c2 W h1 h2 h3_ => iSG_lim aF_Name aF_Kind aF_Field_Prime aF_Field_Power aF_Field_Poly a1 aF_Sizes_n c1 aF_Columns a2 aF_Levels_n c2 aF_Sizes_z aF_Levels_z aSize aLevel a3 aElements_n aElements_n aElements_z W f_aF_Name h1 hsn h2 hln hk h3 h4 hen hne)
  cases ha : aElements_z.all (fun x => inB x 0 31)
  · exact core_StkG aF_Name aF_Kind aF_Field_Prime aF_Field_Power aF_Field_Poly aF_Sizes_a aF_Sizes_n aF_Sizes_c aF_Columns aF_Levels_a aF_Levels_n aF_Levels_c aF_Sizes_z aF_Levels_z aSize aLevel aElements_a aElements_n aElements_c aElements_z w f_aF_Name h_aF_Sizes.rd h_aF_Levels.rd h_aElements.rd h_aF_Sizes.max h_aF_Levels.max h_aElements.max
      0 0 [] 5
      (fun hsn hln hen a1 a2 a3 c1 c2 W h1 h2 h3_ => sSG_sta aF_Name aF_Kind aF_Field_Prime aF_Field_Power aF_Field_Poly a1 aF_Sizes_n c1 aF_Columns a2 aF_Levels_n c2 aF_Sizes_z aF_Levels_z aSize aLevel a3 aElements_n aElements_n aElements_z W f_aF_Name h1 hsn h2 hln hk h3 h4 hen hne h3_ ha)
      (fun hsn hln hen a1 a2 a3 c1 c2 W h1 h2 h3_ => iSG_sta aF_Name aF_Kind aF_Field_Prime aF_Field_Power aF_Field_Poly a1 aF_Sizes_n c1 aF_Columns a2 aF_Levels_n c2 aF_Sizes_z aF_Levels_z aSize aLevel a3 aElements_n aElements_n aElements_z W f_aF_Name h1 hsn h2 hln hk h3 h4 hen hne h3_ ha)
  obtain ⟨z1, z2⟩ := stk_size hk h3
  obtain ⟨-, c1, c8⟩ := stk_col hk
  have hlv := (inB_iff.1 h4).1
  obtain ⟨co, rfl⟩ := Int.eq_ofNat_of_zero_le (show 0 ≤ aF_Columns by omega)
  obtain ⟨R, rfl⟩ := Int.eq_ofNat_of_zero_le (show 0 ≤ aSize by omega)
  obtain ⟨lv, rfl⟩ := Int.eq_ofNat_of_zero_le hlv
  have hne2 : aElements_n = R * co := by
    have h5 : ((R * co : Nat) : Int) = (aElements_n : Int) := by rw [hne]; simp
    omega
  exact core_StkG aF_Name aF_Kind aF_Field_Prime aF_Field_Power aF_Field_Poly aF_Sizes_a aF_Sizes_n aF_Sizes_c (co : Int) aF_Levels_a aF_Levels_n aF_Levels_c aF_Sizes_z aF_Levels_z (R : Int) (lv : Int) aElements_a aElements_n aElements_c aElements_z w f_aF_Name h_aF_Sizes.rd h_aF_Levels.rd h_aElements.rd h_aF_Sizes.max h_aF_Levels.max h_aElements.max
    (R : Int) ((15 + 11 * (co + 2) : Nat) : Int) (gridTo aElements_z co R lv R) 0
    (fun hsn hln hen a1 a2 a3 c1 c2 W h1 h2 h3_ => sSG_ok aF_Name aF_Kind aF_Field_Prime aF_Field_Power aF_Field_Poly a1 aF_Sizes_n c1 co a2 aF_Levels_n c2 aF_Sizes_z aF_Levels_z R lv a3 aElements_n aElements_n aElements_z W f_aF_Name h1 hsn h2 hln hk h3 h4 hne2 (Nat.le_refl _) h3_ ha)
    (fun hsn hln hen a1 a2 a3 c1 c2 W h1 h2 h3_ => iSG_ok aF_Name aF_Kind aF_Field_Prime aF_Field_Power aF_Field_Poly a1 aF_Sizes_n c1 co a2 aF_Levels_n c2 aF_Sizes_z aF_Levels_z R lv a3 aElements_n aElements_n aElements_z W f_aF_Name h1 hsn h2 hln hk h3 h4 hne2 (Nat.le_refl _) h3_ ha)
end Go.Proofs.Ytenelpollcabnaa
