/-
  FnExactStackGrid: for every input the law returns true, and each argument reads behind the call as it read before.
  No condition.
-/
import Derived.Test.YtenelpollcabnaaWStkG
namespace Go.Proofs.Ytenelpollcabnaa.PFnExactStackGrid
open Go.ChangeShapes Go.WideShapes Go.ChangeAt Go.RowKit
open Go.ChangeMaps (open_string)
set_option linter.unusedVariables false

set_option maxRecDepth 100000 in
theorem lifted (os : Os) (started : os.Started) (H : Type) (enc : TypeId × Value → H) :
    ReturnsInHanded {} Try.checked os 3 .any (Rows.fnExactStackGridSpec.pre6 enc Try.prog Try.f3 Rows.fnExactStackGridRow.domain false) (Rows.fnExactStackGridSpec.post enc Try.prog Try.f3 false true false false) := by
  refine returnsInHanded_of_change (C := Try.checked) own started (by kernel_rfl) Try.func3
    (ChangeSpec.witness6 (enc := enc) (C := Try.checked) false ⟨#[], #[.agg #[.string ByteArray.empty, .int .i64 0, .int .i64 0, .int .i64 0, .int .i64 0, .slice none 0 0, .int .i64 0, .slice none 0 0], .int .i64 0, .int .i64 0, .slice none 0 0], []⟩ 12 (by kernel_rfl) (by kernel_rfl) (by kernel_rfl) (by kernel_rfl)) ?_
  intro W base args ds gs before hval0 hW hcnd _
  have hval : ∀ (j : Nat) t v, Try.f3.params[j]? = some t → args[j]? = some v → Value.okWide Try.prog W .any base t v := hval0
  have hW' := hW
  obtain ⟨p, q, hA0, hV, rfl, hfz, hnd⟩ := hW
  have hA : DataW.TrodAll enc Try.prog W 0 (fun _ => true) true Try.f3.params.toList args.toList ds p := hA0
  rw [Try.params3] at hA hval
  obtain ⟨v0, vs0, d0, ds0, p0, q0, hargs, rfl, rfl, h0, r0⟩ := trodAll_cons hA
  obtain ⟨v1, vs1, d1, ds1, p1, q1, rfl, rfl, rfl, h1, r1⟩ := trodAll_cons r0
  obtain ⟨v2, vs2, d2, ds2, p2, q2, rfl, rfl, rfl, h2, r2⟩ := trodAll_cons r1
  obtain ⟨v3, vs3, d3, ds3, p3, q3, rfl, rfl, rfl, h3, r3⟩ := trodAll_cons r2
  obtain ⟨rfl, rfl, rfl⟩ := trodAll_nil r3
  obtain rfl : args = #[v0, v1, v2, v3] := by cases args; simp_all
  obtain ⟨rfl, rfl⟩ := trodVars_none hV
  have k0 := h0
  have lt0 : ∀ x ∈ p0, x.block < W.heap.size := by obtain ⟨m, hm⟩ := k0; exact DataW.trod_lt m _ _ _ hm
  obtain ⟨cs0, hv0, hlen0, hok0⟩ := open_leaves Try.underlying26 (f := 6) (ts := [9, 2, 2, 2, 2, 24, 2, 24]) (by kernel_rfl) (by kernel_rfl) (hval 0 26 v0 rfl rfl) h0
  obtain ⟨c0_0, c0_1, c0_2, c0_3, c0_4, c0_5, c0_6, c0_7, rfl⟩ : ∃ c0_0 c0_1 c0_2 c0_3 c0_4 c0_5 c0_6 c0_7 : Value, cs0 = [c0_0, c0_1, c0_2, c0_3, c0_4, c0_5, c0_6, c0_7] := by match cs0, hlen0 with | [c0_0, c0_1, c0_2, c0_3, c0_4, c0_5, c0_6, c0_7], _ => exact ⟨c0_0, c0_1, c0_2, c0_3, c0_4, c0_5, c0_6, c0_7, rfl⟩
  subst hv0
  have l0_0 : LeafOk enc Try.prog W 0 (fun _ => true) true 9 c0_0 := by obtain ⟨_, hc, l⟩ := hok0 0 9 rfl; simp at hc; subst hc; exact l
  have l0_1 : LeafOk enc Try.prog W 0 (fun _ => true) true 2 c0_1 := by obtain ⟨_, hc, l⟩ := hok0 1 2 rfl; simp at hc; subst hc; exact l
  have l0_2 : LeafOk enc Try.prog W 0 (fun _ => true) true 2 c0_2 := by obtain ⟨_, hc, l⟩ := hok0 2 2 rfl; simp at hc; subst hc; exact l
  have l0_3 : LeafOk enc Try.prog W 0 (fun _ => true) true 2 c0_3 := by obtain ⟨_, hc, l⟩ := hok0 3 2 rfl; simp at hc; subst hc; exact l
  have l0_4 : LeafOk enc Try.prog W 0 (fun _ => true) true 2 c0_4 := by obtain ⟨_, hc, l⟩ := hok0 4 2 rfl; simp at hc; subst hc; exact l
  have l0_5 : LeafOk enc Try.prog W 0 (fun _ => true) true 24 c0_5 := by obtain ⟨_, hc, l⟩ := hok0 5 24 rfl; simp at hc; subst hc; exact l
  have l0_6 : LeafOk enc Try.prog W 0 (fun _ => true) true 2 c0_6 := by obtain ⟨_, hc, l⟩ := hok0 6 2 rfl; simp at hc; subst hc; exact l
  have l0_7 : LeafOk enc Try.prog W 0 (fun _ => true) true 24 c0_7 := by obtain ⟨_, hc, l⟩ := hok0 7 24 rfl; simp at hc; subst hc; exact l
  obtain ⟨aF_Name, rfl, f_aF_Name⟩ := LeafOk.string Try.underlying9 l0_0
  obtain ⟨aF_Kind, rfl, f_aF_Kind⟩ := LeafOk.int Try.underlying2 l0_1
  obtain ⟨aF_Field_Prime, rfl, f_aF_Field_Prime⟩ := LeafOk.int Try.underlying2 l0_2
  obtain ⟨aF_Field_Power, rfl, f_aF_Field_Power⟩ := LeafOk.int Try.underlying2 l0_3
  obtain ⟨aF_Field_Poly, rfl, f_aF_Field_Poly⟩ := LeafOk.int Try.underlying2 l0_4
  obtain ⟨aF_Sizes_a, aF_Sizes_n, aF_Sizes_c, aF_Sizes_z, rfl, h_aF_Sizes⟩ := LeafOk.ints Try.underlying24 Try.underlying2 (by kernel_rfl) l0_5
  obtain ⟨aF_Columns, rfl, f_aF_Columns⟩ := LeafOk.int Try.underlying2 l0_6
  obtain ⟨aF_Levels_a, aF_Levels_n, aF_Levels_c, aF_Levels_z, rfl, h_aF_Levels⟩ := LeafOk.ints Try.underlying24 Try.underlying2 (by kernel_rfl) l0_7
  have k1 := h1
  have lt1 : ∀ x ∈ p1, x.block < W.heap.size := by obtain ⟨m, hm⟩ := k1; exact DataW.trod_lt m _ _ _ hm
  have l1 : LeafOk enc Try.prog W 0 (fun _ => true) true 2 v1 := by obtain ⟨n, rfl⟩ := okWide_int Try.underlying2 (hval 1 2 v1 rfl rfl); obtain ⟨fuel, hf⟩ := h1; exact ⟨fuel, _, hf⟩
  obtain ⟨aSize, rfl, f_aSize⟩ := LeafOk.int Try.underlying2 l1
  have k2 := h2
  have lt2 : ∀ x ∈ p2, x.block < W.heap.size := by obtain ⟨m, hm⟩ := k2; exact DataW.trod_lt m _ _ _ hm
  have l2 : LeafOk enc Try.prog W 0 (fun _ => true) true 2 v2 := by obtain ⟨n, rfl⟩ := okWide_int Try.underlying2 (hval 2 2 v2 rfl rfl); obtain ⟨fuel, hf⟩ := h2; exact ⟨fuel, _, hf⟩
  obtain ⟨aLevel, rfl, f_aLevel⟩ := LeafOk.int Try.underlying2 l2
  have k3 := h3
  have lt3 : ∀ x ∈ p3, x.block < W.heap.size := by obtain ⟨m, hm⟩ := k3; exact DataW.trod_lt m _ _ _ hm
  have l3 : LeafOk enc Try.prog W 0 (fun _ => true) true 24 v3 := by obtain ⟨a, len, cap, rfl⟩ := okWide_slice Try.underlying24 (hval 3 24 v3 rfl rfl); obtain ⟨fuel, hf⟩ := h3; exact ⟨fuel, _, hf⟩
  obtain ⟨aElements_a, aElements_n, aElements_c, aElements_z, rfl, h_aElements⟩ := LeafOk.ints Try.underlying24 Try.underlying2 (by kernel_rfl) l3
  clear hA0 hval0
  refine (walk_FnExactStackGrid aF_Name aF_Kind aF_Field_Prime aF_Field_Power aF_Field_Poly aF_Sizes_a aF_Sizes_n aF_Sizes_c aF_Sizes_z aF_Columns aF_Levels_a aF_Levels_n aF_Levels_c aF_Levels_z aSize aLevel aElements_a aElements_n aElements_c aElements_z W f_aF_Name f_aF_Kind f_aF_Field_Prime f_aF_Field_Power f_aF_Field_Poly h_aF_Sizes f_aF_Columns h_aF_Levels f_aSize f_aLevel h_aElements).mono fun e W' ⟨he, bel⟩ => ?_
  subst he
  exact ⟨_, rfl, _, _, _, [], _, [], hW', trodAll_mk1 (shut_bool Try.underlying4 _), (trodAll_cons_mk (Below.trod laidOut (by kernel_rfl) (of_decide_eq_true (by kernel_rfl)) k0 bel lt0) (trodAll_cons_mk (Below.trod laidOut (by kernel_rfl) (of_decide_eq_true (by kernel_rfl)) k1 bel lt1) (trodAll_cons_mk (Below.trod laidOut (by kernel_rfl) (of_decide_eq_true (by kernel_rfl)) k2 bel lt2) (trodAll_cons_mk (Below.trod laidOut (by kernel_rfl) (of_decide_eq_true (by kernel_rfl)) k3 bel lt3) trodAll_mk0)))), rfl, bel.frame _, fun h => by cases h⟩

theorem over : Rows.fnExactStackGridRow.holds Try.pinned (OpenSpec.ofChange Rows.fnExactStackGridSpec) :=
  OpenClaim.holds_of_wide 3 Try.f3 rfl rfl rfl rfl rfl rfl rfl ⟨rfl, rfl, rfl, rfl, rfl⟩ rfl rfl rfl rfl rfl (by kernel_rfl) Try.func3 (by kernel_rfl)
    (of_decide_eq_true (by kernel_rfl)) (by unfold Func.isWrapper; first | (rw [if_pos (by decide +kernel)]; kernel_rfl) | (rw [if_neg (by decide +kernel)]; exact ⟨rfl, rfl⟩))
    (fun os started H enc _ => lifted os started H enc)

theorem proved : Rows.FnExactStackGridSaid := over
#print axioms proved
end Go.Proofs.Ytenelpollcabnaa.PFnExactStackGrid
