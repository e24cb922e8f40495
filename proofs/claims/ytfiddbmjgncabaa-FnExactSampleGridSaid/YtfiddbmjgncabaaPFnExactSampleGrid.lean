/-
  FnExactSampleGrid: for every input the law returns true, and each argument reads behind the call as it read before.
  No condition.
-/
import Derived.Test.YtfiddbmjgncabaaWSample
namespace Go.Proofs.Ytfiddbmjgncabaa.PFnExactSampleGrid
open Go.ChangeShapes Go.WideShapes Go.ChangeAt Go.RowKit
open Go.ChangeMaps (open_string)
set_option linter.unusedVariables false

set_option maxRecDepth 100000 in
theorem lifted (os : Os) (started : os.Started) (H : Type) (enc : TypeId × Value → H) :
    ReturnsInHanded {} Try.checked os 3 .any (Rows.fnExactSampleGridSpec.pre6 enc Try.prog Try.f3 Rows.fnExactSampleGridRow.domain false) (Rows.fnExactSampleGridSpec.post enc Try.prog Try.f3 false true false false) := by
  refine returnsInHanded_of_change (C := Try.checked) own started (by kernel_rfl) Try.func3
    (ChangeSpec.witness6 (enc := enc) (C := Try.checked) false ⟨#[], #[.agg #[.int .i64 0, .int .i64 0, .slice none 0 0], .int .i64 0, .int .i64 0, .agg #[.int .i64 0, .int .i64 0, .int .i64 0, .int .i64 0, .int .i64 0, .int .i64 0], .int .i64 0], []⟩ 12 (by kernel_rfl) (by kernel_rfl) (by kernel_rfl) (by kernel_rfl)) ?_
  intro W base args ds gs before hval0 hW hcnd _
  have hval : ∀ (j : Nat) t v, Try.f3.params[j]? = some t → args[j]? = some v → Value.okWide Try.prog W .any base t v := hval0
  have hW' := hW
  obtain ⟨p, q, hA0, hV, rfl, hfz, hnd⟩ := hW
  have hA : DataW.TrodAll enc Try.prog W 0 (fun _ => true) true Try.f3.params.toList args.toList ds p := hA0
  rw [Try.params3] at hA hval
  obtain ⟨v0, vs0, d0, ds0, p0, q0, hargs, rfl, rfl, h0, r0⟩ := trodAll_cons hA
  obtain ⟨v1, vs1, d1, ds1, p1, q1, rfl, rfl, rfl, h1, r1⟩ := trodAll_cons r0
  obtain ⟨v2, vs2, d2, ds2, p2, q2, rfl, rfl, rfl, h2, r2⟩ := trodAll_cons r1
  obtain ⟨v3, vs3, d3, ds3, p3, q3, rfl, rfl, rfl, h3, r3⟩ := trodAll_cons r2
  obtain ⟨v4, vs4, d4, ds4, p4, q4, rfl, rfl, rfl, h4, r4⟩ := trodAll_cons r3
  obtain ⟨rfl, rfl, rfl⟩ := trodAll_nil r4
  obtain rfl : args = #[v0, v1, v2, v3, v4] := by cases args; simp_all
  obtain ⟨rfl, rfl⟩ := trodVars_none hV
  have k0 := h0
  have lt0 : ∀ x ∈ p0, x.block < W.heap.size := by obtain ⟨m, hm⟩ := k0; exact DataW.trod_lt m _ _ _ hm
  obtain ⟨cs0, hv0, hlen0, hok0⟩ := open_leaves Try.underlying24 (f := 6) (ts := [2, 2, 22]) (by kernel_rfl) (by kernel_rfl) (hval 0 24 v0 rfl rfl) h0
  obtain ⟨c0_0, c0_1, c0_2, rfl⟩ : ∃ c0_0 c0_1 c0_2 : Value, cs0 = [c0_0, c0_1, c0_2] := by match cs0, hlen0 with | [c0_0, c0_1, c0_2], _ => exact ⟨c0_0, c0_1, c0_2, rfl⟩
  subst hv0
  have l0_0 : LeafOk enc Try.prog W 0 (fun _ => true) true 2 c0_0 := by obtain ⟨_, hc, l⟩ := hok0 0 2 rfl; simp at hc; subst hc; exact l
  have l0_1 : LeafOk enc Try.prog W 0 (fun _ => true) true 2 c0_1 := by obtain ⟨_, hc, l⟩ := hok0 1 2 rfl; simp at hc; subst hc; exact l
  have l0_2 : LeafOk enc Try.prog W 0 (fun _ => true) true 22 c0_2 := by obtain ⟨_, hc, l⟩ := hok0 2 22 rfl; simp at hc; subst hc; exact l
  obtain ⟨aP_Rows, rfl, f_aP_Rows⟩ := LeafOk.int Try.underlying2 l0_0
  obtain ⟨aP_Cols, rfl, f_aP_Cols⟩ := LeafOk.int Try.underlying2 l0_1
  obtain ⟨aP_Pixels_a, aP_Pixels_n, aP_Pixels_c, aP_Pixels_z, rfl, h_aP_Pixels⟩ := LeafOk.ints Try.underlying22 Try.underlying2 (by kernel_rfl) l0_2
  have k1 := h1
  have lt1 : ∀ x ∈ p1, x.block < W.heap.size := by obtain ⟨m, hm⟩ := k1; exact DataW.trod_lt m _ _ _ hm
  have l1 : LeafOk enc Try.prog W 0 (fun _ => true) true 2 v1 := by obtain ⟨n, rfl⟩ := okWide_int Try.underlying2 (hval 1 2 v1 rfl rfl); obtain ⟨fuel, hf⟩ := h1; exact ⟨fuel, _, hf⟩
  obtain ⟨aRows, rfl, f_aRows⟩ := LeafOk.int Try.underlying2 l1
  have k2 := h2
  have lt2 : ∀ x ∈ p2, x.block < W.heap.size := by obtain ⟨m, hm⟩ := k2; exact DataW.trod_lt m _ _ _ hm
  have l2 : LeafOk enc Try.prog W 0 (fun _ => true) true 2 v2 := by obtain ⟨n, rfl⟩ := okWide_int Try.underlying2 (hval 2 2 v2 rfl rfl); obtain ⟨fuel, hf⟩ := h2; exact ⟨fuel, _, hf⟩
  obtain ⟨aCols, rfl, f_aCols⟩ := LeafOk.int Try.underlying2 l2
  have k3 := h3
  have lt3 : ∀ x ∈ p3, x.block < W.heap.size := by obtain ⟨m, hm⟩ := k3; exact DataW.trod_lt m _ _ _ hm
  obtain ⟨cs3, hv3, hlen3, hok3⟩ := open_leaves Try.underlying26 (f := 6) (ts := [2, 2, 2, 2, 2, 2]) (by kernel_rfl) (by kernel_rfl) (hval 3 26 v3 rfl rfl) h3
  obtain ⟨c3_0, c3_1, c3_2, c3_3, c3_4, c3_5, rfl⟩ : ∃ c3_0 c3_1 c3_2 c3_3 c3_4 c3_5 : Value, cs3 = [c3_0, c3_1, c3_2, c3_3, c3_4, c3_5] := by match cs3, hlen3 with | [c3_0, c3_1, c3_2, c3_3, c3_4, c3_5], _ => exact ⟨c3_0, c3_1, c3_2, c3_3, c3_4, c3_5, rfl⟩
  subst hv3
  have l3_0 : LeafOk enc Try.prog W 0 (fun _ => true) true 2 c3_0 := by obtain ⟨_, hc, l⟩ := hok3 0 2 rfl; simp at hc; subst hc; exact l
  have l3_1 : LeafOk enc Try.prog W 0 (fun _ => true) true 2 c3_1 := by obtain ⟨_, hc, l⟩ := hok3 1 2 rfl; simp at hc; subst hc; exact l
  have l3_2 : LeafOk enc Try.prog W 0 (fun _ => true) true 2 c3_2 := by obtain ⟨_, hc, l⟩ := hok3 2 2 rfl; simp at hc; subst hc; exact l
  have l3_3 : LeafOk enc Try.prog W 0 (fun _ => true) true 2 c3_3 := by obtain ⟨_, hc, l⟩ := hok3 3 2 rfl; simp at hc; subst hc; exact l
  have l3_4 : LeafOk enc Try.prog W 0 (fun _ => true) true 2 c3_4 := by obtain ⟨_, hc, l⟩ := hok3 4 2 rfl; simp at hc; subst hc; exact l
  have l3_5 : LeafOk enc Try.prog W 0 (fun _ => true) true 2 c3_5 := by obtain ⟨_, hc, l⟩ := hok3 5 2 rfl; simp at hc; subst hc; exact l
  obtain ⟨aX_Pitch, rfl, f_aX_Pitch⟩ := LeafOk.int Try.underlying2 l3_0
  obtain ⟨aX_Tall, rfl, f_aX_Tall⟩ := LeafOk.int Try.underlying2 l3_1
  obtain ⟨aX_Quiet, rfl, f_aX_Quiet⟩ := LeafOk.int Try.underlying2 l3_2
  obtain ⟨aX_Bleed, rfl, f_aX_Bleed⟩ := LeafOk.int Try.underlying2 l3_3
  obtain ⟨aX_Dark, rfl, f_aX_Dark⟩ := LeafOk.int Try.underlying2 l3_4
  obtain ⟨aX_Light, rfl, f_aX_Light⟩ := LeafOk.int Try.underlying2 l3_5
  have k4 := h4
  have lt4 : ∀ x ∈ p4, x.block < W.heap.size := by obtain ⟨m, hm⟩ := k4; exact DataW.trod_lt m _ _ _ hm
  have l4 : LeafOk enc Try.prog W 0 (fun _ => true) true 2 v4 := by obtain ⟨n, rfl⟩ := okWide_int Try.underlying2 (hval 4 2 v4 rfl rfl); obtain ⟨fuel, hf⟩ := h4; exact ⟨fuel, _, hf⟩
  obtain ⟨aLimit, rfl, f_aLimit⟩ := LeafOk.int Try.underlying2 l4
  clear hA0 hval0
  refine (walk_FnExactSampleGrid aP_Rows aP_Cols aP_Pixels_a aP_Pixels_n aP_Pixels_c aP_Pixels_z aRows aCols aX_Pitch aX_Tall aX_Quiet aX_Bleed aX_Dark aX_Light aLimit W f_aP_Rows f_aP_Cols h_aP_Pixels f_aRows f_aCols f_aX_Pitch f_aX_Tall f_aX_Quiet f_aX_Bleed f_aX_Dark f_aX_Light f_aLimit).mono fun e W' ⟨he, bel⟩ => ?_
  subst he
  exact ⟨_, rfl, _, _, _, [], _, [], hW', trodAll_mk1 (shut_bool Try.underlying4 _), (trodAll_cons_mk (Below.trod laidOut (by kernel_rfl) (of_decide_eq_true (by kernel_rfl)) k0 bel lt0) (trodAll_cons_mk (Below.trod laidOut (by kernel_rfl) (of_decide_eq_true (by kernel_rfl)) k1 bel lt1) (trodAll_cons_mk (Below.trod laidOut (by kernel_rfl) (of_decide_eq_true (by kernel_rfl)) k2 bel lt2) (trodAll_cons_mk (Below.trod laidOut (by kernel_rfl) (of_decide_eq_true (by kernel_rfl)) k3 bel lt3) (trodAll_cons_mk (Below.trod laidOut (by kernel_rfl) (of_decide_eq_true (by kernel_rfl)) k4 bel lt4) trodAll_mk0))))), rfl, bel.frame _, fun h => by cases h⟩

theorem over : Rows.fnExactSampleGridRow.holds Try.pinned (OpenSpec.ofChange Rows.fnExactSampleGridSpec) :=
  OpenClaim.holds_of_wide 3 Try.f3 rfl rfl rfl rfl rfl rfl rfl ⟨rfl, rfl, rfl, rfl, rfl⟩ rfl rfl rfl rfl rfl (by kernel_rfl) Try.func3 (by kernel_rfl)
    (of_decide_eq_true (by kernel_rfl)) (by unfold Func.isWrapper; first | (rw [if_pos (by decide +kernel)]; kernel_rfl) | (rw [if_neg (by decide +kernel)]; exact ⟨rfl, rfl⟩))
    (fun os started H enc _ => lifted os started H enc)

theorem proved : Rows.FnExactSampleGridSaid := over
#print axioms proved
end Go.Proofs.Ytfiddbmjgncabaa.PFnExactSampleGrid
