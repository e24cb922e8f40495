/-
  FnExactPrintSize: for every input the law returns true, and each argument reads behind the call as it read before.
  No condition.
-/
import Derived.Test.YtdjoidhkogmclaaBox
namespace Go.Proofs.Ytdjoidhkogmclaa.PFnExactPrintSize
open Go.ChangeShapes Go.WideShapes Go.ChangeAt Go.RowKit
open Go.ChangeMaps (open_string)
set_option linter.unusedVariables false

set_option maxRecDepth 100000 in
theorem lifted (os : Os) (started : os.Started) (H : Type) (enc : TypeId × Value → H) :
    ReturnsInHanded {} Try.checked os 11 .any (Rows.fnExactPrintSizeSpec.pre6 enc Try.prog Try.f11 Rows.fnExactPrintSizeRow.domain false) (Rows.fnExactPrintSizeSpec.post enc Try.prog Try.f11 false true false false) := by
  refine returnsInHanded_of_change (C := Try.checked) own started (by kernel_rfl) Try.func11
    (ChangeSpec.witness6 (enc := enc) (C := Try.checked) false ⟨#[], #[.int .i64 0, .int .i64 0, .agg #[.int .i64 0, .int .i64 0, .int .i64 0, .int .i64 0, .int .i64 0, .int .i64 0]], []⟩ 12 (by kernel_rfl) (by kernel_rfl) (by kernel_rfl) (by kernel_rfl)) ?_
  intro W base args ds gs before hval0 hW hcnd _
  have hval : ∀ (j : Nat) t v, Try.f11.params[j]? = some t → args[j]? = some v → Value.okWide Try.prog W .any base t v := hval0
  have hW' := hW
  obtain ⟨p, q, hA0, hV, rfl, hfz, hnd⟩ := hW
  have hA : DataW.TrodAll enc Try.prog W 0 (fun _ => true) true Try.f11.params.toList args.toList ds p := hA0
  rw [Try.params11] at hA hval
  obtain ⟨v0, vs0, d0, ds0, p0, q0, hargs, rfl, rfl, h0, r0⟩ := trodAll_cons hA
  obtain ⟨v1, vs1, d1, ds1, p1, q1, rfl, rfl, rfl, h1, r1⟩ := trodAll_cons r0
  obtain ⟨v2, vs2, d2, ds2, p2, q2, rfl, rfl, rfl, h2, r2⟩ := trodAll_cons r1
  obtain ⟨rfl, rfl, rfl⟩ := trodAll_nil r2
  obtain rfl : args = #[v0, v1, v2] := by cases args; simp_all
  obtain ⟨rfl, rfl⟩ := trodVars_none hV
  have k0 := h0
  have lt0 : ∀ x ∈ p0, x.block < W.heap.size := by obtain ⟨m, hm⟩ := k0; exact DataW.trod_lt m _ _ _ hm
  have l0 : LeafOk enc Try.prog W 0 (fun _ => true) true 2 v0 := by obtain ⟨n, rfl⟩ := okWide_int Try.underlying2 (hval 0 2 v0 rfl rfl); obtain ⟨fuel, hf⟩ := h0; exact ⟨fuel, _, hf⟩
  obtain ⟨aRows, rfl, f_aRows⟩ := LeafOk.int Try.underlying2 l0
  have k1 := h1
  have lt1 : ∀ x ∈ p1, x.block < W.heap.size := by obtain ⟨m, hm⟩ := k1; exact DataW.trod_lt m _ _ _ hm
  have l1 : LeafOk enc Try.prog W 0 (fun _ => true) true 2 v1 := by obtain ⟨n, rfl⟩ := okWide_int Try.underlying2 (hval 1 2 v1 rfl rfl); obtain ⟨fuel, hf⟩ := h1; exact ⟨fuel, _, hf⟩
  obtain ⟨aCols, rfl, f_aCols⟩ := LeafOk.int Try.underlying2 l1
  have k2 := h2
  have lt2 : ∀ x ∈ p2, x.block < W.heap.size := by obtain ⟨m, hm⟩ := k2; exact DataW.trod_lt m _ _ _ hm
  obtain ⟨cs2, hv2, hlen2, hok2⟩ := open_leaves Try.underlying32 (f := 6) (ts := [2, 2, 2, 2, 2, 2]) (by kernel_rfl) (by kernel_rfl) (hval 2 32 v2 rfl rfl) h2
  obtain ⟨c2_0, c2_1, c2_2, c2_3, c2_4, c2_5, rfl⟩ : ∃ c2_0 c2_1 c2_2 c2_3 c2_4 c2_5 : Value, cs2 = [c2_0, c2_1, c2_2, c2_3, c2_4, c2_5] := by match cs2, hlen2 with | [c2_0, c2_1, c2_2, c2_3, c2_4, c2_5], _ => exact ⟨c2_0, c2_1, c2_2, c2_3, c2_4, c2_5, rfl⟩
  subst hv2
  have l2_0 : LeafOk enc Try.prog W 0 (fun _ => true) true 2 c2_0 := by obtain ⟨_, hc, l⟩ := hok2 0 2 rfl; simp at hc; subst hc; exact l
  have l2_1 : LeafOk enc Try.prog W 0 (fun _ => true) true 2 c2_1 := by obtain ⟨_, hc, l⟩ := hok2 1 2 rfl; simp at hc; subst hc; exact l
  have l2_2 : LeafOk enc Try.prog W 0 (fun _ => true) true 2 c2_2 := by obtain ⟨_, hc, l⟩ := hok2 2 2 rfl; simp at hc; subst hc; exact l
  have l2_3 : LeafOk enc Try.prog W 0 (fun _ => true) true 2 c2_3 := by obtain ⟨_, hc, l⟩ := hok2 3 2 rfl; simp at hc; subst hc; exact l
  have l2_4 : LeafOk enc Try.prog W 0 (fun _ => true) true 2 c2_4 := by obtain ⟨_, hc, l⟩ := hok2 4 2 rfl; simp at hc; subst hc; exact l
  have l2_5 : LeafOk enc Try.prog W 0 (fun _ => true) true 2 c2_5 := by obtain ⟨_, hc, l⟩ := hok2 5 2 rfl; simp at hc; subst hc; exact l
  obtain ⟨aX_Pitch, rfl, f_aX_Pitch⟩ := LeafOk.int Try.underlying2 l2_0
  obtain ⟨aX_Tall, rfl, f_aX_Tall⟩ := LeafOk.int Try.underlying2 l2_1
  obtain ⟨aX_Quiet, rfl, f_aX_Quiet⟩ := LeafOk.int Try.underlying2 l2_2
  obtain ⟨aX_Bleed, rfl, f_aX_Bleed⟩ := LeafOk.int Try.underlying2 l2_3
  obtain ⟨aX_Dark, rfl, f_aX_Dark⟩ := LeafOk.int Try.underlying2 l2_4
  obtain ⟨aX_Light, rfl, f_aX_Light⟩ := LeafOk.int Try.underlying2 l2_5
  clear hA0 hval0
  refine (walk_FnExactPrintSize aRows aCols aX_Pitch aX_Tall aX_Quiet aX_Bleed aX_Dark aX_Light W f_aRows f_aCols f_aX_Pitch f_aX_Tall f_aX_Quiet f_aX_Bleed f_aX_Dark f_aX_Light).mono fun e W' ⟨he, bel⟩ => ?_
  subst he
  exact ⟨_, rfl, _, _, _, [], _, [], hW', trodAll_mk1 (shut_bool Try.underlying4 _), (trodAll_cons_mk (Below.trod laidOut (by kernel_rfl) (of_decide_eq_true (by kernel_rfl)) k0 bel lt0) (trodAll_cons_mk (Below.trod laidOut (by kernel_rfl) (of_decide_eq_true (by kernel_rfl)) k1 bel lt1) (trodAll_cons_mk (Below.trod laidOut (by kernel_rfl) (of_decide_eq_true (by kernel_rfl)) k2 bel lt2) trodAll_mk0))), rfl, bel.frame _, fun h => by cases h⟩

theorem over : Rows.fnExactPrintSizeRow.holds Try.pinned (OpenSpec.ofChange Rows.fnExactPrintSizeSpec) :=
  OpenClaim.holds_of_wide 11 Try.f11 rfl rfl rfl rfl rfl rfl rfl ⟨rfl, rfl, rfl, rfl, rfl⟩ rfl rfl rfl rfl rfl (by kernel_rfl) Try.func11 (by kernel_rfl)
    (of_decide_eq_true (by kernel_rfl)) (by unfold Func.isWrapper; first | (rw [if_pos (by decide +kernel)]; kernel_rfl) | (rw [if_neg (by decide +kernel)]; exact ⟨rfl, rfl⟩))
    (fun os started H enc _ => lifted os started H enc)

theorem proved : Rows.FnExactPrintSizeSaid := over
#print axioms proved
end Go.Proofs.Ytdjoidhkogmclaa.PFnExactPrintSize
