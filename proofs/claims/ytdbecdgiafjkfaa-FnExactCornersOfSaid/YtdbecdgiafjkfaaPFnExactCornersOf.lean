/-
  FnExactCornersOf: for every input the law returns true, and each argument reads behind the call as it read before.
  No condition.
-/
import Derived.Test.YtdbecdgiafjkfaaWCorners
namespace Go.Proofs.Ytdbecdgiafjkfaa.PFnExactCornersOf
open Go.ChangeShapes Go.WideShapes Go.ChangeAt Go.RowKit
open Go.ChangeMaps (open_string)
set_option linter.unusedVariables false

set_option maxRecDepth 100000 in
theorem lifted (os : Os) (started : os.Started) (H : Type) (enc : TypeId × Value → H) :
    ReturnsInHanded {} Try.checked os 5 .any (Rows.fnExactCornersOfSpec.pre6 enc Try.prog Try.f5 Rows.fnExactCornersOfRow.domain false) (Rows.fnExactCornersOfSpec.post enc Try.prog Try.f5 false true false false) := by
  refine returnsInHanded_of_change (C := Try.checked) own started (by kernel_rfl) Try.func5
    (ChangeSpec.witness6 (enc := enc) (C := Try.checked) false ⟨#[], #[.agg #[.int .i64 0, .int .i64 0], .agg #[.int .i64 0, .int .i64 0], .agg #[.int .i64 0, .int .i64 0], .int .i64 0], []⟩ 12 (by kernel_rfl) (by kernel_rfl) (by kernel_rfl) (by kernel_rfl)) ?_
  intro W base args ds gs before hval0 hW hcnd _
  have hval : ∀ (j : Nat) t v, Try.f5.params[j]? = some t → args[j]? = some v → Value.okWide Try.prog W .any base t v := hval0
  have hW' := hW
  obtain ⟨p, q, hA0, hV, rfl, hfz, hnd⟩ := hW
  have hA : DataW.TrodAll enc Try.prog W 0 (fun _ => true) true Try.f5.params.toList args.toList ds p := hA0
  rw [Try.params5] at hA hval
  obtain ⟨v0, vs0, d0, ds0, p0, q0, hargs, rfl, rfl, h0, r0⟩ := trodAll_cons hA
  obtain ⟨v1, vs1, d1, ds1, p1, q1, rfl, rfl, rfl, h1, r1⟩ := trodAll_cons r0
  obtain ⟨v2, vs2, d2, ds2, p2, q2, rfl, rfl, rfl, h2, r2⟩ := trodAll_cons r1
  obtain ⟨v3, vs3, d3, ds3, p3, q3, rfl, rfl, rfl, h3, r3⟩ := trodAll_cons r2
  obtain ⟨rfl, rfl, rfl⟩ := trodAll_nil r3
  obtain rfl : args = #[v0, v1, v2, v3] := by cases args; simp_all
  obtain ⟨rfl, rfl⟩ := trodVars_none hV
  have k0 := h0
  have lt0 : ∀ x ∈ p0, x.block < W.heap.size := by obtain ⟨m, hm⟩ := k0; exact DataW.trod_lt m _ _ _ hm
  obtain ⟨cs0, hv0, hlen0, hok0⟩ := open_leaves Try.underlying34 (f := 6) (ts := [2, 2]) (by kernel_rfl) (by kernel_rfl) (hval 0 34 v0 rfl rfl) h0
  obtain ⟨c0_0, c0_1, rfl⟩ : ∃ c0_0 c0_1 : Value, cs0 = [c0_0, c0_1] := by match cs0, hlen0 with | [c0_0, c0_1], _ => exact ⟨c0_0, c0_1, rfl⟩
  subst hv0
  have l0_0 : LeafOk enc Try.prog W 0 (fun _ => true) true 2 c0_0 := by obtain ⟨_, hc, l⟩ := hok0 0 2 rfl; simp at hc; subst hc; exact l
  have l0_1 : LeafOk enc Try.prog W 0 (fun _ => true) true 2 c0_1 := by obtain ⟨_, hc, l⟩ := hok0 1 2 rfl; simp at hc; subst hc; exact l
  obtain ⟨aA_X, rfl, f_aA_X⟩ := LeafOk.int Try.underlying2 l0_0
  obtain ⟨aA_Y, rfl, f_aA_Y⟩ := LeafOk.int Try.underlying2 l0_1
  have k1 := h1
  have lt1 : ∀ x ∈ p1, x.block < W.heap.size := by obtain ⟨m, hm⟩ := k1; exact DataW.trod_lt m _ _ _ hm
  obtain ⟨cs1, hv1, hlen1, hok1⟩ := open_leaves Try.underlying34 (f := 6) (ts := [2, 2]) (by kernel_rfl) (by kernel_rfl) (hval 1 34 v1 rfl rfl) h1
  obtain ⟨c1_0, c1_1, rfl⟩ : ∃ c1_0 c1_1 : Value, cs1 = [c1_0, c1_1] := by match cs1, hlen1 with | [c1_0, c1_1], _ => exact ⟨c1_0, c1_1, rfl⟩
  subst hv1
  have l1_0 : LeafOk enc Try.prog W 0 (fun _ => true) true 2 c1_0 := by obtain ⟨_, hc, l⟩ := hok1 0 2 rfl; simp at hc; subst hc; exact l
  have l1_1 : LeafOk enc Try.prog W 0 (fun _ => true) true 2 c1_1 := by obtain ⟨_, hc, l⟩ := hok1 1 2 rfl; simp at hc; subst hc; exact l
  obtain ⟨aB_X, rfl, f_aB_X⟩ := LeafOk.int Try.underlying2 l1_0
  obtain ⟨aB_Y, rfl, f_aB_Y⟩ := LeafOk.int Try.underlying2 l1_1
  have k2 := h2
  have lt2 : ∀ x ∈ p2, x.block < W.heap.size := by obtain ⟨m, hm⟩ := k2; exact DataW.trod_lt m _ _ _ hm
  obtain ⟨cs2, hv2, hlen2, hok2⟩ := open_leaves Try.underlying34 (f := 6) (ts := [2, 2]) (by kernel_rfl) (by kernel_rfl) (hval 2 34 v2 rfl rfl) h2
  obtain ⟨c2_0, c2_1, rfl⟩ : ∃ c2_0 c2_1 : Value, cs2 = [c2_0, c2_1] := by match cs2, hlen2 with | [c2_0, c2_1], _ => exact ⟨c2_0, c2_1, rfl⟩
  subst hv2
  have l2_0 : LeafOk enc Try.prog W 0 (fun _ => true) true 2 c2_0 := by obtain ⟨_, hc, l⟩ := hok2 0 2 rfl; simp at hc; subst hc; exact l
  have l2_1 : LeafOk enc Try.prog W 0 (fun _ => true) true 2 c2_1 := by obtain ⟨_, hc, l⟩ := hok2 1 2 rfl; simp at hc; subst hc; exact l
  obtain ⟨aC_X, rfl, f_aC_X⟩ := LeafOk.int Try.underlying2 l2_0
  obtain ⟨aC_Y, rfl, f_aC_Y⟩ := LeafOk.int Try.underlying2 l2_1
  have k3 := h3
  have lt3 : ∀ x ∈ p3, x.block < W.heap.size := by obtain ⟨m, hm⟩ := k3; exact DataW.trod_lt m _ _ _ hm
  have l3 : LeafOk enc Try.prog W 0 (fun _ => true) true 2 v3 := by obtain ⟨n, rfl⟩ := okWide_int Try.underlying2 (hval 3 2 v3 rfl rfl); obtain ⟨fuel, hf⟩ := h3; exact ⟨fuel, _, hf⟩
  obtain ⟨aN, rfl, f_aN⟩ := LeafOk.int Try.underlying2 l3
  clear hA0 hval0
  refine (walk_FnExactCornersOf aA_X aA_Y aB_X aB_Y aC_X aC_Y aN W f_aA_X f_aA_Y f_aB_X f_aB_Y f_aC_X f_aC_Y f_aN).mono fun e W' ⟨he, bel⟩ => ?_
  subst he
  exact ⟨_, rfl, _, _, _, [], _, [], hW', trodAll_mk1 (shut_bool Try.underlying4 _), (trodAll_cons_mk (Below.trod laidOut (by kernel_rfl) (of_decide_eq_true (by kernel_rfl)) k0 bel lt0) (trodAll_cons_mk (Below.trod laidOut (by kernel_rfl) (of_decide_eq_true (by kernel_rfl)) k1 bel lt1) (trodAll_cons_mk (Below.trod laidOut (by kernel_rfl) (of_decide_eq_true (by kernel_rfl)) k2 bel lt2) (trodAll_cons_mk (Below.trod laidOut (by kernel_rfl) (of_decide_eq_true (by kernel_rfl)) k3 bel lt3) trodAll_mk0)))), rfl, bel.frame _, fun h => by cases h⟩

theorem over : Rows.fnExactCornersOfRow.holds Try.pinned (OpenSpec.ofChange Rows.fnExactCornersOfSpec) :=
  OpenClaim.holds_of_wide 5 Try.f5 rfl rfl rfl rfl rfl rfl rfl ⟨rfl, rfl, rfl, rfl, rfl⟩ rfl rfl rfl rfl rfl (by kernel_rfl) Try.func5 (by kernel_rfl)
    (of_decide_eq_true (by kernel_rfl)) (by unfold Func.isWrapper; first | (rw [if_pos (by decide +kernel)]; kernel_rfl) | (rw [if_neg (by decide +kernel)]; exact ⟨rfl, rfl⟩))
    (fun os started H enc _ => lifted os started H enc)

theorem proved : Rows.FnExactCornersOfSaid := over
#print axioms proved
end Go.Proofs.Ytdbecdgiafjkfaa.PFnExactCornersOf
