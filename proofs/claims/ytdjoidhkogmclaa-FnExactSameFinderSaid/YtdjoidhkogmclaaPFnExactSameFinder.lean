/-
  FnExactSameFinder: for every input the law returns true, and each argument reads behind the call as it read before.
  No condition.
-/
import Derived.Test.YtdjoidhkogmclaaFind
namespace Go.Proofs.Ytdjoidhkogmclaa.PFnExactSameFinder
open Go.ChangeShapes Go.WideShapes Go.ChangeAt Go.RowKit
open Go.ChangeMaps (open_string)
set_option linter.unusedVariables false

set_option maxRecDepth 100000 in
theorem lifted (os : Os) (started : os.Started) (H : Type) (enc : TypeId × Value → H) :
    ReturnsInHanded {} Try.checked os 7 .any (Rows.fnExactSameFinderSpec.pre6 enc Try.prog Try.f7 Rows.fnExactSameFinderRow.domain false) (Rows.fnExactSameFinderSpec.post enc Try.prog Try.f7 false true false false) := by
  refine returnsInHanded_of_change (C := Try.checked) own started (by kernel_rfl) Try.func7
    (ChangeSpec.witness6 (enc := enc) (C := Try.checked) false ⟨#[], #[.agg #[.int .i64 0, .int .i64 0, .int .i64 0, .int .i64 0], .agg #[.int .i64 0, .int .i64 0, .int .i64 0, .int .i64 0]], []⟩ 12 (by kernel_rfl) (by kernel_rfl) (by kernel_rfl) (by kernel_rfl)) ?_
  intro W base args ds gs before hval0 hW hcnd _
  have hval : ∀ (j : Nat) t v, Try.f7.params[j]? = some t → args[j]? = some v → Value.okWide Try.prog W .any base t v := hval0
  have hW' := hW
  obtain ⟨p, q, hA0, hV, rfl, hfz, hnd⟩ := hW
  have hA : DataW.TrodAll enc Try.prog W 0 (fun _ => true) true Try.f7.params.toList args.toList ds p := hA0
  rw [Try.params7] at hA hval
  obtain ⟨v0, vs0, d0, ds0, p0, q0, hargs, rfl, rfl, h0, r0⟩ := trodAll_cons hA
  obtain ⟨v1, vs1, d1, ds1, p1, q1, rfl, rfl, rfl, h1, r1⟩ := trodAll_cons r0
  obtain ⟨rfl, rfl, rfl⟩ := trodAll_nil r1
  obtain rfl : args = #[v0, v1] := by cases args; simp_all
  obtain ⟨rfl, rfl⟩ := trodVars_none hV
  have k0 := h0
  have lt0 : ∀ x ∈ p0, x.block < W.heap.size := by obtain ⟨m, hm⟩ := k0; exact DataW.trod_lt m _ _ _ hm
  obtain ⟨cs0, hv0, hlen0, hok0⟩ := open_leaves Try.underlying41 (f := 6) (ts := [2, 2, 2, 2]) (by kernel_rfl) (by kernel_rfl) (hval 0 41 v0 rfl rfl) h0
  obtain ⟨c0_0, c0_1, c0_2, c0_3, rfl⟩ : ∃ c0_0 c0_1 c0_2 c0_3 : Value, cs0 = [c0_0, c0_1, c0_2, c0_3] := by match cs0, hlen0 with | [c0_0, c0_1, c0_2, c0_3], _ => exact ⟨c0_0, c0_1, c0_2, c0_3, rfl⟩
  subst hv0
  have l0_0 : LeafOk enc Try.prog W 0 (fun _ => true) true 2 c0_0 := by obtain ⟨_, hc, l⟩ := hok0 0 2 rfl; simp at hc; subst hc; exact l
  have l0_1 : LeafOk enc Try.prog W 0 (fun _ => true) true 2 c0_1 := by obtain ⟨_, hc, l⟩ := hok0 1 2 rfl; simp at hc; subst hc; exact l
  have l0_2 : LeafOk enc Try.prog W 0 (fun _ => true) true 2 c0_2 := by obtain ⟨_, hc, l⟩ := hok0 2 2 rfl; simp at hc; subst hc; exact l
  have l0_3 : LeafOk enc Try.prog W 0 (fun _ => true) true 2 c0_3 := by obtain ⟨_, hc, l⟩ := hok0 3 2 rfl; simp at hc; subst hc; exact l
  obtain ⟨aA_Row, rfl, f_aA_Row⟩ := LeafOk.int Try.underlying2 l0_0
  obtain ⟨aA_Col, rfl, f_aA_Col⟩ := LeafOk.int Try.underlying2 l0_1
  obtain ⟨aA_Height, rfl, f_aA_Height⟩ := LeafOk.int Try.underlying2 l0_2
  obtain ⟨aA_Width, rfl, f_aA_Width⟩ := LeafOk.int Try.underlying2 l0_3
  have k1 := h1
  have lt1 : ∀ x ∈ p1, x.block < W.heap.size := by obtain ⟨m, hm⟩ := k1; exact DataW.trod_lt m _ _ _ hm
  obtain ⟨cs1, hv1, hlen1, hok1⟩ := open_leaves Try.underlying41 (f := 6) (ts := [2, 2, 2, 2]) (by kernel_rfl) (by kernel_rfl) (hval 1 41 v1 rfl rfl) h1
  obtain ⟨c1_0, c1_1, c1_2, c1_3, rfl⟩ : ∃ c1_0 c1_1 c1_2 c1_3 : Value, cs1 = [c1_0, c1_1, c1_2, c1_3] := by match cs1, hlen1 with | [c1_0, c1_1, c1_2, c1_3], _ => exact ⟨c1_0, c1_1, c1_2, c1_3, rfl⟩
  subst hv1
  have l1_0 : LeafOk enc Try.prog W 0 (fun _ => true) true 2 c1_0 := by obtain ⟨_, hc, l⟩ := hok1 0 2 rfl; simp at hc; subst hc; exact l
  have l1_1 : LeafOk enc Try.prog W 0 (fun _ => true) true 2 c1_1 := by obtain ⟨_, hc, l⟩ := hok1 1 2 rfl; simp at hc; subst hc; exact l
  have l1_2 : LeafOk enc Try.prog W 0 (fun _ => true) true 2 c1_2 := by obtain ⟨_, hc, l⟩ := hok1 2 2 rfl; simp at hc; subst hc; exact l
  have l1_3 : LeafOk enc Try.prog W 0 (fun _ => true) true 2 c1_3 := by obtain ⟨_, hc, l⟩ := hok1 3 2 rfl; simp at hc; subst hc; exact l
  obtain ⟨aB_Row, rfl, f_aB_Row⟩ := LeafOk.int Try.underlying2 l1_0
  obtain ⟨aB_Col, rfl, f_aB_Col⟩ := LeafOk.int Try.underlying2 l1_1
  obtain ⟨aB_Height, rfl, f_aB_Height⟩ := LeafOk.int Try.underlying2 l1_2
  obtain ⟨aB_Width, rfl, f_aB_Width⟩ := LeafOk.int Try.underlying2 l1_3
  clear hA0 hval0
  refine (walk_FnExactSameFinder aA_Row aA_Col aA_Height aA_Width aB_Row aB_Col aB_Height aB_Width W f_aA_Row f_aA_Col f_aA_Height f_aA_Width f_aB_Row f_aB_Col f_aB_Height f_aB_Width).mono fun e W' ⟨he, bel⟩ => ?_
  subst he
  exact ⟨_, rfl, _, _, _, [], _, [], hW', trodAll_mk1 (shut_bool Try.underlying4 _), (trodAll_cons_mk (Below.trod laidOut (by kernel_rfl) (of_decide_eq_true (by kernel_rfl)) k0 bel lt0) (trodAll_cons_mk (Below.trod laidOut (by kernel_rfl) (of_decide_eq_true (by kernel_rfl)) k1 bel lt1) trodAll_mk0)), rfl, bel.frame _, fun h => by cases h⟩

theorem over : Rows.fnExactSameFinderRow.holds Try.pinned (OpenSpec.ofChange Rows.fnExactSameFinderSpec) :=
  OpenClaim.holds_of_wide 7 Try.f7 rfl rfl rfl rfl rfl rfl rfl ⟨rfl, rfl, rfl, rfl, rfl⟩ rfl rfl rfl rfl rfl (by kernel_rfl) Try.func7 (by kernel_rfl)
    (of_decide_eq_true (by kernel_rfl)) (by unfold Func.isWrapper; first | (rw [if_pos (by decide +kernel)]; kernel_rfl) | (rw [if_neg (by decide +kernel)]; exact ⟨rfl, rfl⟩))
    (fun os started H enc _ => lifted os started H enc)

theorem proved : Rows.FnExactSameFinderSaid := over
#print axioms proved
end Go.Proofs.Ytdjoidhkogmclaa.PFnExactSameFinder
