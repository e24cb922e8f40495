/-
  FnExactIsLayout: for every input the law returns true, and each argument reads behind the call as it read before.
  No condition.
-/
import Derived.Test.YtdpifddmhbeklaaLayQ
namespace Go.Proofs.Ytdpifddmhbeklaa.PFnExactIsLayout
open Go.ChangeShapes Go.WideShapes Go.ChangeAt Go.RowKit
open Go.ChangeMaps (open_string)
set_option linter.unusedVariables false

set_option maxRecDepth 100000 in
theorem lifted (os : Os) (started : os.Started) (H : Type) (enc : TypeId × Value → H) :
    ReturnsInHanded {} Try.checked os 3 .any (Rows.fnExactIsLayoutSpec.pre6 enc Try.prog Try.f3 Rows.fnExactIsLayoutRow.domain false) (Rows.fnExactIsLayoutSpec.post enc Try.prog Try.f3 false true false false) := by
  refine returnsInHanded_of_change (C := Try.checked) own started (by kernel_rfl) Try.func3
    (ChangeSpec.witness6 (enc := enc) (C := Try.checked) false ⟨#[], #[.agg #[.int .i64 0, .int .i64 0, .int .i64 0, .int .i64 0, .int .i64 0, .int .i64 0]], []⟩ 12 (by kernel_rfl) (by kernel_rfl) (by kernel_rfl) (by kernel_rfl)) ?_
  intro W base args ds gs before hval0 hW hcnd _
  have hval : ∀ (j : Nat) t v, Try.f3.params[j]? = some t → args[j]? = some v → Value.okWide Try.prog W .any base t v := hval0
  have hW' := hW
  obtain ⟨p, q, hA0, hV, rfl, hfz, hnd⟩ := hW
  have hA : DataW.TrodAll enc Try.prog W 0 (fun _ => true) true Try.f3.params.toList args.toList ds p := hA0
  rw [Try.params3] at hA hval
  obtain ⟨v0, vs0, d0, ds0, p0, q0, hargs, rfl, rfl, h0, r0⟩ := trodAll_cons hA
  obtain ⟨rfl, rfl, rfl⟩ := trodAll_nil r0
  obtain rfl : args = #[v0] := by cases args; simp_all
  obtain ⟨rfl, rfl⟩ := trodVars_none hV
  have k0 := h0
  have lt0 : ∀ x ∈ p0, x.block < W.heap.size := by obtain ⟨m, hm⟩ := k0; exact DataW.trod_lt m _ _ _ hm
  obtain ⟨cs0, hv0, hlen0, hok0⟩ := open_leaves Try.underlying25 (f := 6) (ts := [2, 2, 2, 2, 2, 2]) (by kernel_rfl) (by kernel_rfl) (hval 0 25 v0 rfl rfl) h0
  obtain ⟨c0_0, c0_1, c0_2, c0_3, c0_4, c0_5, rfl⟩ : ∃ c0_0 c0_1 c0_2 c0_3 c0_4 c0_5 : Value, cs0 = [c0_0, c0_1, c0_2, c0_3, c0_4, c0_5] := by match cs0, hlen0 with | [c0_0, c0_1, c0_2, c0_3, c0_4, c0_5], _ => exact ⟨c0_0, c0_1, c0_2, c0_3, c0_4, c0_5, rfl⟩
  subst hv0
  have l0_0 : LeafOk enc Try.prog W 0 (fun _ => true) true 2 c0_0 := by obtain ⟨_, hc, l⟩ := hok0 0 2 rfl; simp at hc; subst hc; exact l
  have l0_1 : LeafOk enc Try.prog W 0 (fun _ => true) true 2 c0_1 := by obtain ⟨_, hc, l⟩ := hok0 1 2 rfl; simp at hc; subst hc; exact l
  have l0_2 : LeafOk enc Try.prog W 0 (fun _ => true) true 2 c0_2 := by obtain ⟨_, hc, l⟩ := hok0 2 2 rfl; simp at hc; subst hc; exact l
  have l0_3 : LeafOk enc Try.prog W 0 (fun _ => true) true 2 c0_3 := by obtain ⟨_, hc, l⟩ := hok0 3 2 rfl; simp at hc; subst hc; exact l
  have l0_4 : LeafOk enc Try.prog W 0 (fun _ => true) true 2 c0_4 := by obtain ⟨_, hc, l⟩ := hok0 4 2 rfl; simp at hc; subst hc; exact l
  have l0_5 : LeafOk enc Try.prog W 0 (fun _ => true) true 2 c0_5 := by obtain ⟨_, hc, l⟩ := hok0 5 2 rfl; simp at hc; subst hc; exact l
  obtain ⟨aL_Field_Prime, rfl, f_aL_Field_Prime⟩ := LeafOk.int Try.underlying2 l0_0
  obtain ⟨aL_Field_Power, rfl, f_aL_Field_Power⟩ := LeafOk.int Try.underlying2 l0_1
  obtain ⟨aL_Field_Poly, rfl, f_aL_Field_Poly⟩ := LeafOk.int Try.underlying2 l0_2
  obtain ⟨aL_Data, rfl, f_aL_Data⟩ := LeafOk.int Try.underlying2 l0_3
  obtain ⟨aL_Checks, rfl, f_aL_Checks⟩ := LeafOk.int Try.underlying2 l0_4
  obtain ⟨aL_Count, rfl, f_aL_Count⟩ := LeafOk.int Try.underlying2 l0_5
  clear hA0 hval0
  refine (walk_FnExactIsLayout aL_Field_Prime aL_Field_Power aL_Field_Poly aL_Data aL_Checks aL_Count W f_aL_Field_Prime f_aL_Field_Power f_aL_Field_Poly f_aL_Data f_aL_Checks f_aL_Count).mono fun e W' ⟨he, bel⟩ => ?_
  subst he
  exact ⟨_, rfl, _, _, _, [], _, [], hW', trodAll_mk1 (shut_bool Try.underlying4 _), (trodAll_cons_mk (Below.trod laidOut (by kernel_rfl) (of_decide_eq_true (by kernel_rfl)) k0 bel lt0) trodAll_mk0), rfl, bel.frame _, fun h => by cases h⟩

theorem over : Rows.fnExactIsLayoutRow.holds Try.pinned (OpenSpec.ofChange Rows.fnExactIsLayoutSpec) :=
  OpenClaim.holds_of_wide 3 Try.f3 rfl rfl rfl rfl rfl rfl rfl ⟨rfl, rfl, rfl, rfl, rfl⟩ rfl rfl rfl rfl rfl (by kernel_rfl) Try.func3 (by kernel_rfl)
    (of_decide_eq_true (by kernel_rfl)) (by unfold Func.isWrapper; first | (rw [if_pos (by decide +kernel)]; kernel_rfl) | (rw [if_neg (by decide +kernel)]; exact ⟨rfl, rfl⟩))
    (fun os started H enc _ => lifted os started H enc)

theorem proved : Rows.FnExactIsLayoutSaid := over
#print axioms proved
end Go.Proofs.Ytdpifddmhbeklaa.PFnExactIsLayout
