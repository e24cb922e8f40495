/-
  FnExactFindersOf: for every input the law returns true, and each argument reads behind the call as it read before.
  No condition.
-/
import Derived.Test.YtcpicgcdefnhaaaWFinds
namespace Go.Proofs.Ytcpicgcdefnhaaa.PFnExactFindersOf
open Go.ChangeShapes Go.WideShapes Go.ChangeAt Go.RowKit
open Go.ChangeMaps (open_string)
set_option linter.unusedVariables false

set_option maxRecDepth 100000 in
theorem lifted (os : Os) (started : os.Started) (H : Type) (enc : TypeId × Value → H) :
    ReturnsInHanded {} Try.checked os 4 .any (Rows.fnExactFindersOfSpec.pre6 enc Try.prog Try.f4 Rows.fnExactFindersOfRow.domain false) (Rows.fnExactFindersOfSpec.post enc Try.prog Try.f4 false true false false) := by
  refine returnsInHanded_of_change (C := Try.checked) own started (by kernel_rfl) Try.func4
    (ChangeSpec.witness6 (enc := enc) (C := Try.checked) false ⟨#[], #[.agg #[.int .i64 0, .int .i64 0, .slice none 0 0]], []⟩ 12 (by kernel_rfl) (by kernel_rfl) (by kernel_rfl) (by kernel_rfl)) ?_
  intro W base args ds gs before hval0 hW hcnd _
  have hval : ∀ (j : Nat) t v, Try.f4.params[j]? = some t → args[j]? = some v → Value.okWide Try.prog W .any base t v := hval0
  have hW' := hW
  obtain ⟨p, q, hA0, hV, rfl, hfz, hnd⟩ := hW
  have hA : DataW.TrodAll enc Try.prog W 0 (fun _ => true) true Try.f4.params.toList args.toList ds p := hA0
  rw [Try.params4] at hA hval
  obtain ⟨v0, vs0, d0, ds0, p0, q0, hargs, rfl, rfl, h0, r0⟩ := trodAll_cons hA
  obtain ⟨rfl, rfl, rfl⟩ := trodAll_nil r0
  obtain rfl : args = #[v0] := by cases args; simp_all
  obtain ⟨rfl, rfl⟩ := trodVars_none hV
  have k0 := h0
  have lt0 : ∀ x ∈ p0, x.block < W.heap.size := by obtain ⟨m, hm⟩ := k0; exact DataW.trod_lt m _ _ _ hm
  obtain ⟨cs0, hv0, hlen0, hok0⟩ := open_leaves Try.underlying24 (f := 6) (ts := [2, 2, 22]) (by kernel_rfl) (by kernel_rfl) (hval 0 24 v0 rfl rfl) h0
  obtain ⟨c0_0, c0_1, c0_2, rfl⟩ : ∃ c0_0 c0_1 c0_2 : Value, cs0 = [c0_0, c0_1, c0_2] := by match cs0, hlen0 with | [c0_0, c0_1, c0_2], _ => exact ⟨c0_0, c0_1, c0_2, rfl⟩
  subst hv0
  have l0_0 : LeafOk enc Try.prog W 0 (fun _ => true) true 2 c0_0 := by obtain ⟨_, hc, l⟩ := hok0 0 2 rfl; simp at hc; subst hc; exact l
  have l0_1 : LeafOk enc Try.prog W 0 (fun _ => true) true 2 c0_1 := by obtain ⟨_, hc, l⟩ := hok0 1 2 rfl; simp at hc; subst hc; exact l
  have l0_2 : LeafOk enc Try.prog W 0 (fun _ => true) true 22 c0_2 := by obtain ⟨_, hc, l⟩ := hok0 2 22 rfl; simp at hc; subst hc; exact l
  obtain ⟨aG_Rows, rfl, f_aG_Rows⟩ := LeafOk.int Try.underlying2 l0_0
  obtain ⟨aG_Cols, rfl, f_aG_Cols⟩ := LeafOk.int Try.underlying2 l0_1
  obtain ⟨aG_Cells_a, aG_Cells_n, aG_Cells_c, aG_Cells_z, rfl, h_aG_Cells⟩ := LeafOk.ints Try.underlying22 Try.underlying2 (by kernel_rfl) l0_2
  clear hA0 hval0
  refine (walk_FnExactFindersOf aG_Rows aG_Cols aG_Cells_a aG_Cells_n aG_Cells_c aG_Cells_z W f_aG_Rows f_aG_Cols h_aG_Cells).mono fun e W' ⟨he, bel⟩ => ?_
  subst he
  exact ⟨_, rfl, _, _, _, [], _, [], hW', trodAll_mk1 (shut_bool Try.underlying4 _), (trodAll_cons_mk (Below.trod laidOut (by kernel_rfl) (of_decide_eq_true (by kernel_rfl)) k0 bel lt0) trodAll_mk0), rfl, bel.frame _, fun h => by cases h⟩

theorem over : Rows.fnExactFindersOfRow.holds Try.pinned (OpenSpec.ofChange Rows.fnExactFindersOfSpec) :=
  OpenClaim.holds_of_wide 4 Try.f4 rfl rfl rfl rfl rfl rfl rfl ⟨rfl, rfl, rfl, rfl, rfl⟩ rfl rfl rfl rfl rfl (by kernel_rfl) Try.func4 (by kernel_rfl)
    (of_decide_eq_true (by kernel_rfl)) (by unfold Func.isWrapper; first | (rw [if_pos (by decide +kernel)]; kernel_rfl) | (rw [if_neg (by decide +kernel)]; exact ⟨rfl, rfl⟩))
    (fun os started H enc _ => lifted os started H enc)

theorem proved : Rows.FnExactFindersOfSaid := over
#print axioms proved
end Go.Proofs.Ytcpicgcdefnhaaa.PFnExactFindersOf
