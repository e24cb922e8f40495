/-
  DERIVED. SameFinder: contracts and law.
-/
import Derived.Test.YtdjoidhkogmclaaNum
namespace Go.Proofs.Ytdjoidhkogmclaa
open Go.RowKit
set_option linter.unusedVariables false

theorem and8 (a b c d e f g h : Bool) : a = false ∨ (a = true ∧ b = false) ∨ (a = true ∧ b = true ∧ c = false) ∨ (a = true ∧ b = true ∧ c = true ∧ d = false) ∨ (a = true ∧ b = true ∧ c = true ∧ d = true ∧ e = false) ∨
    (a = true ∧ b = true ∧ c = true ∧ d = true ∧ e = true ∧ f = false) ∨ (a = true ∧ b = true ∧ c = true ∧ d = true ∧ e = true ∧ f = true ∧ g = false) ∨ (a = true ∧ b = true ∧ c = true ∧ d = true ∧ e = true ∧ f = true ∧ g = true ∧ h = false) ∨
    (a = true ∧ b = true ∧ c = true ∧ d = true ∧ e = true ∧ f = true ∧ g = true ∧ h = true) := by
  cases a <;> cases b <;> cases c <;> cases d <;> cases e <;> cases f <;> cases g <;> cases h <;> simp

def fitB (n : Int) : Bool := inB n 0 80000
def closeB (a0 a1 b0 b1 b2 b3 : Int) : Bool := inB (a0 - b0) (-((b2 + b3) / 2)) ((b2 + b3) / 2) && inB (a1 - b1) (-((b2 + b3) / 2)) ((b2 + b3) / 2)
def sameB (a0 a1 a2 a3 b0 b1 b2 b3 : Int) : Bool := fitB a0 && (fitB a1 && (fitB a2 && (fitB a3 && (fitB b0 && (fitB b1 && (fitB b2 && (fitB b3 && closeB a0 a1 b0 b1 b2 b3)))))))
theorem fitB_eq (n : Int) : fitB n = inB n 0 80000 := rfl
set_option maxRecDepth 10000 in
set_option maxHeartbeats 4000000 in
theorem sSame (a0 a1 a2 a3 b0 b1 b2 b3 : Int) (w : World) : Calls Try.prog 26 #[.agg #[.int .i64 a0, .int .i64 a1, .int .i64 a2, .int .i64 a3], .agg #[.int .i64 b0, .int .i64 b1, .int .i64 b2, .int .i64 b3]] w
    fun e w' => e = .returned (.bool (sameB a0 a1 a2 a3 b0 b1 b2 b3)) ∧ Below w.heap.size w w' := by
  rcases and8 (inB a0 0 80000) (inB a1 0 80000) (inB a2 0 80000) (inB a3 0 80000) (inB b0 0 80000) (inB b1 0 80000) (inB b2 0 80000) (inB b3 0 80000) with h1 | ⟨h1, h2⟩ | ⟨h1, h2, h3⟩ | ⟨h1, h2, h3, h4⟩ | ⟨h1, h2, h3, h4, h5⟩ | ⟨h1, h2, h3, h4, h5, h6⟩ | ⟨h1, h2, h3, h4, h5, h6, h7⟩ | ⟨h1, h2, h3, h4, h5, h6, h7, h8⟩ | ⟨h1, h2, h3, h4, h5, h6, h7, h8⟩
  rotate_right
  · obtain ⟨_, _⟩ := inB_iff.1 h1
    obtain ⟨_, _⟩ := inB_iff.1 h2
    obtain ⟨_, _⟩ := inB_iff.1 h5
    obtain ⟨_, _⟩ := inB_iff.1 h6
    obtain ⟨_, _⟩ := inB_iff.1 h7
    obtain ⟨_, _⟩ := inB_iff.1 h8
    cases h9 : inB (a0 - b0) (-((b2 + b3) / 2)) ((b2 + b3) / 2)
    all_goals
      go_enter Try.func26, Try.ntmps26
      go_wp2_with (go_at_call 48; refine (sIn _ _ _ _).mono ?_; rintro e w' ⟨rfl, rfl⟩)
      refine wp_loop_rounds 9 ?_
      repeat any_goals (rw [rounds_succ]; go_wp2_with (go_at_call 48; refine (sIn _ _ _ _).mono ?_; rintro e w' ⟨rfl, rfl⟩))
      go_returns
      exact ⟨ret_bool (by simp [sameB, fitB, closeB, *]), by repeat' (first | (with_reducible exact Below.refl _ _) | (with_reducible assumption) | (with_reducible refine Below.alloc ?_ ?_ _) | (with_reducible refine Below.setCell ?_ ?_ _) | (with_reducible refine Below.drew ?_) | (with_reducible refine below_drewN ?_ _) | (with_reducible refine below_via (by with_reducible assumption) ?_ ?_) | go_size)⟩
  all_goals
    go_enter Try.func26, Try.ntmps26
    go_wp2_with (go_at_call 48; refine (sIn _ _ _ _).mono ?_; rintro e w' ⟨rfl, rfl⟩)
    refine wp_loop_rounds 9 ?_
    repeat any_goals (rw [rounds_succ]; go_wp2_with (go_at_call 48; refine (sIn _ _ _ _).mono ?_; rintro e w' ⟨rfl, rfl⟩))
    go_returns
    exact ⟨ret_bool (by simp [sameB, fitB, *]), by repeat' (first | (with_reducible exact Below.refl _ _) | (with_reducible assumption) | (with_reducible refine Below.alloc ?_ ?_ _) | (with_reducible refine Below.setCell ?_ ?_ _) | (with_reducible refine Below.drew ?_) | (with_reducible refine below_drewN ?_ _) | (with_reducible refine below_via (by with_reducible assumption) ?_ ?_) | go_size)⟩
set_option maxHeartbeats 400000 in
theorem toFinder (a b c d : Int) (w : World) : Calls Try.prog 27 #[.agg #[.int .i64 a, .int .i64 b, .int .i64 c, .int .i64 d]] w fun e w' => e = .returned (.agg #[.int .i64 a, .int .i64 b, .int .i64 c, .int .i64 d]) ∧ Below w.heap.size w w' := by
  go_enter Try.func27, Try.ntmps27
  go_wp2
  go_returns
  exact ⟨rfl, by repeat' (first | (with_reducible exact Below.refl _ _) | (with_reducible assumption) | (with_reducible refine Below.alloc ?_ ?_ _) | (with_reducible refine Below.setCell ?_ ?_ _) | (with_reducible refine Below.drew ?_) | (with_reducible refine below_drewN ?_ _) | (with_reducible refine below_via (by with_reducible assumption) ?_ ?_) | go_size)⟩
def distV (n : Int) : Int := max n (-n)
set_option maxHeartbeats 400000 in
theorem iDist (n : Int) (w : World) (h1 : -9223372036854775807 ≤ n) (h2 : n ≤ 9223372036854775807) : Calls Try.prog 67 #[.int .i64 n] w fun e w' => e = .returned (.int .i64 (distV n)) ∧ w = w' := by
  go_enter Try.func67, Try.ntmps67
  go_wp2
  all_goals
    go_ret
    exact ⟨ret_int (by unfold distV; omega), rfl⟩
set_option maxHeartbeats 1000000 in
theorem iNear (a0 a1 a2 a3 b0 b1 b2 b3 : Int) (w : World) (h1 : inB a0 0 80000 = true) (h2 : inB a1 0 80000 = true) (h3 : inB b0 0 80000 = true) (h4 : inB b1 0 80000 = true) (h5 : inB b2 0 80000 = true) (h6 : inB b3 0 80000 = true) :
    Calls Try.prog 51 #[.agg #[.int .i64 a0, .int .i64 a1, .int .i64 a2, .int .i64 a3], .agg #[.int .i64 b0, .int .i64 b1, .int .i64 b2, .int .i64 b3]] w
    fun e w' => e = .returned (.bool (closeB a0 a1 b0 b1 b2 b3)) ∧ Below w.heap.size w w' := by
  obtain ⟨_, _⟩ := inB_iff.1 h1
  obtain ⟨_, _⟩ := inB_iff.1 h2
  obtain ⟨_, _⟩ := inB_iff.1 h3
  obtain ⟨_, _⟩ := inB_iff.1 h4
  obtain ⟨_, _⟩ := inB_iff.1 h5
  obtain ⟨_, _⟩ := inB_iff.1 h6
  clear h1 h2 h3 h4 h5 h6
  have HF : Hid (∀ x r : Int, decide (distV x ≤ r) = inB x (-r) r) := fun x r => by rw [Bool.eq_iff_iff, decide_eq_true_iff, inB_iff]; unfold distV; omega
  by_cases h : distV (a0 - b0) ≤ (b2 + b3) / 2
  all_goals
    go_enter Try.func51, Try.ntmps51
    go_wp2_with (go_at_call 67; refine (iDist _ _ (by omega) (by omega)).mono ?_; rintro e w' ⟨rfl, rfl⟩)
    go_returns
    refine ⟨ret_bool ?_, by repeat' (first | (with_reducible exact Below.refl _ _) | (with_reducible assumption) | (with_reducible refine Below.alloc ?_ ?_ _) | (with_reducible refine Below.setCell ?_ ?_ _) | (with_reducible refine Below.drew ?_) | (with_reducible refine below_drewN ?_ _) | (with_reducible refine below_via (by with_reducible assumption) ?_ ?_) | go_size)⟩
    unfold closeB
    rw [← HF.out, ← HF.out]
    first | (simp [*]; done) | (simp; omega)
set_option maxRecDepth 10000 in
set_option maxHeartbeats 4000000 in
theorem iSame (a0 a1 a2 a3 b0 b1 b2 b3 : Int) (w : World) : Calls Try.prog 28 #[.agg #[.int .i64 a0, .int .i64 a1, .int .i64 a2, .int .i64 a3], .agg #[.int .i64 b0, .int .i64 b1, .int .i64 b2, .int .i64 b3]] w
    fun e w' => e = .returned (.bool (sameB a0 a1 a2 a3 b0 b1 b2 b3)) ∧ Below w.heap.size w w' := by
  have i0 : ∀ w, (Instr.index 73 (.agg #[.int .i64 a0, .int .i64 a1, .int .i64 a2, .int .i64 a3, .int .i64 b0, .int .i64 b1, .int .i64 b2, .int .i64 b3]) (.int .i64 0)).run Try.prog w = .ok (.int .i64 a0) w := fun _ => by kernel_rfl
  have i1 : ∀ w, (Instr.index 73 (.agg #[.int .i64 a0, .int .i64 a1, .int .i64 a2, .int .i64 a3, .int .i64 b0, .int .i64 b1, .int .i64 b2, .int .i64 b3]) (.int .i64 1)).run Try.prog w = .ok (.int .i64 a1) w := fun _ => by kernel_rfl
  have i2 : ∀ w, (Instr.index 73 (.agg #[.int .i64 a0, .int .i64 a1, .int .i64 a2, .int .i64 a3, .int .i64 b0, .int .i64 b1, .int .i64 b2, .int .i64 b3]) (.int .i64 2)).run Try.prog w = .ok (.int .i64 a2) w := fun _ => by kernel_rfl
  have i3 : ∀ w, (Instr.index 73 (.agg #[.int .i64 a0, .int .i64 a1, .int .i64 a2, .int .i64 a3, .int .i64 b0, .int .i64 b1, .int .i64 b2, .int .i64 b3]) (.int .i64 3)).run Try.prog w = .ok (.int .i64 a3) w := fun _ => by kernel_rfl
  have i4 : ∀ w, (Instr.index 73 (.agg #[.int .i64 a0, .int .i64 a1, .int .i64 a2, .int .i64 a3, .int .i64 b0, .int .i64 b1, .int .i64 b2, .int .i64 b3]) (.int .i64 4)).run Try.prog w = .ok (.int .i64 b0) w := fun _ => by kernel_rfl
  have i5 : ∀ w, (Instr.index 73 (.agg #[.int .i64 a0, .int .i64 a1, .int .i64 a2, .int .i64 a3, .int .i64 b0, .int .i64 b1, .int .i64 b2, .int .i64 b3]) (.int .i64 5)).run Try.prog w = .ok (.int .i64 b1) w := fun _ => by kernel_rfl
  have i6 : ∀ w, (Instr.index 73 (.agg #[.int .i64 a0, .int .i64 a1, .int .i64 a2, .int .i64 a3, .int .i64 b0, .int .i64 b1, .int .i64 b2, .int .i64 b3]) (.int .i64 6)).run Try.prog w = .ok (.int .i64 b2) w := fun _ => by kernel_rfl
  have i7 : ∀ w, (Instr.index 73 (.agg #[.int .i64 a0, .int .i64 a1, .int .i64 a2, .int .i64 a3, .int .i64 b0, .int .i64 b1, .int .i64 b2, .int .i64 b3]) (.int .i64 7)).run Try.prog w = .ok (.int .i64 b3) w := fun _ => by kernel_rfl
  rcases and8 (inB a0 0 80000) (inB a1 0 80000) (inB a2 0 80000) (inB a3 0 80000) (inB b0 0 80000) (inB b1 0 80000) (inB b2 0 80000) (inB b3 0 80000) with h1 | ⟨h1, h2⟩ | ⟨h1, h2, h3⟩ | ⟨h1, h2, h3, h4⟩ | ⟨h1, h2, h3, h4, h5⟩ | ⟨h1, h2, h3, h4, h5, h6⟩ | ⟨h1, h2, h3, h4, h5, h6, h7⟩ | ⟨h1, h2, h3, h4, h5, h6, h7, h8⟩ | ⟨h1, h2, h3, h4, h5, h6, h7, h8⟩
  all_goals
    go_enter Try.func28, Try.ntmps28
    go_wp2_with (go_at_call 49; refine (iIn _ _ _ _).mono ?_; rintro e w' ⟨rfl, rfl⟩)
    refine wp_loop_rounds 9 ?_
    repeat any_goals (rw [rounds_succ]; go_wp2_with (first | (go_at_call 49; refine (iIn _ _ _ _).mono ?_; rintro e w' ⟨rfl, rfl⟩) | (go_at_call 51; refine (iNear _ _ _ _ _ _ _ _ _ h1 h2 h5 h6 h7 h8).mono ?_; rintro e w' ⟨rfl, hb⟩)))
    go_returns
    exact ⟨ret_bool (by simp [sameB, fitB, *]), by repeat' (first | (with_reducible exact Below.refl _ _) | (with_reducible assumption) | (with_reducible refine Below.alloc ?_ ?_ _) | (with_reducible refine Below.setCell ?_ ?_ _) | (with_reducible refine Below.drew ?_) | (with_reducible refine below_drewN ?_ _) | (with_reducible refine below_via (by with_reducible assumption) ?_ ?_) | go_size)⟩
theorem held_Same (a0 a1 a2 a3 b0 b1 b2 b3 : Int) (w : World) : ∀ w', Below (w.heap.size + 2) ((w.alloc (.cells #[.int .i64 a0, .int .i64 a1, .int .i64 a2, .int .i64 a3] 41)).alloc (.cells #[.int .i64 b0, .int .i64 b1, .int .i64 b2, .int .i64 b3] 41)) w' → Below (w.heap.size + 2) ((w.alloc (.cells #[.int .i64 a0, .int .i64 a1, .int .i64 a2, .int .i64 a3] 41)).alloc (.cells #[.int .i64 b0, .int .i64 b1, .int .i64 b2, .int .i64 b3] 41)) w' ∧ w.heap.size < w'.heap.size ∧ w.heap.size + 1 < w'.heap.size ∧ w'.cell? ⟨w.heap.size, 0, none⟩ = some (.int .i64 a0) ∧ w'.cell? ⟨w.heap.size, 1, none⟩ = some (.int .i64 a1) ∧ w'.cell? ⟨w.heap.size, 2, none⟩ = some (.int .i64 a2) ∧ w'.cell? ⟨w.heap.size, 3, none⟩ = some (.int .i64 a3) ∧ w'.cell? ⟨w.heap.size + 1, 0, none⟩ = some (.int .i64 b0) ∧ w'.cell? ⟨w.heap.size + 1, 1, none⟩ = some (.int .i64 b1) ∧ w'.cell? ⟨w.heap.size + 1, 2, none⟩ = some (.int .i64 b2) ∧ w'.cell? ⟨w.heap.size + 1, 3, none⟩ = some (.int .i64 b3) := by
  intro w' h
  have hs := h.size
  simp at hs
  refine ⟨h, by omega, by omega, ?_, ?_, ?_, ?_, ?_, ?_, ?_, ?_⟩ <;> (refine (h.cell (p := ⟨_, _, none⟩) (by simp)).trans ?_; simp [go_sem])
set_option maxHeartbeats 2000000 in
theorem walk_FnExactSameFinder (aA_Row : Int) (aA_Col : Int) (aA_Height : Int) (aA_Width : Int) (aB_Row : Int) (aB_Col : Int) (aB_Height : Int) (aB_Width : Int) (w : World) (f_aA_Row : (Lit.int .i64 aA_Row).wf = true) (f_aA_Col : (Lit.int .i64 aA_Col).wf = true) (f_aA_Height : (Lit.int .i64 aA_Height).wf = true) (f_aA_Width : (Lit.int .i64 aA_Width).wf = true) (f_aB_Row : (Lit.int .i64 aB_Row).wf = true) (f_aB_Col : (Lit.int .i64 aB_Col).wf = true) (f_aB_Height : (Lit.int .i64 aB_Height).wf = true) (f_aB_Width : (Lit.int .i64 aB_Width).wf = true) :
    Calls Try.prog 7 #[.agg #[.int .i64 aA_Row, .int .i64 aA_Col, .int .i64 aA_Height, .int .i64 aA_Width], .agg #[.int .i64 aB_Row, .int .i64 aB_Col, .int .i64 aB_Height, .int .i64 aB_Width]] w fun e w' => e = .returned (.bool true) ∧ Below w.heap.size w w' := by
  have HS := Lib.hid (held_Same aA_Row aA_Col aA_Height aA_Width aB_Row aB_Col aB_Height aB_Width w)
  go_enter Try.func7, Try.ntmps7
  go_wp2_with fail
  go_region_held3 (fun w' => Below (w.heap.size + 2) ((w.alloc (.cells #[.int .i64 aA_Row, .int .i64 aA_Col, .int .i64 aA_Height, .int .i64 aA_Width] 41)).alloc (.cells #[.int .i64 aB_Row, .int .i64 aB_Col, .int .i64 aB_Height, .int .i64 aB_Width] 41)) w' ∧ w.heap.size < w'.heap.size ∧ w.heap.size + 1 < w'.heap.size ∧ w'.cell? ⟨w.heap.size, 0, none⟩ = some (.int .i64 aA_Row) ∧ w'.cell? ⟨w.heap.size, 1, none⟩ = some (.int .i64 aA_Col) ∧ w'.cell? ⟨w.heap.size, 2, none⟩ = some (.int .i64 aA_Height) ∧ w'.cell? ⟨w.heap.size, 3, none⟩ = some (.int .i64 aA_Width) ∧ w'.cell? ⟨w.heap.size + 1, 0, none⟩ = some (.int .i64 aB_Row) ∧ w'.cell? ⟨w.heap.size + 1, 1, none⟩ = some (.int .i64 aB_Col) ∧ w'.cell? ⟨w.heap.size + 1, 2, none⟩ = some (.int .i64 aB_Height) ∧ w'.cell? ⟨w.heap.size + 1, 3, none⟩ = some (.int .i64 aB_Width)) (exact HS.out _ (by repeat' (first | (with_reducible exact Below.refl _ _) | (with_reducible assumption) | (with_reducible refine Below.alloc ?_ ?_ _) | (with_reducible refine Below.setCell ?_ ?_ _) | (with_reducible refine Below.drew ?_) | (with_reducible refine below_drewN ?_ _) | (with_reducible refine below_via (by with_reducible assumption) ?_ ?_) | go_size))) (first | (go_at_call 27; refine (toFinder _ _ _ _ _).mono ?_; rintro e w' ⟨rfl, hb⟩; obtain ⟨hc, hf⟩ := bcell hb; have hz := hb.size; (try simp at hz)) | (go_at_call 26; refine (sSame _ _ _ _ _ _ _ _ _).mono ?_; rintro e w' ⟨rfl, hb⟩; obtain ⟨hc, hf⟩ := bcell hb; have hz := hb.size; (try simp at hz)))
  go_wp2_with fail
  go_region_held3 (fun w' => Below (w.heap.size + 2) ((w.alloc (.cells #[.int .i64 aA_Row, .int .i64 aA_Col, .int .i64 aA_Height, .int .i64 aA_Width] 41)).alloc (.cells #[.int .i64 aB_Row, .int .i64 aB_Col, .int .i64 aB_Height, .int .i64 aB_Width] 41)) w' ∧ w.heap.size < w'.heap.size ∧ w.heap.size + 1 < w'.heap.size ∧ w'.cell? ⟨w.heap.size, 0, none⟩ = some (.int .i64 aA_Row) ∧ w'.cell? ⟨w.heap.size, 1, none⟩ = some (.int .i64 aA_Col) ∧ w'.cell? ⟨w.heap.size, 2, none⟩ = some (.int .i64 aA_Height) ∧ w'.cell? ⟨w.heap.size, 3, none⟩ = some (.int .i64 aA_Width) ∧ w'.cell? ⟨w.heap.size + 1, 0, none⟩ = some (.int .i64 aB_Row) ∧ w'.cell? ⟨w.heap.size + 1, 1, none⟩ = some (.int .i64 aB_Col) ∧ w'.cell? ⟨w.heap.size + 1, 2, none⟩ = some (.int .i64 aB_Height) ∧ w'.cell? ⟨w.heap.size + 1, 3, none⟩ = some (.int .i64 aB_Width)) (exact HS.out _ (by repeat' (first | (with_reducible exact Below.refl _ _) | (with_reducible assumption) | (with_reducible refine Below.alloc ?_ ?_ _) | (with_reducible refine Below.setCell ?_ ?_ _) | (with_reducible refine Below.drew ?_) | (with_reducible refine below_drewN ?_ _) | (with_reducible refine below_via (by with_reducible assumption) ?_ ?_) | go_size))) (first | (go_at_call 27; refine (toFinder _ _ _ _ _).mono ?_; rintro e w' ⟨rfl, hb⟩; obtain ⟨hc, hf⟩ := bcell hb; have hz := hb.size; (try simp at hz)) | (go_at_call 28; refine (iSame _ _ _ _ _ _ _ _ _).mono ?_; rintro e w' ⟨rfl, hb⟩; obtain ⟨hc, hf⟩ := bcell hb; have hz := hb.size; (try simp at hz)))
  go_wp2
  go_returns
  exact ⟨rfl, by repeat' (first | (with_reducible exact Below.refl _ _) | (with_reducible assumption) | (with_reducible refine Below.alloc ?_ ?_ _) | (with_reducible refine Below.setCell ?_ ?_ _) | (with_reducible refine Below.drew ?_) | (with_reducible refine below_drewN ?_ _) | (with_reducible refine below_via (by with_reducible assumption) ?_ ?_) | go_size)⟩
end Go.Proofs.Ytdjoidhkogmclaa
