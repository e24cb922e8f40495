/-
  DERIVED. IsSection: contracts and law.
-/
import Derived.Test.YtcpicgcdefnhaaaBas
import Derived.Test.YtcpicgcdefnhaaaFind
namespace Go.Proofs.Ytcpicgcdefnhaaa
open Go.RowKit
set_option linter.unusedVariables false

theorem and5 (a b c d e : Bool) : a = false ∨ (a = true ∧ b = false) ∨ (a = true ∧ b = true ∧ c = false) ∨ (a = true ∧ b = true ∧ c = true ∧ d = false) ∨ (a = true ∧ b = true ∧ c = true ∧ d = true ∧ e = false) ∨ (a = true ∧ b = true ∧ c = true ∧ d = true ∧ e = true) := by
  cases a <;> cases b <;> cases c <;> cases d <;> cases e <;> simp
def secOK (k x s : Int) : Bool := decide (2 * distV (7 * x - k * s) ≤ k * s)
theorem secOK_yes {k x s : Int} (h : secOK k x s = true) : ¬ k * s < 2 * distV (7 * x - k * s) := by simp [secOK] at h; omega
theorem secOK_no {k x s : Int} (h : secOK k x s = false) : k * s < 2 * distV (7 * x - k * s) := by simp [secOK] at h; omega
theorem distV_bd (n : Int) (h1 : -1000000 ≤ n) (h2 : n ≤ 1000000) : 0 ≤ distV n ∧ distV n ≤ 1000000 := by unfold distV; omega
def sectB (a b c d e : Int) : Bool := secOK 1 a (a + b + c + d + e) && (secOK 1 b (a + b + c + d + e) && (secOK 3 c (a + b + c + d + e) && (secOK 1 d (a + b + c + d + e) && secOK 1 e (a + b + c + d + e))))
theorem sect_cases (a b c d f : Int) :
    (sectB a b c d f = false ∧ (a + b + c + d + f) < 2 * distV (7 * a - (a + b + c + d + f))) ∨
    (sectB a b c d f = false ∧ ¬ (a + b + c + d + f) < 2 * distV (7 * a - (a + b + c + d + f)) ∧ (a + b + c + d + f) < 2 * distV (7 * b - (a + b + c + d + f))) ∨
    (sectB a b c d f = false ∧ ¬ (a + b + c + d + f) < 2 * distV (7 * a - (a + b + c + d + f)) ∧ ¬ (a + b + c + d + f) < 2 * distV (7 * b - (a + b + c + d + f)) ∧ 3 * (a + b + c + d + f) < 2 * distV (7 * c - 3 * (a + b + c + d + f))) ∨
    (sectB a b c d f = false ∧ ¬ (a + b + c + d + f) < 2 * distV (7 * a - (a + b + c + d + f)) ∧ ¬ (a + b + c + d + f) < 2 * distV (7 * b - (a + b + c + d + f)) ∧ ¬ 3 * (a + b + c + d + f) < 2 * distV (7 * c - 3 * (a + b + c + d + f)) ∧ (a + b + c + d + f) < 2 * distV (7 * d - (a + b + c + d + f))) ∨
    (sectB a b c d f = false ∧ ¬ (a + b + c + d + f) < 2 * distV (7 * a - (a + b + c + d + f)) ∧ ¬ (a + b + c + d + f) < 2 * distV (7 * b - (a + b + c + d + f)) ∧ ¬ 3 * (a + b + c + d + f) < 2 * distV (7 * c - 3 * (a + b + c + d + f)) ∧ ¬ (a + b + c + d + f) < 2 * distV (7 * d - (a + b + c + d + f)) ∧ (a + b + c + d + f) < 2 * distV (7 * f - (a + b + c + d + f))) ∨
    (sectB a b c d f = true ∧ ¬ (a + b + c + d + f) < 2 * distV (7 * a - (a + b + c + d + f)) ∧ ¬ (a + b + c + d + f) < 2 * distV (7 * b - (a + b + c + d + f)) ∧ ¬ 3 * (a + b + c + d + f) < 2 * distV (7 * c - 3 * (a + b + c + d + f)) ∧ ¬ (a + b + c + d + f) < 2 * distV (7 * d - (a + b + c + d + f)) ∧ ¬ (a + b + c + d + f) < 2 * distV (7 * f - (a + b + c + d + f))) := by
  rcases and5 (secOK 1 a (a + b + c + d + f)) (secOK 1 b (a + b + c + d + f)) (secOK 3 c (a + b + c + d + f)) (secOK 1 d (a + b + c + d + f)) (secOK 1 f (a + b + c + d + f)) with k1 | ⟨k1, k2⟩ | ⟨k1, k2, k3⟩ | ⟨k1, k2, k3, k4⟩ | ⟨k1, k2, k3, k4, k5⟩ | ⟨k1, k2, k3, k4, k5⟩
  · have := secOK_no k1
    rw [Int.one_mul] at this
    exact .inl ⟨by simp [sectB, k1], this⟩
  · have a1 := secOK_yes k1
    have a2 := secOK_no k2
    rw [Int.one_mul] at a1 a2
    exact .inr (.inl ⟨by simp [sectB, k1, k2], a1, a2⟩)
  · have a1 := secOK_yes k1
    have a2 := secOK_yes k2
    rw [Int.one_mul] at a1 a2
    exact .inr (.inr (.inl ⟨by simp [sectB, k1, k2, k3], a1, a2, secOK_no k3⟩))
  · have a1 := secOK_yes k1
    have a2 := secOK_yes k2
    have a4 := secOK_no k4
    rw [Int.one_mul] at a1 a2 a4
    exact .inr (.inr (.inr (.inl ⟨by simp [sectB, k1, k2, k3, k4], a1, a2, secOK_yes k3, a4⟩)))
  · have a1 := secOK_yes k1
    have a2 := secOK_yes k2
    have a4 := secOK_yes k4
    have a5 := secOK_no k5
    rw [Int.one_mul] at a1 a2 a4 a5
    exact .inr (.inr (.inr (.inr (.inl ⟨by simp [sectB, k1, k2, k3, k4, k5], a1, a2, secOK_yes k3, a4, a5⟩))))
  · have a1 := secOK_yes k1
    have a2 := secOK_yes k2
    have a4 := secOK_yes k4
    have a5 := secOK_yes k5
    rw [Int.one_mul] at a1 a2 a4 a5
    exact .inr (.inr (.inr (.inr (.inr ⟨by simp [sectB, k1, k2, k3, k4, k5], a1, a2, secOK_yes k3, a4, a5⟩))))
def widthsB : List Int → Bool
  | [a, b, c, d, e] => inB a 1 40000 && (inB b 1 40000 && (inB c 1 40000 && (inB d 1 40000 && (inB e 1 40000 && sectB a b c d e))))
  | _ => false
theorem widthsB_len {l : List Int} (h : l.length ≠ 5) : widthsB l = false := by
  match l with
  | [] => rfl
  | [_] => rfl
  | [_, _] => rfl
  | [_, _, _] => rfl
  | [_, _, _, _] => rfl
  | [_, _, _, _, _] => simp at h
  | _ :: _ :: _ :: _ :: _ :: _ :: _ => rfl
set_option maxHeartbeats 400000 in
theorem sAbs (n : Int) (w : World) (h1 : -9223372036854775807 ≤ n) (h2 : n ≤ 9223372036854775807) : Calls Try.prog 43 #[.int .i64 n] w fun e w' => e = .returned (.int .i64 (distV n)) ∧ w = w' := by
  go_enter Try.func43, Try.ntmps43
  go_wp2
  all_goals
    go_ret
    exact ⟨ret_int (by unfold distV; omega), rfl⟩
set_option maxRecDepth 10000 in
set_option maxHeartbeats 4000000 in
theorem sSect (a b c d f : Int) (g off cap : Nat) (w : World) (hb : g < w.heap.size) (c0 : w.cell? ⟨g, off, none⟩ = some (.int .i64 a)) (c1 : w.cell? ⟨g, off + 1, none⟩ = some (.int .i64 b)) (c2 : w.cell? ⟨g, off + 2, none⟩ = some (.int .i64 c))
    (c3 : w.cell? ⟨g, off + 3, none⟩ = some (.int .i64 d)) (c4 : w.cell? ⟨g, off + 4, none⟩ = some (.int .i64 f)) :
    Calls Try.prog 37 #[.slice (some ⟨g, off, none⟩) 5 cap] w fun e w' => e = .returned (.bool (widthsB [a, b, c, d, f])) ∧ Below w.heap.size w w' := by
  rcases and5 (inB a 1 40000) (inB b 1 40000) (inB c 1 40000) (inB d 1 40000) (inB f 1 40000) with h1 | ⟨h1, h2⟩ | ⟨h1, h2, h3⟩ | ⟨h1, h2, h3, h4⟩ | ⟨h1, h2, h3, h4, h5⟩ | ⟨h1, h2, h3, h4, h5⟩
  rotate_right
  · obtain ⟨_, _⟩ := inB_iff.1 h1
    obtain ⟨_, _⟩ := inB_iff.1 h2
    obtain ⟨_, _⟩ := inB_iff.1 h3
    obtain ⟨_, _⟩ := inB_iff.1 h4
    obtain ⟨_, _⟩ := inB_iff.1 h5
    go_enter Try.func37, Try.ntmps37
    go_wp2_with (go_at_call 27; refine (sIn _ _ _ _).mono ?_; rintro e w' ⟨rfl, rfl⟩)
    refine wp_loop_rounds 6 ?_
    repeat any_goals (rw [rounds_succ]; go_wp2_with (go_at_call 27; refine (sIn _ _ _ _).mono ?_; rintro e w' ⟨rfl, rfl⟩))
    have D0 := distV_bd (7 * a - (a + b + c + d + f)) (by omega) (by omega)
    have D1 := distV_bd (7 * b - (a + b + c + d + f)) (by omega) (by omega)
    have D2 := distV_bd (7 * c - 3 * (a + b + c + d + f)) (by omega) (by omega)
    have D3 := distV_bd (7 * d - (a + b + c + d + f)) (by omega) (by omega)
    have D4 := distV_bd (7 * f - (a + b + c + d + f)) (by omega) (by omega)
    rcases sect_cases a b c d f with ⟨hs, t1⟩ | ⟨hs, t1, t2⟩ | ⟨hs, t1, t2, t3⟩ | ⟨hs, t1, t2, t3, t4⟩ | ⟨hs, t1, t2, t3, t4, t5⟩ | ⟨hs, t1, t2, t3, t4, t5⟩
    all_goals
      have hb1 : g < w.heap.size + 1 := by omega
      have hb2 : g < w.heap.size + 1 + 1 := by omega
      have hb3 : g < w.heap.size + 1 + 1 + 1 := by omega
      have hb4 : g < w.heap.size + 1 + 1 + 1 + 1 := by omega
      refine wp_loop_rounds 6 ?_
      repeat any_goals (rw [rounds_succ]; go_wp2_with (go_at_call 43; refine (sAbs _ _ (by omega) (by omega)).mono ?_; rintro e w' ⟨rfl, rfl⟩))
      go_returns
      exact ⟨ret_bool (by simp [widthsB, *]), by repeat' (first | (with_reducible exact Below.refl _ _) | (with_reducible assumption) | (with_reducible refine Below.alloc ?_ ?_ _) | (with_reducible refine Below.setCell ?_ ?_ _) | (with_reducible refine Below.drew ?_) | (with_reducible refine below_drewN ?_ _) | (with_reducible refine below_via (by with_reducible assumption) ?_ ?_) | go_size)⟩
  all_goals
    go_enter Try.func37, Try.ntmps37
    go_wp2_with (go_at_call 27; refine (sIn _ _ _ _).mono ?_; rintro e w' ⟨rfl, rfl⟩)
    refine wp_loop_rounds 6 ?_
    repeat any_goals (rw [rounds_succ]; go_wp2_with (go_at_call 27; refine (sIn _ _ _ _).mono ?_; rintro e w' ⟨rfl, rfl⟩))
    go_returns
    exact ⟨ret_bool (by simp [widthsB, *]), by repeat' (first | (with_reducible exact Below.refl _ _) | (with_reducible assumption) | (with_reducible refine Below.alloc ?_ ?_ _) | (with_reducible refine Below.setCell ?_ ?_ _) | (with_reducible refine Below.drew ?_) | (with_reducible refine below_drewN ?_ _) | (with_reducible refine below_via (by with_reducible assumption) ?_ ?_) | go_size)⟩
theorem held_arr5 (g : Nat) (a b c d f : Int) (W0 : World) (hg : g < W0.heap.size) (h0 : W0.cell? ⟨g, 0, none⟩ = some (.int .i64 a)) (h1 : W0.cell? ⟨g, 1, none⟩ = some (.int .i64 b)) (h2 : W0.cell? ⟨g, 2, none⟩ = some (.int .i64 c)) (h3 : W0.cell? ⟨g, 3, none⟩ = some (.int .i64 d)) (h4 : W0.cell? ⟨g, 4, none⟩ = some (.int .i64 f)) : ∀ w', Below (g + 1) W0 w' → Below (g + 1) W0 w' ∧ g < w'.heap.size ∧ w'.cell? ⟨g, 0, none⟩ = some (.int .i64 a) ∧ w'.cell? ⟨g, 1, none⟩ = some (.int .i64 b) ∧ w'.cell? ⟨g, 2, none⟩ = some (.int .i64 c) ∧ w'.cell? ⟨g, 3, none⟩ = some (.int .i64 d) ∧ w'.cell? ⟨g, 4, none⟩ = some (.int .i64 f) := by
  intro w' h
  have hs := h.size
  refine ⟨h, by omega, ?_, ?_, ?_, ?_, ?_⟩ <;> (refine (h.cell (p := ⟨_, _, none⟩) (by simp)).trans ?_; assumption)
set_option maxRecDepth 10000 in
set_option maxHeartbeats 4000000 in
theorem iSectIn (a b c d f : Int) (w : World) (h1 : 1 ≤ a) (h2 : a ≤ 40000) (h3 : 1 ≤ b) (h4 : b ≤ 40000) (h5 : 1 ≤ c) (h6 : c ≤ 40000) (h7 : 1 ≤ d) (h8 : d ≤ 40000) (h9 : 1 ≤ f) (h10 : f ≤ 40000) :
    Calls Try.prog 41 #[.agg #[.int .i64 a, .int .i64 b, .int .i64 c, .int .i64 d, .int .i64 f]] w fun e w' => e = .returned (.bool (sectB a b c d f)) ∧ Below w.heap.size w w' := by
  have D0 := distV_bd (7 * a - (a + b + c + d + f)) (by omega) (by omega)
  have D1 := distV_bd (7 * b - (a + b + c + d + f)) (by omega) (by omega)
  have D2 := distV_bd (7 * c - 3 * (a + b + c + d + f)) (by omega) (by omega)
  have D3 := distV_bd (7 * d - (a + b + c + d + f)) (by omega) (by omega)
  have D4 := distV_bd (7 * f - (a + b + c + d + f)) (by omega) (by omega)
  have i0 : ∀ w, (Instr.index 66 (.agg #[.int .i64 a, .int .i64 b, .int .i64 c, .int .i64 d, .int .i64 f]) (.int .i64 0)).run Try.prog w = .ok (.int .i64 a) w := fun _ => by kernel_rfl
  have i1 : ∀ w, (Instr.index 66 (.agg #[.int .i64 a, .int .i64 b, .int .i64 c, .int .i64 d, .int .i64 f]) (.int .i64 1)).run Try.prog w = .ok (.int .i64 b) w := fun _ => by kernel_rfl
  have i2 : ∀ w, (Instr.index 66 (.agg #[.int .i64 a, .int .i64 b, .int .i64 c, .int .i64 d, .int .i64 f]) (.int .i64 2)).run Try.prog w = .ok (.int .i64 c) w := fun _ => by kernel_rfl
  have i3 : ∀ w, (Instr.index 66 (.agg #[.int .i64 a, .int .i64 b, .int .i64 c, .int .i64 d, .int .i64 f]) (.int .i64 3)).run Try.prog w = .ok (.int .i64 d) w := fun _ => by kernel_rfl
  have i4 : ∀ w, (Instr.index 66 (.agg #[.int .i64 a, .int .i64 b, .int .i64 c, .int .i64 d, .int .i64 f]) (.int .i64 4)).run Try.prog w = .ok (.int .i64 f) w := fun _ => by kernel_rfl
  have j0 : ∀ w, (Instr.index 66 (.agg #[.int .i64 1, .int .i64 1, .int .i64 3, .int .i64 1, .int .i64 1]) (.int .i64 0)).run Try.prog w = .ok (.int .i64 1) w := fun _ => by kernel_rfl
  have j1 : ∀ w, (Instr.index 66 (.agg #[.int .i64 1, .int .i64 1, .int .i64 3, .int .i64 1, .int .i64 1]) (.int .i64 1)).run Try.prog w = .ok (.int .i64 1) w := fun _ => by kernel_rfl
  have j2 : ∀ w, (Instr.index 66 (.agg #[.int .i64 1, .int .i64 1, .int .i64 3, .int .i64 1, .int .i64 1]) (.int .i64 2)).run Try.prog w = .ok (.int .i64 3) w := fun _ => by kernel_rfl
  have j3 : ∀ w, (Instr.index 66 (.agg #[.int .i64 1, .int .i64 1, .int .i64 3, .int .i64 1, .int .i64 1]) (.int .i64 3)).run Try.prog w = .ok (.int .i64 1) w := fun _ => by kernel_rfl
  have j4 : ∀ w, (Instr.index 66 (.agg #[.int .i64 1, .int .i64 1, .int .i64 3, .int .i64 1, .int .i64 1]) (.int .i64 4)).run Try.prog w = .ok (.int .i64 1) w := fun _ => by kernel_rfl
  rcases sect_cases a b c d f with ⟨hs, t1⟩ | ⟨hs, t1, t2⟩ | ⟨hs, t1, t2, t3⟩ | ⟨hs, t1, t2, t3, t4⟩ | ⟨hs, t1, t2, t3, t4, t5⟩ | ⟨hs, t1, t2, t3, t4, t5⟩
  all_goals
    go_enter Try.func41, Try.ntmps41
    go_wp2_with fail
    refine wp_loop_rounds 6 ?_
    repeat any_goals (rw [rounds_succ]; go_wp2_with fail)
    refine wp_loop_rounds 6 ?_
    repeat any_goals (rw [rounds_succ]; go_wp2_with (go_at_call 42; refine (iDist _ _ (by omega) (by omega)).mono ?_; rintro e w' ⟨rfl, rfl⟩))
    go_returns
    exact ⟨ret_bool (by simp [*]), by repeat' (first | (with_reducible exact Below.refl _ _) | (with_reducible assumption) | (with_reducible refine Below.alloc ?_ ?_ _) | (with_reducible refine Below.setCell ?_ ?_ _) | (with_reducible refine Below.drew ?_) | (with_reducible refine below_drewN ?_ _) | (with_reducible refine below_via (by with_reducible assumption) ?_ ?_) | go_size)⟩
end Go.Proofs.Ytcpicgcdefnhaaa
