/-
  DERIVED. All patterns: spec.l17All; the cells of a pattern; the width of a row.
-/
import Derived.Test.YtenelpollcabnaaPatI
import Derived.Test.YtenelpollcabnaaPatS
namespace Go.Proofs.Ytenelpollcabnaa
open Go.RowKit
set_option linter.unusedVariables false
theorem pat_at {i : Nat} (h : i < 120) : PATS.getD i [] ∈ PATS := by
  rw [List.getD_eq_getElem?_getD, List.getElem?_eq_getElem (by rw [PATS_len]; exact h)]
  exact List.getElem_mem _
theorem rows_get {LL : List (List Int)} (h : ∀ x ∈ LL, x.length = 8) : ∀ {k j : Nat}, k < LL.length → j < 8 → (rowsV LL)[k * 8 + j]? = some (.int .i64 ((LL.getD k []).getD j 0)) := by
  induction LL with
  | nil => intro k j hk; simp at hk
  | cons x LL ih =>
    intro k j hk hj
    have hx : (rowV x).length = 8 := by rw [rowV, List.length_map]; exact h x (by simp)
    have e : rowsV (x :: LL) = rowV x ++ rowsV LL := rfl
    rw [e]
    cases k with
    | zero =>
      rw [Nat.zero_mul, Nat.zero_add, List.getElem?_append_left (by omega)]
      have : j < x.length := by have := h x (by simp); omega
      simp [rowV, List.getD_eq_getElem?_getD, List.getElem?_eq_getElem this]
    | succ k =>
      rw [show (k + 1) * 8 + j = 8 + (k * 8 + j) by omega, List.getElem?_append_right (by omega), hx, Nat.add_sub_cancel_left]
      have := ih (fun y hy => h y (List.mem_cons_of_mem _ hy)) (k := k) (j := j) (by simpa using hk) hj
      rw [this]
      simp [List.getD_eq_getElem?_getD]
/-- The eight cells of the pattern k. -/
theorem row_cells {W : World} {base cp : Nat} {a : Option Addr} (h : W.ownsRow base 107 8 (.slice a 120 cp) 120 (rowsV PATS)) {k : Nat} (hk : k < 120) :
    ∃ g a0 a1 a2 a3 a4 a5 a6 a7, a = some ⟨g, 0, none⟩ ∧ base ≤ g ∧ g < W.heap.size ∧ PATS.getD k [] = [a0, a1, a2, a3, a4, a5, a6, a7] ∧
      (W.cell? ⟨g, k * 8, none⟩ = some (.int .i64 a0) ∧ W.cell? ⟨g, k * 8 + 1, none⟩ = some (.int .i64 a1) ∧ W.cell? ⟨g, k * 8 + 2, none⟩ = some (.int .i64 a2) ∧ W.cell? ⟨g, k * 8 + 3, none⟩ = some (.int .i64 a3) ∧
       W.cell? ⟨g, k * 8 + 4, none⟩ = some (.int .i64 a4) ∧ W.cell? ⟨g, k * 8 + 5, none⟩ = some (.int .i64 a5) ∧ W.cell? ⟨g, k * 8 + 6, none⟩ = some (.int .i64 a6) ∧ W.cell? ⟨g, k * 8 + 7, none⟩ = some (.int .i64 a7)) := by
  obtain ⟨g, cap, hv, hb, hlt⟩ := h.form (by omega)
  injection hv with hv1 _ _
  subst hv1
  obtain ⟨a0, a1, a2, a3, a4, a5, a6, a7, hM⟩ := list8 (PATS_row _ (pat_at hk))
  have hkl : k < PATS.length := by rw [PATS_len]; exact hk
  have c : ∀ j, j < 8 → W.cell? ⟨g, k * 8 + j, none⟩ = some (.int .i64 ((PATS.getD k []).getD j 0)) := fun j hj => by
    obtain ⟨b', off', e, _, hc⟩ := (own_rdV h).2 (by omega)
    injection e with e
    injection e with e1 e2
    subst e1 e2
    have := hc (k * 8 + j) (by omega)
    rw [Nat.zero_add] at this
    rw [this]
    exact rows_get PATS_row hkl hj
  rw [hM] at c
  exact ⟨g, a0, a1, a2, a3, a4, a5, a6, a7, rfl, hb, hlt, hM, c 0 (by omega), c 1 (by omega), c 2 (by omega), c 3 (by omega), c 4 (by omega), c 5 (by omega), c 6 (by omega), c 7 (by omega)⟩
theorem ownN_kept {w w' : World} {base n m B : Nat} {t : TypeId} {v : Value} {xs : List Value} (h : w.ownsRow base t m v n xs) (hg : w.grownBy w' (some B)) (hB : base ≤ B → False) : w'.ownsRow base t m v n xs := by
  refine h.kept hg ?_
  cases hv : v.ownBlock with
  | none => exact .inl rfl
  | some j =>
    right
    intro e
    injection e with e
    have := h.lt j hv
    exact hB (by omega)
theorem sAll (w : World) : Calls Try.prog 85 #[] w fun e w' => ∃ a cp, e = .returned (.slice a 120 cp) ∧ RRow w' w.heap.size w'.heap.size a 120 PATS ∧ Below w.heap.size w w' := by
  have HP : Hid (∀ W, Calls Try.prog 98 #[.int .i64 8, .int .i64 11] W (NewSRow W PATS)) := fun W => sPats 7 11 W (by omega) (by omega)
  go_enter Try.func85, Try.ntmps85
  go_wp2_with fail
  refine (HP.out _).mono ?_
  rintro e w1 ⟨a, cp, rfl, h1, hb, -⟩
  have HR := Lib.hid h1.read
  have HB := Lib.hid hb
  rw [PATS_len] at HR ⊢
  clear h1 hb HP
  go_wp2
  go_returns
  exact ⟨a, cp, rfl, HR.out, HB.out⟩
theorem iWidth (v : Int) (w : World) (h1 : 0 ≤ v) (h2 : v ≤ 1000000) : Calls Try.prog 53 #[.int .i64 v] w fun e w' => e = .returned (.int .i64 (7 + 11 * v + 8)) ∧ w = w' := by
  go_enter Try.func53, Try.ntmps53
  go_wp2
  go_ret
  exact ⟨rfl, rfl⟩
end Go.Proofs.Ytenelpollcabnaa
