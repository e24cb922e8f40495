/-
  DERIVED. impl.patternIndices.
-/
import Derived.Test.YtdpifddmhbeklaaPatM
namespace Go.Proofs.Ytdpifddmhbeklaa
open Go.RowKit Go.Maps Go.WideMaps Go.WideShapes
set_option linter.unusedVariables false
theorem rows_get {LL : List (List Int)} (h : ∀ x ∈ LL, x.length = 8) : ∀ {k j : Nat}, k < LL.length → j < 8 → (rowsV LL)[k * 8 + j]? = some (.int .i64 ((LL.getD k []).getD j 0)) := by
  induction LL with
  | nil => intro k j hk; simp at hk
  | cons x LL ih =>
    intro k j hk hj
    have hx : (rowV x).length = 8 := by rw [rowV, List.length_map]; exact h x (by simp)
    have e : rowsV (x :: LL) = rowV x ++ rowsV LL := rfl
    rw [e]
    cases k with
    | zero =>
      rw [Nat.zero_mul, Nat.zero_add, List.getElem?_append_left (by omega)]
      have : j < x.length := by have := h x (by simp); omega
      simp [rowV, List.getD_eq_getElem?_getD, List.getElem?_eq_getElem this]
    | succ k =>
      rw [show (k + 1) * 8 + j = 8 + (k * 8 + j) by omega, List.getElem?_append_right (by omega), hx, Nat.add_sub_cancel_left]
      have := ih (fun y hy => h y (List.mem_cons_of_mem _ hy)) (k := k) (j := j) (by simpa using hk) hj
      rw [this]
      simp [List.getD_eq_getElem?_getD]
/-- The eight cells of the pattern k. -/
theorem row_cells {W : World} {base cp : Nat} {a : Option Addr} (h : W.ownsRow base 132 8 (.slice a 120 cp) 120 (rowsV PATS)) {k : Nat} (hk : k < 120) :
    ∃ g a0 a1 a2 a3 a4 a5 a6 a7, a = some ⟨g, 0, none⟩ ∧ base ≤ g ∧ g < W.heap.size ∧ PATS.getD k [] = [a0, a1, a2, a3, a4, a5, a6, a7] ∧
      (W.cell? ⟨g, k * 8, none⟩ = some (.int .i64 a0) ∧ W.cell? ⟨g, k * 8 + 1, none⟩ = some (.int .i64 a1) ∧ W.cell? ⟨g, k * 8 + 2, none⟩ = some (.int .i64 a2) ∧ W.cell? ⟨g, k * 8 + 3, none⟩ = some (.int .i64 a3) ∧
       W.cell? ⟨g, k * 8 + 4, none⟩ = some (.int .i64 a4) ∧ W.cell? ⟨g, k * 8 + 5, none⟩ = some (.int .i64 a5) ∧ W.cell? ⟨g, k * 8 + 6, none⟩ = some (.int .i64 a6) ∧ W.cell? ⟨g, k * 8 + 7, none⟩ = some (.int .i64 a7)) := by
  obtain ⟨g, cap, hv, hb, hlt⟩ := h.form (by omega)
  injection hv with hv1 _ _
  subst hv1
  obtain ⟨a0, a1, a2, a3, a4, a5, a6, a7, hM⟩ := list8 (PATS_row _ (pat_at hk))
  have hkl : k < PATS.length := by rw [PATS_len]; exact hk
  have c : ∀ j, j < 8 → W.cell? ⟨g, k * 8 + j, none⟩ = some (.int .i64 ((PATS.getD k []).getD j 0)) := fun j hj => by
    obtain ⟨b', off', e, _, hc⟩ := (own_rdV h).2 (by omega)
    injection e with e
    injection e with e1 e2
    subst e1 e2
    have := hc (k * 8 + j) (by omega)
    rw [Nat.zero_add] at this
    rw [this]
    exact rows_get PATS_row hkl hj
  rw [hM] at c
  exact ⟨g, a0, a1, a2, a3, a4, a5, a6, a7, rfl, hb, hlt, hM, c 0 (by omega), c 1 (by omega), c 2 (by omega), c 3 (by omega), c 4 (by omega), c 5 (by omega), c 6 (by omega), c 7 (by omega)⟩
theorem ownN_kept {w w' : World} {base n m B : Nat} {t : TypeId} {v : Value} {xs : List Value} (h : w.ownsRow base t m v n xs) (hg : w.grownBy w' (some B)) (hB : base ≤ B → False) : w'.ownsRow base t m v n xs := by
  refine h.kept hg ?_
  cases hv : v.ownBlock with
  | none => exact .inl rfl
  | some j =>
    right
    intro e
    injection e with e
    have := h.lt j hv
    exact hB (by omega)
set_option maxRecDepth 20000 in
set_option maxHeartbeats 8000000 in
theorem iIdx (w : World) : Calls Try.prog 71 #[] w fun e w' => ∃ b, e = .returned (.map (some b)) ∧ w'.ownsMap Try.prog 132 (plainElem (H := Nat) Try.prog 2) b 120 (idxD 120) ∧ w.heap.size ≤ b ∧ Below w.heap.size w w' := by
  have hmm := @run_makeMap Try.prog
  go_enter Try.func71, Try.ntmps71
  go_wp2_with fail
  refine (iAll _).mono ?_
  rintro e w1 ⟨a, cp, rfl, ho, hb1⟩
  have hz1 := hb1.size
  simp at hz1
  have HO := Lib.hid ho
  have HM0 : Hid (w1.ownsMap Try.prog 132 (plainElem (H := Nat) Try.prog 2) w.heap.size 0 (idxD 0)) :=
    World.ownsMap.kept (World.ownsMap_made w Try.prog 132 (plainElem (H := Nat) Try.prog 2)) (only_of_below hb1 none) (by simp)
  have HB : Hid (Below w.heap.size w w1) := ((Below.refl _ w).alloc (Nat.le_refl _) _).trans (hb1.mono (by simp))
  clear ho hb1
  go_wp2
  go_loopw [7] (fun i wr => ∃ k : Nat, k ≤ 120 ∧ i = .int .i64 k ∧ Hid (wr.ownsMap Try.prog 132 (plainElem (H := Nat) Try.prog 2) w.heap.size k (idxD k)) ∧ Hid (w1.grownBy wr (some w.heap.size))) (fun i _ => 120 - (intOf i).toNat)
  case atStart => exact ⟨0, Nat.zero_le _, rfl, HM0.out, World.grownBy.refl _ _⟩
  case round =>
    clear HM0
    obtain ⟨k, hk, rfl, HM, HG⟩ := hrel
    have hzr := HG.out.size
    by_cases hlt : k < 120
    · obtain ⟨g, a0, a1, a2, a3, a4, a5, a6, a7, rfl, hbg, hgl, hP, c0, c1, c2, c3, c4, c5, c6, c7⟩ := row_cells (ownN_kept HO.out HG.out (fun e => by simp at e; omega)) hlt
      have HP := Lib.hid hP
      simp at hbg
      have hkey : keyOf Try.prog 132 (.agg #[.int .i64 a0, .int .i64 a1, .int .i64 a2, .int .i64 a3, .int .i64 a4, .int .i64 a5, .int .i64 a6, .int .i64 a7]) = some (KL [a0, a1, a2, a3, a4, a5, a6, a7]) := keyOf8 (x := [a0, a1, a2, a3, a4, a5, a6, a7]) (PATS_wf (by rw [← hP]; exact pat_at hlt))
      have HKY := Lib.hid hkey
      have HW : Hid ((Lit.int .i64 (k : Int)).wf = true) := WalkArith.wf_i64 (by omega)
      have q0 : (0 : Int) ≤ (k : Int) := by omega
      have q1 : (k : Int) < 120 := by omega
      clear hP hkey
      go_wp2_with (at_mapUpdate; refine wpList_mapUpdate_own _ rfl _ _ _ 96 rfl 132 2 lawW Try.underlying96 (plainElem (H := Nat) Try.prog 2) w.heap.size k (idxD k) rfl (HM.out.kept (World.grownBy_alloc _ _ none) (by simp)) (by unfold maxLen; omega) _ _ (KL [a0, a1, a2, a3, a4, a5, a6, a7]) rfl rfl HKY.out _ [] (plainElem_int Try.underlying2 HW.out) ?_; intro w2 hown2 hgrow2)
      have HM2 : Hid (w2.ownsMap Try.prog 132 (plainElem (H := Nat) Try.prog 2) w.heap.size (k + 1) (idxD (k + 1))) := by
        show World.ownsMap _ _ _ _ _ _ ((idxD k).put (KL (PATS.getD k [])) (.lit (.int .i64 (k : Int))))
        rw [HP.out]
        exact hown2
      have HG2 : Hid (w1.grownBy w2 (some w.heap.size)) := HG.out.trans ((World.grownBy_alloc _ _ _).trans hgrow2)
      clear hown2 hgrow2 HM HG c0 c1 c2 c3 c4 c5 c6 c7
      go_wp2
      go_roundw
      case rel => exact ⟨k + 1, by omega, by go_num, HM2, HG2⟩
      case measure => simp [intOf]; omega
    · have hke : Hid (k = 120) := (by omega : k = 120)
      have HM9 : Hid (wr.ownsMap Try.prog 132 (plainElem (H := Nat) Try.prog 2) w.heap.size 120 (idxD 120)) := by have := HM.out; rw [hke.out] at this; exact this
      have HB9 : Hid (Below w.heap.size w wr) := HB.out.grown HG.out (by omega) (fun j e => by cases e; exact Nat.le_refl _)
      go_wp2
      go_returns
      exact ⟨_, rfl, HM9.out, Nat.le_refl _, HB9.out⟩
end Go.Proofs.Ytdpifddmhbeklaa
