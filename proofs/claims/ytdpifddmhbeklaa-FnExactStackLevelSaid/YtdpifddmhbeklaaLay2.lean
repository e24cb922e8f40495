/-
  DERIVED. IsLayout: contracts.
-/
import Derived.Test.YtdpifddmhbeklaaLay1
namespace Go.Proofs.Ytdpifddmhbeklaa
open Go.RowKit
set_option linter.unusedVariables false
noncomputable def layB (p pw po d chk c : Int) : Bool := inB c 1 16 && inB d c 1500 && inB chk 1 64 && decide (d + c * chk ≤ 1500) && codeB p pw po (shareZ d c 0 + chk) chk && codeB p pw po (shareZ d c (c - 1) + chk) chk
theorem layB_true {p pw po d chk c : Int} (h : layB p pw po d chk c = true) : 1 ≤ c ∧ c ≤ 16 ∧ c ≤ d ∧ d ≤ 1500 ∧ 1 ≤ chk ∧ chk ≤ 64 ∧ d + c * chk ≤ 1500 := by
  simp only [layB, Bool.and_eq_true, decide_eq_true_eq] at h
  obtain ⟨⟨⟨⟨⟨h1, h2⟩, h3⟩, h4⟩, -⟩, -⟩ := h
  obtain ⟨a, b⟩ := inB_iff.1 h1
  obtain ⟨e, f⟩ := inB_iff.1 h2
  obtain ⟨g, i⟩ := inB_iff.1 h3
  exact ⟨a, b, e, f, g, i, h4⟩
set_option maxRecDepth 20000 in
set_option maxHeartbeats 4000000 in
theorem iTotal (p pw po d chk c : Int) (w : World) (c1 : 1 ≤ c) (c2 : c ≤ 16) (d1 : 0 ≤ d) (d2 : d ≤ 1500) (k1 : 1 ≤ chk) (k2 : chk ≤ 64) : Calls Try.prog 60 #[.agg #[.int .i64 p, .int .i64 pw, .int .i64 po, .int .i64 d, .int .i64 chk, .int .i64 c]] w fun e w' => e = .returned (.int .i64 (d + c * chk)) ∧ Below w.heap.size w w' := by
  have q0 : 0 ≤ c * chk := Int.mul_nonneg (by omega) (by omega)
  have q1 : c * chk ≤ 16 * chk := Int.mul_le_mul_of_nonneg_right c2 (by omega)
  go_enter Try.func60, Try.ntmps60
  go_wp2
  go_returns
  exact ⟨rfl, by repeat' (first | (with_reducible exact Below.refl _ _) | (with_reducible assumption) | (with_reducible refine Below.alloc ?_ ?_ _) | (with_reducible refine Below.setCell ?_ ?_ _) | (with_reducible refine Below.drew ?_) | (with_reducible refine below_drewN ?_ _) | (with_reducible refine below_via (by with_reducible assumption) ?_ ?_) | go_size)⟩
set_option maxRecDepth 20000 in
set_option maxHeartbeats 4000000 in
theorem sIsLayout (p pw po d chk c : Int) (w : World) : Calls Try.prog 14 #[.agg #[.int .i64 p, .int .i64 pw, .int .i64 po, .int .i64 d, .int .i64 chk, .int .i64 c]] w fun e w' => e = .returned (.bool (layB p pw po d chk c)) ∧ Below w.heap.size w w' := by
  cases h1 : inB c 1 16
  · have HE : Hid (false = layB p pw po d chk c) := by unfold Hid layB; rw [h1]; rfl
    go_enter Try.func14, Try.ntmps14
    go_wp2_with (go_at_call 55; refine (sIn _ _ _ _).mono ?_; rintro e w' ⟨rfl, rfl⟩)
    go_returns
    exact ⟨ret_bool HE.out, by repeat' (first | (with_reducible exact Below.refl _ _) | (with_reducible assumption) | (with_reducible refine Below.alloc ?_ ?_ _) | (with_reducible refine Below.setCell ?_ ?_ _) | (with_reducible refine Below.drew ?_) | (with_reducible refine below_drewN ?_ _) | (with_reducible refine below_via (by with_reducible assumption) ?_ ?_) | go_size)⟩
  obtain ⟨c1, c2⟩ := inB_iff.1 h1
  cases h2 : inB d c 1500
  · have HE : Hid (false = layB p pw po d chk c) := by unfold Hid layB; rw [h1, h2]; rfl
    go_enter Try.func14, Try.ntmps14
    go_wp2_with (go_at_call 55; refine (sIn _ _ _ _).mono ?_; rintro e w' ⟨rfl, rfl⟩)
    go_returns
    exact ⟨ret_bool HE.out, by repeat' (first | (with_reducible exact Below.refl _ _) | (with_reducible assumption) | (with_reducible refine Below.alloc ?_ ?_ _) | (with_reducible refine Below.setCell ?_ ?_ _) | (with_reducible refine Below.drew ?_) | (with_reducible refine below_drewN ?_ _) | (with_reducible refine below_via (by with_reducible assumption) ?_ ?_) | go_size)⟩
  obtain ⟨b1, b2⟩ := inB_iff.1 h2
  cases h3 : inB chk 1 64
  · have HE : Hid (false = layB p pw po d chk c) := by unfold Hid layB; rw [h1, h2, h3]; rfl
    go_enter Try.func14, Try.ntmps14
    go_wp2_with (go_at_call 55; refine (sIn _ _ _ _).mono ?_; rintro e w' ⟨rfl, rfl⟩)
    go_returns
    exact ⟨ret_bool HE.out, by repeat' (first | (with_reducible exact Below.refl _ _) | (with_reducible assumption) | (with_reducible refine Below.alloc ?_ ?_ _) | (with_reducible refine Below.setCell ?_ ?_ _) | (with_reducible refine Below.drew ?_) | (with_reducible refine below_drewN ?_ _) | (with_reducible refine below_via (by with_reducible assumption) ?_ ?_) | go_size)⟩
  obtain ⟨k1, k2⟩ := inB_iff.1 h3
  have q0 : 0 ≤ c * chk := Int.mul_nonneg (by omega) (by omega)
  have q1 : c * chk ≤ 16 * chk := Int.mul_le_mul_of_nonneg_right c2 (by omega)
  by_cases ht : 1500 < d + c * chk
  · have HE : Hid (false = layB p pw po d chk c) := by
      unfold Hid layB
      rw [h1, h2, h3, show decide (d + c * chk ≤ 1500) = false by simp; omega]; rfl
    go_enter Try.func14, Try.ntmps14
    go_wp2_with (first | (go_at_call 55; refine (sIn _ _ _ _).mono ?_; rintro e w' ⟨rfl, rfl⟩) | (go_at_call 57; refine (sBlock p pw po d chk c _ _ c1 b1 b2 k1 k2).mono ?_; rintro e w' ⟨rfl, hb⟩; obtain ⟨hc, hf⟩ := bcell hb; have hz := hb.size; (try simp at hz); have hz0 : w.heap.size < w'.heap.size := (by omega)) | (go_at_call 56; refine (sIsCode _ _ _ _ _ _).mono ?_; rintro e w' ⟨rfl, hb⟩; obtain ⟨hc, hf⟩ := bcell hb; have hz := hb.size; (try simp at hz); have hz0 : w.heap.size < w'.heap.size := (by omega)))
    go_returns
    exact ⟨ret_bool HE.out, by repeat' (first | (with_reducible exact Below.refl _ _) | (with_reducible assumption) | (with_reducible refine Below.alloc ?_ ?_ _) | (with_reducible refine Below.setCell ?_ ?_ _) | (with_reducible refine Below.drew ?_) | (with_reducible refine below_drewN ?_ _) | (with_reducible refine below_via (by with_reducible assumption) ?_ ?_) | go_size)⟩
  have hle : d + c * chk ≤ 1500 := by omega
  cases h4 : codeB p pw po (shareZ d c 0 + chk) chk
  · have HE : Hid (false = layB p pw po d chk c) := by
      unfold Hid layB
      rw [h1, h2, h3, h4, show decide (d + c * chk ≤ 1500) = true by simp; omega]; rfl
    go_enter Try.func14, Try.ntmps14
    go_wp2_with (first | (go_at_call 55; refine (sIn _ _ _ _).mono ?_; rintro e w' ⟨rfl, rfl⟩) | (go_at_call 57; refine (sBlock p pw po d chk c _ _ c1 b1 b2 k1 k2).mono ?_; rintro e w' ⟨rfl, hb⟩; obtain ⟨hc, hf⟩ := bcell hb; have hz := hb.size; (try simp at hz); have hz0 : w.heap.size < w'.heap.size := (by omega)) | (go_at_call 56; refine (sIsCode _ _ _ _ _ _).mono ?_; rintro e w' ⟨rfl, hb⟩; obtain ⟨hc, hf⟩ := bcell hb; have hz := hb.size; (try simp at hz); have hz0 : w.heap.size < w'.heap.size := (by omega)))
    go_returns
    exact ⟨ret_bool HE.out, by repeat' (first | (with_reducible exact Below.refl _ _) | (with_reducible assumption) | (with_reducible refine Below.alloc ?_ ?_ _) | (with_reducible refine Below.setCell ?_ ?_ _) | (with_reducible refine Below.drew ?_) | (with_reducible refine below_drewN ?_ _) | (with_reducible refine below_via (by with_reducible assumption) ?_ ?_) | go_size)⟩
  · have HE : Hid (codeB p pw po (shareZ d c (c - 1) + chk) chk = layB p pw po d chk c) := by
      unfold Hid layB
      rw [h1, h2, h3, h4, show decide (d + c * chk ≤ 1500) = true by simp; omega]; rfl
    go_enter Try.func14, Try.ntmps14
    go_wp2_with (first | (go_at_call 55; refine (sIn _ _ _ _).mono ?_; rintro e w' ⟨rfl, rfl⟩) | (go_at_call 57; refine (sBlock p pw po d chk c _ _ c1 b1 b2 k1 k2).mono ?_; rintro e w' ⟨rfl, hb⟩; obtain ⟨hc, hf⟩ := bcell hb; have hz := hb.size; (try simp at hz); have hz0 : w.heap.size < w'.heap.size := (by omega)) | (go_at_call 56; refine (sIsCode _ _ _ _ _ _).mono ?_; rintro e w' ⟨rfl, hb⟩; obtain ⟨hc, hf⟩ := bcell hb; have hz := hb.size; (try simp at hz); have hz0 : w.heap.size < w'.heap.size := (by omega)))
    go_returns
    exact ⟨ret_bool HE.out, by repeat' (first | (with_reducible exact Below.refl _ _) | (with_reducible assumption) | (with_reducible refine Below.alloc ?_ ?_ _) | (with_reducible refine Below.setCell ?_ ?_ _) | (with_reducible refine Below.drew ?_) | (with_reducible refine below_drewN ?_ _) | (with_reducible refine below_via (by with_reducible assumption) ?_ ?_) | go_size)⟩
set_option maxRecDepth 20000 in
set_option maxHeartbeats 4000000 in
theorem iIsLayout (p pw po d chk c : Int) (w : World) : Calls Try.prog 16 #[.agg #[.int .i64 p, .int .i64 pw, .int .i64 po, .int .i64 d, .int .i64 chk, .int .i64 c]] w fun e w' => e = .returned (.bool (layB p pw po d chk c)) ∧ Below w.heap.size w w' := by
  cases h1 : inB c 1 16
  · have HE : Hid (false = layB p pw po d chk c) := by unfold Hid layB; rw [h1]; rfl
    go_enter Try.func16, Try.ntmps16
    go_wp2_with (go_at_call 59; refine (iIn _ _ _ _).mono ?_; rintro e w' ⟨rfl, rfl⟩)
    go_returns
    exact ⟨ret_bool HE.out, by repeat' (first | (with_reducible exact Below.refl _ _) | (with_reducible assumption) | (with_reducible refine Below.alloc ?_ ?_ _) | (with_reducible refine Below.setCell ?_ ?_ _) | (with_reducible refine Below.drew ?_) | (with_reducible refine below_drewN ?_ _) | (with_reducible refine below_via (by with_reducible assumption) ?_ ?_) | go_size)⟩
  obtain ⟨c1, c2⟩ := inB_iff.1 h1
  cases h2 : inB d c 1500
  · have HE : Hid (false = layB p pw po d chk c) := by unfold Hid layB; rw [h1, h2]; rfl
    go_enter Try.func16, Try.ntmps16
    go_wp2_with (go_at_call 59; refine (iIn _ _ _ _).mono ?_; rintro e w' ⟨rfl, rfl⟩)
    go_returns
    exact ⟨ret_bool HE.out, by repeat' (first | (with_reducible exact Below.refl _ _) | (with_reducible assumption) | (with_reducible refine Below.alloc ?_ ?_ _) | (with_reducible refine Below.setCell ?_ ?_ _) | (with_reducible refine Below.drew ?_) | (with_reducible refine below_drewN ?_ _) | (with_reducible refine below_via (by with_reducible assumption) ?_ ?_) | go_size)⟩
  obtain ⟨b1, b2⟩ := inB_iff.1 h2
  cases h3 : inB chk 1 64
  · have HE : Hid (false = layB p pw po d chk c) := by unfold Hid layB; rw [h1, h2, h3]; rfl
    go_enter Try.func16, Try.ntmps16
    go_wp2_with (go_at_call 59; refine (iIn _ _ _ _).mono ?_; rintro e w' ⟨rfl, rfl⟩)
    go_returns
    exact ⟨ret_bool HE.out, by repeat' (first | (with_reducible exact Below.refl _ _) | (with_reducible assumption) | (with_reducible refine Below.alloc ?_ ?_ _) | (with_reducible refine Below.setCell ?_ ?_ _) | (with_reducible refine Below.drew ?_) | (with_reducible refine below_drewN ?_ _) | (with_reducible refine below_via (by with_reducible assumption) ?_ ?_) | go_size)⟩
  obtain ⟨k1, k2⟩ := inB_iff.1 h3
  have q0 : 0 ≤ c * chk := Int.mul_nonneg (by omega) (by omega)
  have q1 : c * chk ≤ 16 * chk := Int.mul_le_mul_of_nonneg_right c2 (by omega)
  by_cases ht : 1500 < d + c * chk
  · have HE : Hid (false = layB p pw po d chk c) := by
      unfold Hid layB
      rw [h1, h2, h3, show decide (d + c * chk ≤ 1500) = false by simp; omega]; rfl
    go_enter Try.func16, Try.ntmps16
    go_wp2_with (first | (go_at_call 59; refine (iIn _ _ _ _).mono ?_; rintro e w' ⟨rfl, rfl⟩) | (go_at_call 60; refine (iTotal p pw po d chk c _ c1 c2 (by omega) b2 k1 k2).mono ?_; rintro e w' ⟨rfl, hb⟩; obtain ⟨hc, hf⟩ := bcell hb; have hz := hb.size; (try simp at hz); have hz0 : w.heap.size < w'.heap.size := (by omega)) | (go_at_call 62; refine (iBlock p pw po d chk c _ _ c1 b1 b2 k1 k2).mono ?_; rintro e w' ⟨rfl, hb⟩; obtain ⟨hc, hf⟩ := bcell hb; have hz := hb.size; (try simp at hz); have hz0 : w.heap.size < w'.heap.size := (by omega)) | (go_at_call 61; refine (iIsCode _ _ _ _ _ _).mono ?_; rintro e w' ⟨rfl, hb⟩; obtain ⟨hc, hf⟩ := bcell hb; have hz := hb.size; (try simp at hz); have hz0 : w.heap.size < w'.heap.size := (by omega)))
    go_returns
    exact ⟨ret_bool HE.out, by repeat' (first | (with_reducible exact Below.refl _ _) | (with_reducible assumption) | (with_reducible refine Below.alloc ?_ ?_ _) | (with_reducible refine Below.setCell ?_ ?_ _) | (with_reducible refine Below.drew ?_) | (with_reducible refine below_drewN ?_ _) | (with_reducible refine below_via (by with_reducible assumption) ?_ ?_) | go_size)⟩
  have hle : d + c * chk ≤ 1500 := by omega
  cases h4 : codeB p pw po (shareZ d c 0 + chk) chk
  · have HE : Hid (false = layB p pw po d chk c) := by
      unfold Hid layB
      rw [h1, h2, h3, h4, show decide (d + c * chk ≤ 1500) = true by simp; omega]; rfl
    go_enter Try.func16, Try.ntmps16
    go_wp2_with (first | (go_at_call 59; refine (iIn _ _ _ _).mono ?_; rintro e w' ⟨rfl, rfl⟩) | (go_at_call 60; refine (iTotal p pw po d chk c _ c1 c2 (by omega) b2 k1 k2).mono ?_; rintro e w' ⟨rfl, hb⟩; obtain ⟨hc, hf⟩ := bcell hb; have hz := hb.size; (try simp at hz); have hz0 : w.heap.size < w'.heap.size := (by omega)) | (go_at_call 62; refine (iBlock p pw po d chk c _ _ c1 b1 b2 k1 k2).mono ?_; rintro e w' ⟨rfl, hb⟩; obtain ⟨hc, hf⟩ := bcell hb; have hz := hb.size; (try simp at hz); have hz0 : w.heap.size < w'.heap.size := (by omega)) | (go_at_call 61; refine (iIsCode _ _ _ _ _ _).mono ?_; rintro e w' ⟨rfl, hb⟩; obtain ⟨hc, hf⟩ := bcell hb; have hz := hb.size; (try simp at hz); have hz0 : w.heap.size < w'.heap.size := (by omega)))
    go_returns
    exact ⟨ret_bool HE.out, by repeat' (first | (with_reducible exact Below.refl _ _) | (with_reducible assumption) | (with_reducible refine Below.alloc ?_ ?_ _) | (with_reducible refine Below.setCell ?_ ?_ _) | (with_reducible refine Below.drew ?_) | (with_reducible refine below_drewN ?_ _) | (with_reducible refine below_via (by with_reducible assumption) ?_ ?_) | go_size)⟩
  · have HE : Hid (codeB p pw po (shareZ d c (c - 1) + chk) chk = layB p pw po d chk c) := by
      unfold Hid layB
      rw [h1, h2, h3, h4, show decide (d + c * chk ≤ 1500) = true by simp; omega]; rfl
    go_enter Try.func16, Try.ntmps16
    go_wp2_with (first | (go_at_call 59; refine (iIn _ _ _ _).mono ?_; rintro e w' ⟨rfl, rfl⟩) | (go_at_call 60; refine (iTotal p pw po d chk c _ c1 c2 (by omega) b2 k1 k2).mono ?_; rintro e w' ⟨rfl, hb⟩; obtain ⟨hc, hf⟩ := bcell hb; have hz := hb.size; (try simp at hz); have hz0 : w.heap.size < w'.heap.size := (by omega)) | (go_at_call 62; refine (iBlock p pw po d chk c _ _ c1 b1 b2 k1 k2).mono ?_; rintro e w' ⟨rfl, hb⟩; obtain ⟨hc, hf⟩ := bcell hb; have hz := hb.size; (try simp at hz); have hz0 : w.heap.size < w'.heap.size := (by omega)) | (go_at_call 61; refine (iIsCode _ _ _ _ _ _).mono ?_; rintro e w' ⟨rfl, hb⟩; obtain ⟨hc, hf⟩ := bcell hb; have hz := hb.size; (try simp at hz); have hz0 : w.heap.size < w'.heap.size := (by omega)))
    go_returns
    exact ⟨ret_bool HE.out, by repeat' (first | (with_reducible exact Below.refl _ _) | (with_reducible assumption) | (with_reducible refine Below.alloc ?_ ?_ _) | (with_reducible refine Below.setCell ?_ ?_ _) | (with_reducible refine Below.drew ?_) | (with_reducible refine below_drewN ?_ _) | (with_reducible refine below_via (by with_reducible assumption) ?_ ?_) | go_size)⟩
end Go.Proofs.Ytdpifddmhbeklaa
