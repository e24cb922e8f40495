/-
  DERIVED. IsField: spec.l02Runs.
-/
import Derived.Test.YtenelpollcabnaaFld0
namespace Go.Proofs.Ytenelpollcabnaa
open Go.RowKit
set_option linter.unusedVariables false
set_option maxRecDepth 20000 in
set_option maxHeartbeats 2000000 in
theorem sRuns (p pw po g : Int) (T : Int → Int) (m : Nat) (hm : 1 ≤ m) (hm2 : m ≤ 1020)
    (hsz : ∀ W, Calls Try.prog 105 #[.agg #[.int .i64 p, .int .i64 pw, .int .i64 po]] W fun e w' => e = .returned (.int .i64 ((m : Int) + 1)) ∧ Below W.heap.size W w')
    (hmul : ∀ x W, 0 ≤ x → x < (m : Int) + 1 → Calls Try.prog 106 #[.agg #[.int .i64 p, .int .i64 pw, .int .i64 po], .int .i64 x, .int .i64 g] W fun e w' => e = .returned (.int .i64 (T x)) ∧ Below W.heap.size W w')
    (hT : ∀ x, 0 ≤ x → x < (m : Int) + 1 → 0 ≤ T x ∧ T x < (m : Int) + 1) (h1 : T 1 = g) (w : World) :
    Calls Try.prog 97 #[.agg #[.int .i64 p, .int .i64 pw, .int .i64 po], .int .i64 g] w fun e w' => e = .returned (.bool (fillB T m)) ∧ Below w.heap.size w w' := by
  have HSZ := Lib.hid hsz
  have HMU := Lib.hid hmul
  have HT := Lib.hid hT
  clear hsz hmul hT
  have HO : Hid (∀ n, 0 ≤ orb T n ∧ orb T n < (m : Int) + 1) := fun n => orb_in (by omega) HT.out n
  have hg : Hid (g = orb T 1) := by unfold Hid; rw [← h1]; rfl
  clear h1
  have wm : IntKind.i64.wrap ((m : Int) + 1 - 1) = (m : Int) := by rw [IntWalk.i64_in _ (by omega)]; omega
  go_enter Try.func97, Try.ntmps97
  go_wp2
  go_loopw [5, 6] (fun xv nv wr => ∃ (x : Int) (n : Nat), xv = .int .i64 x ∧ nv = .int .i64 (n : Int) ∧ 1 ≤ n ∧ n ≤ m + 1 ∧ Hid (x = orb T n) ∧ Hid (Goes T n) ∧ Hid (Below w.heap.size w wr) ∧ w.heap.size < wr.heap.size ∧ wr.cell? ⟨w.heap.size, 0, none⟩ = some (.int .i64 p) ∧ wr.cell? ⟨w.heap.size, 1, none⟩ = some (.int .i64 pw) ∧ wr.cell? ⟨w.heap.size, 2, none⟩ = some (.int .i64 po)) (fun _ n _ => m + 1 - (intOf n).toNat)
  case atStart => exact ⟨g, 1, rfl, rfl, by omega, by omega, hg, Goes.one T, by unfold Hid; repeat' (first | (with_reducible exact Below.refl _ _) | (with_reducible assumption) | (with_reducible refine Below.alloc ?_ ?_ _) | (with_reducible refine Below.setCell ?_ ?_ _) | (with_reducible refine Below.drew ?_) | (with_reducible refine below_drewN ?_ _) | (with_reducible refine below_via (by with_reducible assumption) ?_ ?_) | go_size), by simp, by simp [go_sem], by simp [go_sem], by simp [go_sem]⟩
  case round =>
    obtain ⟨x, n, rfl, rfl, n1, n2, HX, HG, HB, z0, z1, z2, z3⟩ := hrel
    obtain ⟨x0, x1⟩ : 0 ≤ x ∧ x < (m : Int) + 1 := by rw [HX.out]; exact HO.out n
    by_cases hx1 : x = 1
    · subst hx1
      have HE : Hid (∀ b : Bool, (b = true ↔ n = m) → b = fillB T m) := fun b hb => fillB_iff (by
        rw [← Fills.of_runs HG.out n1 hm n2 (.inl HX.out.symm), hb]
        exact ⟨fun h => ⟨HX.out.symm, h⟩, fun h => h.2⟩)
      go_wp2_with (go_at_call 105; refine (HSZ.out _).mono ?_; rintro e w' ⟨rfl, hb⟩; obtain ⟨hc, hf⟩ := bcell hb; have hz := hb.size; (try simp at hz))
      go_returns
      have hbel := HB.out
      exact ⟨ret_bool (HE.out _ (by simp; omega)), by repeat' (first | (with_reducible exact Below.refl _ _) | (with_reducible assumption) | (with_reducible refine Below.alloc ?_ ?_ _) | (with_reducible refine Below.setCell ?_ ?_ _) | (with_reducible refine Below.drew ?_) | (with_reducible refine below_drewN ?_ _) | (with_reducible refine below_via (by with_reducible assumption) ?_ ?_) | go_size)⟩
    by_cases hx0 : x = 0
    · subst hx0
      have HE : Hid (false = fillB T m) := fillB_iff (by
        rw [← Fills.of_runs HG.out n1 hm n2 (.inr (.inl HX.out.symm))]
        constructor
        · intro h; cases h
        · rintro ⟨h, -⟩; exact absurd (HX.out.symm ▸ h : (0 : Int) = 1) (by decide))
      go_wp2
      go_returns
      exact ⟨ret_bool HE.out, HB.out⟩
    have b1 : (x != 1) = true := by simp [hx1]
    have b0 : (x != 0) = true := by simp [hx0]
    by_cases hn : n < m + 1
    · have hnn : (n : Int) < (m : Int) + 1 := by omega
      have HS : Hid (T x = orb T (n + 1)) := by rw [HX.out]; rfl
      have HG' : Hid (Goes T (n + 1)) := HG.out.succ (by rw [← HX.out]; exact hx0) (fun _ => by rw [← HX.out]; exact hx1)
      have hbel := HB.out
      go_wp2_with (first | (go_at_call 105; refine (HSZ.out _).mono ?_; rintro e w' ⟨rfl, hb⟩; obtain ⟨hc, hf⟩ := bcell hb; have hz := hb.size; (try simp at hz)) | (go_at_call 106; refine (HMU.out x _ x0 x1).mono ?_; rintro e w2 ⟨rfl, hb2⟩; obtain ⟨hc2, hf2⟩ := bcell hb2; have hz2 := hb2.size; (try simp at hz2)))
      go_roundw
      case rel => exact ⟨T x, n + 1, rfl, by simp, by omega, by omega, HS, HG', by unfold Hid; repeat' (first | (with_reducible exact Below.refl _ _) | (with_reducible assumption) | (with_reducible refine Below.alloc ?_ ?_ _) | (with_reducible refine Below.setCell ?_ ?_ _) | (with_reducible refine Below.drew ?_) | (with_reducible refine below_drewN ?_ _) | (with_reducible refine below_via (by with_reducible assumption) ?_ ?_) | go_size), by omega, (hc2 _ _ (by omega)).trans ((hc _ _ (by omega)).trans z1), (hc2 _ _ (by omega)).trans ((hc _ _ (by omega)).trans z2), (hc2 _ _ (by omega)).trans ((hc _ _ (by omega)).trans z3)⟩
      case measure => simp [intOf]; omega
    · have en : n = m + 1 := by omega
      subst en
      have HE : Hid (false = fillB T m) := fillB_iff (by
        rw [← Fills.of_runs HG.out n1 hm n2 (.inr (.inr rfl))]
        constructor
        · intro h; cases h
        · rintro ⟨-, h⟩; omega)
      have hbel := HB.out
      go_wp2_with (go_at_call 105; refine (HSZ.out _).mono ?_; rintro e w' ⟨rfl, hb⟩; obtain ⟨hc, hf⟩ := bcell hb; have hz := hb.size; (try simp at hz))
      go_returns
      exact ⟨ret_bool HE.out, by repeat' (first | (with_reducible exact Below.refl _ _) | (with_reducible assumption) | (with_reducible refine Below.alloc ?_ ?_ _) | (with_reducible refine Below.setCell ?_ ?_ _) | (with_reducible refine Below.drew ?_) | (with_reducible refine below_drewN ?_ _) | (with_reducible refine below_via (by with_reducible assumption) ?_ ?_) | go_size)⟩
end Go.Proofs.Ytenelpollcabnaa
