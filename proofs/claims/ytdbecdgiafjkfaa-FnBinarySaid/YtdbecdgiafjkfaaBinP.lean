/-
  DERIVED. FnBinary: plain laws.
-/
import Derived.Test.YtdbecdgiafjkfaaBinOf
import Derived.Test.YtdbecdgiafjkfaaDark
import Derived.Test.YtdbecdgiafjkfaaLocI
import Derived.Test.YtdbecdgiafjkfaaInv2
namespace Go.Proofs.Ytdbecdgiafjkfaa
open Go.RowKit
set_option linter.unusedVariables false
theorem codeV_012 (r c limit : Int) (n : Nat) (zs : List Int) : (codeV r c limit n zs = 1 ∨ codeV r c limit n zs = 2) ∨ (codeV r c limit n zs = 0 ∧ (rasterB r c n zs && inB limit 0 256) = true) := by
  unfold codeV selI
  cases h1 : rasterB r c n zs <;> cases h2 : inB limit 0 256 <;> simp
theorem bin_code {r c limit : Int} {n : Nat} {zs : List Int} (hn : n ≤ 1048576) : ∃ (R C code : Int) (L : List Int),
    (∀ (a : Option Addr) (cp : Nat) (w : World), Rd w a n zs → Calls Try.prog 49 #[.agg #[.int .i64 r, .int .i64 c, .slice a n cp], .int .i64 limit] w (ResG w R C L code)) ∧
    (∀ (a : Option Addr) (cp : Nat) (w : World), Rd w a n zs → Calls Try.prog 50 #[.agg #[.int .i64 r, .int .i64 c, .slice a n cp], .int .i64 limit] w (ResG w R C L code)) ∧
    ((code = 1 ∨ code = 2) ∨ (code = 0 ∧ (rasterB r c n zs && inB limit 0 256) = true ∧ R = r ∧ C = c ∧ L = binL limit zs)) := by
  cases hc : (rasterB r c n zs && inB limit 0 256)
  · refine ⟨0, 0, codeV r c limit n zs, [], fun a cp w h => iBinaryOf_no r c a n cp zs limit w h hn hc, fun a cp w h => sBinaryOf_no r c a n cp zs limit w h hn hc, .inl ?_⟩
    rcases codeV_012 r c limit n zs with h | ⟨_, h⟩
    · exact h
    · rw [hc] at h; cases h
  · exact ⟨r, c, 0, binL limit zs, fun a cp w h => iBinaryOf_ok r c a n cp zs limit w h hn hc, fun a cp w h => sBinaryOf_ok r c a n cp zs limit w h hn hc, .inr ⟨rfl, rfl, rfl, rfl, rfl⟩⟩
theorem bin_grid {r c limit : Int} {n : Nat} {zs : List Int} (hr : rasterB r c n zs = true) : gridB r c n (binL limit zs) = true := by
  obtain ⟨r1, r2, r3, r4, r5, r6, r7, r8⟩ := rasterB_yes hr
  simp only [gridB, Bool.and_eq_true, decide_eq_true_eq, List.all_eq_true, inB_iff]
  refine ⟨⟨by omega, by omega⟩, ⟨by omega, by omega⟩, by omega, r7, ?_⟩
  intro x hx
  obtain ⟨y, _, rfl⟩ := List.mem_map.1 hx
  unfold binF
  split <;> omega
theorem inv_inv (zs : List Int) : (zs.map fun x => 255 - x).map (fun x => 255 - x) = zs := by
  rw [List.map_map]
  conv => rhs; rw [← List.map_id zs]
  apply List.map_congr_left
  intro x _
  simp only [Function.comp, id]
  omega
theorem inv_rast {r c : Int} {n : Nat} {zs : List Int} (hr : rasterB r c n zs = true) : rasterB r c n (zs.map fun x => 255 - x) = true := by
  unfold rasterB at hr ⊢
  simp only [Bool.and_eq_true, List.all_eq_true, inB_iff] at hr ⊢
  refine ⟨hr.1, hr.2.1, ?_⟩
  intro x hx
  obtain ⟨y, hy, rfl⟩ := List.mem_map.1 hx
  have := hr.2.2 y hy
  omega
theorem loc_one (zs : List Int) (R C i j : Nat) (hi : i < R) (hj : j < C) : locV zs R C 0 (-1) i j = 1 := by
  have e1 : winN R i 0 = 1 := by unfold winN; omega
  have e2 : winN C j 0 = 1 := by unfold winN; omega
  have e3 : winS zs C i j 1 1 = zs.getD (i * C + j) 0 := by
    unfold winS
    simp only [sumZ]
    simp
  unfold locV
  rw [if_pos]
  rw [e1, e2, show winS zs C (i - 0) (j - 0) 1 1 = zs.getD (i * C + j) 0 from e3]
  simp
  omega
theorem loc_ones (zs : List Int) (R C : Nat) : ∀ x ∈ rastL C (locV zs R C 0 (-1)) (R * C), x ≠ 0 := by
  intro x hx
  obtain ⟨k, hk, rfl⟩ := List.mem_map.1 hx
  have hk := List.mem_range.1 hk
  rw [loc_one zs R C _ _ (by
    rw [Nat.div_lt_iff_lt_mul]
    · exact hk
    · rcases Nat.eq_zero_or_pos C with h | h
      · rw [h] at hk; simp at hk
      · exact h) (Nat.mod_lt _ (by
    rcases Nat.eq_zero_or_pos C with h | h
    · rw [h] at hk; simp at hk
    · exact h))]
  omega
end Go.Proofs.Ytdbecdgiafjkfaa
