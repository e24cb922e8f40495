/-
  DERIVED. FnMedians: plain laws; LocalBinary's two sides.
-/
import Derived.Test.YtfiddbmjgncabaaMedR
import Derived.Test.YtfiddbmjgncabaaEnds
import Derived.Test.YtfiddbmjgncabaaLocI
import Derived.Test.YtfiddbmjgncabaaLocN
import Derived.Test.YtfiddbmjgncabaaLocS2
namespace Go.Proofs.Ytfiddbmjgncabaa
open Go.RowKit
set_option linter.unusedVariables false
theorem lo_le (zs : List Int) : ∀ k, 1 ≤ k → ∀ j, j < k → loV zs k ≤ zs.getD j 0 := by
  intro k
  induction k with
  | zero => intro h; omega
  | succ k ih =>
    intro _ j hj
    rcases Nat.eq_zero_or_pos k with h0 | h0
    · subst h0
      have : j = 0 := by omega
      subst this
      rw [show (0 : Nat) + 1 = 1 from rfl, loV_one]
      exact Int.le_refl _
    · rw [loV_succ _ _ h0]
      rcases Nat.lt_or_ge j k with h | h
      · have := ih h0 j h; omega
      · have : j = k := by omega
        subst this
        omega
theorem hi_ge (zs : List Int) : ∀ k, 1 ≤ k → ∀ j, j < k → zs.getD j 0 ≤ hiV zs k := by
  intro k
  induction k with
  | zero => intro h; omega
  | succ k ih =>
    intro _ j hj
    rcases Nat.eq_zero_or_pos k with h0 | h0
    · subst h0
      have : j = 0 := by omega
      subst this
      rw [show (0 : Nat) + 1 = 1 from rfl, hiV_one]
      exact Int.le_refl _
    · rw [hiV_succ _ _ h0]
      rcases Nat.lt_or_ge j k with h | h
      · have := ih h0 j h; omega
      · have : j = k := by omega
        subst this
        omega
theorem med_bd {zs : List Int} {R C i j : Nat} {A B : Int} (hl : zs.length = R * C) (h : ∀ x ∈ zs, A ≤ x ∧ x ≤ B) (hi : i < R) (hj : j < C) : A ≤ medV zs R C i j ∧ medV zs R C i j ≤ B := by
  obtain ⟨a1, a2, a3, -, -⟩ := winN_le (R := R) (rad := 1) hi (by omega)
  obtain ⟨c1, c2, c3, -, -⟩ := winN_le (R := C) (rad := 1) hj (by omega)
  have hm : 1 ≤ winN R i 1 * winN C j 1 := Nat.mul_pos a1 c1
  have hlen := winL_length zs C (i - 1) (j - 1) (winN R i 1) (winN C j 1)
  have hin : medV zs R C i j ∈ winL zs C (i - 1) (j - 1) (winN R i 1) (winN C j 1) := by
    refine (List.mergeSort_perm (winL zs C (i - 1) (j - 1) (winN R i 1) (winN C j 1)) (fun x y => decide (x ≤ y))).mem_iff.1 ?_
    show medV zs R C i j ∈ sortZ (winL zs C (i - 1) (j - 1) (winN R i 1) (winN C j 1))
    unfold medV
    exact getD_mem (by rw [sortZ_length, hlen]; omega)
  unfold winL rastL at hin
  obtain ⟨q, hq, e⟩ := List.mem_map.1 hin
  have hq := List.mem_range.1 hq
  have h1 : q / winN C j 1 < winN R i 1 := by rw [Nat.div_lt_iff_lt_mul (by omega)]; exact hq
  have h2 : q % winN C j 1 < winN C j 1 := Nat.mod_lt _ (by omega)
  rw [← e]
  exact h _ (getD_mem (by rw [hl]; exact row_lt (by omega) (by omega)))
theorem med_contrast {R C n : Nat} {zs : List Int} (hl : zs.length = n) (hr : rasterB (R : Int) (C : Int) n zs = true) :
    rasterB (R : Int) (C : Int) n (rastL C (medV zs R C) (R * C)) = true ∧ (rastL C (medV zs R C) (R * C)).length = n ∧ conO (R : Int) (C : Int) n (rastL C (medV zs R C) (R * C)) ≤ conO (R : Int) (C : Int) n zs := by
  obtain ⟨r1, r2, r3, r4, r5, r6, r7, r8⟩ := rasterB_yes hr
  have e2 : (R : Int) * (C : Int) = ((R * C : Nat) : Int) := by simp
  have hn : n = R * C := by omega
  have hlen : (rastL C (medV zs R C) (R * C)).length = n := by rw [rastL_length, hn]
  have hmem : ∀ {A B : Int}, (∀ x ∈ zs, A ≤ x ∧ x ≤ B) → ∀ x ∈ rastL C (medV zs R C) (R * C), A ≤ x ∧ x ≤ B := by
    intro A B h x hx
    unfold rastL at hx
    obtain ⟨q, hq, rfl⟩ := List.mem_map.1 hx
    have hq := List.mem_range.1 hq
    exact med_bd (by rw [hl, hn]) h (by rw [Nat.div_lt_iff_lt_mul (by omega)]; exact hq) (Nat.mod_lt _ (by omega))
  have hrm : rasterB (R : Int) (C : Int) n (rastL C (medV zs R C) (R * C)) = true := by
    unfold rasterB at hr ⊢
    simp only [Bool.and_eq_true, List.all_eq_true, inB_iff] at hr ⊢
    exact ⟨hr.1, hr.2.1, hmem r8⟩
  refine ⟨hrm, hlen, ?_⟩
  have hb : ∀ x ∈ zs, loV zs n ≤ x ∧ x ≤ hiV zs n := by
    intro x hx
    obtain ⟨k, hk, rfl⟩ := List.mem_iff_getElem.1 hx
    have e : zs.getD k 0 = zs[k] := by simp [List.getD_eq_getElem?_getD, List.getElem?_eq_getElem hk]
    rw [← e]
    exact ⟨lo_le zs n (by omega) k (by omega), hi_ge zs n (by omega) k (by omega)⟩
  obtain ⟨⟨b1, b2⟩, b3, b4⟩ := ends_in (hmem hb) n (by omega) (by omega)
  unfold conO selI
  rw [hr, hrm]
  show hiV _ n - loV _ n ≤ hiV zs n - loV zs n
  omega
theorem loc_code {r c rad off : Int} {n : Nat} {zs : List Int} (hn : n ≤ 1048576) : ∃ (R C code : Int) (L : List Int),
    (∀ (a : Option Addr) (cp : Nat) (w : World), Rd w a n zs → Calls Try.prog 46 #[.agg #[.int .i64 r, .int .i64 c, .slice a n cp], .int .i64 rad, .int .i64 off] w (ResG w R C L code)) ∧
    (∀ (a : Option Addr) (cp : Nat) (w : World), Rd w a n zs → Calls Try.prog 47 #[.agg #[.int .i64 r, .int .i64 c, .slice a n cp], .int .i64 rad, .int .i64 off] w (ResG w R C L code)) := by
  cases hc : rasterB r c n zs
  · exact ⟨0, 0, 1, [], fun a cp w h => iLocal_no r c a n cp zs rad off w h hn hc, fun a cp w h => sLocal_no r c a n cp zs rad off w h hn hc⟩
  cases hw : (inB rad 0 20 && inB off (-255) 255)
  · exact ⟨0, 0, 2, [], fun a cp w h => iLocal_rng r c a n cp zs rad off w h hn hc hw, fun a cp w h => sLocal_rng r c a n cp zs rad off w h hn hc hw⟩
  · obtain ⟨r1, r2, r3, r4, -⟩ := rasterB_yes hc
    have hw1 : inB rad 0 20 = true ∧ inB off (-255) 255 = true := by simpa using hw
    have q1 := inB_iff.1 hw1.1
    have q2 := inB_iff.1 hw1.2
    obtain ⟨rows, rfl⟩ := Int.eq_ofNat_of_zero_le (show 0 ≤ r by omega)
    obtain ⟨cols, rfl⟩ := Int.eq_ofNat_of_zero_le (show 0 ≤ c by omega)
    obtain ⟨rd, rfl⟩ := Int.eq_ofNat_of_zero_le (show 0 ≤ rad by omega)
    exact ⟨_, _, _, _, fun a cp w h => iLocal_ok rows cols rd off a n cp zs w h hn hc (by omega) (by omega) (by omega), fun a cp w h => sLocal_ok rows cols rd off a n cp zs w h hn hc (by omega) (by omega) (by omega)⟩
theorem med_code {r c : Int} {n : Nat} {zs : List Int} (hn : n ≤ 1048576) : ∃ (R C code : Int) (L : List Int),
    (∀ (a : Option Addr) (cp : Nat) (w : World), Rd w a n zs → Calls Try.prog 42 #[.agg #[.int .i64 r, .int .i64 c, .slice a n cp]] w (ResG w R C L code)) ∧
    (∀ (a : Option Addr) (cp : Nat) (w : World), Rd w a n zs → Calls Try.prog 41 #[.agg #[.int .i64 r, .int .i64 c, .slice a n cp]] w (ResG w R C L code)) ∧
    (code = 1 ∨ (code = 0 ∧ rasterB r c n zs = true ∧ R = r ∧ C = c ∧ ∃ Ro Co : Nat, r = (Ro : Int) ∧ c = (Co : Int) ∧ L = rastL Co (medV zs Ro Co) (Ro * Co))) := by
  cases hc : rasterB r c n zs
  · exact ⟨0, 0, 1, [], fun a cp w h => iMedianRaster_no r c a n cp zs w h hn hc, fun a cp w h => sMedianRaster_no r c a n cp zs w h hn hc, .inl rfl⟩
  · obtain ⟨r1, r2, r3, r4, -⟩ := rasterB_yes hc
    obtain ⟨rows, rfl⟩ := Int.eq_ofNat_of_zero_le (show 0 ≤ r by omega)
    obtain ⟨cols, rfl⟩ := Int.eq_ofNat_of_zero_le (show 0 ≤ c by omega)
    exact ⟨_, _, _, _, fun a cp w h => iMedianRaster_ok rows cols a n cp zs w h hn hc, fun a cp w h => sMedianRaster_ok rows cols a n cp zs w h hn hc, .inr ⟨rfl, rfl, rfl, rfl, rows, cols, rfl, rfl, rfl⟩⟩
end Go.Proofs.Ytfiddbmjgncabaa
