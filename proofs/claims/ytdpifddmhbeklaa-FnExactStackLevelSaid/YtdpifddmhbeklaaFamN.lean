/-
  DERIVED. IsFamily: the small functions.
-/
import Derived.Test.YtdpifddmhbeklaaLayQ
import Derived.Test.YtdpifddmhbeklaaBas
namespace Go.Proofs.Ytdpifddmhbeklaa
open Go.RowKit
set_option linter.unusedVariables false
def NameTo (s : ByteArray) (n : Nat) : Prop := ∀ k, (h : k < s.size) → k < n → 97 ≤ (s[k].toNat : Int) ∧ (s[k].toNat : Int) ≤ 122
noncomputable def nameB (s : ByteArray) : Bool := @decide (NameTo s s.size) (Classical.propDecidable _) && inB (s.size : Int) 1 8
theorem NameTo.zero (s : ByteArray) : NameTo s 0 := fun k _ h => by omega
theorem NameTo.succ {s : ByteArray} {n : Nat} (h : NameTo s n) (hn : n < s.size) (h1 : 97 ≤ (s[n].toNat : Int)) (h2 : (s[n].toNat : Int) ≤ 122) : NameTo s (n + 1) := fun k hk hkn => by
  rcases Nat.lt_or_ge k n with h3 | h3
  · exact h k hk h3
  · obtain rfl : k = n := by omega
    exact ⟨h1, h2⟩
theorem nameB_no {s : ByteArray} {n : Nat} (hn : n < s.size) (h : (s[n].toNat : Int) < 97 ∨ 122 < (s[n].toNat : Int)) : nameB s = false := by
  have : ¬ NameTo s s.size := fun h2 => by
    have := h2 n hn hn
    omega
  simp [nameB, this]
theorem nameB_end {s : ByteArray} (h : NameTo s s.size) : nameB s = inB (s.size : Int) 1 8 := by simp [nameB, h]
def RiseTo (zs : List Int) (lo hi : Int) (n : Nat) : Prop := ∀ k, k < n → (lo ≤ zs.getD k 0 ∧ zs.getD k 0 ≤ hi) ∧ (0 < k → zs.getD (k - 1) 0 < zs.getD k 0)
noncomputable def riseB (zs : List Int) (lo hi : Int) (n : Nat) : Bool := @decide (RiseTo zs lo hi n) (Classical.propDecidable _)
theorem RiseTo.zero (zs : List Int) (lo hi : Int) : RiseTo zs lo hi 0 := fun k h => by omega
theorem RiseTo.succ {zs : List Int} {lo hi : Int} {n : Nat} (h : RiseTo zs lo hi n) (h1 : lo ≤ zs.getD n 0 ∧ zs.getD n 0 ≤ hi) (h2 : 0 < n → zs.getD (n - 1) 0 < zs.getD n 0) : RiseTo zs lo hi (n + 1) := fun k hk => by
  rcases Nat.lt_or_ge k n with h3 | h3
  · exact h k h3
  · obtain rfl : k = n := by omega
    exact ⟨h1, h2⟩
theorem riseB_no {zs : List Int} {lo hi : Int} {n k : Nat} (hk : k < n) (h : inB (zs.getD k 0) lo hi = false ∨ (0 < k ∧ zs.getD k 0 ≤ zs.getD (k - 1) 0)) : riseB zs lo hi n = false := by
  have : ¬ RiseTo zs lo hi n := fun h2 => by
    have h3 := h2 k hk
    rcases h with h | ⟨h4, h5⟩
    · have := inB_no h
      omega
    · have := h3.2 h4
      omega
  simp [riseB, this]
theorem riseB_yes {zs : List Int} {lo hi : Int} {n : Nat} (h : RiseTo zs lo hi n) : riseB zs lo hi n = true := by simp [riseB, h]
def HasNo (zs : List Int) (v : Int) (n : Nat) : Prop := ∀ k, k < n → zs.getD k 0 ≠ v
noncomputable def hasB (zs : List Int) (v : Int) (n : Nat) : Bool := @decide (¬ HasNo zs v n) (Classical.propDecidable _)
theorem HasNo.zero (zs : List Int) (v : Int) : HasNo zs v 0 := fun k h => by omega
theorem HasNo.succ {zs : List Int} {v : Int} {n : Nat} (h : HasNo zs v n) (h1 : zs.getD n 0 ≠ v) : HasNo zs v (n + 1) := fun k hk => by
  rcases Nat.lt_or_ge k n with h3 | h3
  · exact h k h3
  · obtain rfl : k = n := by omega
    exact h1
theorem hasB_yes {zs : List Int} {v : Int} {n k : Nat} (hk : k < n) (h : zs.getD k 0 = v) : hasB zs v n = true := by
  have : ¬ HasNo zs v n := fun h2 => h2 k hk h
  simp [hasB, this]
theorem hasB_no {zs : List Int} {v : Int} {n : Nat} (h : HasNo zs v n) : hasB zs v n = false := by simp [hasB, h]
set_option maxRecDepth 20000 in
set_option maxHeartbeats 2000000 in
theorem iName (s : ByteArray) (w : World) (hs : s.size ≤ maxLen) : Calls Try.prog 115 #[.string s] w fun e w' => e = .returned (.bool (nameB s)) ∧ w = w' := by
  have hs2 : (s.size : Int) ≤ 9223372036854775807 := by have h := hs; unfold maxLen at h; omega
  go_enter Try.func115, Try.ntmps115
  go_wp2
  go_loopw [3] (fun v wr => ∃ (k : Nat), v = .int .i64 (k : Int) ∧ k ≤ s.size ∧ Hid (NameTo s k) ∧ w = wr) (fun v _ => s.size - (intOf v).toNat)
  case atStart => exact ⟨0, rfl, by omega, NameTo.zero s, rfl⟩
  case round =>
    obtain ⟨k, rfl, k1, HN, rfl⟩ := hrel
    by_cases hlt : k < s.size
    · have hk : (k : Int) < (s.size : Int) := by omega
      have hk0 : (0 : Int) ≤ (k : Int) := by omega
      have hw : wrap64 ((k : Int) + 1) = ((k + 1 : Nat) : Int) := by unfold wrap64; omega
      by_cases ha : (s[k].toNat : Int) < 97
      · have HE : Hid (false = nameB s) := (nameB_no hlt (.inl ha)).symm
        go_wp2
        go_returns
        exact ⟨ret_bool HE.out, rfl⟩
      have ha2 : 97 ≤ (s[k].toNat : Int) := by omega
      by_cases hc : 122 < (s[k].toNat : Int)
      · have HE : Hid (false = nameB s) := (nameB_no hlt (.inr hc)).symm
        go_wp2
        go_returns
        exact ⟨ret_bool HE.out, rfl⟩
      have hc2 : (s[k].toNat : Int) ≤ 122 := by omega
      have HN2 := Lib.hid (HN.out.succ hlt ha2 hc2)
      go_wp2
      go_roundw
      case rel => exact ⟨k + 1, by first | rfl | exact congrArg (Value.int .i64) hw, by omega, HN2, trivial⟩
      case measure => first | (simp [intOf]; omega) | (rw [hw]; simp [intOf]; omega)
    · obtain rfl : k = s.size := by omega
      have HE : Hid (nameB s = inB (s.size : Int) 1 8) := nameB_end HN.out
      go_wp2_with (go_at_call 59; refine (iIn _ _ _ _).mono ?_; rintro e w' ⟨rfl, rfl⟩)
      go_returns
      exact ⟨ret_bool HE.out.symm, rfl⟩
set_option maxRecDepth 20000 in
set_option maxHeartbeats 2000000 in
theorem sName (s : ByteArray) (w : World) (hs : s.size ≤ maxLen) : Calls Try.prog 112 #[.string s] w fun e w' => e = .returned (.bool (nameB s)) ∧ w = w' := by
  have hs2 : (s.size : Int) ≤ 9223372036854775807 := by have h := hs; unfold maxLen at h; omega
  go_enter Try.func112, Try.ntmps112
  go_wp2
  go_loopw [3] (fun v wr => ∃ (k : Nat), v = .int .i64 (k : Int) ∧ k ≤ s.size ∧ Hid (NameTo s k) ∧ w = wr) (fun v _ => s.size - (intOf v).toNat)
  case atStart => exact ⟨0, rfl, by omega, NameTo.zero s, rfl⟩
  case round =>
    obtain ⟨k, rfl, k1, HN, rfl⟩ := hrel
    by_cases hlt : k < s.size
    · have hk : (k : Int) < (s.size : Int) := by omega
      have hk0 : (0 : Int) ≤ (k : Int) := by omega
      have hw : wrap64 ((k : Int) + 1) = ((k + 1 : Nat) : Int) := by unfold wrap64; omega
      by_cases ha : (s[k].toNat : Int) < 97
      · have HE : Hid (false = nameB s) := (nameB_no hlt (.inl ha)).symm
        go_wp2
        go_returns
        exact ⟨ret_bool HE.out, rfl⟩
      have ha2 : 97 ≤ (s[k].toNat : Int) := by omega
      by_cases hc : 122 < (s[k].toNat : Int)
      · have HE : Hid (false = nameB s) := (nameB_no hlt (.inr hc)).symm
        go_wp2
        go_returns
        exact ⟨ret_bool HE.out, rfl⟩
      have hc2 : (s[k].toNat : Int) ≤ 122 := by omega
      have HN2 := Lib.hid (HN.out.succ hlt ha2 hc2)
      go_wp2
      go_roundw
      case rel => exact ⟨k + 1, by first | rfl | exact congrArg (Value.int .i64) hw, by omega, HN2, trivial⟩
      case measure => first | (simp [intOf]; omega) | (rw [hw]; simp [intOf]; omega)
    · obtain rfl : k = s.size := by omega
      have HE : Hid (nameB s = inB (s.size : Int) 1 8) := nameB_end HN.out
      have HE2 : Hid (nameB s = (decide (1 ≤ (s.size : Int)) && decide ((s.size : Int) ≤ 8))) := by unfold Hid; rw [HE.out]; rfl
      by_cases h1 : 1 ≤ (s.size : Int)
      · by_cases h2 : (s.size : Int) ≤ 8
        · have HE3 : Hid (nameB s = true) := by unfold Hid; rw [HE2.out]; simp only [h1, h2]; rfl
          go_wp2
          go_returns
          exact ⟨ret_bool HE3.out.symm, rfl⟩
        · have HE3 : Hid (nameB s = false) := by unfold Hid; rw [HE2.out]; simp only [h1, h2]; rfl
          go_wp2
          go_returns
          exact ⟨ret_bool HE3.out.symm, rfl⟩
      · have HE3 : Hid (nameB s = false) := by unfold Hid; rw [HE2.out]; simp only [h1]; rfl
        go_wp2
        go_returns
        exact ⟨ret_bool HE3.out.symm, rfl⟩
set_option maxRecDepth 20000 in
set_option maxHeartbeats 2000000 in
theorem iRises (a : Option Addr) (n cp : Nat) (zs : List Int) (lo hi : Int) (w : World) (h : Rd w a n zs) (hn : n ≤ 1048576) : Calls Try.prog 116 #[.slice a n cp, .int .i64 lo, .int .i64 hi] w fun e w' => e = .returned (.bool (riseB zs lo hi n)) ∧ w = w' := by
  have HH := Lib.hid h
  clear h
  go_enter Try.func116, Try.ntmps116
  go_wp2
  go_loopw [11] (fun v wr => ∃ (k : Nat), v = .int .i64 (k : Int) ∧ k ≤ n ∧ Hid (RiseTo zs lo hi k) ∧ w = wr) (fun v _ => n - (intOf v).toNat)
  case atStart => exact ⟨0, rfl, by omega, RiseTo.zero _ _ _, rfl⟩
  case round =>
    obtain ⟨k, rfl, k1, HN, rfl⟩ := hrel
    by_cases hlt : k < n
    · have hk : (k : Int) < (n : Int) := by omega
      have hk0 : (0 : Int) ≤ (k : Int) := by omega
      obtain ⟨b, off, rfl, hb, hcell⟩ := HH.out.2 (by omega)
      have HC := Lib.hid hcell
      have hc := hcell k hlt
      clear hcell
      obtain ⟨z, hz⟩ : ∃ z, zs.getD k 0 = z := ⟨_, rfl⟩
      rw [hz] at hc
      cases hin : inB z lo hi
      · have HE : Hid (false = riseB zs lo hi n) := (riseB_no hlt (.inl (by rw [hz]; exact hin))).symm
        clear hz
        go_wp2_with (go_at_call 59; refine (iIn _ _ _ _).mono ?_; rintro e w' ⟨rfl, rfl⟩)
        go_returns
        exact ⟨ret_bool HE.out, rfl⟩
      rcases Nat.eq_zero_or_pos k with h0 | hp
      · have HN2 := Lib.hid (HN.out.succ (by rw [hz]; exact inB_iff.1 hin) (fun h => by omega))
        have hp0 : ¬ ((0 : Int) < (k : Int)) := by omega
        have hp1 : ¬ (0 < k) := by omega
        clear hz h0
        go_wp2_with (go_at_call 59; refine (iIn _ _ _ _).mono ?_; rintro e w' ⟨rfl, rfl⟩)
        go_roundw
        case rel => exact ⟨k + 1, by simp, by omega, HN2, trivial⟩
        case measure => simp [intOf]; omega
      · obtain ⟨j, rfl⟩ : ∃ j, k = j + 1 := ⟨k - 1, by omega⟩
        have hc2 := HC.out j (by omega)
        obtain ⟨y, hy⟩ : ∃ y, zs.getD j 0 = y := ⟨_, rfl⟩
        rw [hy] at hc2
        have hj1 : ((j + 1 : Nat) : Int) - 1 = (j : Int) := by omega
        have hj2 : (0 : Int) < ((j + 1 : Nat) : Int) := by omega
        have hjn : (j : Int) < (n : Int) := by omega
        have hj0 : (0 : Int) ≤ (j : Int) := by omega
        by_cases hle : z ≤ y
        · have HE : Hid (false = riseB zs lo hi n) := (riseB_no hlt (.inr ⟨hp, by simp only [Nat.add_sub_cancel]; rw [hz, hy]; exact hle⟩)).symm
          clear hz hy
          go_wp2_with (go_at_call 59; refine (iIn _ _ _ _).mono ?_; rintro e w' ⟨rfl, rfl⟩)
          go_returns
          exact ⟨ret_bool HE.out, rfl⟩
        · have HN2 := Lib.hid (HN.out.succ (by rw [hz]; exact inB_iff.1 hin) (fun h => by simp only [Nat.add_sub_cancel]; rw [hz, hy]; omega))
          clear hz hy
          go_wp2_with (go_at_call 59; refine (iIn _ _ _ _).mono ?_; rintro e w' ⟨rfl, rfl⟩)
          go_roundw
          case rel => exact ⟨j + 1 + 1, by simp, by omega, HN2, trivial⟩
          case measure => simp [intOf]; omega
    · obtain rfl : k = n := by omega
      have HE : Hid (true = riseB zs lo hi k) := (riseB_yes HN.out).symm
      go_wp2
      go_returns
      exact ⟨ret_bool HE.out, rfl⟩
set_option maxRecDepth 20000 in
set_option maxHeartbeats 2000000 in
theorem sRises (a : Option Addr) (n cp : Nat) (zs : List Int) (m : Nat) (lo hi : Int) (w : World) (h : Rd w a n zs) (hn : n ≤ 1048576) (hm : m ≤ 8) : Calls Try.prog 113 #[.slice a n cp, .int .i64 (m : Int), .int .i64 lo, .int .i64 hi] w fun e w' => e = .returned (.bool (inB (n : Int) 1 (m : Int) && riseB zs lo hi n)) ∧ ∃ k, w' = w.drewN k := by
  have HH := Lib.hid h
  clear h
  by_cases h1 : (n : Int) < 1
  · have HE : Hid (false = (inB (n : Int) 1 (m : Int) && riseB zs lo hi n)) := by
      unfold Hid inB
      rw [show decide (1 ≤ (n : Int)) = false by simp; omega]; rfl
    go_enter Try.func113, Try.ntmps113
    go_wp2
    go_returns
    exact ⟨ret_bool HE.out, 0, rfl⟩
  by_cases h2 : (m : Int) < (n : Int)
  · have HE : Hid (false = (inB (n : Int) 1 (m : Int) && riseB zs lo hi n)) := by
      unfold Hid inB
      rw [show decide ((n : Int) ≤ (m : Int)) = false by simp; omega]; simp
    go_enter Try.func113, Try.ntmps113
    go_wp2
    go_returns
    exact ⟨ret_bool HE.out, 0, rfl⟩
  have HI : Hid (inB (n : Int) 1 (m : Int) = true) := inB_yes (by omega) (by omega)
  go_enter Try.func113, Try.ntmps113
  go_wp2
  go_loopw [9] (fun v wr => ∃ (k d : Nat), v = .int .i64 (k : Int) ∧ k ≤ n ∧ Hid (RiseTo zs lo hi k) ∧ Hid (wr = w.drewN d)) (fun v _ => n - (intOf v).toNat)
  case atStart => exact ⟨0, 0, rfl, by omega, RiseTo.zero _ _ _, rfl⟩
  case round =>
    obtain ⟨k, d, rfl, k1, HN, HD⟩ := hrel
    by_cases hlt : k < n
    · have hk : (k : Int) < (n : Int) := by omega
      have hk0 : (0 : Int) ≤ (k : Int) := by omega
      have hrd : Rd wr a n zs := by rw [HD.out]; exact HH.out.below (below_drewN (Below.refl _ _) d)
      obtain ⟨b, off, rfl, hb, hcell⟩ := hrd.2 (by omega)
      have HC := Lib.hid hcell
      have hc := hcell k hlt
      clear hcell hrd
      obtain ⟨z, hz⟩ : ∃ z, zs.getD k 0 = z := ⟨_, rfl⟩
      rw [hz] at hc
      cases hin : inB z lo hi
      · have HE : Hid (false = (inB (n : Int) 1 (m : Int) && riseB zs lo hi n)) := by unfold Hid; rw [riseB_no hlt (.inl (by rw [hz]; exact hin))]; simp
        have hcl : ∀ W, Calls Try.prog 55 #[.int .i64 z, .int .i64 lo, .int .i64 hi] W fun e w' => e = .returned (.bool false) ∧ w' = W := fun W => by
          have h := sIn z lo hi W
          rw [hin] at h
          exact h.mono fun e w' h => ⟨h.1, h.2.symm⟩
        clear hz
        go_wp2_with fail
        go_quiet ((go_at_call 55; exact Calls.quiet_of_same (hcl _)))
        go_wp2
        go_returns
        exact ⟨ret_bool HE.out, _, by rw [HD.out, World.drewN_drewN]⟩
      have hcl : ∀ W, Calls Try.prog 55 #[.int .i64 z, .int .i64 lo, .int .i64 hi] W fun e w' => e = .returned (.bool true) ∧ w' = W := fun W => by
        have h := sIn z lo hi W
        rw [hin] at h
        exact h.mono fun e w' h => ⟨h.1, h.2.symm⟩
      rcases Nat.eq_zero_or_pos k with h0 | hp
      · have HN2 := Lib.hid (HN.out.succ (by rw [hz]; exact inB_iff.1 hin) (fun h => by omega))
        have hp0 : decide ((0 : Int) < (k : Int)) = false := by simp; omega
        have hp1 : decide (0 < k) = false := by simp; omega
        clear hz h0
        go_wp2_with fail
        go_quiet ((go_at_call 55; exact Calls.quiet_of_same (hcl _)))
        go_wp2
        go_roundw
        case rel => exact ⟨k + 1, _, by simp, by omega, HN2, by unfold Hid; rw [HD.out, World.drewN_drewN]⟩
        case measure => simp [intOf]; omega
      · obtain ⟨j, rfl⟩ : ∃ j, k = j + 1 := ⟨k - 1, by omega⟩
        have hc2 := HC.out j (by omega)
        obtain ⟨y, hy⟩ : ∃ y, zs.getD j 0 = y := ⟨_, rfl⟩
        rw [hy] at hc2
        have hj1 : ((j + 1 : Nat) : Int) - 1 = (j : Int) := by omega
        have hj2 : (0 : Int) < ((j + 1 : Nat) : Int) := by omega
        have hjn : (j : Int) < (n : Int) := by omega
        have hj0 : (0 : Int) ≤ (j : Int) := by omega
        by_cases hle : z ≤ y
        · have HE : Hid (false = (inB (n : Int) 1 (m : Int) && riseB zs lo hi n)) := by unfold Hid; rw [riseB_no hlt (.inr ⟨hp, by simp only [Nat.add_sub_cancel]; rw [hz, hy]; exact hle⟩)]; simp
          clear hz hy
          go_wp2_with fail
          go_quiet ((go_at_call 55; exact Calls.quiet_of_same (hcl _)))
          go_wp2
          go_returns
          exact ⟨ret_bool HE.out, _, by rw [HD.out, World.drewN_drewN]⟩
        · have HN2 := Lib.hid (HN.out.succ (by rw [hz]; exact inB_iff.1 hin) (fun h => by simp only [Nat.add_sub_cancel]; rw [hz, hy]; omega))
          clear hz hy
          go_wp2_with fail
          go_quiet ((go_at_call 55; exact Calls.quiet_of_same (hcl _)))
          go_wp2
          go_roundw
          case rel => exact ⟨j + 1 + 1, _, by simp, by omega, HN2, by unfold Hid; rw [HD.out, World.drewN_drewN]⟩
          case measure => simp [intOf]; omega
    · obtain rfl : k = n := by omega
      have HE : Hid (true = (inB (k : Int) 1 (m : Int) && riseB zs lo hi k)) := by unfold Hid; rw [HI.out, riseB_yes HN.out]; rfl
      go_wp2
      go_returns
      exact ⟨ret_bool HE.out, _, HD.out⟩
set_option maxRecDepth 20000 in
set_option maxHeartbeats 2000000 in
theorem sHas (a : Option Addr) (n cp : Nat) (zs : List Int) (v : Int) (w : World) (h : Rd w a n zs) (hn : n ≤ 1048576) : Calls Try.prog 80 #[.slice a n cp, .int .i64 v] w fun e w' => e = .returned (.bool (hasB zs v n)) ∧ w = w' := by
  have HH := Lib.hid h
  clear h
  go_enter Try.func80, Try.ntmps80
  go_wp2
  go_loopw [5] (fun u wr => ∃ (k : Nat), u = .int .i64 (k : Int) ∧ k ≤ n ∧ Hid (HasNo zs v k) ∧ w = wr) (fun u _ => n - (intOf u).toNat)
  case atStart => exact ⟨0, rfl, by omega, HasNo.zero _ _, rfl⟩
  case round =>
    obtain ⟨k, rfl, k1, HN, rfl⟩ := hrel
    by_cases hlt : k < n
    · have hk : (k : Int) < (n : Int) := by omega
      have hk0 : (0 : Int) ≤ (k : Int) := by omega
      obtain ⟨b, off, rfl, hb, hcell⟩ := HH.out.2 (by omega)
      have hc := hcell k hlt
      clear hcell
      obtain ⟨z, hz⟩ : ∃ z, zs.getD k 0 = z := ⟨_, rfl⟩
      rw [hz] at hc
      by_cases he : z = v
      · subst he
        have HE : Hid (hasB zs z n = true) := hasB_yes hlt hz
        clear hz
        go_wp2
        go_returns
        exact ⟨ret_bool HE.out.symm, rfl⟩
      · have HN2 := Lib.hid (HN.out.succ (by rw [hz]; exact he))
        have he1 : (z == v) = false := by simp [he]
        have he2 : (v == z) = false := by simp [Ne.symm he]
        clear hz
        go_wp2
        go_roundw
        case rel => exact ⟨k + 1, by simp, by omega, HN2, trivial⟩
        case measure => simp [intOf]; omega
    · obtain rfl : k = n := by omega
      have HE : Hid (hasB zs v k = false) := hasB_no HN.out
      go_wp2
      go_returns
      exact ⟨ret_bool HE.out.symm, rfl⟩
set_option maxRecDepth 20000 in
set_option maxHeartbeats 2000000 in
theorem iIndex (a : Option Addr) (n cp : Nat) (zs : List Int) (v : Int) (w : World) (h : Rd w a n zs) (hn : n ≤ 1048576) : Calls Try.prog 137 #[.slice a n cp, .int .i64 v] w fun e w' => (∃ i : Int, e = .returned (.int .i64 i) ∧ decide (0 ≤ i) = hasB zs v n ∧ i ≤ 1048576 ∧ -1 ≤ i) ∧ w = w' := by
  have HH := Lib.hid h
  clear h
  go_enter Try.func137, Try.ntmps137
  go_wp2
  go_loopw [8] (fun u wr => ∃ (k : Nat), u = .int .i64 (k : Int) ∧ k ≤ n ∧ Hid (HasNo zs v k) ∧ w = wr) (fun u _ => n - (intOf u).toNat)
  case atStart => exact ⟨0, rfl, by omega, HasNo.zero _ _, rfl⟩
  case round =>
    obtain ⟨k, rfl, k1, HN, rfl⟩ := hrel
    by_cases hlt : k < n
    · have hk : (k : Int) < (n : Int) := by omega
      have hk0 : (0 : Int) ≤ (k : Int) := by omega
      obtain ⟨b, off, rfl, hb, hcell⟩ := HH.out.2 (by omega)
      have hc := hcell k hlt
      clear hcell
      obtain ⟨z, hz⟩ : ∃ z, zs.getD k 0 = z := ⟨_, rfl⟩
      rw [hz] at hc
      by_cases he : z = v
      · subst he
        have HE : Hid (hasB zs z n = true) := hasB_yes hlt hz
        clear hz
        go_wp2
        go_returns
        exact ⟨⟨_, rfl, by rw [HE.out]; simp, by omega, by omega⟩, rfl⟩
      · have HN2 := Lib.hid (HN.out.succ (by rw [hz]; exact he))
        have he1 : (z == v) = false := by simp [he]
        have he2 : (v == z) = false := by simp [Ne.symm he]
        clear hz
        go_wp2
        go_roundw
        case rel => exact ⟨k + 1, by simp, by omega, HN2, trivial⟩
        case measure => simp [intOf]; omega
    · obtain rfl : k = n := by omega
      have HE : Hid (hasB zs v k = false) := hasB_no HN.out
      go_wp2
      go_returns
      exact ⟨⟨_, rfl, by rw [HE.out]; simp, by omega, by omega⟩, rfl⟩
theorem iContains (a : Option Addr) (n cp : Nat) (zs : List Int) (v : Int) (w : World) (h : Rd w a n zs) (hn : n ≤ 1048576) : Calls Try.prog 121 #[.slice a n cp, .int .i64 v] w fun e w' => e = .returned (.bool (hasB zs v n)) ∧ w = w' := by
  have HH := Lib.hid h
  clear h
  go_enter Try.func121, Try.ntmps121
  go_wp2_with (go_at_call 137; refine (iIndex a n cp zs v _ HH.out hn).mono ?_; rintro e w' ⟨⟨i, rfl, hi, h1, h2⟩, rfl⟩; have HE := Lib.hid hi; clear hi)
  go_returns
  exact ⟨ret_bool HE.out, rfl⟩
theorem iMSize (z : Int) (w : World) : Calls Try.prog 117 #[.int .i64 z] w fun e w' => e = .returned (.bool (inB z 17 41 && (z % 4 == 1))) ∧ w = w' := by
  cases h : inB z 17 41
  · have HE : Hid (false = (false && (z % 4 == 1))) := rfl
    go_enter Try.func117, Try.ntmps117
    go_wp2_with (go_at_call 59; refine (iIn _ _ _ _).mono ?_; rintro e w' ⟨rfl, rfl⟩)
    go_returns
    exact ⟨ret_bool HE.out, rfl⟩
  · obtain ⟨h1, h2⟩ := inB_iff.1 h
    have HE : Hid ((z % 4 == 1) = (true && (z % 4 == 1))) := by unfold Hid; simp
    go_enter Try.func117, Try.ntmps117
    go_wp2_with (go_at_call 59; refine (iIn _ _ _ _).mono ?_; rintro e w' ⟨rfl, rfl⟩)
    go_returns
    exact ⟨ret_bool HE.out, rfl⟩
theorem iRowW (v : Int) (w : World) (h0 : 0 ≤ v) (h1 : v ≤ 1000) : Calls Try.prog 69 #[.int .i64 v] w fun e w' => e = .returned (.int .i64 (7 + 11 * v + 8)) ∧ w = w' := by
  go_enter Try.func69, Try.ntmps69
  go_wp2
  go_returns
  exact ⟨rfl, rfl⟩
end Go.Proofs.Ytdpifddmhbeklaa
