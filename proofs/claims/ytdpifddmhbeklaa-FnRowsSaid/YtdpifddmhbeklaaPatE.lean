/-
  DERIVED. ReadRow of both sides.
-/
import Derived.Test.YtdpifddmhbeklaaPatD
import Derived.Test.YtdpifddmhbeklaaResI
namespace Go.Proofs.Ytdpifddmhbeklaa
open Go.RowKit
set_option linter.unusedVariables false
def limB (n : Nat) : Bool := decide (26 ≤ n ∧ n ≤ 147 ∧ (n - 15) % 11 = 0)
theorem limB_iff {n : Nat} : limB n = true ↔ 26 ≤ n ∧ n ≤ 147 ∧ (n - 15) % 11 = 0 := by simp [limB]
theorem limB_no {n : Nat} (h : limB n = false) : ¬ (26 ≤ n ∧ n ≤ 147 ∧ (n - 15) % 11 = 0) := by simpa [limB] using h
def tmodN (n : Nat) : Int := Int.tmod ((n : Int) - 7 - 8) 11
def tdivN (n : Nat) : Int := Int.tdiv ((n : Int) - 7 - 8) 11
theorem tdivN_neg {n : Nat} (h : n < 15) : -1 ≤ tdivN n ∧ tdivN n ≤ 0 := by
  unfold tdivN
  have : n = 0 ∨ n = 1 ∨ n = 2 ∨ n = 3 ∨ n = 4 ∨ n = 5 ∨ n = 6 ∨ n = 7 ∨ n = 8 ∨ n = 9 ∨ n = 10 ∨ n = 11 ∨ n = 12 ∨ n = 13 ∨ n = 14 := by omega
  rcases this with rfl | rfl | rfl | rfl | rfl | rfl | rfl | rfl | rfl | rfl | rfl | rfl | rfl | rfl | rfl <;> decide
theorem sCluster (cl : Int) (w : World) : Calls Try.prog 67 #[.int .i64 cl] w fun e w' => e = .returned (.bool (inB cl 0 2)) ∧ w = w' := by
  go_enter Try.func67, Try.ntmps67
  go_wp2_with (go_at_call 55; refine (sIn _ _ _ _).mono ?_; rintro e w' ⟨rfl, rfl⟩)
  go_ret
  exact ⟨rfl, rfl⟩
theorem iWidth (v : Int) (w : World) (h1 : 0 ≤ v) (h2 : v ≤ 1000000) : Calls Try.prog 69 #[.int .i64 v] w fun e w' => e = .returned (.int .i64 (7 + 11 * v + 8)) ∧ w = w' := by
  go_enter Try.func69, Try.ntmps69
  go_wp2
  go_ret
  exact ⟨rfl, rfl⟩
set_option maxRecDepth 20000 in
set_option maxHeartbeats 8000000 in
theorem sRR_bad (a : Option Addr) (n cp : Nat) (c : List Int) (cl : Int) (w : World) (h : Rd w a n c) (hn : n ≤ 1048576) (hcp : n = cp) (hx : c.all (fun x => inB x (-1) 1) = false) :
    Calls Try.prog 21 #[.slice a n cp, .int .i64 cl] w (ResI w [] 1) := by
  have HH := Lib.hid h
  have HL := Lib.hid h.1
  have HCp : Hid (n ≤ cp) := Nat.le_of_eq hcp
  have HCp2 : Hid (cp ≤ maxLen) := by rw [← hcp]; exact Nat.le_trans hn (by decide)
  clear hcp
  have HAll := Lib.hid hx
  clear h hx
  go_enter Try.func21, Try.ntmps21
  go_wp2
  go_loop [6] (fun i => ∃ k : Nat, k ≤ n ∧ i = .int .i64 k ∧ Hid (∀ j, j < k → inB (c.getD j 0) (-1) 1 = true)) (fun i => n - (intOf i).toNat)
  case atStart => exact ⟨0, Nat.zero_le _, rfl, fun j hj => absurd hj (by omega)⟩
  case round =>
    obtain ⟨k, hk, rfl, HA⟩ := hrel
    by_cases hlt : k < n
    · obtain ⟨b, off, rfl, hbl, hc⟩ := HH.out.2 (by omega)
      have hx := hc k hlt
      clear hc
      obtain ⟨x, hxv⟩ : ∃ x, c.getD k 0 = x := ⟨_, rfl⟩
      rw [hxv] at hx
      have HX := Lib.hid hxv
      have k0 : (0 : Int) ≤ (k : Int) := by omega
      have k1 : (k : Int) < (n : Int) := by omega
      clear hxv
      cases hg : inB x (-1) 1
      · go_wp2_with (go_at_call 55; refine (sIn _ _ _ _).mono ?_; rintro e w' ⟨rfl, rfl⟩)
        go_returns
        exact ⟨none, 0, rfl, World.ownsRow_nil _ _ _ _, by repeat' (first | (with_reducible exact Below.refl _ _) | (with_reducible assumption) | (with_reducible refine Below.alloc ?_ ?_ _) | (with_reducible refine Below.setCell ?_ ?_ _) | (with_reducible refine Below.drew ?_) | (with_reducible refine below_drewN ?_ _) | (with_reducible refine below_via (by with_reducible assumption) ?_ ?_) | go_size), by simp⟩
      · have HA2 : Hid (∀ j, j < k + 1 → inB (c.getD j 0) (-1) 1 = true) := fun j hj => by
          rcases Nat.lt_or_ge j k with h4 | h4
          · exact HA.out j h4
          · obtain rfl : j = k := by omega
            rw [HX.out]; exact hg
        go_wp2_with (go_at_call 55; refine (sIn _ _ _ _).mono ?_; rintro e w' ⟨rfl, rfl⟩)
        go_round
        case rel => exact ⟨k + 1, by omega, by go_num, HA2⟩
        case measure => simp [intOf]; omega
    · have hnk : (n : Int) ≤ (k : Int) := by omega
      exact absurd (all_yes (zs := c) (fun i hi => HA.out i (by have := HL.out; omega))) (by rw [HAll.out]; decide)
set_option maxRecDepth 20000 in
set_option maxHeartbeats 8000000 in
theorem sRR_lim (a : Option Addr) (n cp : Nat) (c : List Int) (cl : Int) (w : World) (h : Rd w a n c) (hn : n ≤ 1048576) (hcp : n = cp) (hx : c.all (fun x => inB x (-1) 1) = true) (hl : limB n = false) :
    Calls Try.prog 21 #[.slice a n cp, .int .i64 cl] w (ResI w [] 3) := by
  have HH := Lib.hid h
  have HL := Lib.hid h.1
  have HCp : Hid (n ≤ cp) := Nat.le_of_eq hcp
  have HCp2 : Hid (cp ≤ maxLen) := by rw [← hcp]; exact Nat.le_trans hn (by decide)
  clear hcp
  have HAll : Hid (∀ x ∈ c, inB x (-1) 1 = true) := fun x h2 => by rw [List.all_eq_true] at hx; exact hx x h2
  have HNo := Lib.hid (limB_no hl)
  have HT : Hid (Int.tmod ((n : Int) - 7 - 8) 11 = tmodN n ∧ Int.tdiv ((n : Int) - 7 - 8) 11 = tdivN n) := ⟨rfl, rfl⟩
  have HTn : Hid (n < 15 → -1 ≤ tdivN n ∧ tdivN n ≤ 0) := tdivN_neg
  clear h hx hl
  go_enter Try.func21, Try.ntmps21
  go_wp2
  go_loop [6] (fun i => ∃ k : Nat, k ≤ n ∧ i = .int .i64 k ∧ Hid (∀ j, j < k → inB (c.getD j 0) (-1) 1 = true)) (fun i => n - (intOf i).toNat)
  case atStart => exact ⟨0, Nat.zero_le _, rfl, fun j hj => absurd hj (by omega)⟩
  case round =>
    obtain ⟨k, hk, rfl, HA⟩ := hrel
    by_cases hlt : k < n
    · obtain ⟨b, off, rfl, hbl, hc⟩ := HH.out.2 (by omega)
      have hx := hc k hlt
      clear hc
      obtain ⟨x, hxv⟩ : ∃ x, c.getD k 0 = x := ⟨_, rfl⟩
      rw [hxv] at hx
      have HX := Lib.hid hxv
      have k0 : (0 : Int) ≤ (k : Int) := by omega
      have k1 : (k : Int) < (n : Int) := by omega
      clear hxv
      have hg : inB x (-1) 1 = true := by rw [← HX.out]; exact HAll.out _ (getD_mem (by rw [HL.out]; exact hlt))
      have HA2 : Hid (∀ j, j < k + 1 → inB (c.getD j 0) (-1) 1 = true) := fun j hj => by
        rcases Nat.lt_or_ge j k with h4 | h4
        · exact HA.out j h4
        · obtain rfl : j = k := by omega
          rw [HX.out]; exact hg
      go_wp2_with (go_at_call 55; refine (sIn _ _ _ _).mono ?_; rintro e w' ⟨rfl, rfl⟩)
      go_round
      case rel => exact ⟨k + 1, by omega, by go_num, HA2⟩
      case measure => simp [intOf]; omega
    · have hnk : (n : Int) ≤ (k : Int) := by omega
      by_cases h15 : n < 15
      · have e1 := HT.out.1
        have e2 := HT.out.2
        obtain ⟨g1, g2⟩ := HTn.out h15
        generalize tmodN n = r at e1
        generalize tdivN n = q at e2 g1 g2
        have hi : inB q 1 12 = false := by simp [inB]; omega
        by_cases hr : r = 0
        · have tr : (r != 0) = false := by simpa using hr
          go_wp2_with (first | (go_at_call 55; refine (sIn _ _ _ _).mono ?_; rintro e w' ⟨rfl, rfl⟩; rw [hi]))
          go_returns
          exact ⟨none, 0, rfl, World.ownsRow_nil _ _ _ _, by repeat' (first | (with_reducible exact Below.refl _ _) | (with_reducible assumption) | (with_reducible refine Below.alloc ?_ ?_ _) | (with_reducible refine Below.setCell ?_ ?_ _) | (with_reducible refine Below.drew ?_) | (with_reducible refine below_drewN ?_ _) | (with_reducible refine below_via (by with_reducible assumption) ?_ ?_) | go_size), by simp⟩
        · have tr : (r != 0) = true := by simpa using hr
          go_wp2
          go_returns
          exact ⟨none, 0, rfl, World.ownsRow_nil _ _ _ _, by repeat' (first | (with_reducible exact Below.refl _ _) | (with_reducible assumption) | (with_reducible refine Below.alloc ?_ ?_ _) | (with_reducible refine Below.setCell ?_ ?_ _) | (with_reducible refine Below.drew ?_) | (with_reducible refine below_drewN ?_ _) | (with_reducible refine below_via (by with_reducible assumption) ?_ ?_) | go_size), by simp⟩
      · have hge : (0 : Int) ≤ (n : Int) - 7 - 8 := by omega
        obtain ⟨r, hr⟩ : ∃ r : Int, ((n : Int) - 7 - 8) % 11 = r := ⟨_, rfl⟩
        obtain ⟨q, hq⟩ : ∃ q : Int, ((n : Int) - 7 - 8) / 11 = q := ⟨_, rfl⟩
        have hi : r = 0 → inB q 1 12 = false := fun h0 => by have := HNo.out; simp [inB]; omega
        by_cases hr0 : r = 0
        · have hi2 := hi hr0
          have tr : (r != 0) = false := by simpa using hr0
          clear hi hr0
          go_wp2_with (first | (go_at_call 55; refine (sIn _ _ _ _).mono ?_; rintro e w' ⟨rfl, rfl⟩; rw [hi2]))
          go_returns
          exact ⟨none, 0, rfl, World.ownsRow_nil _ _ _ _, by repeat' (first | (with_reducible exact Below.refl _ _) | (with_reducible assumption) | (with_reducible refine Below.alloc ?_ ?_ _) | (with_reducible refine Below.setCell ?_ ?_ _) | (with_reducible refine Below.drew ?_) | (with_reducible refine below_drewN ?_ _) | (with_reducible refine below_via (by with_reducible assumption) ?_ ?_) | go_size), by simp⟩
        · have tr : (r != 0) = true := by simpa using hr0
          clear hi hr0
          go_wp2
          go_returns
          exact ⟨none, 0, rfl, World.ownsRow_nil _ _ _ _, by repeat' (first | (with_reducible exact Below.refl _ _) | (with_reducible assumption) | (with_reducible refine Below.alloc ?_ ?_ _) | (with_reducible refine Below.setCell ?_ ?_ _) | (with_reducible refine Below.drew ?_) | (with_reducible refine below_drewN ?_ _) | (with_reducible refine below_via (by with_reducible assumption) ?_ ?_) | go_size), by simp⟩
set_option maxRecDepth 20000 in
set_option maxHeartbeats 8000000 in
theorem sRR_cl (a : Option Addr) (n cp : Nat) (c : List Int) (cl : Int) (w : World) (h : Rd w a n c) (hn : n ≤ 1048576) (hcp : n = cp) (hx : c.all (fun x => inB x (-1) 1) = true) (hl : limB n = true) (hcl : inB cl 0 2 = false) :
    Calls Try.prog 21 #[.slice a n cp, .int .i64 cl] w (ResI w [] 2) := by
  have HH := Lib.hid h
  have HL := Lib.hid h.1
  have HCp : Hid (n ≤ cp) := Nat.le_of_eq hcp
  have HCp2 : Hid (cp ≤ maxLen) := by rw [← hcp]; exact Nat.le_trans hn (by decide)
  clear hcp
  have HAll : Hid (∀ x ∈ c, inB x (-1) 1 = true) := fun x h2 => by rw [List.all_eq_true] at hx; exact hx x h2
  have HLm := Lib.hid (limB_iff.1 hl)
  have HCl := Lib.hid hcl
  clear hl
  clear h hx hcl
  go_enter Try.func21, Try.ntmps21
  go_wp2
  go_loop [6] (fun i => ∃ k : Nat, k ≤ n ∧ i = .int .i64 k ∧ Hid (∀ j, j < k → inB (c.getD j 0) (-1) 1 = true)) (fun i => n - (intOf i).toNat)
  case atStart => exact ⟨0, Nat.zero_le _, rfl, fun j hj => absurd hj (by omega)⟩
  case round =>
    obtain ⟨k, hk, rfl, HA⟩ := hrel
    by_cases hlt : k < n
    · obtain ⟨b, off, rfl, hbl, hc⟩ := HH.out.2 (by omega)
      have hx := hc k hlt
      clear hc
      obtain ⟨x, hxv⟩ : ∃ x, c.getD k 0 = x := ⟨_, rfl⟩
      rw [hxv] at hx
      have HX := Lib.hid hxv
      have k0 : (0 : Int) ≤ (k : Int) := by omega
      have k1 : (k : Int) < (n : Int) := by omega
      clear hxv
      have hg : inB x (-1) 1 = true := by rw [← HX.out]; exact HAll.out _ (getD_mem (by rw [HL.out]; exact hlt))
      have HA2 : Hid (∀ j, j < k + 1 → inB (c.getD j 0) (-1) 1 = true) := fun j hj => by
        rcases Nat.lt_or_ge j k with h4 | h4
        · exact HA.out j h4
        · obtain rfl : j = k := by omega
          rw [HX.out]; exact hg
      go_wp2_with (go_at_call 55; refine (sIn _ _ _ _).mono ?_; rintro e w' ⟨rfl, rfl⟩)
      go_round
      case rel => exact ⟨k + 1, by omega, by go_num, HA2⟩
      case measure => simp [intOf]; omega
    · have hnk : (n : Int) ≤ (k : Int) := by omega
      have hge : (0 : Int) ≤ (n : Int) - 7 - 8 := by have := HLm.out; omega
      have hr : ((n : Int) - 7 - 8) % 11 = 0 := by have := HLm.out; omega
      obtain ⟨q, hq⟩ : ∃ q : Int, ((n : Int) - 7 - 8) / 11 = q := ⟨_, rfl⟩
      have hi : inB q 1 12 = true := inB_yes (by have := HLm.out; omega) (by have := HLm.out; omega)
      go_wp2_with (first | (go_at_call 55; refine (sIn _ _ _ _).mono ?_; rintro e w' ⟨rfl, rfl⟩; rw [hi]) | (go_at_call 67; refine (sCluster _ _).mono ?_; rintro e w' ⟨rfl, rfl⟩; rw [HCl.out]))
      go_returns
      exact ⟨none, 0, rfl, World.ownsRow_nil _ _ _ _, by repeat' (first | (with_reducible exact Below.refl _ _) | (with_reducible assumption) | (with_reducible refine Below.alloc ?_ ?_ _) | (with_reducible refine Below.setCell ?_ ?_ _) | (with_reducible refine Below.drew ?_) | (with_reducible refine below_drewN ?_ _) | (with_reducible refine below_via (by with_reducible assumption) ?_ ?_) | go_size), by simp⟩
set_option maxRecDepth 20000 in
set_option maxHeartbeats 8000000 in
theorem sRR_ok (a : Option Addr) (n cp : Nat) (c : List Int) (cl : Int) (w : World) (h : Rd w a n c) (hn : n ≤ 1048576) (hcp : n = cp) (hx : c.all (fun x => inB x (-1) 1) = true) (hl : limB n = true) (hcl : inB cl 0 2 = true) :
    Calls Try.prog 21 #[.slice a n cp, .int .i64 cl] w (ResI w (rowF c cl ((n - 15) / 11)) 0) := by
  have HH := Lib.hid h
  have HL := Lib.hid h.1
  have HCp : Hid (n ≤ cp) := Nat.le_of_eq hcp
  have HCp2 : Hid (cp ≤ maxLen) := by rw [← hcp]; exact Nat.le_trans hn (by decide)
  clear hcp
  have HAll : Hid (∀ x ∈ c, inB x (-1) 1 = true) := fun x h2 => by rw [List.all_eq_true] at hx; exact hx x h2
  have HLm := Lib.hid (limB_iff.1 hl)
  have HCl := Lib.hid hcl
  clear hl
  obtain ⟨cl0, cl2⟩ := inB_iff.1 hcl
  have HBd : Hid (∀ x ∈ c, -1 ≤ x ∧ x ≤ 1) := fun x hx => inB_iff.1 (HAll.out x hx)
  have hK9 : (n - 15) / 11 ≤ 100000 := by omega
  clear h hx hcl
  go_enter Try.func21, Try.ntmps21
  go_wp2
  go_loop [6] (fun i => ∃ k : Nat, k ≤ n ∧ i = .int .i64 k ∧ Hid (∀ j, j < k → inB (c.getD j 0) (-1) 1 = true)) (fun i => n - (intOf i).toNat)
  case atStart => exact ⟨0, Nat.zero_le _, rfl, fun j hj => absurd hj (by omega)⟩
  case round =>
    obtain ⟨k, hk, rfl, HA⟩ := hrel
    by_cases hlt : k < n
    · obtain ⟨b, off, rfl, hbl, hc⟩ := HH.out.2 (by omega)
      have hx := hc k hlt
      clear hc
      obtain ⟨x, hxv⟩ : ∃ x, c.getD k 0 = x := ⟨_, rfl⟩
      rw [hxv] at hx
      have HX := Lib.hid hxv
      have k0 : (0 : Int) ≤ (k : Int) := by omega
      have k1 : (k : Int) < (n : Int) := by omega
      clear hxv
      have hg : inB x (-1) 1 = true := by rw [← HX.out]; exact HAll.out _ (getD_mem (by rw [HL.out]; exact hlt))
      have HA2 : Hid (∀ j, j < k + 1 → inB (c.getD j 0) (-1) 1 = true) := fun j hj => by
        rcases Nat.lt_or_ge j k with h4 | h4
        · exact HA.out j h4
        · obtain rfl : j = k := by omega
          rw [HX.out]; exact hg
      go_wp2_with (go_at_call 55; refine (sIn _ _ _ _).mono ?_; rintro e w' ⟨rfl, rfl⟩)
      go_round
      case rel => exact ⟨k + 1, by omega, by go_num, HA2⟩
      case measure => simp [intOf]; omega
    · have hnk : (n : Int) ≤ (k : Int) := by omega
      have hge : (0 : Int) ≤ (n : Int) - 7 - 8 := by have := HLm.out; omega
      have hr : ((n : Int) - 7 - 8) % 11 = 0 := by have := HLm.out; omega
      obtain ⟨q, hq⟩ : ∃ q : Int, ((n : Int) - 7 - 8) / 11 = q := ⟨_, rfl⟩
      have hi : inB q 1 12 = true := inB_yes (by have := HLm.out; omega) (by have := HLm.out; omega)
      go_wp2_with (first | (go_at_call 55; refine (sIn _ _ _ _).mono ?_; rintro e w' ⟨rfl, rfl⟩; rw [hi]) | (go_at_call 67; refine (sCluster _ _).mono ?_; rintro e w' ⟨rfl, rfl⟩; rw [HCl.out]))
      refine (sRead a n cp c cl _ HH.out hn HCp.out).mono ?_
      rintro e w1 ⟨av, cv, rfl, ho, hb1⟩
      have HO := Lib.hid ho
      have HB := Lib.hid hb1
      clear ho hb1
      go_wp2
      go_returns
      refine ⟨av, cv, by rw [rowF_len]; rfl, by rw [rowF_len]; exact HO.out, HB.out, by rw [rowF_len]; omega⟩
set_option maxRecDepth 20000 in
set_option maxHeartbeats 8000000 in
theorem iRR_bad (a : Option Addr) (n cp : Nat) (c : List Int) (cl : Int) (w : World) (h : Rd w a n c) (hn : n ≤ 1048576) (hcp : n = cp) (hx : c.all (fun x => inB x (-1) 1) = false) :
    Calls Try.prog 23 #[.slice a n cp, .int .i64 cl] w (ResI w [] 1) := by
  have HH := Lib.hid h
  have HL := Lib.hid h.1
  have HCp : Hid (n ≤ cp) := Nat.le_of_eq hcp
  have HCp2 : Hid (cp ≤ maxLen) := by rw [← hcp]; exact Nat.le_trans hn (by decide)
  clear hcp
  have HAll := Lib.hid hx
  clear h hx
  go_enter Try.func23, Try.ntmps23
  go_wp2
  go_loop [11] (fun i => ∃ k : Nat, k ≤ n ∧ i = .int .i64 k ∧ Hid (∀ j, j < k → inB (c.getD j 0) (-1) 1 = true)) (fun i => n - (intOf i).toNat)
  case atStart => exact ⟨0, Nat.zero_le _, rfl, fun j hj => absurd hj (by omega)⟩
  case round =>
    obtain ⟨k, hk, rfl, HA⟩ := hrel
    by_cases hlt : k < n
    · obtain ⟨b, off, rfl, hbl, hc⟩ := HH.out.2 (by omega)
      have hx := hc k hlt
      clear hc
      obtain ⟨x, hxv⟩ : ∃ x, c.getD k 0 = x := ⟨_, rfl⟩
      rw [hxv] at hx
      have HX := Lib.hid hxv
      have k0 : (0 : Int) ≤ (k : Int) := by omega
      have k1 : (k : Int) < (n : Int) := by omega
      clear hxv
      cases hg : inB x (-1) 1
      · go_wp2_with (go_at_call 59; refine (iIn _ _ _ _).mono ?_; rintro e w' ⟨rfl, rfl⟩)
        go_returns
        exact ⟨none, 0, rfl, World.ownsRow_nil _ _ _ _, by repeat' (first | (with_reducible exact Below.refl _ _) | (with_reducible assumption) | (with_reducible refine Below.alloc ?_ ?_ _) | (with_reducible refine Below.setCell ?_ ?_ _) | (with_reducible refine Below.drew ?_) | (with_reducible refine below_drewN ?_ _) | (with_reducible refine below_via (by with_reducible assumption) ?_ ?_) | go_size), by simp⟩
      · have HA2 : Hid (∀ j, j < k + 1 → inB (c.getD j 0) (-1) 1 = true) := fun j hj => by
          rcases Nat.lt_or_ge j k with h4 | h4
          · exact HA.out j h4
          · obtain rfl : j = k := by omega
            rw [HX.out]; exact hg
        go_wp2_with (go_at_call 59; refine (iIn _ _ _ _).mono ?_; rintro e w' ⟨rfl, rfl⟩)
        go_round
        case rel => exact ⟨k + 1, by omega, by go_num, HA2⟩
        case measure => simp [intOf]; omega
    · have hnk : (n : Int) ≤ (k : Int) := by omega
      exact absurd (all_yes (zs := c) (fun i hi => HA.out i (by have := HL.out; omega))) (by rw [HAll.out]; decide)
set_option maxRecDepth 20000 in
set_option maxHeartbeats 8000000 in
theorem iRR_lim (a : Option Addr) (n cp : Nat) (c : List Int) (cl : Int) (w : World) (h : Rd w a n c) (hn : n ≤ 1048576) (hcp : n = cp) (hx : c.all (fun x => inB x (-1) 1) = true) (hl : limB n = false) :
    Calls Try.prog 23 #[.slice a n cp, .int .i64 cl] w (ResI w [] 3) := by
  have HH := Lib.hid h
  have HL := Lib.hid h.1
  have HCp : Hid (n ≤ cp) := Nat.le_of_eq hcp
  have HCp2 : Hid (cp ≤ maxLen) := by rw [← hcp]; exact Nat.le_trans hn (by decide)
  clear hcp
  have HAll : Hid (∀ x ∈ c, inB x (-1) 1 = true) := fun x h2 => by rw [List.all_eq_true] at hx; exact hx x h2
  have HNo := Lib.hid (limB_no hl)
  have HT : Hid (Int.tmod ((n : Int) - 7 - 8) 11 = tmodN n ∧ Int.tdiv ((n : Int) - 7 - 8) 11 = tdivN n) := ⟨rfl, rfl⟩
  have HTn : Hid (n < 15 → -1 ≤ tdivN n ∧ tdivN n ≤ 0) := tdivN_neg
  clear h hx hl
  go_enter Try.func23, Try.ntmps23
  go_wp2
  go_loop [11] (fun i => ∃ k : Nat, k ≤ n ∧ i = .int .i64 k ∧ Hid (∀ j, j < k → inB (c.getD j 0) (-1) 1 = true)) (fun i => n - (intOf i).toNat)
  case atStart => exact ⟨0, Nat.zero_le _, rfl, fun j hj => absurd hj (by omega)⟩
  case round =>
    obtain ⟨k, hk, rfl, HA⟩ := hrel
    by_cases hlt : k < n
    · obtain ⟨b, off, rfl, hbl, hc⟩ := HH.out.2 (by omega)
      have hx := hc k hlt
      clear hc
      obtain ⟨x, hxv⟩ : ∃ x, c.getD k 0 = x := ⟨_, rfl⟩
      rw [hxv] at hx
      have HX := Lib.hid hxv
      have k0 : (0 : Int) ≤ (k : Int) := by omega
      have k1 : (k : Int) < (n : Int) := by omega
      clear hxv
      have hg : inB x (-1) 1 = true := by rw [← HX.out]; exact HAll.out _ (getD_mem (by rw [HL.out]; exact hlt))
      have HA2 : Hid (∀ j, j < k + 1 → inB (c.getD j 0) (-1) 1 = true) := fun j hj => by
        rcases Nat.lt_or_ge j k with h4 | h4
        · exact HA.out j h4
        · obtain rfl : j = k := by omega
          rw [HX.out]; exact hg
      go_wp2_with (go_at_call 59; refine (iIn _ _ _ _).mono ?_; rintro e w' ⟨rfl, rfl⟩)
      go_round
      case rel => exact ⟨k + 1, by omega, by go_num, HA2⟩
      case measure => simp [intOf]; omega
    · have hnk : (n : Int) ≤ (k : Int) := by omega
      by_cases h15 : n < 15
      · have e2 := HT.out.2
        obtain ⟨g1, g2⟩ := HTn.out h15
        generalize tdivN n = q at e2 g1 g2
        have hi : inB q 1 12 = false := by simp [inB]; omega
        go_wp2_with (first | (go_at_call 59; refine (iIn _ _ _ _).mono ?_; rintro e w' ⟨rfl, rfl⟩; rw [hi]))
        go_returns
        exact ⟨none, 0, rfl, World.ownsRow_nil _ _ _ _, by repeat' (first | (with_reducible exact Below.refl _ _) | (with_reducible assumption) | (with_reducible refine Below.alloc ?_ ?_ _) | (with_reducible refine Below.setCell ?_ ?_ _) | (with_reducible refine Below.drew ?_) | (with_reducible refine below_drewN ?_ _) | (with_reducible refine below_via (by with_reducible assumption) ?_ ?_) | go_size), by simp⟩
      · have hge : (0 : Int) ≤ (n : Int) - 7 - 8 := by omega
        obtain ⟨q, hq⟩ : ∃ q : Int, ((n : Int) - 7 - 8) / 11 = q := ⟨_, rfl⟩
        cases hi : inB q 1 12
        · go_wp2_with (first | (go_at_call 59; refine (iIn _ _ _ _).mono ?_; rintro e w' ⟨rfl, rfl⟩; rw [hi]))
          go_returns
          exact ⟨none, 0, rfl, World.ownsRow_nil _ _ _ _, by repeat' (first | (with_reducible exact Below.refl _ _) | (with_reducible assumption) | (with_reducible refine Below.alloc ?_ ?_ _) | (with_reducible refine Below.setCell ?_ ?_ _) | (with_reducible refine Below.drew ?_) | (with_reducible refine below_drewN ?_ _) | (with_reducible refine below_via (by with_reducible assumption) ?_ ?_) | go_size), by simp⟩
        · obtain ⟨q1, q2⟩ := inB_iff.1 hi
          have tw : ((7 + 11 * q + 8) != (n : Int)) = true := by have := HNo.out; simp; omega
          go_wp2_with (first | (go_at_call 59; refine (iIn _ _ _ _).mono ?_; rintro e w' ⟨rfl, rfl⟩; rw [hi]) | (go_at_call 69; refine (iWidth _ _ (by omega) (by omega)).mono ?_; rintro e w' ⟨rfl, rfl⟩))
          go_returns
          exact ⟨none, 0, rfl, World.ownsRow_nil _ _ _ _, by repeat' (first | (with_reducible exact Below.refl _ _) | (with_reducible assumption) | (with_reducible refine Below.alloc ?_ ?_ _) | (with_reducible refine Below.setCell ?_ ?_ _) | (with_reducible refine Below.drew ?_) | (with_reducible refine below_drewN ?_ _) | (with_reducible refine below_via (by with_reducible assumption) ?_ ?_) | go_size), by simp⟩
set_option maxRecDepth 20000 in
set_option maxHeartbeats 8000000 in
theorem iRR_cl (a : Option Addr) (n cp : Nat) (c : List Int) (cl : Int) (w : World) (h : Rd w a n c) (hn : n ≤ 1048576) (hcp : n = cp) (hx : c.all (fun x => inB x (-1) 1) = true) (hl : limB n = true) (hcl : inB cl 0 2 = false) :
    Calls Try.prog 23 #[.slice a n cp, .int .i64 cl] w (ResI w [] 2) := by
  have HH := Lib.hid h
  have HL := Lib.hid h.1
  have HCp : Hid (n ≤ cp) := Nat.le_of_eq hcp
  have HCp2 : Hid (cp ≤ maxLen) := by rw [← hcp]; exact Nat.le_trans hn (by decide)
  clear hcp
  have HAll : Hid (∀ x ∈ c, inB x (-1) 1 = true) := fun x h2 => by rw [List.all_eq_true] at hx; exact hx x h2
  have HLm := Lib.hid (limB_iff.1 hl)
  have HCl := Lib.hid hcl
  clear hl
  clear h hx hcl
  go_enter Try.func23, Try.ntmps23
  go_wp2
  go_loop [11] (fun i => ∃ k : Nat, k ≤ n ∧ i = .int .i64 k ∧ Hid (∀ j, j < k → inB (c.getD j 0) (-1) 1 = true)) (fun i => n - (intOf i).toNat)
  case atStart => exact ⟨0, Nat.zero_le _, rfl, fun j hj => absurd hj (by omega)⟩
  case round =>
    obtain ⟨k, hk, rfl, HA⟩ := hrel
    by_cases hlt : k < n
    · obtain ⟨b, off, rfl, hbl, hc⟩ := HH.out.2 (by omega)
      have hx := hc k hlt
      clear hc
      obtain ⟨x, hxv⟩ : ∃ x, c.getD k 0 = x := ⟨_, rfl⟩
      rw [hxv] at hx
      have HX := Lib.hid hxv
      have k0 : (0 : Int) ≤ (k : Int) := by omega
      have k1 : (k : Int) < (n : Int) := by omega
      clear hxv
      have hg : inB x (-1) 1 = true := by rw [← HX.out]; exact HAll.out _ (getD_mem (by rw [HL.out]; exact hlt))
      have HA2 : Hid (∀ j, j < k + 1 → inB (c.getD j 0) (-1) 1 = true) := fun j hj => by
        rcases Nat.lt_or_ge j k with h4 | h4
        · exact HA.out j h4
        · obtain rfl : j = k := by omega
          rw [HX.out]; exact hg
      go_wp2_with (go_at_call 59; refine (iIn _ _ _ _).mono ?_; rintro e w' ⟨rfl, rfl⟩)
      go_round
      case rel => exact ⟨k + 1, by omega, by go_num, HA2⟩
      case measure => simp [intOf]; omega
    · have hnk : (n : Int) ≤ (k : Int) := by omega
      have hge : (0 : Int) ≤ (n : Int) - 7 - 8 := by have := HLm.out; omega
      obtain ⟨q, hq⟩ : ∃ q : Int, ((n : Int) - 7 - 8) / 11 = q := ⟨_, rfl⟩
      have q1 : 1 ≤ q := by have := HLm.out; omega
      have q2 : q ≤ 12 := by have := HLm.out; omega
      have hi : inB q 1 12 = true := inB_yes q1 q2
      have tw : ((7 + 11 * q + 8) != (n : Int)) = false := by have := HLm.out; simp; omega
      go_wp2_with (first | (go_at_call 59; refine (iIn _ _ _ _).mono ?_; rintro e w' ⟨rfl, rfl⟩; (first | rw [hi] | rw [HCl.out])) | (go_at_call 69; refine (iWidth _ _ (by omega) (by omega)).mono ?_; rintro e w' ⟨rfl, rfl⟩))
      go_returns
      exact ⟨none, 0, rfl, World.ownsRow_nil _ _ _ _, by repeat' (first | (with_reducible exact Below.refl _ _) | (with_reducible assumption) | (with_reducible refine Below.alloc ?_ ?_ _) | (with_reducible refine Below.setCell ?_ ?_ _) | (with_reducible refine Below.drew ?_) | (with_reducible refine below_drewN ?_ _) | (with_reducible refine below_via (by with_reducible assumption) ?_ ?_) | go_size), by simp⟩
set_option maxRecDepth 20000 in
set_option maxHeartbeats 8000000 in
theorem iRR_ok (a : Option Addr) (n cp : Nat) (c : List Int) (cl : Int) (w : World) (h : Rd w a n c) (hn : n ≤ 1048576) (hcp : n = cp) (hx : c.all (fun x => inB x (-1) 1) = true) (hl : limB n = true) (hcl : inB cl 0 2 = true) :
    Calls Try.prog 23 #[.slice a n cp, .int .i64 cl] w (ResI w (rowF c cl ((n - 15) / 11)) 0) := by
  have HH := Lib.hid h
  have HL := Lib.hid h.1
  have HCp : Hid (n ≤ cp) := Nat.le_of_eq hcp
  have HCp2 : Hid (cp ≤ maxLen) := by rw [← hcp]; exact Nat.le_trans hn (by decide)
  clear hcp
  have HAll : Hid (∀ x ∈ c, inB x (-1) 1 = true) := fun x h2 => by rw [List.all_eq_true] at hx; exact hx x h2
  have HLm := Lib.hid (limB_iff.1 hl)
  have HCl := Lib.hid hcl
  clear hl
  obtain ⟨cl0, cl2⟩ := inB_iff.1 hcl
  have HBd : Hid (∀ x ∈ c, -1 ≤ x ∧ x ≤ 1) := fun x hx => inB_iff.1 (HAll.out x hx)
  have hK9 : (n - 15) / 11 ≤ 100000 := by omega
  clear h hx hcl
  go_enter Try.func23, Try.ntmps23
  go_wp2
  go_loop [11] (fun i => ∃ k : Nat, k ≤ n ∧ i = .int .i64 k ∧ Hid (∀ j, j < k → inB (c.getD j 0) (-1) 1 = true)) (fun i => n - (intOf i).toNat)
  case atStart => exact ⟨0, Nat.zero_le _, rfl, fun j hj => absurd hj (by omega)⟩
  case round =>
    obtain ⟨k, hk, rfl, HA⟩ := hrel
    by_cases hlt : k < n
    · obtain ⟨b, off, rfl, hbl, hc⟩ := HH.out.2 (by omega)
      have hx := hc k hlt
      clear hc
      obtain ⟨x, hxv⟩ : ∃ x, c.getD k 0 = x := ⟨_, rfl⟩
      rw [hxv] at hx
      have HX := Lib.hid hxv
      have k0 : (0 : Int) ≤ (k : Int) := by omega
      have k1 : (k : Int) < (n : Int) := by omega
      clear hxv
      have hg : inB x (-1) 1 = true := by rw [← HX.out]; exact HAll.out _ (getD_mem (by rw [HL.out]; exact hlt))
      have HA2 : Hid (∀ j, j < k + 1 → inB (c.getD j 0) (-1) 1 = true) := fun j hj => by
        rcases Nat.lt_or_ge j k with h4 | h4
        · exact HA.out j h4
        · obtain rfl : j = k := by omega
          rw [HX.out]; exact hg
      go_wp2_with (go_at_call 59; refine (iIn _ _ _ _).mono ?_; rintro e w' ⟨rfl, rfl⟩)
      go_round
      case rel => exact ⟨k + 1, by omega, by go_num, HA2⟩
      case measure => simp [intOf]; omega
    · have hnk : (n : Int) ≤ (k : Int) := by omega
      have hge : (0 : Int) ≤ (n : Int) - 7 - 8 := by have := HLm.out; omega
      obtain ⟨q, hq⟩ : ∃ q : Int, ((n : Int) - 7 - 8) / 11 = q := ⟨_, rfl⟩
      have q1 : 1 ≤ q := by have := HLm.out; omega
      have q2 : q ≤ 12 := by have := HLm.out; omega
      have hi : inB q 1 12 = true := inB_yes q1 q2
      have tw : ((7 + 11 * q + 8) != (n : Int)) = false := by have := HLm.out; simp; omega
      go_wp2_with (first | (go_at_call 59; refine (iIn _ _ _ _).mono ?_; rintro e w' ⟨rfl, rfl⟩; (first | rw [hi] | rw [HCl.out])) | (go_at_call 69; refine (iWidth _ _ (by omega) (by omega)).mono ?_; rintro e w' ⟨rfl, rfl⟩))
      refine (iIdx _).mono ?_
      rintro e w1 ⟨mb, rfl, hm, hmb, hb1⟩
      have HM := Lib.hid hm
      have HB1 := Lib.hid hb1
      have hz1 := hb1.size
      clear hm hb1
      go_wp2_with fail
      refine (iReadRow mb a n cp c cl _ (HH.out.below HB1.out) hn HCp.out HCp2.out HBd.out cl0 cl2 HM.out).mono ?_
      rintro e w2 ⟨av, cv, rfl, ho, hb2⟩
      have HO := Lib.hid (ownN_mono ho hz1)
      have HB : Hid (Below w.heap.size w w2) := HB1.out.trans (hb2.mono hz1)
      clear ho hb2
      go_wp2
      go_returns
      refine ⟨av, cv, by rw [rowF_len]; rfl, by rw [rowF_len]; exact HO.out, HB.out, by rw [rowF_len]; omega⟩
end Go.Proofs.Ytdpifddmhbeklaa
