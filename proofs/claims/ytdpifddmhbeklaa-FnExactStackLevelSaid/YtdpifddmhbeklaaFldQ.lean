/-
  DERIVED. FldP, Fld0.
-/
import Derived.Test.YtdpifddmhbeklaaBas
namespace Go.Proofs.Ytdpifddmhbeklaa
open Go.RowKit
set_option linter.unusedVariables false
/-- The k-th power: T applied k times to 1. -/
def orb (T : Int → Int) : Nat → Int
  | 0 => 1
  | n + 1 => T (orb T n)
/-- The powers 1 .. m - 1 are neither 0 nor 1, and power m is 1. -/
def Fills (T : Int → Int) (m : Nat) : Prop := (∀ k, 0 < k → k < m → orb T k ≠ 0 ∧ orb T k ≠ 1) ∧ orb T m = 1
/-- The first n powers behind 1 are neither 0 nor 1. -/
def Goes (T : Int → Int) (n : Nat) : Prop := ∀ k, 0 < k → k < n → orb T k ≠ 0 ∧ orb T k ≠ 1
theorem Goes.one (T : Int → Int) : Goes T 1 := fun k h1 h2 => by omega
theorem Goes.zero (T : Int → Int) : Goes T 0 := fun k h1 h2 => by omega
theorem Goes.succ {T : Int → Int} {n : Nat} (h : Goes T n) (h0 : orb T n ≠ 0) (h1 : 0 < n → orb T n ≠ 1) : Goes T (n + 1) := fun k a b => by
  rcases Nat.lt_or_ge k n with hk | hk
  · exact h k a hk
  · obtain rfl : k = n := by omega
    exact ⟨h0, h1 a⟩
/-- fill stops early. -/
theorem Fills.no {T : Int → Int} {m n : Nat} (h : n < m) (hx : orb T n = 0 ∨ (0 < n ∧ orb T n = 1)) : ¬ Fills T m := fun hf => by
  rcases hx with hx | ⟨h0, hx⟩
  · rcases Nat.eq_zero_or_pos n with rfl | hp
    · simp [orb] at hx
    · exact (hf.1 n hp h).1 hx
  · exact (hf.1 n h0 h).2 hx
/-- fill comes to its end. -/
theorem Fills.of_goes {T : Int → Int} {m : Nat} (h : Goes T m) : (orb T m == 1) = true ↔ Fills T m := by
  constructor
  · intro hx; exact ⟨h, by simpa using hx⟩
  · intro hf; simpa using hf.2
/-- The reference's loop has ended at n. -/
theorem Fills.of_runs {T : Int → Int} {m n : Nat} (h : Goes T n) (hn : 1 ≤ n) (hm : 1 ≤ m) (hnm : n ≤ m + 1) (hx : orb T n = 1 ∨ orb T n = 0 ∨ n = m + 1) : (orb T n = 1 ∧ n = m) ↔ Fills T m := by
  constructor
  · rintro ⟨h1, rfl⟩; exact ⟨h, h1⟩
  · rintro ⟨hf, h1⟩
    rcases Nat.lt_trichotomy n m with hlt | heq | hgt
    · have := hf n hn hlt
      rcases hx with hx | hx | hx
      · exact absurd hx this.2
      · exact absurd hx this.1
      · omega
    · subst heq; exact ⟨h1, rfl⟩
    · have := h m hm hgt
      exact absurd h1 this.2
theorem orb_in {T : Int → Int} {s : Int} (hs : 1 < s) (hT : ∀ x, 0 ≤ x → x < s → 0 ≤ T x ∧ T x < s) : ∀ n, 0 ≤ orb T n ∧ orb T n < s
  | 0 => ⟨by simp [orb], by simpa [orb] using hs⟩
  | n + 1 => hT _ (orb_in hs hT n).1 (orb_in hs hT n).2
/-- A prime, by trial. -/
def Prm (n : Int) : Prop := ∀ d : Int, 2 ≤ d → d * d ≤ n → n % d ≠ 0
def PrmTo (n c : Int) : Prop := ∀ d : Int, 2 ≤ d → d < c → n % d ≠ 0
theorem PrmTo.two (n : Int) : PrmTo n 2 := fun d h1 h2 => by omega
theorem PrmTo.succ {n c : Int} (h : PrmTo n c) (hc : n % c ≠ 0) : PrmTo n (c + 1) := fun d h1 h2 => by
  rcases Int.lt_or_le d c with hd | hd
  · exact h d h1 hd
  · obtain rfl : d = c := by omega
    exact hc
theorem PrmTo.prm {n c : Int} (h : PrmTo n c) (hc : 2 ≤ c) (hn : n < c * c) : Prm n := fun d h1 h2 => h d h1 (by
  rcases Int.lt_or_le d c with hd | hd
  · exact hd
  · exact absurd (Int.le_trans (Int.mul_le_mul hd hd (by omega) (by omega)) h2) (by omega))
theorem Prm.no {n c : Int} (h1 : 2 ≤ c) (h2 : c * c ≤ n) (h3 : n % c = 0) : ¬ Prm n := fun h => h c h1 h2 h3
/-- The step of a prime field: times g. -/
def Tp (p g x : Int) : Int := x * g % p
theorem Tp_in {p g : Int} (hp : 1 < p) (hg : 0 ≤ g) (x : Int) (h0 : 0 ≤ x) (h1 : x < p) : 0 ≤ Tp p g x ∧ Tp p g x < p := by
  unfold Tp
  exact ⟨Int.emod_nonneg _ (by omega), Int.emod_lt_of_pos _ (by omega)⟩
theorem Tp_one {p g : Int} (h0 : 0 ≤ g) (h1 : g < p) : Tp p g 1 = g := by
  unfold Tp
  rw [Int.one_mul]
  exact Int.emod_eq_of_lt h0 h1
/-- The step of a binary field: times 2. -/
def Tb (s po x : Int) : Int := if 2 * x < s then 2 * x else bits .xor .i64 (2 * x) po
theorem xor_i64 (a b : Nat) (ha : a < 9223372036854775808) (hb : b < 9223372036854775808) : bits .xor .i64 (a : Int) (b : Int) = ((a ^^^ b : Nat) : Int) := by
  have hx : a ^^^ b < 2 ^ 63 := Nat.xor_lt_two_pow (by omega) (by omega)
  have h1 : (BitVec.ofInt 64 (a : Int)).toNat = a := by simp; omega
  have h2 : (BitVec.ofInt 64 (b : Int)).toNat = b := by simp; omega
  show IntKind.i64.wrap ((BitVec.ofInt 64 (a : Int) ^^^ BitVec.ofInt 64 (b : Int)).toNat : Int) = _
  rw [BitVec.toNat_xor, h1, h2]
  exact IntWalk.i64_in _ (by omega)
theorem and_i64 (a b : Nat) (ha : a < 9223372036854775808) (hb : b < 9223372036854775808) : bits .and .i64 (a : Int) (b : Int) = ((a &&& b : Nat) : Int) := by
  have hx : a &&& b ≤ a := Nat.and_le_left
  have h1 : (BitVec.ofInt 64 (a : Int)).toNat = a := by simp; omega
  have h2 : (BitVec.ofInt 64 (b : Int)).toNat = b := by simp; omega
  show IntKind.i64.wrap ((BitVec.ofInt 64 (a : Int) &&& BitVec.ofInt 64 (b : Int)).toNat : Int) = _
  rw [BitVec.toNat_and, h1, h2]
  exact IntWalk.i64_in _ (by omega)
/-- The bit that has grown out is taken away: a xor of two numbers with that bit is below it. -/
theorem xor_top {k a b : Nat} (ha : 2 ^ k ≤ a) (ha2 : a < 2 ^ (k + 1)) (hb : 2 ^ k ≤ b) (hb2 : b < 2 ^ (k + 1)) : a ^^^ b < 2 ^ k := by
  have ea : a / 2 ^ k = 1 := by
    have h1 : a / 2 ^ k < 2 := Nat.div_lt_of_lt_mul (by rw [Nat.pow_succ] at ha2; omega)
    have h2 : 1 ≤ a / 2 ^ k := (Nat.one_le_div_iff (Nat.two_pow_pos k)).2 ha
    omega
  have eb : b / 2 ^ k = 1 := by
    have h1 : b / 2 ^ k < 2 := Nat.div_lt_of_lt_mul (by rw [Nat.pow_succ] at hb2; omega)
    have h2 : 1 ≤ b / 2 ^ k := (Nat.one_le_div_iff (Nat.two_pow_pos k)).2 hb
    omega
  have h : (a ^^^ b) / 2 ^ k = 0 := by rw [Nat.xor_div_two_pow, ea, eb]; rfl
  exact (Nat.div_eq_zero_iff_lt (Nat.two_pow_pos k)).1 h
theorem Tb_in {k : Nat} (hk : k ≤ 8) {po : Int} (h0 : (2 : Int) ^ k ≤ po) (h1 : po < 2 ^ (k + 1)) (x : Int) (hx0 : 0 ≤ x) (hx1 : x < 2 ^ k) : 0 ≤ Tb (2 ^ k) po x ∧ Tb (2 ^ k) po x < 2 ^ k := by
  unfold Tb
  split
  · omega
  · rename_i hn
    obtain ⟨a, rfl⟩ := Int.eq_ofNat_of_zero_le hx0
    have hpk : (0 : Int) < 2 ^ k := Int.pow_pos (by decide)
    obtain ⟨b, rfl⟩ := Int.eq_ofNat_of_zero_le (show 0 ≤ po by omega)
    have e2 : ((2 ^ k : Nat) : Int) = 2 ^ k := by simp
    have e3 : ((2 ^ (k + 1) : Nat) : Int) = 2 ^ (k + 1) := by simp
    have hs : (2 : Nat) ^ k ≤ 256 := Nat.pow_le_pow_right (by decide) hk
    have hs2 : (2 : Nat) ^ (k + 1) = 2 * 2 ^ k := by rw [Nat.pow_succ]; omega
    have e : (2 : Int) * (a : Int) = ((2 * a : Nat) : Int) := by omega
    rw [e, xor_i64 _ _ (by omega) (by omega)]
    have ht := xor_top (k := k) (a := 2 * a) (b := b) (by omega) (by omega) (by omega) (by omega)
    exact ⟨by omega, by omega⟩
end Go.Proofs.Ytdpifddmhbeklaa
namespace Go.Proofs.Ytdpifddmhbeklaa
open Go.RowKit
set_option linter.unusedVariables false
noncomputable def prmB (n : Int) : Bool := @decide (Prm n) (Classical.propDecidable _)
theorem prmB_yes {n : Int} (h : Prm n) : prmB n = true := by simp [prmB, h]
theorem prmB_no {n : Int} (h : ¬ Prm n) : prmB n = false := by simp [prmB, h]
noncomputable def fillB (T : Int → Int) (m : Nat) : Bool := @decide (Fills T m) (Classical.propDecidable _)
theorem fillB_yes {T : Int → Int} {m : Nat} (h : Fills T m) : fillB T m = true := by simp [fillB, h]
theorem fillB_no {T : Int → Int} {m : Nat} (h : ¬ Fills T m) : fillB T m = false := by simp [fillB, h]
theorem fillB_iff {T : Int → Int} {m : Nat} {b : Bool} (h : b = true ↔ Fills T m) : b = fillB T m := by
  by_cases hf : Fills T m
  · rw [fillB_yes hf]; exact h.2 hf
  · rw [fillB_no hf]
    cases b with
    | false => rfl
    | true => exact absurd (h.1 rfl) hf
set_option maxHeartbeats 1000000 in
theorem sPrm (n : Int) (w : World) (h0 : 3 ≤ n) (h1 : n ≤ 1021) : Calls Try.prog 128 #[.int .i64 n] w fun e w' => e = .returned (.bool (prmB n)) ∧ w = w' := by
  go_enter Try.func128, Try.ntmps128
  go_wp2
  go_loopw [3] (fun v wr => ∃ (c : Int), v = .int .i64 c ∧ 2 ≤ c ∧ c ≤ 1000 ∧ Hid (PrmTo n c) ∧ w = wr) (fun v _ => (1000 - intOf v).toNat)
  case atStart => exact ⟨2, rfl, by omega, by omega, PrmTo.two n, rfl⟩
  case round =>
    obtain ⟨c, rfl, c2, c3, HC, rfl⟩ := hrel
    have q2 : (c + 1) * (c + 1) = c * c + 2 * c + 1 := by rw [Int.add_mul, Int.mul_add]; omega
    have q0 : 0 ≤ c * c := Int.mul_nonneg (by omega) (by omega)
    have q1 : c * c ≤ 1000 * c := Int.mul_le_mul_of_nonneg_right c3 (by omega)
    have hcz : ¬ (c = 0) := by omega
    by_cases hq : c * c ≤ n
    · have c4 : c < 1000 := by
        rcases Int.lt_or_le c 1000 with h | h
        · exact h
        · have := Int.mul_le_mul_of_nonneg_right h (show 0 ≤ c by omega)
          omega
      by_cases ht : n % c = 0
      · have HE : Hid (false = prmB n) := (prmB_no (Prm.no c2 hq ht)).symm
        go_wp2
        go_returns
        exact ⟨ret_bool HE.out, rfl⟩
      · have HE := Lib.hid (HC.out.succ ht)
        go_wp2
        go_roundw
        case rel => exact ⟨c + 1, rfl, by omega, by omega, HE, trivial⟩
        case measure => simp [intOf]; omega
    · have HE : Hid (true = prmB n) := (prmB_yes (HC.out.prm c2 (by omega))).symm
      have n2 : 2 ≤ n := by omega
      go_wp2
      go_returns
      exact ⟨ret_bool HE.out, rfl⟩
set_option maxHeartbeats 1000000 in
theorem iPrm (n : Int) (w : World) (h0 : 3 ≤ n) (h1 : n ≤ 1021) : Calls Try.prog 135 #[.int .i64 n] w fun e w' => e = .returned (.bool (prmB n)) ∧ w = w' := by
  have n2 : ¬ n < 2 := by omega
  go_enter Try.func135, Try.ntmps135
  go_wp2
  go_loopw [3] (fun v wr => ∃ (c : Int), v = .int .i64 c ∧ 2 ≤ c ∧ c ≤ 1000 ∧ Hid (PrmTo n c) ∧ w = wr) (fun v _ => (1000 - intOf v).toNat)
  case atStart => exact ⟨2, rfl, by omega, by omega, PrmTo.two n, rfl⟩
  case round =>
    obtain ⟨c, rfl, c2, c3, HC, rfl⟩ := hrel
    have q2 : (c + 1) * (c + 1) = c * c + 2 * c + 1 := by rw [Int.add_mul, Int.mul_add]; omega
    have q0 : 0 ≤ c * c := Int.mul_nonneg (by omega) (by omega)
    have q1 : c * c ≤ 1000 * c := Int.mul_le_mul_of_nonneg_right c3 (by omega)
    have hcz : ¬ (c = 0) := by omega
    by_cases hq : c * c ≤ n
    · have c4 : c < 1000 := by
        rcases Int.lt_or_le c 1000 with h | h
        · exact h
        · have := Int.mul_le_mul_of_nonneg_right h (show 0 ≤ c by omega)
          omega
      by_cases ht : n % c = 0
      · have HE : Hid (false = prmB n) := (prmB_no (Prm.no c2 hq ht)).symm
        go_wp2
        go_returns
        exact ⟨ret_bool HE.out, rfl⟩
      · have HE := Lib.hid (HC.out.succ ht)
        go_wp2
        go_roundw
        case rel => exact ⟨c + 1, rfl, by omega, by omega, HE, trivial⟩
        case measure => simp [intOf]; omega
    · have HE : Hid (true = prmB n) := (prmB_yes (HC.out.prm c2 (by omega))).symm
      go_wp2
      go_returns
      exact ⟨ret_bool HE.out, rfl⟩
theorem sSz1 (p po : Int) (w : World) : Calls Try.prog 102 #[.agg #[.int .i64 p, .int .i64 1, .int .i64 po]] w fun e w' => e = .returned (.int .i64 p) ∧ Below w.heap.size w w' := by
  go_enter Try.func102, Try.ntmps102
  go_wp2
  go_returns
  exact ⟨rfl, by repeat' (first | (with_reducible exact Below.refl _ _) | (with_reducible assumption) | (with_reducible refine Below.alloc ?_ ?_ _) | (with_reducible refine Below.setCell ?_ ?_ _) | (with_reducible refine Below.drew ?_) | (with_reducible refine below_drewN ?_ _) | (with_reducible refine below_via (by with_reducible assumption) ?_ ?_) | go_size)⟩
theorem sSzB (k : Nat) (h3 : 3 ≤ k) (h8 : k ≤ 8) (po : Int) (w : World) : Calls Try.prog 102 #[.agg #[.int .i64 2, .int .i64 (k : Int), .int .i64 po]] w fun e w' => e = .returned (.int .i64 (2 ^ k)) ∧ Below w.heap.size w w' := by
  obtain rfl | rfl | rfl | rfl | rfl | rfl : k = 3 ∨ k = 4 ∨ k = 5 ∨ k = 6 ∨ k = 7 ∨ k = 8 := by omega
  all_goals
    go_enter Try.func102, Try.ntmps102
    go_wp2
    go_returns
    exact ⟨rfl, by repeat' (first | (with_reducible exact Below.refl _ _) | (with_reducible assumption) | (with_reducible refine Below.alloc ?_ ?_ _) | (with_reducible refine Below.setCell ?_ ?_ _) | (with_reducible refine Below.drew ?_) | (with_reducible refine below_drewN ?_ _) | (with_reducible refine below_via (by with_reducible assumption) ?_ ?_) | go_size)⟩
set_option maxHeartbeats 1000000 in
theorem sMulP (p po a b : Int) (w : World) (hp : 3 ≤ p) (hp2 : p ≤ 1021) (a0 : 0 ≤ a) (a1 : a < p) (b0 : 0 ≤ b) (b1 : b < p) : Calls Try.prog 140 #[.agg #[.int .i64 p, .int .i64 1, .int .i64 po], .int .i64 a, .int .i64 b] w fun e w' => e = .returned (.int .i64 (Tp p b a)) ∧ Below w.heap.size w w' := by
  have q0 : 0 ≤ a * b := Int.mul_nonneg a0 b0
  have q1 : a * b ≤ 1021 * b := Int.mul_le_mul_of_nonneg_right (by omega) b0
  have hpz : ¬ (p = 0) := by omega
  go_enter Try.func140, Try.ntmps140
  go_wp2
  go_returns
  exact ⟨rfl, by repeat' (first | (with_reducible exact Below.refl _ _) | (with_reducible assumption) | (with_reducible refine Below.alloc ?_ ?_ _) | (with_reducible refine Below.setCell ?_ ?_ _) | (with_reducible refine Below.drew ?_) | (with_reducible refine below_drewN ?_ _) | (with_reducible refine below_via (by with_reducible assumption) ?_ ?_) | go_size)⟩
end Go.Proofs.Ytdpifddmhbeklaa
