/-
  DERIVED. IsField: times 2 in a binary field.
-/
import Derived.Test.YtdpifddmhbeklaaFldQ
namespace Go.Proofs.Ytdpifddmhbeklaa
open Go.RowKit
set_option linter.unusedVariables false
theorem xor_zero (x : Int) (h0 : 0 ≤ x) (h1 : x < 256) : bits .xor .i64 0 (x * 2) = x * 2 := by
  obtain ⟨n, rfl⟩ := Int.eq_ofNat_of_zero_le h0
  have h := xor_i64 0 (n * 2) (by omega) (by omega)
  rw [Nat.zero_xor] at h
  have e : ((n * 2 : Nat) : Int) = (n : Int) * 2 := by omega
  rw [e] at h
  exact h
set_option maxHeartbeats 4000000 in
theorem sMulB3 (po x : Int) (w : World) (p0 : 8 ≤ po) (p1 : po < 16) (x0 : 0 ≤ x) (x1 : x < 8) : Calls Try.prog 140 #[.agg #[.int .i64 2, .int .i64 3, .int .i64 po], .int .i64 x, .int .i64 2] w fun e w' => e = .returned (.int .i64 (Tb 8 po x)) ∧ Below w.heap.size w w' := by
  have hb0 : bits .and .i64 0 1 = 0 := by decide
  have hb1 : bits .and .i64 1 1 = 1 := by decide
  have hb2 : bits .and .i64 2 1 = 0 := by decide
  have hx := xor_zero x x0 (by omega)
  have q4 : x * 2 / 16 = 0 := by omega
  have q5 : x * 2 / 32 = 0 := by omega
  have q6 : x * 2 / 64 = 0 := by omega
  by_cases hs : 2 * x < 8
  · have q3 : x * 2 / 8 = 0 := by omega
    have HE : Hid (x * 2 = Tb 8 po x) := by unfold Hid Tb; rw [if_pos hs]; omega
    go_enter Try.func140, Try.ntmps140
    go_wp2
    refine wp_loop_rounds 4 ?_
    rw [rounds_succ]
    go_wp2
    rw [rounds_succ]
    go_wp2
    rw [rounds_succ]
    go_wp2
    rw [rounds_succ]
    go_wp2
    refine wp_loop_rounds 5 ?_
    rw [rounds_succ]
    go_wp2
    rw [rounds_succ]
    go_wp2
    rw [rounds_succ]
    go_wp2
    rw [rounds_succ]
    go_wp2
    rw [rounds_succ]
    go_wp2
    go_returns
    exact ⟨ret_int HE.out, by repeat' (first | (with_reducible exact Below.refl _ _) | (with_reducible assumption) | (with_reducible refine Below.alloc ?_ ?_ _) | (with_reducible refine Below.setCell ?_ ?_ _) | (with_reducible refine Below.drew ?_) | (with_reducible refine below_drewN ?_ _) | (with_reducible refine below_via (by with_reducible assumption) ?_ ?_) | go_size)⟩
  · have q3 : x * 2 / 8 = 1 := by omega
    have HE : Hid (bits .xor .i64 (x * 2) po = Tb 8 po x) := by unfold Hid Tb; rw [if_neg hs, Int.mul_comm 2 x]
    go_enter Try.func140, Try.ntmps140
    go_wp2
    refine wp_loop_rounds 4 ?_
    rw [rounds_succ]
    go_wp2
    rw [rounds_succ]
    go_wp2
    rw [rounds_succ]
    go_wp2
    rw [rounds_succ]
    go_wp2
    refine wp_loop_rounds 5 ?_
    rw [rounds_succ]
    go_wp2
    rw [rounds_succ]
    go_wp2
    rw [rounds_succ]
    go_wp2
    rw [rounds_succ]
    go_wp2
    rw [rounds_succ]
    go_wp2
    go_returns
    exact ⟨ret_int HE.out, by repeat' (first | (with_reducible exact Below.refl _ _) | (with_reducible assumption) | (with_reducible refine Below.alloc ?_ ?_ _) | (with_reducible refine Below.setCell ?_ ?_ _) | (with_reducible refine Below.drew ?_) | (with_reducible refine below_drewN ?_ _) | (with_reducible refine below_via (by with_reducible assumption) ?_ ?_) | go_size)⟩
set_option maxHeartbeats 4000000 in
theorem sMulB4 (po x : Int) (w : World) (p0 : 16 ≤ po) (p1 : po < 32) (x0 : 0 ≤ x) (x1 : x < 16) : Calls Try.prog 140 #[.agg #[.int .i64 2, .int .i64 4, .int .i64 po], .int .i64 x, .int .i64 2] w fun e w' => e = .returned (.int .i64 (Tb 16 po x)) ∧ Below w.heap.size w w' := by
  have hb0 : bits .and .i64 0 1 = 0 := by decide
  have hb1 : bits .and .i64 1 1 = 1 := by decide
  have hb2 : bits .and .i64 2 1 = 0 := by decide
  have hx := xor_zero x x0 (by omega)
  have q5 : x * 2 / 32 = 0 := by omega
  have q6 : x * 2 / 64 = 0 := by omega
  have q7 : x * 2 / 128 = 0 := by omega
  have q8 : x * 2 / 256 = 0 := by omega
  by_cases hs : 2 * x < 16
  · have q4 : x * 2 / 16 = 0 := by omega
    have HE : Hid (x * 2 = Tb 16 po x) := by unfold Hid Tb; rw [if_pos hs]; omega
    go_enter Try.func140, Try.ntmps140
    go_wp2
    refine wp_loop_rounds 5 ?_
    rw [rounds_succ]
    go_wp2
    rw [rounds_succ]
    go_wp2
    rw [rounds_succ]
    go_wp2
    rw [rounds_succ]
    go_wp2
    rw [rounds_succ]
    go_wp2
    refine wp_loop_rounds 6 ?_
    rw [rounds_succ]
    go_wp2
    rw [rounds_succ]
    go_wp2
    rw [rounds_succ]
    go_wp2
    rw [rounds_succ]
    go_wp2
    rw [rounds_succ]
    go_wp2
    rw [rounds_succ]
    go_wp2
    go_returns
    exact ⟨ret_int HE.out, by repeat' (first | (with_reducible exact Below.refl _ _) | (with_reducible assumption) | (with_reducible refine Below.alloc ?_ ?_ _) | (with_reducible refine Below.setCell ?_ ?_ _) | (with_reducible refine Below.drew ?_) | (with_reducible refine below_drewN ?_ _) | (with_reducible refine below_via (by with_reducible assumption) ?_ ?_) | go_size)⟩
  · have q4 : x * 2 / 16 = 1 := by omega
    have HE : Hid (bits .xor .i64 (x * 2) po = Tb 16 po x) := by unfold Hid Tb; rw [if_neg hs, Int.mul_comm 2 x]
    go_enter Try.func140, Try.ntmps140
    go_wp2
    refine wp_loop_rounds 5 ?_
    rw [rounds_succ]
    go_wp2
    rw [rounds_succ]
    go_wp2
    rw [rounds_succ]
    go_wp2
    rw [rounds_succ]
    go_wp2
    rw [rounds_succ]
    go_wp2
    refine wp_loop_rounds 6 ?_
    rw [rounds_succ]
    go_wp2
    rw [rounds_succ]
    go_wp2
    rw [rounds_succ]
    go_wp2
    rw [rounds_succ]
    go_wp2
    rw [rounds_succ]
    go_wp2
    rw [rounds_succ]
    go_wp2
    go_returns
    exact ⟨ret_int HE.out, by repeat' (first | (with_reducible exact Below.refl _ _) | (with_reducible assumption) | (with_reducible refine Below.alloc ?_ ?_ _) | (with_reducible refine Below.setCell ?_ ?_ _) | (with_reducible refine Below.drew ?_) | (with_reducible refine below_drewN ?_ _) | (with_reducible refine below_via (by with_reducible assumption) ?_ ?_) | go_size)⟩
set_option maxHeartbeats 4000000 in
theorem sMulB5 (po x : Int) (w : World) (p0 : 32 ≤ po) (p1 : po < 64) (x0 : 0 ≤ x) (x1 : x < 32) : Calls Try.prog 140 #[.agg #[.int .i64 2, .int .i64 5, .int .i64 po], .int .i64 x, .int .i64 2] w fun e w' => e = .returned (.int .i64 (Tb 32 po x)) ∧ Below w.heap.size w w' := by
  have hb0 : bits .and .i64 0 1 = 0 := by decide
  have hb1 : bits .and .i64 1 1 = 1 := by decide
  have hb2 : bits .and .i64 2 1 = 0 := by decide
  have hx := xor_zero x x0 (by omega)
  have q6 : x * 2 / 64 = 0 := by omega
  have q7 : x * 2 / 128 = 0 := by omega
  have q8 : x * 2 / 256 = 0 := by omega
  have q9 : x * 2 / 512 = 0 := by omega
  have q10 : x * 2 / 1024 = 0 := by omega
  by_cases hs : 2 * x < 32
  · have q5 : x * 2 / 32 = 0 := by omega
    have HE : Hid (x * 2 = Tb 32 po x) := by unfold Hid Tb; rw [if_pos hs]; omega
    go_enter Try.func140, Try.ntmps140
    go_wp2
    refine wp_loop_rounds 6 ?_
    rw [rounds_succ]
    go_wp2
    rw [rounds_succ]
    go_wp2
    rw [rounds_succ]
    go_wp2
    rw [rounds_succ]
    go_wp2
    rw [rounds_succ]
    go_wp2
    rw [rounds_succ]
    go_wp2
    refine wp_loop_rounds 7 ?_
    rw [rounds_succ]
    go_wp2
    rw [rounds_succ]
    go_wp2
    rw [rounds_succ]
    go_wp2
    rw [rounds_succ]
    go_wp2
    rw [rounds_succ]
    go_wp2
    rw [rounds_succ]
    go_wp2
    rw [rounds_succ]
    go_wp2
    go_returns
    exact ⟨ret_int HE.out, by repeat' (first | (with_reducible exact Below.refl _ _) | (with_reducible assumption) | (with_reducible refine Below.alloc ?_ ?_ _) | (with_reducible refine Below.setCell ?_ ?_ _) | (with_reducible refine Below.drew ?_) | (with_reducible refine below_drewN ?_ _) | (with_reducible refine below_via (by with_reducible assumption) ?_ ?_) | go_size)⟩
  · have q5 : x * 2 / 32 = 1 := by omega
    have HE : Hid (bits .xor .i64 (x * 2) po = Tb 32 po x) := by unfold Hid Tb; rw [if_neg hs, Int.mul_comm 2 x]
    go_enter Try.func140, Try.ntmps140
    go_wp2
    refine wp_loop_rounds 6 ?_
    rw [rounds_succ]
    go_wp2
    rw [rounds_succ]
    go_wp2
    rw [rounds_succ]
    go_wp2
    rw [rounds_succ]
    go_wp2
    rw [rounds_succ]
    go_wp2
    rw [rounds_succ]
    go_wp2
    refine wp_loop_rounds 7 ?_
    rw [rounds_succ]
    go_wp2
    rw [rounds_succ]
    go_wp2
    rw [rounds_succ]
    go_wp2
    rw [rounds_succ]
    go_wp2
    rw [rounds_succ]
    go_wp2
    rw [rounds_succ]
    go_wp2
    rw [rounds_succ]
    go_wp2
    go_returns
    exact ⟨ret_int HE.out, by repeat' (first | (with_reducible exact Below.refl _ _) | (with_reducible assumption) | (with_reducible refine Below.alloc ?_ ?_ _) | (with_reducible refine Below.setCell ?_ ?_ _) | (with_reducible refine Below.drew ?_) | (with_reducible refine below_drewN ?_ _) | (with_reducible refine below_via (by with_reducible assumption) ?_ ?_) | go_size)⟩
set_option maxHeartbeats 4000000 in
theorem sMulB6 (po x : Int) (w : World) (p0 : 64 ≤ po) (p1 : po < 128) (x0 : 0 ≤ x) (x1 : x < 64) : Calls Try.prog 140 #[.agg #[.int .i64 2, .int .i64 6, .int .i64 po], .int .i64 x, .int .i64 2] w fun e w' => e = .returned (.int .i64 (Tb 64 po x)) ∧ Below w.heap.size w w' := by
  have hb0 : bits .and .i64 0 1 = 0 := by decide
  have hb1 : bits .and .i64 1 1 = 1 := by decide
  have hb2 : bits .and .i64 2 1 = 0 := by decide
  have hx := xor_zero x x0 (by omega)
  have q7 : x * 2 / 128 = 0 := by omega
  have q8 : x * 2 / 256 = 0 := by omega
  have q9 : x * 2 / 512 = 0 := by omega
  have q10 : x * 2 / 1024 = 0 := by omega
  have q11 : x * 2 / 2048 = 0 := by omega
  have q12 : x * 2 / 4096 = 0 := by omega
  by_cases hs : 2 * x < 64
  · have q6 : x * 2 / 64 = 0 := by omega
    have HE : Hid (x * 2 = Tb 64 po x) := by unfold Hid Tb; rw [if_pos hs]; omega
    go_enter Try.func140, Try.ntmps140
    go_wp2
    refine wp_loop_rounds 7 ?_
    rw [rounds_succ]
    go_wp2
    rw [rounds_succ]
    go_wp2
    rw [rounds_succ]
    go_wp2
    rw [rounds_succ]
    go_wp2
    rw [rounds_succ]
    go_wp2
    rw [rounds_succ]
    go_wp2
    rw [rounds_succ]
    go_wp2
    refine wp_loop_rounds 8 ?_
    rw [rounds_succ]
    go_wp2
    rw [rounds_succ]
    go_wp2
    rw [rounds_succ]
    go_wp2
    rw [rounds_succ]
    go_wp2
    rw [rounds_succ]
    go_wp2
    rw [rounds_succ]
    go_wp2
    rw [rounds_succ]
    go_wp2
    rw [rounds_succ]
    go_wp2
    go_returns
    exact ⟨ret_int HE.out, by repeat' (first | (with_reducible exact Below.refl _ _) | (with_reducible assumption) | (with_reducible refine Below.alloc ?_ ?_ _) | (with_reducible refine Below.setCell ?_ ?_ _) | (with_reducible refine Below.drew ?_) | (with_reducible refine below_drewN ?_ _) | (with_reducible refine below_via (by with_reducible assumption) ?_ ?_) | go_size)⟩
  · have q6 : x * 2 / 64 = 1 := by omega
    have HE : Hid (bits .xor .i64 (x * 2) po = Tb 64 po x) := by unfold Hid Tb; rw [if_neg hs, Int.mul_comm 2 x]
    go_enter Try.func140, Try.ntmps140
    go_wp2
    refine wp_loop_rounds 7 ?_
    rw [rounds_succ]
    go_wp2
    rw [rounds_succ]
    go_wp2
    rw [rounds_succ]
    go_wp2
    rw [rounds_succ]
    go_wp2
    rw [rounds_succ]
    go_wp2
    rw [rounds_succ]
    go_wp2
    rw [rounds_succ]
    go_wp2
    refine wp_loop_rounds 8 ?_
    rw [rounds_succ]
    go_wp2
    rw [rounds_succ]
    go_wp2
    rw [rounds_succ]
    go_wp2
    rw [rounds_succ]
    go_wp2
    rw [rounds_succ]
    go_wp2
    rw [rounds_succ]
    go_wp2
    rw [rounds_succ]
    go_wp2
    rw [rounds_succ]
    go_wp2
    go_returns
    exact ⟨ret_int HE.out, by repeat' (first | (with_reducible exact Below.refl _ _) | (with_reducible assumption) | (with_reducible refine Below.alloc ?_ ?_ _) | (with_reducible refine Below.setCell ?_ ?_ _) | (with_reducible refine Below.drew ?_) | (with_reducible refine below_drewN ?_ _) | (with_reducible refine below_via (by with_reducible assumption) ?_ ?_) | go_size)⟩
set_option maxHeartbeats 4000000 in
theorem sMulB7 (po x : Int) (w : World) (p0 : 128 ≤ po) (p1 : po < 256) (x0 : 0 ≤ x) (x1 : x < 128) : Calls Try.prog 140 #[.agg #[.int .i64 2, .int .i64 7, .int .i64 po], .int .i64 x, .int .i64 2] w fun e w' => e = .returned (.int .i64 (Tb 128 po x)) ∧ Below w.heap.size w w' := by
  have hb0 : bits .and .i64 0 1 = 0 := by decide
  have hb1 : bits .and .i64 1 1 = 1 := by decide
  have hb2 : bits .and .i64 2 1 = 0 := by decide
  have hx := xor_zero x x0 (by omega)
  have q8 : x * 2 / 256 = 0 := by omega
  have q9 : x * 2 / 512 = 0 := by omega
  have q10 : x * 2 / 1024 = 0 := by omega
  have q11 : x * 2 / 2048 = 0 := by omega
  have q12 : x * 2 / 4096 = 0 := by omega
  have q13 : x * 2 / 8192 = 0 := by omega
  have q14 : x * 2 / 16384 = 0 := by omega
  by_cases hs : 2 * x < 128
  · have q7 : x * 2 / 128 = 0 := by omega
    have HE : Hid (x * 2 = Tb 128 po x) := by unfold Hid Tb; rw [if_pos hs]; omega
    go_enter Try.func140, Try.ntmps140
    go_wp2
    refine wp_loop_rounds 8 ?_
    rw [rounds_succ]
    go_wp2
    rw [rounds_succ]
    go_wp2
    rw [rounds_succ]
    go_wp2
    rw [rounds_succ]
    go_wp2
    rw [rounds_succ]
    go_wp2
    rw [rounds_succ]
    go_wp2
    rw [rounds_succ]
    go_wp2
    rw [rounds_succ]
    go_wp2
    refine wp_loop_rounds 9 ?_
    rw [rounds_succ]
    go_wp2
    rw [rounds_succ]
    go_wp2
    rw [rounds_succ]
    go_wp2
    rw [rounds_succ]
    go_wp2
    rw [rounds_succ]
    go_wp2
    rw [rounds_succ]
    go_wp2
    rw [rounds_succ]
    go_wp2
    rw [rounds_succ]
    go_wp2
    rw [rounds_succ]
    go_wp2
    go_returns
    exact ⟨ret_int HE.out, by repeat' (first | (with_reducible exact Below.refl _ _) | (with_reducible assumption) | (with_reducible refine Below.alloc ?_ ?_ _) | (with_reducible refine Below.setCell ?_ ?_ _) | (with_reducible refine Below.drew ?_) | (with_reducible refine below_drewN ?_ _) | (with_reducible refine below_via (by with_reducible assumption) ?_ ?_) | go_size)⟩
  · have q7 : x * 2 / 128 = 1 := by omega
    have HE : Hid (bits .xor .i64 (x * 2) po = Tb 128 po x) := by unfold Hid Tb; rw [if_neg hs, Int.mul_comm 2 x]
    go_enter Try.func140, Try.ntmps140
    go_wp2
    refine wp_loop_rounds 8 ?_
    rw [rounds_succ]
    go_wp2
    rw [rounds_succ]
    go_wp2
    rw [rounds_succ]
    go_wp2
    rw [rounds_succ]
    go_wp2
    rw [rounds_succ]
    go_wp2
    rw [rounds_succ]
    go_wp2
    rw [rounds_succ]
    go_wp2
    rw [rounds_succ]
    go_wp2
    refine wp_loop_rounds 9 ?_
    rw [rounds_succ]
    go_wp2
    rw [rounds_succ]
    go_wp2
    rw [rounds_succ]
    go_wp2
    rw [rounds_succ]
    go_wp2
    rw [rounds_succ]
    go_wp2
    rw [rounds_succ]
    go_wp2
    rw [rounds_succ]
    go_wp2
    rw [rounds_succ]
    go_wp2
    rw [rounds_succ]
    go_wp2
    go_returns
    exact ⟨ret_int HE.out, by repeat' (first | (with_reducible exact Below.refl _ _) | (with_reducible assumption) | (with_reducible refine Below.alloc ?_ ?_ _) | (with_reducible refine Below.setCell ?_ ?_ _) | (with_reducible refine Below.drew ?_) | (with_reducible refine below_drewN ?_ _) | (with_reducible refine below_via (by with_reducible assumption) ?_ ?_) | go_size)⟩
set_option maxHeartbeats 4000000 in
theorem sMulB8 (po x : Int) (w : World) (p0 : 256 ≤ po) (p1 : po < 512) (x0 : 0 ≤ x) (x1 : x < 256) : Calls Try.prog 140 #[.agg #[.int .i64 2, .int .i64 8, .int .i64 po], .int .i64 x, .int .i64 2] w fun e w' => e = .returned (.int .i64 (Tb 256 po x)) ∧ Below w.heap.size w w' := by
  have hb0 : bits .and .i64 0 1 = 0 := by decide
  have hb1 : bits .and .i64 1 1 = 1 := by decide
  have hb2 : bits .and .i64 2 1 = 0 := by decide
  have hx := xor_zero x x0 (by omega)
  have q9 : x * 2 / 512 = 0 := by omega
  have q10 : x * 2 / 1024 = 0 := by omega
  have q11 : x * 2 / 2048 = 0 := by omega
  have q12 : x * 2 / 4096 = 0 := by omega
  have q13 : x * 2 / 8192 = 0 := by omega
  have q14 : x * 2 / 16384 = 0 := by omega
  have q15 : x * 2 / 32768 = 0 := by omega
  have q16 : x * 2 / 65536 = 0 := by omega
  by_cases hs : 2 * x < 256
  · have q8 : x * 2 / 256 = 0 := by omega
    have HE : Hid (x * 2 = Tb 256 po x) := by unfold Hid Tb; rw [if_pos hs]; omega
    go_enter Try.func140, Try.ntmps140
    go_wp2
    refine wp_loop_rounds 9 ?_
    rw [rounds_succ]
    go_wp2
    rw [rounds_succ]
    go_wp2
    rw [rounds_succ]
    go_wp2
    rw [rounds_succ]
    go_wp2
    rw [rounds_succ]
    go_wp2
    rw [rounds_succ]
    go_wp2
    rw [rounds_succ]
    go_wp2
    rw [rounds_succ]
    go_wp2
    rw [rounds_succ]
    go_wp2
    refine wp_loop_rounds 10 ?_
    rw [rounds_succ]
    go_wp2
    rw [rounds_succ]
    go_wp2
    rw [rounds_succ]
    go_wp2
    rw [rounds_succ]
    go_wp2
    rw [rounds_succ]
    go_wp2
    rw [rounds_succ]
    go_wp2
    rw [rounds_succ]
    go_wp2
    rw [rounds_succ]
    go_wp2
    rw [rounds_succ]
    go_wp2
    rw [rounds_succ]
    go_wp2
    go_returns
    exact ⟨ret_int HE.out, by repeat' (first | (with_reducible exact Below.refl _ _) | (with_reducible assumption) | (with_reducible refine Below.alloc ?_ ?_ _) | (with_reducible refine Below.setCell ?_ ?_ _) | (with_reducible refine Below.drew ?_) | (with_reducible refine below_drewN ?_ _) | (with_reducible refine below_via (by with_reducible assumption) ?_ ?_) | go_size)⟩
  · have q8 : x * 2 / 256 = 1 := by omega
    have HE : Hid (bits .xor .i64 (x * 2) po = Tb 256 po x) := by unfold Hid Tb; rw [if_neg hs, Int.mul_comm 2 x]
    go_enter Try.func140, Try.ntmps140
    go_wp2
    refine wp_loop_rounds 9 ?_
    rw [rounds_succ]
    go_wp2
    rw [rounds_succ]
    go_wp2
    rw [rounds_succ]
    go_wp2
    rw [rounds_succ]
    go_wp2
    rw [rounds_succ]
    go_wp2
    rw [rounds_succ]
    go_wp2
    rw [rounds_succ]
    go_wp2
    rw [rounds_succ]
    go_wp2
    rw [rounds_succ]
    go_wp2
    refine wp_loop_rounds 10 ?_
    rw [rounds_succ]
    go_wp2
    rw [rounds_succ]
    go_wp2
    rw [rounds_succ]
    go_wp2
    rw [rounds_succ]
    go_wp2
    rw [rounds_succ]
    go_wp2
    rw [rounds_succ]
    go_wp2
    rw [rounds_succ]
    go_wp2
    rw [rounds_succ]
    go_wp2
    rw [rounds_succ]
    go_wp2
    rw [rounds_succ]
    go_wp2
    go_returns
    exact ⟨ret_int HE.out, by repeat' (first | (with_reducible exact Below.refl _ _) | (with_reducible assumption) | (with_reducible refine Below.alloc ?_ ?_ _) | (with_reducible refine Below.setCell ?_ ?_ _) | (with_reducible refine Below.drew ?_) | (with_reducible refine below_drewN ?_ _) | (with_reducible refine below_via (by with_reducible assumption) ?_ ?_) | go_size)⟩
theorem sMulB (k : Nat) (h3 : 3 ≤ k) (h8 : k ≤ 8) (po x : Int) (w : World) (p0 : 2 ^ k ≤ po) (p1 : po < 2 ^ (k + 1)) (x0 : 0 ≤ x) (x1 : x < 2 ^ k) : Calls Try.prog 140 #[.agg #[.int .i64 2, .int .i64 (k : Int), .int .i64 po], .int .i64 x, .int .i64 2] w fun e w' => e = .returned (.int .i64 (Tb (2 ^ k) po x)) ∧ Below w.heap.size w w' := by
  obtain rfl | rfl | rfl | rfl | rfl | rfl : k = 3 ∨ k = 4 ∨ k = 5 ∨ k = 6 ∨ k = 7 ∨ k = 8 := by omega
  · exact sMulB3 po x w p0 p1 x0 x1
  · exact sMulB4 po x w p0 p1 x0 x1
  · exact sMulB5 po x w p0 p1 x0 x1
  · exact sMulB6 po x w p0 p1 x0 x1
  · exact sMulB7 po x w p0 p1 x0 x1
  · exact sMulB8 po x w p0 p1 x0 x1
end Go.Proofs.Ytdpifddmhbeklaa
