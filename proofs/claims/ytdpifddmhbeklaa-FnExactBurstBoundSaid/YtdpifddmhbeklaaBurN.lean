/-
  DERIVED. BurstBound: how long the stream is.
-/
import Derived.Test.YtdpifddmhbeklaaBurT
namespace Go.Proofs.Ytdpifddmhbeklaa
open Go.RowKit
set_option linter.unusedVariables false
theorem row1_full {d c : Int} {e : Nat} (he : (e : Int) < d / c) : ∀ m, (row1 d c e m).length = m
  | 0 => rfl
  | m + 1 => by
    have : (e : Int) < shareZ d c (m : Int) := by unfold shareZ; split <;> omega
    show (row1 d c e m ++ _).length = _
    rw [if_pos this, List.length_append, row1_full he m]
    rfl
theorem row1_top {d c : Int} {e : Nat} (he : (e : Int) = d / c) (hr : 0 ≤ d % c) : ∀ m : Nat, (row1 d c e m).length = m - (c - d % c).toNat
  | 0 => by simp [row1]
  | m + 1 => by
    show (row1 d c e m ++ _).length = _
    rw [List.length_append, row1_top he hr m]
    by_cases h : c - d % c ≤ (m : Int)
    · rw [if_pos (by unfold shareZ; rw [if_pos h]; omega)]
      simp
      omega
    · rw [if_neg (by unfold shareZ; rw [if_neg h]; omega)]
      simp
      omega
theorem part1_full {d c : Int} {C : Nat} : ∀ E : Nat, (E : Int) ≤ d / c → (part1 d c C E).length = E * C
  | 0, _ => by simp [part1]
  | E + 1, h => by
    show (part1 d c C E ++ _).length = _
    rw [List.length_append, part1_full E (by omega), row1_full (by omega), Nat.succ_mul]
theorem ord_len {d c : Int} {C K : Nat} (hC : c = (C : Int)) (c1 : 1 ≤ c) (c2 : c ≤ d) (d2 : d ≤ 1500) : ((ordL d c C K).length : Int) = d + c * (K : Int) := by
  unfold ordL
  rw [List.length_append, part2_len, ← part1_spec hC c1 c2 d2]
  obtain ⟨q, hq⟩ : ∃ q : Nat, d / c = (q : Int) := ⟨(d / c).toNat, by have := Int.ediv_nonneg (show 0 ≤ d by omega) (show 0 ≤ c by omega); omega⟩
  have m0 : 0 ≤ d % c := Int.emod_nonneg _ (by omega)
  have m1 : d % c < c := Int.emod_lt_of_pos _ (by omega)
  have hd := Int.mul_ediv_add_emod d c
  rw [hq] at hd
  rw [show (d / c).toNat = q by omega, show part1 d c C (q + 1) = part1 d c C q ++ row1 d c q C from rfl, List.length_append, part1_full q (by omega), row1_top (by omega) m0]
  have e1 : C - (c - d % c).toNat = (d % c).toNat := by omega
  rw [e1]
  have e2 : ((q * C + (d % c).toNat + K * C : Nat) : Int) = (q : Int) * (C : Int) + d % c + (K : Int) * (C : Int) := by
    rw [Int.natCast_add, Int.natCast_add, Int.natCast_mul, Int.natCast_mul, Int.toNat_of_nonneg m0]
  rw [e2, ← hC, Int.mul_comm (K : Int) c, Int.mul_comm (q : Int) c]
  omega
theorem iTotalN (p pw po d chk c : Int) (C K n : Nat) (w : World) (h : layB p pw po d chk c = true) (hC : c = (C : Int)) (hK : chk = (K : Int)) (hn : (ordL d c C K).length = n) : Calls Try.prog 60 #[.agg #[.int .i64 p, .int .i64 pw, .int .i64 po, .int .i64 d, .int .i64 chk, .int .i64 c]] w fun e w' => e = .returned (.int .i64 (n : Int)) ∧ Below w.heap.size w w' := by
  obtain ⟨c1, c16, c2, d2, k1, k2, -⟩ := layB_true h
  have := ord_len (K := K) hC c1 c2 d2
  rw [hn, ← hK] at this
  rw [this]
  exact iTotal p pw po d chk c w c1 c16 (by omega) d2 k1 k2
end Go.Proofs.Ytdpifddmhbeklaa
