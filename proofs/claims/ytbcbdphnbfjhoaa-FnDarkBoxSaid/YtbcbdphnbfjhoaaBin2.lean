/-
  DERIVED. DarkPixels, BinaryOf: contracts.
-/
import Derived.Test.YtbcbdphnbfjhoaaBin
namespace Go.Proofs.Ytbcbdphnbfjhoaa
open Go.RowKit
set_option linter.unusedVariables false
def codeV (r c limit : Int) (n : Nat) (zs : List Int) : Int := selI (rasterB r c n zs) (selI (inB limit 0 256) 0 2) 1
set_option maxHeartbeats 1000000 in
theorem iDarkCount (r c : Int) (a : Option Addr) (n cp : Nat) (zs : List Int) (w : World) (h : Rd w a n zs) (hn : n ≤ 1048576) :
    Calls Try.prog 61 #[.agg #[.int .i64 r, .int .i64 c, .slice a n cp]] w fun e w' => e = .returned (.int .i64 (cntV (fun x => x == 1) zs n)) ∧ Below w.heap.size w w' := by
  rcases Nat.eq_zero_or_pos n with h0 | h0
  · have h1 : n ≤ 0 := by omega
    have H : Hid (n = 0) := h0
    clear h h0
    go_enter Try.func61, Try.ntmps61
    go_wp2
    refine wp_loop_rounds 1 ?_; rw [rounds_succ]
    go_wp2
    go_returns
    exact ⟨ret_int (by rw [H.out]; rfl), by repeat' (first | (with_reducible exact Below.refl _ _) | (with_reducible assumption) | (with_reducible refine Below.alloc ?_ ?_ _) | (with_reducible refine Below.setCell ?_ ?_ _) | (with_reducible refine Below.drew ?_) | (with_reducible refine below_drewN ?_ _) | (with_reducible refine below_via (by with_reducible assumption) ?_ ?_) | go_size)⟩
  · obtain ⟨b, off, rfl, hb, hcell⟩ := h.2 h0
    have HC := Lib.hid hcell
    have hb1 : b < w.heap.size + 1 := by omega
    clear h hcell
    go_enter Try.func61, Try.ntmps61
    go_wp2
    go_loop [3, 9] (fun q i => ∃ k : Nat, k ≤ n ∧ i = .int .i64 k ∧ q = .int .i64 (cntV (fun x => x == 1) zs k)) (fun _ i => n - (intOf i).toNat)
    case atStart => exact ⟨0, Nat.zero_le _, rfl, rfl⟩
    case round =>
      obtain ⟨k, hk, rfl, rfl⟩ := hrel
      have hle := cntV_le (fun x => x == 1) zs k
      by_cases hlt : k < n
      · have hx : w.cell? ⟨b, off + k, none⟩ = some (.int .i64 (zs.getD k 0)) := HC.out k hlt
        generalize hxv : zs.getD k 0 = x at hx
        cases hone : (x == 1)
        · have HN := Lib.hid (cntV_no (p := fun x => x == 1) hxv hone)
          clear hxv
          generalize cntV (fun x => x == 1) zs k = q at hle HN
          go_wp2
          go_round
          case rel => exact ⟨k + 1, by omega, by go_num, by rw [HN.out]⟩
          case measure => simp [intOf]; omega
        · have HN := Lib.hid (cntV_yes (p := fun x => x == 1) hxv hone)
          clear hxv
          generalize cntV (fun x => x == 1) zs k = q at hle HN
          go_wp2
          go_round
          case rel => exact ⟨k + 1, by omega, by go_num, by rw [HN.out]; go_num⟩
          case measure => simp [intOf]; omega
      · have hke : k = n := by omega
        have HK := Lib.hid hke
        clear hke
        go_wp2
        go_returns
        exact ⟨ret_int (by rw [HK.out]), by repeat' (first | (with_reducible exact Below.refl _ _) | (with_reducible assumption) | (with_reducible refine Below.alloc ?_ ?_ _) | (with_reducible refine Below.setCell ?_ ?_ _) | (with_reducible refine Below.drew ?_) | (with_reducible refine below_drewN ?_ _) | (with_reducible refine below_via (by with_reducible assumption) ?_ ?_) | go_size)⟩
def dpO (r c limit : Int) (n : Nat) (zs : List Int) : Int := selI (rasterB r c n zs && inB limit 0 256) (cntV (fun x => decide (x < limit)) zs n) 0
end Go.Proofs.Ytbcbdphnbfjhoaa
