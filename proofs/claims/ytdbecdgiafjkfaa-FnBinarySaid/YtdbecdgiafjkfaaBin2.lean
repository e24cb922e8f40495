/-
  DERIVED. DarkPixels, BinaryOf: contracts.
-/
import Derived.Test.YtdbecdgiafjkfaaBin
namespace Go.Proofs.Ytdbecdgiafjkfaa
open Go.RowKit
set_option linter.unusedVariables false
def codeV (r c limit : Int) (n : Nat) (zs : List Int) : Int := selI (rasterB r c n zs) (selI (inB limit 0 256) 0 2) 1
set_option maxHeartbeats 1000000 in
theorem sCode (r c limit : Int) (a : Option Addr) (n cp : Nat) (zs : List Int) (w : World) (h : Rd w a n zs) (hn : n ≤ 1048576) :
    Calls Try.prog 96 #[.agg #[.int .i64 r, .int .i64 c, .slice a n cp], .int .i64 limit] w fun e w' => e = .returned (.int .i64 (codeV r c limit n zs)) ∧ Below w.heap.size w w' := by
  have HH := Lib.hid h
  clear h
  cases hr : rasterB r c n zs
  · go_enter Try.func96, Try.ntmps96
    go_wp2_with (go_at_call 40; refine (sIsRaster r c a n cp zs _ (HH.out.below (by repeat' (first | (with_reducible exact Below.refl _ _) | (with_reducible assumption) | (with_reducible refine Below.alloc ?_ ?_ _) | (with_reducible refine Below.setCell ?_ ?_ _) | (with_reducible refine Below.drew ?_) | (with_reducible refine below_drewN ?_ _) | (with_reducible refine below_via (by with_reducible assumption) ?_ ?_) | go_size))) hn).mono ?_; rintro e w1 ⟨rfl, hb⟩; have hz := hb.size; (try simp at hz))
    go_returns
    exact ⟨ret_int (by simp [codeV, hr, selI]), by repeat' (first | (with_reducible exact Below.refl _ _) | (with_reducible assumption) | (with_reducible refine Below.alloc ?_ ?_ _) | (with_reducible refine Below.setCell ?_ ?_ _) | (with_reducible refine Below.drew ?_) | (with_reducible refine below_drewN ?_ _) | (with_reducible refine below_via (by with_reducible assumption) ?_ ?_) | go_size)⟩
  · cases hi : inB limit 0 256
    all_goals
      go_enter Try.func96, Try.ntmps96
      go_wp2_with (first | (go_at_call 40; refine (sIsRaster r c a n cp zs _ (HH.out.below (by repeat' (first | (with_reducible exact Below.refl _ _) | (with_reducible assumption) | (with_reducible refine Below.alloc ?_ ?_ _) | (with_reducible refine Below.setCell ?_ ?_ _) | (with_reducible refine Below.drew ?_) | (with_reducible refine below_drewN ?_ _) | (with_reducible refine below_via (by with_reducible assumption) ?_ ?_) | go_size))) hn).mono ?_; rintro e w1 ⟨rfl, hb⟩; have hz := hb.size; (try simp at hz)) | (go_at_call 75; refine (sIn _ _ _ _).mono ?_; rintro e w' ⟨rfl, rfl⟩))
      go_returns
      exact ⟨ret_int (by simp [codeV, hr, hi, selI]), by repeat' (first | (with_reducible exact Below.refl _ _) | (with_reducible assumption) | (with_reducible refine Below.alloc ?_ ?_ _) | (with_reducible refine Below.setCell ?_ ?_ _) | (with_reducible refine Below.drew ?_) | (with_reducible refine below_drewN ?_ _) | (with_reducible refine below_via (by with_reducible assumption) ?_ ?_) | go_size)⟩
set_option maxHeartbeats 1000000 in
theorem iDarkCount (r c : Int) (a : Option Addr) (n cp : Nat) (zs : List Int) (w : World) (h : Rd w a n zs) (hn : n ≤ 1048576) :
    Calls Try.prog 98 #[.agg #[.int .i64 r, .int .i64 c, .slice a n cp]] w fun e w' => e = .returned (.int .i64 (cntV (fun x => x == 1) zs n)) ∧ Below w.heap.size w w' := by
  rcases Nat.eq_zero_or_pos n with h0 | h0
  · have h1 : n ≤ 0 := by omega
    have H : Hid (n = 0) := h0
    clear h h0
    go_enter Try.func98, Try.ntmps98
    go_wp2
    refine wp_loop_rounds 1 ?_; rw [rounds_succ]
    go_wp2
    go_returns
    exact ⟨ret_int (by rw [H.out]; rfl), by repeat' (first | (with_reducible exact Below.refl _ _) | (with_reducible assumption) | (with_reducible refine Below.alloc ?_ ?_ _) | (with_reducible refine Below.setCell ?_ ?_ _) | (with_reducible refine Below.drew ?_) | (with_reducible refine below_drewN ?_ _) | (with_reducible refine below_via (by with_reducible assumption) ?_ ?_) | go_size)⟩
  · obtain ⟨b, off, rfl, hb, hcell⟩ := h.2 h0
    have HC := Lib.hid hcell
    have hb1 : b < w.heap.size + 1 := by omega
    clear h hcell
    go_enter Try.func98, Try.ntmps98
    go_wp2
    go_loop [3, 9] (fun q i => ∃ k : Nat, k ≤ n ∧ i = .int .i64 k ∧ q = .int .i64 (cntV (fun x => x == 1) zs k)) (fun _ i => n - (intOf i).toNat)
    case atStart => exact ⟨0, Nat.zero_le _, rfl, rfl⟩
    case round =>
      obtain ⟨k, hk, rfl, rfl⟩ := hrel
      have hle := cntV_le (fun x => x == 1) zs k
      by_cases hlt : k < n
      · have hx : w.cell? ⟨b, off + k, none⟩ = some (.int .i64 (zs.getD k 0)) := HC.out k hlt
        generalize hxv : zs.getD k 0 = x at hx
        cases hone : (x == 1)
        · have HN := Lib.hid (cntV_no (p := fun x => x == 1) hxv hone)
          clear hxv
          generalize cntV (fun x => x == 1) zs k = q at hle HN
          go_wp2
          go_round
          case rel => exact ⟨k + 1, by omega, by go_num, by rw [HN.out]⟩
          case measure => simp [intOf]; omega
        · have HN := Lib.hid (cntV_yes (p := fun x => x == 1) hxv hone)
          clear hxv
          generalize cntV (fun x => x == 1) zs k = q at hle HN
          go_wp2
          go_round
          case rel => exact ⟨k + 1, by omega, by go_num, by rw [HN.out]; go_num⟩
          case measure => simp [intOf]; omega
      · have hke : k = n := by omega
        have HK := Lib.hid hke
        clear hke
        go_wp2
        go_returns
        exact ⟨ret_int (by rw [HK.out]), by repeat' (first | (with_reducible exact Below.refl _ _) | (with_reducible assumption) | (with_reducible refine Below.alloc ?_ ?_ _) | (with_reducible refine Below.setCell ?_ ?_ _) | (with_reducible refine Below.drew ?_) | (with_reducible refine below_drewN ?_ _) | (with_reducible refine below_via (by with_reducible assumption) ?_ ?_) | go_size)⟩
def dpO (r c limit : Int) (n : Nat) (zs : List Int) : Int := selI (rasterB r c n zs && inB limit 0 256) (cntV (fun x => decide (x < limit)) zs n) 0
set_option maxHeartbeats 2000000 in
theorem iDarkPixels (r c : Int) (a : Option Addr) (n cp : Nat) (zs : List Int) (limit : Int) (w : World) (h : Rd w a n zs) (hn : n ≤ 1048576) :
    Calls Try.prog 52 #[.agg #[.int .i64 r, .int .i64 c, .slice a n cp], .int .i64 limit] w fun e w' => e = .returned (.tuple #[.int .i64 (dpO r c limit n zs), .int .i64 (codeV r c limit n zs)]) ∧ Below w.heap.size w w' := by
  have HH := Lib.hid h
  have hl := Lib.hid h.1
  clear h
  cases hr : rasterB r c n zs
  · go_enter Try.func52, Try.ntmps52
    go_wp2_with (go_at_call 39; refine (iIsRaster r c a n cp zs _ (HH.out.below (by repeat' (first | (with_reducible exact Below.refl _ _) | (with_reducible assumption) | (with_reducible refine Below.alloc ?_ ?_ _) | (with_reducible refine Below.setCell ?_ ?_ _) | (with_reducible refine Below.drew ?_) | (with_reducible refine below_drewN ?_ _) | (with_reducible refine below_via (by with_reducible assumption) ?_ ?_) | go_size))) hn).mono ?_; rintro e w1 ⟨rfl, hb⟩; have hz := hb.size; (try simp at hz))
    go_returns
    exact ⟨ret_ints2 (by simp [dpO, hr, selI]) (by simp [codeV, hr, selI]), by repeat' (first | (with_reducible exact Below.refl _ _) | (with_reducible assumption) | (with_reducible refine Below.alloc ?_ ?_ _) | (with_reducible refine Below.setCell ?_ ?_ _) | (with_reducible refine Below.drew ?_) | (with_reducible refine below_drewN ?_ _) | (with_reducible refine below_via (by with_reducible assumption) ?_ ?_) | go_size)⟩
  · obtain ⟨_, _, _, _, h5, _, h7, _⟩ := rasterB_yes hr
    have hp : 0 < n := by omega
    have H7 := Lib.hid h7
    clear h5 h7
    cases hi : inB limit 0 256
    · go_enter Try.func52, Try.ntmps52
      go_wp2_with (first | (go_at_call 39; refine (iIsRaster r c a n cp zs _ (HH.out.below (by repeat' (first | (with_reducible exact Below.refl _ _) | (with_reducible assumption) | (with_reducible refine Below.alloc ?_ ?_ _) | (with_reducible refine Below.setCell ?_ ?_ _) | (with_reducible refine Below.drew ?_) | (with_reducible refine below_drewN ?_ _) | (with_reducible refine below_via (by with_reducible assumption) ?_ ?_) | go_size))) hn).mono ?_; rintro e w1 ⟨rfl, hb⟩; have hz := hb.size; (try simp at hz)) | (go_at_call 77; refine (iIn _ _ _ _).mono ?_; rintro e w' ⟨rfl, rfl⟩))
      go_returns
      exact ⟨ret_ints2 (by simp [dpO, hr, hi, selI]) (by simp [codeV, hr, hi, selI]), by repeat' (first | (with_reducible exact Below.refl _ _) | (with_reducible assumption) | (with_reducible refine Below.alloc ?_ ?_ _) | (with_reducible refine Below.setCell ?_ ?_ _) | (with_reducible refine Below.drew ?_) | (with_reducible refine below_drewN ?_ _) | (with_reducible refine below_via (by with_reducible assumption) ?_ ?_) | go_size)⟩
    · have HV : Hid (dpO r c limit n zs = (cntV (fun x => x == 1) (binL limit zs) n : Nat)) := by
        have e := cntV_bin limit zs n (by rw [hl.out]; exact Nat.le_refl _)
        unfold Hid
        simp [dpO, hr, hi, selI, e]
      go_enter Try.func52, Try.ntmps52
      go_wp2_with fail
      refine (iIsRaster r c a n cp zs _ (HH.out.below (by repeat' (first | (with_reducible exact Below.refl _ _) | (with_reducible assumption) | (with_reducible refine Below.alloc ?_ ?_ _) | (with_reducible refine Below.setCell ?_ ?_ _) | (with_reducible refine Below.drew ?_) | (with_reducible refine below_drewN ?_ _) | (with_reducible refine below_via (by with_reducible assumption) ?_ ?_) | go_size))) hn).mono ?_
      rintro e w1 ⟨rfl, hb1⟩
      obtain ⟨hc, hf⟩ := bcell hb1
      have hz1 := hb1.size; try simp at hz1
      have hz0 : w.heap.size < w1.heap.size := by omega
      rw [hr]
      go_wp2_with (go_at_call 77; refine (iIn _ _ _ _).mono ?_; rintro e w' ⟨rfl, rfl⟩)
      refine (iBinary r c limit a n cp zs _ (HH.out.below (by repeat' (first | (with_reducible exact Below.refl _ _) | (with_reducible assumption) | (with_reducible refine Below.alloc ?_ ?_ _) | (with_reducible refine Below.setCell ?_ ?_ _) | (with_reducible refine Below.drew ?_) | (with_reducible refine below_drewN ?_ _) | (with_reducible refine below_via (by with_reducible assumption) ?_ ?_) | go_size))) hn hp H7.out).mono ?_
      rintro e w2 ⟨g, rfl, hg, hk, hb2⟩
      have hz2 := hb2.size
      clear hc hf
      go_wp2_with fail
      refine (iDarkCount r c _ n n (binL limit zs) _ (hk.rd (by simp [binL, hl.out])) hn).mono ?_
      rintro e w3 ⟨rfl, hb3⟩
      have hz3 := hb3.size
      go_wp2
      go_returns
      exact ⟨ret_ints2 (by rw [HV.out]) (by simp [codeV, hr, hi, selI]), by repeat' (first | (with_reducible exact Below.refl _ _) | (with_reducible assumption) | (with_reducible refine Below.alloc ?_ ?_ _) | (with_reducible refine Below.setCell ?_ ?_ _) | (with_reducible refine Below.drew ?_) | (with_reducible refine below_drewN ?_ _) | (with_reducible refine below_via (by with_reducible assumption) ?_ ?_) | go_size)⟩
end Go.Proofs.Ytdbecdgiafjkfaa
