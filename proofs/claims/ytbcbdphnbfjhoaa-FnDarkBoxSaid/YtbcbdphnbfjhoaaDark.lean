/-
  DERIVED. DarkCount: contracts.
-/
import Derived.Test.YtbcbdphnbfjhoaaGridB
import Derived.Test.YtbcbdphnbfjhoaaBin2
import Derived.Test.YtbcbdphnbfjhoaaGrid
import Derived.Conc.MuLone
namespace Go.Proofs.Ytbcbdphnbfjhoaa
open Go.RowKit
set_option linter.unusedVariables false
def dcO (r c : Int) (n : Nat) (zs : List Int) : Int := selI (gridB r c n zs) (cntV (fun x => x == 1) zs n) 0
def dcE (r c : Int) (n : Nat) (zs : List Int) : Int := selI (gridB r c n zs) 0 1
set_option maxHeartbeats 1000000 in
theorem iDarkCountG (r c : Int) (a : Option Addr) (n cp : Nat) (zs : List Int) (w : World) (h : Rd w a n zs) (hn : n ≤ 1048576) :
    Calls Try.prog 18 #[.agg #[.int .i64 r, .int .i64 c, .slice a n cp]] w fun e w' => e = .returned (.tuple #[.int .i64 (dcO r c n zs), .int .i64 (dcE r c n zs)]) ∧ Below w.heap.size w w' := by
  have HH := Lib.hid h
  clear h
  have hB3 := Lib.hid (Box3.new w 28 (.int .i64 r) (.int .i64 c) (.slice a n cp))
  cases hr : gridB r c n zs
  all_goals
    go_enter Try.func18, Try.ntmps18
    go_wp2_with fail
    refine (iIsGrid r c a n cp zs _ (HH.out.below (by repeat' (first | (with_reducible exact Below.refl _ _) | (with_reducible assumption) | (with_reducible refine Below.alloc ?_ ?_ _) | (with_reducible refine Below.setCell ?_ ?_ _) | (with_reducible refine Below.drew ?_) | (with_reducible refine below_drewN ?_ _) | (with_reducible refine below_via (by with_reducible assumption) ?_ ?_) | go_size))) hn).mono ?_
    rintro e w1 ⟨rfl, hb⟩
    have hz := hb.size; try simp at hz
    obtain ⟨_, _, _, _⟩ := (hB3.out.keep (by repeat' (first | (with_reducible exact Below.refl _ _) | (with_reducible assumption) | (with_reducible refine Below.alloc ?_ ?_ _) | (with_reducible refine Below.setCell ?_ ?_ _) | (with_reducible refine Below.drew ?_) | (with_reducible refine below_drewN ?_ _) | (with_reducible refine below_via (by with_reducible assumption) ?_ ?_) | go_size)) : Box3 w1 _ _ _ _)
    rw [hr]
  · go_wp2
    go_returns
    exact ⟨ret_ints2 (by simp [dcO, hr, selI]) (by simp [dcE, hr, selI]), by repeat' (first | (with_reducible exact Below.refl _ _) | (with_reducible assumption) | (with_reducible refine Below.alloc ?_ ?_ _) | (with_reducible refine Below.setCell ?_ ?_ _) | (with_reducible refine Below.drew ?_) | (with_reducible refine below_drewN ?_ _) | (with_reducible refine below_via (by with_reducible assumption) ?_ ?_) | go_size)⟩
  · go_wp2_with fail
    refine (iDarkCount r c a n cp zs _ (HH.out.below (by repeat' (first | (with_reducible exact Below.refl _ _) | (with_reducible assumption) | (with_reducible refine Below.alloc ?_ ?_ _) | (with_reducible refine Below.setCell ?_ ?_ _) | (with_reducible refine Below.drew ?_) | (with_reducible refine below_drewN ?_ _) | (with_reducible refine below_via (by with_reducible assumption) ?_ ?_) | go_size))) hn).mono ?_
    rintro e w2 ⟨rfl, hb2⟩
    have hz2 := hb2.size
    go_wp2
    go_returns
    exact ⟨ret_ints2 (by simp [dcO, hr, selI]) (by simp [dcE, hr, selI]), by repeat' (first | (with_reducible exact Below.refl _ _) | (with_reducible assumption) | (with_reducible refine Below.alloc ?_ ?_ _) | (with_reducible refine Below.setCell ?_ ?_ _) | (with_reducible refine Below.drew ?_) | (with_reducible refine below_drewN ?_ _) | (with_reducible refine below_via (by with_reducible assumption) ?_ ?_) | go_size)⟩
set_option maxHeartbeats 1000000 in
theorem sDarkCountG (r c : Int) (a : Option Addr) (n cp : Nat) (zs : List Int) (w : World) (h : Rd w a n zs) (hn : n ≤ 1048576) :
    Calls Try.prog 16 #[.agg #[.int .i64 r, .int .i64 c, .slice a n cp]] w fun e w' => e = .returned (.tuple #[.int .i64 (dcO r c n zs), .int .i64 (dcE r c n zs)]) ∧ Below w.heap.size w w' := by
  have HH := Lib.hid h
  clear h
  have hB3 := Lib.hid (Box3.new w 28 (.int .i64 r) (.int .i64 c) (.slice a n cp))
  cases hr : gridB r c n zs
  · go_enter Try.func16, Try.ntmps16
    go_wp2_with fail
    refine (sIsGrid r c a n cp zs _ (HH.out.below (by repeat' (first | (with_reducible exact Below.refl _ _) | (with_reducible assumption) | (with_reducible refine Below.alloc ?_ ?_ _) | (with_reducible refine Below.setCell ?_ ?_ _) | (with_reducible refine Below.drew ?_) | (with_reducible refine below_drewN ?_ _) | (with_reducible refine below_via (by with_reducible assumption) ?_ ?_) | go_size))) hn).mono ?_
    rintro e w1 ⟨rfl, hb⟩
    have hz := hb.size; try simp at hz
    rw [hr]
    go_wp2
    go_returns
    exact ⟨ret_ints2 (by simp [dcO, hr, selI]) (by simp [dcE, hr, selI]), by repeat' (first | (with_reducible exact Below.refl _ _) | (with_reducible assumption) | (with_reducible refine Below.alloc ?_ ?_ _) | (with_reducible refine Below.setCell ?_ ?_ _) | (with_reducible refine Below.drew ?_) | (with_reducible refine below_drewN ?_ _) | (with_reducible refine below_via (by with_reducible assumption) ?_ ?_) | go_size)⟩
  · obtain ⟨_, _, _, _, h5, _, h7, _⟩ := gridB_yes hr
    have hp : 0 < n := by omega
    obtain ⟨b, off, rfl, hbb, hcell⟩ := HH.out.2 hp
    have HC := Lib.hid hcell
    have HV : Hid (dcO r c n zs = (cntV (fun x => x == 1) zs n : Nat)) := by unfold Hid; simp [dcO, hr, selI]
    have HE : Hid (dcE r c n zs = 0) := by unfold Hid; simp [dcE, hr, selI]
    have HK := Lib.hid hr
    clear h5 h7 hcell hr
    go_enter Try.func16, Try.ntmps16
    go_wp2_with fail
    refine (sIsGrid r c _ n cp zs _ (HH.out.below (by repeat' (first | (with_reducible exact Below.refl _ _) | (with_reducible assumption) | (with_reducible refine Below.alloc ?_ ?_ _) | (with_reducible refine Below.setCell ?_ ?_ _) | (with_reducible refine Below.drew ?_) | (with_reducible refine below_drewN ?_ _) | (with_reducible refine below_via (by with_reducible assumption) ?_ ?_) | go_size))) hn).mono ?_
    rintro e w1 ⟨rfl, hb1⟩
    have hz1 := hb1.size; try simp at hz1
    obtain ⟨_, _, _, _⟩ := (hB3.out.keep (by repeat' (first | (with_reducible exact Below.refl _ _) | (with_reducible assumption) | (with_reducible refine Below.alloc ?_ ?_ _) | (with_reducible refine Below.setCell ?_ ?_ _) | (with_reducible refine Below.drew ?_) | (with_reducible refine below_drewN ?_ _) | (with_reducible refine below_via (by with_reducible assumption) ?_ ?_) | go_size)) : Box3 w1 _ _ _ _)
    have hw1 : Below w.heap.size w w1 := by repeat' (first | (with_reducible exact Below.refl _ _) | (with_reducible assumption) | (with_reducible refine Below.alloc ?_ ?_ _) | (with_reducible refine Below.setCell ?_ ?_ _) | (with_reducible refine Below.drew ?_) | (with_reducible refine below_drewN ?_ _) | (with_reducible refine below_via (by with_reducible assumption) ?_ ?_) | go_size)
    have HW := Lib.hid hw1
    rw [HK.out]
    clear hw1
    go_wp2
    go_loop [4, 5] (fun q i => ∃ k : Nat, k ≤ n ∧ i = .int .i64 k ∧ q = .int .i64 (cntV (fun x => x == 1) zs k)) (fun _ i => n - (intOf i).toNat)
    case atStart => exact ⟨0, Nat.zero_le _, rfl, rfl⟩
    case round =>
      obtain ⟨k, hk, rfl, rfl⟩ := hrel
      have hle := cntV_le (fun x => x == 1) zs k
      by_cases hlt : k < n
      · have hx : w1.cell? ⟨b, off + k, none⟩ = some (.int .i64 (zs.getD k 0)) := (HW.out.cell (p := ⟨b, off + k, none⟩) hbb).trans (HC.out k hlt)
        generalize hxv : zs.getD k 0 = x at hx
        cases hone : (x == 1)
        · have HN := Lib.hid (cntV_no (p := fun x => x == 1) hxv hone)
          clear hxv
          generalize cntV (fun x => x == 1) zs k = q at hle HN
          go_wp2
          go_round
          case rel => exact ⟨k + 1, by omega, by go_num, by rw [HN.out]⟩
          case measure => simp [intOf]; omega
        · have HN := Lib.hid (cntV_yes (p := fun x => x == 1) hxv hone)
          clear hxv
          generalize cntV (fun x => x == 1) zs k = q at hle HN
          go_wp2
          go_round
          case rel => exact ⟨k + 1, by omega, by go_num, by rw [HN.out]; go_num⟩
          case measure => simp [intOf]; omega
      · have hke : k = n := by omega
        have HN := Lib.hid hke
        clear hke
        go_wp2
        go_returns
        exact ⟨ret_ints2 (by rw [HV.out, HN.out]) HE.out.symm, by repeat' (first | (with_reducible exact Below.refl _ _) | (with_reducible assumption) | (with_reducible refine Below.alloc ?_ ?_ _) | (with_reducible refine Below.setCell ?_ ?_ _) | (with_reducible refine Below.drew ?_) | (with_reducible refine below_drewN ?_ _) | (with_reducible refine below_via (by with_reducible assumption) ?_ ?_) | go_size)⟩
end Go.Proofs.Ytbcbdphnbfjhoaa
