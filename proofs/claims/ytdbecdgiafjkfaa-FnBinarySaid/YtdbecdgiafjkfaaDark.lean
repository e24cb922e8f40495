/-
  DERIVED. DarkCount: contracts.
-/
import Derived.Test.YtdbecdgiafjkfaaGridB
import Derived.Test.YtdbecdgiafjkfaaBin2
import Derived.Test.YtdbecdgiafjkfaaGrid
import Derived.Conc.MuLone
namespace Go.Proofs.Ytdbecdgiafjkfaa
open Go.RowKit
set_option linter.unusedVariables false
def dcO (r c : Int) (n : Nat) (zs : List Int) : Int := selI (gridB r c n zs) (cntV (fun x => x == 1) zs n) 0
def dcE (r c : Int) (n : Nat) (zs : List Int) : Int := selI (gridB r c n zs) 0 1
set_option maxHeartbeats 1000000 in
theorem iDarkCountG (r c : Int) (a : Option Addr) (n cp : Nat) (zs : List Int) (w : World) (h : Rd w a n zs) (hn : n ≤ 1048576) :
    Calls Try.prog 53 #[.agg #[.int .i64 r, .int .i64 c, .slice a n cp]] w fun e w' => e = .returned (.tuple #[.int .i64 (dcO r c n zs), .int .i64 (dcE r c n zs)]) ∧ Below w.heap.size w w' := by
  have HH := Lib.hid h
  clear h
  have hB3 := Lib.hid (Box3.new w 66 (.int .i64 r) (.int .i64 c) (.slice a n cp))
  cases hr : gridB r c n zs
  all_goals
    go_enter Try.func53, Try.ntmps53
    go_wp2_with fail
    refine (iIsGrid r c a n cp zs _ (HH.out.below (by repeat' (first | (with_reducible exact Below.refl _ _) | (with_reducible assumption) | (with_reducible refine Below.alloc ?_ ?_ _) | (with_reducible refine Below.setCell ?_ ?_ _) | (with_reducible refine Below.drew ?_) | (with_reducible refine below_drewN ?_ _) | (with_reducible refine below_via (by with_reducible assumption) ?_ ?_) | go_size))) hn).mono ?_
    rintro e w1 ⟨rfl, hb⟩
    have hz := hb.size; try simp at hz
    obtain ⟨_, _, _, _⟩ := (hB3.out.keep (by repeat' (first | (with_reducible exact Below.refl _ _) | (with_reducible assumption) | (with_reducible refine Below.alloc ?_ ?_ _) | (with_reducible refine Below.setCell ?_ ?_ _) | (with_reducible refine Below.drew ?_) | (with_reducible refine below_drewN ?_ _) | (with_reducible refine below_via (by with_reducible assumption) ?_ ?_) | go_size)) : Box3 w1 _ _ _ _)
    rw [hr]
  · go_wp2
    go_returns
    exact ⟨ret_ints2 (by simp [dcO, hr, selI]) (by simp [dcE, hr, selI]), by repeat' (first | (with_reducible exact Below.refl _ _) | (with_reducible assumption) | (with_reducible refine Below.alloc ?_ ?_ _) | (with_reducible refine Below.setCell ?_ ?_ _) | (with_reducible refine Below.drew ?_) | (with_reducible refine below_drewN ?_ _) | (with_reducible refine below_via (by with_reducible assumption) ?_ ?_) | go_size)⟩
  · go_wp2_with fail
    refine (iDarkCount r c a n cp zs _ (HH.out.below (by repeat' (first | (with_reducible exact Below.refl _ _) | (with_reducible assumption) | (with_reducible refine Below.alloc ?_ ?_ _) | (with_reducible refine Below.setCell ?_ ?_ _) | (with_reducible refine Below.drew ?_) | (with_reducible refine below_drewN ?_ _) | (with_reducible refine below_via (by with_reducible assumption) ?_ ?_) | go_size))) hn).mono ?_
    rintro e w2 ⟨rfl, hb2⟩
    have hz2 := hb2.size
    go_wp2
    go_returns
    exact ⟨ret_ints2 (by simp [dcO, hr, selI]) (by simp [dcE, hr, selI]), by repeat' (first | (with_reducible exact Below.refl _ _) | (with_reducible assumption) | (with_reducible refine Below.alloc ?_ ?_ _) | (with_reducible refine Below.setCell ?_ ?_ _) | (with_reducible refine Below.drew ?_) | (with_reducible refine below_drewN ?_ _) | (with_reducible refine below_via (by with_reducible assumption) ?_ ?_) | go_size)⟩
end Go.Proofs.Ytdbecdgiafjkfaa
