/-
  DERIVED. Grids: the laws' helpers.
-/
import Derived.Test.YtenelpollcabnaaRast
namespace Go.Proofs.Ytenelpollcabnaa
open Go.RowKit
set_option linter.unusedVariables false
set_option maxHeartbeats 1000000 in
theorem eqGrd (r c r' c' : Int) (a a' : Option Addr) (n n' cp cp' : Nat) (xs ys : List Int) (w : World) (h : Rd w a n xs) (h' : Rd w a' n' ys) (hn : n ≤ 1048576) (hn' : n' ≤ 1048576) :
    Calls Try.prog 11 #[.agg #[.int .i64 r, .int .i64 c, .slice a n cp], .agg #[.int .i64 r', .int .i64 c', .slice a' n' cp']] w fun e w' => e = .returned (.bool (eqR r c xs r' c' ys)) ∧ Below w.heap.size w w' := by
  have HH := Lib.hid h
  have HH' := Lib.hid h'
  clear h h'
  by_cases hr : r = r'
  · subst hr
    by_cases hc : c = c'
    · subst hc
      cases he : eqL xs ys
      all_goals
        go_enter Try.func11, Try.ntmps11
        go_wp2_with fail
        refine (eqInts a a' n n' cp cp' xs ys _ (HH.out.below (by repeat' (first | (with_reducible exact Below.refl _ _) | (with_reducible assumption) | (with_reducible refine Below.alloc ?_ ?_ _) | (with_reducible refine Below.setCell ?_ ?_ _) | (with_reducible refine Below.drew ?_) | (with_reducible refine below_drewN ?_ _) | (with_reducible refine below_via (by with_reducible assumption) ?_ ?_) | go_size))) (HH'.out.below (by repeat' (first | (with_reducible exact Below.refl _ _) | (with_reducible assumption) | (with_reducible refine Below.alloc ?_ ?_ _) | (with_reducible refine Below.setCell ?_ ?_ _) | (with_reducible refine Below.drew ?_) | (with_reducible refine below_drewN ?_ _) | (with_reducible refine below_via (by with_reducible assumption) ?_ ?_) | go_size))) hn hn').mono ?_
        rintro e w1 ⟨rfl, hb⟩
        have hz := hb.size
        simp at hz
        go_wp2
        go_returns
        exact ⟨ret_bool (by simp [eqR, he]), by repeat' (first | (with_reducible exact Below.refl _ _) | (with_reducible assumption) | (with_reducible refine Below.alloc ?_ ?_ _) | (with_reducible refine Below.setCell ?_ ?_ _) | (with_reducible refine Below.drew ?_) | (with_reducible refine below_drewN ?_ _) | (with_reducible refine below_via (by with_reducible assumption) ?_ ?_) | go_size)⟩
    · have h2 : (c != c') = true := by simpa using hc
      go_enter Try.func11, Try.ntmps11
      go_wp2
      go_returns
      exact ⟨ret_bool (by simp [eqR, hc]), by repeat' (first | (with_reducible exact Below.refl _ _) | (with_reducible assumption) | (with_reducible refine Below.alloc ?_ ?_ _) | (with_reducible refine Below.setCell ?_ ?_ _) | (with_reducible refine Below.drew ?_) | (with_reducible refine below_drewN ?_ _) | (with_reducible refine below_via (by with_reducible assumption) ?_ ?_) | go_size)⟩
  · have h2 : (r != r') = true := by simpa using hr
    go_enter Try.func11, Try.ntmps11
    go_wp2
    go_returns
    exact ⟨ret_bool (by simp [eqR, hr]), by repeat' (first | (with_reducible exact Below.refl _ _) | (with_reducible assumption) | (with_reducible refine Below.alloc ?_ ?_ _) | (with_reducible refine Below.setCell ?_ ?_ _) | (with_reducible refine Below.drew ?_) | (with_reducible refine below_drewN ?_ _) | (with_reducible refine below_via (by with_reducible assumption) ?_ ?_) | go_size)⟩
set_option maxHeartbeats 1000000 in
theorem markGrd (r c : Int) (a : Option Addr) (n cp base : Nat) (xs : List Int) (w : World) (h : w.ownsRow base 2 1 (.slice a n cp) n (xs.map (Value.int .i64))) (hn : n ≤ 1048576) :
    Calls Try.prog 16 #[.agg #[.int .i64 r, .int .i64 c, .slice a n cp], .int .i64 1] w fun e w' =>
      e = .returned (.int .i64 (1 + n)) ∧ w'.ownsRow base 2 1 (.slice a n cp) n ((markL 1 n).map (Value.int .i64)) ∧ w.grownBy w' (Value.slice a n cp).ownBlock := by
  have HH := Lib.hid h
  clear h
  go_enter Try.func16, Try.ntmps16
  go_wp2_with fail
  refine (markInts a n cp base xs 1 _ (HH.out.alloc _) hn (by omega) (by omega)).mono ?_
  rintro e w1 ⟨rfl, ho, hg⟩
  go_wp2
  go_returns
  exact ⟨rfl, ho, (only_of_below ((Below.refl _ _).alloc (Nat.le_refl _) _) _).trans hg⟩
set_option maxHeartbeats 1000000 in
theorem heldGrd (r c : Int) (a : Option Addr) (n cp : Nat) (w : World) (h : Rd w a n (markL 1 n)) (hn : n ≤ 1048576) :
    Calls Try.prog 17 #[.agg #[.int .i64 r, .int .i64 c, .slice a n cp], .int .i64 1] w fun e w' => e = .returned (.int .i64 (1 + n)) ∧ Below w.heap.size w w' := by
  have HH := Lib.hid h
  clear h
  go_enter Try.func17, Try.ntmps17
  go_wp2_with fail
  refine (heldInts a n cp 1 _ (HH.out.below (by repeat' (first | (with_reducible exact Below.refl _ _) | (with_reducible assumption) | (with_reducible refine Below.alloc ?_ ?_ _) | (with_reducible refine Below.setCell ?_ ?_ _) | (with_reducible refine Below.drew ?_) | (with_reducible refine below_drewN ?_ _) | (with_reducible refine below_via (by with_reducible assumption) ?_ ?_) | go_size))) hn (by omega) (by omega)).mono ?_
  rintro e w1 ⟨rfl, hb⟩
  have hz := hb.size
  simp at hz
  go_wp2
  go_returns
  exact ⟨rfl, by repeat' (first | (with_reducible exact Below.refl _ _) | (with_reducible assumption) | (with_reducible refine Below.alloc ?_ ?_ _) | (with_reducible refine Below.setCell ?_ ?_ _) | (with_reducible refine Below.drew ?_) | (with_reducible refine below_drewN ?_ _) | (with_reducible refine below_via (by with_reducible assumption) ?_ ?_) | go_size)⟩
theorem eqGrdS (r c : Int) (a a' : Option Addr) (n n' cp cp' : Nat) (xs : List Int) (w : World) (h : Rd w a n xs) (h' : Rd w a' n' xs) (hn : n ≤ 1048576) (hn' : n' ≤ 1048576) :
    Calls Try.prog 11 #[.agg #[.int .i64 r, .int .i64 c, .slice a n cp], .agg #[.int .i64 r, .int .i64 c, .slice a' n' cp']] w fun e w' => e = .returned (.bool true) ∧ Below w.heap.size w w' :=
  (eqGrd r c r c a a' n n' cp cp' xs xs w h h' hn hn').mono fun _ _ ⟨h1, h2⟩ => ⟨by rw [h1, eqR_same], h2⟩
end Go.Proofs.Ytenelpollcabnaa
