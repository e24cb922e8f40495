/-
  DERIVED. RunsOf.
-/
import Derived.Test.YtbcbdphnbfjhoaaRunsS
import Derived.Test.YtbcbdphnbfjhoaaRunsI
import Derived.Test.YtbcbdphnbfjhoaaRunS
import Derived.Test.YtbcbdphnbfjhoaaMark
import Derived.Test.YtbcbdphnbfjhoaaResI
namespace Go.Proofs.Ytbcbdphnbfjhoaa
open Go.RowKit
set_option linter.unusedVariables false
/-- A slice of the call's own, and a code. -/
def ResRun (w : World) (L : List R3) (code : Int) (e : Ending) (w' : World) : Prop :=
  ∃ a cp, e = .returned (.tuple #[.slice a L.length cp, .int .i64 code]) ∧ w'.ownsRow w.heap.size 77 3 (.slice a L.length cp) L.length (runV L) ∧ Below w.heap.size w w' ∧ L.length ≤ 1048576
set_option maxHeartbeats 2000000 in
theorem sRunsOf_no (a : Option Addr) (n cp : Nat) (zs : List Int) (w : World) (h : Rd w a n zs) (hn : n ≤ 1048576) (hl : lineB n zs = false) :
    Calls Try.prog 20 #[.slice a n cp] w (ResRun w [] 1) := by
  have HH := Lib.hid h
  clear h
  go_enter Try.func20, Try.ntmps20
  go_wp2_with fail
  refine (sLine _ n _ zs _ HH.out hn).mono ?_
  rintro e w1 ⟨rfl, hb1⟩
  rw [hl]
  go_wp2
  go_returns
  exact ⟨none, 0, rfl, World.ownsRow_nil _ _ _ _, by repeat' (first | (with_reducible exact Below.refl _ _) | (with_reducible assumption) | (with_reducible refine Below.alloc ?_ ?_ _) | (with_reducible refine Below.setCell ?_ ?_ _) | (with_reducible refine Below.drew ?_) | (with_reducible refine below_drewN ?_ _) | (with_reducible refine below_via (by with_reducible assumption) ?_ ?_) | go_size), by simp⟩
set_option maxHeartbeats 2000000 in
theorem iRunsOf_no (a : Option Addr) (n cp : Nat) (zs : List Int) (w : World) (h : Rd w a n zs) (hn : n ≤ 1048576) (hl : lineB n zs = false) :
    Calls Try.prog 22 #[.slice a n cp] w (ResRun w [] 1) := by
  have HH := Lib.hid h
  clear h
  go_enter Try.func22, Try.ntmps22
  go_wp2_with fail
  refine (iLine _ n _ zs _ HH.out hn).mono ?_
  rintro e w1 ⟨rfl, hb1⟩
  rw [hl]
  go_wp2
  go_returns
  exact ⟨none, 0, rfl, World.ownsRow_nil _ _ _ _, by repeat' (first | (with_reducible exact Below.refl _ _) | (with_reducible assumption) | (with_reducible refine Below.alloc ?_ ?_ _) | (with_reducible refine Below.setCell ?_ ?_ _) | (with_reducible refine Below.drew ?_) | (with_reducible refine below_drewN ?_ _) | (with_reducible refine below_via (by with_reducible assumption) ?_ ?_) | go_size), by simp⟩
set_option maxHeartbeats 2000000 in
theorem sRunsOf_ok (a : Option Addr) (n cp : Nat) (zs : List Int) (w : World) (h : Rd w a n zs) (hn : n ≤ 1048576) (hl : lineB n zs = true) :
    Calls Try.prog 20 #[.slice a n cp] w (ResRun w (runF zs n) 0) := by
  have HH := Lib.hid h
  have h4 := (lineB_iff hl).1
  clear h
  go_enter Try.func20, Try.ntmps20
  go_wp2_with fail
  refine (sLine _ n _ zs _ HH.out hn).mono ?_
  rintro e w1 ⟨rfl, hb1⟩
  have hz1 := hb1.size
  rw [hl]
  go_wp2_with fail
  refine (sRunsL _ n _ zs _ (HH.out.below hb1) h4).mono ?_
  rintro e w2 ⟨av, cv, rfl, ho, hb2, hL⟩
  have hz2 := hb2.size
  go_wp2
  go_returns
  exact ⟨av, cv, rfl, ownN_mono ho hz1, by repeat' (first | (with_reducible exact Below.refl _ _) | (with_reducible assumption) | (with_reducible refine Below.alloc ?_ ?_ _) | (with_reducible refine Below.setCell ?_ ?_ _) | (with_reducible refine Below.drew ?_) | (with_reducible refine below_drewN ?_ _) | (with_reducible refine below_via (by with_reducible assumption) ?_ ?_) | go_size), hL⟩
set_option maxHeartbeats 2000000 in
theorem iRunsOf_ok (a : Option Addr) (n cp : Nat) (zs : List Int) (w : World) (h : Rd w a n zs) (hn : n ≤ 1048576) (hl : lineB n zs = true) :
    Calls Try.prog 22 #[.slice a n cp] w (ResRun w (runF zs n) 0) := by
  have HH := Lib.hid h
  have h4 := (lineB_iff hl).1
  clear h
  go_enter Try.func22, Try.ntmps22
  go_wp2_with fail
  refine (iLine _ n _ zs _ HH.out hn).mono ?_
  rintro e w1 ⟨rfl, hb1⟩
  have hz1 := hb1.size
  rw [hl]
  go_wp2_with fail
  refine (iRunsL _ n _ zs _ (HH.out.below hb1) h4).mono ?_
  rintro e w2 ⟨av, cv, rfl, ho, hb2, hL⟩
  have hz2 := hb2.size
  go_wp2
  go_returns
  exact ⟨av, cv, rfl, ownN_mono ho hz1, by repeat' (first | (with_reducible exact Below.refl _ _) | (with_reducible assumption) | (with_reducible refine Below.alloc ?_ ?_ _) | (with_reducible refine Below.setCell ?_ ?_ _) | (with_reducible refine Below.drew ?_) | (with_reducible refine below_drewN ?_ _) | (with_reducible refine below_via (by with_reducible assumption) ?_ ?_) | go_size), hL⟩
end Go.Proofs.Ytbcbdphnbfjhoaa
