/-
  DERIVED. Families: sizes.
-/
import Derived.Test.YtdpifddmhbeklaaFamQ
import Derived.Deep.Cut
namespace Go.Proofs.Ytdpifddmhbeklaa
open Go.RowKit
set_option linter.unusedVariables false
set_option maxRecDepth 20000 in
set_option maxHeartbeats 8000000 in
theorem szFam (nm : ByteArray) (kd p pw po : Int) (sa : Option Addr) (sn sc : Nat) (col : Int) (la : Option Addr) (ln lc : Nat) (w : World) (hnm : nm.size ≤ maxLen) (h1 : sn ≤ maxLen) (h2 : ln ≤ maxLen) :
    Calls Try.prog 34 #[.agg #[.string nm, .int .i64 kd, .int .i64 p, .int .i64 pw, .int .i64 po, .slice sa sn sc, .int .i64 col, .slice la ln lc], .int .i64 1048576] w fun e w' => ∃ z : Int, e = .returned (.int .i64 z) ∧ (z < 0 ∨ (0 ≤ z ∧ z ≤ 1048576 ∧ sn ≤ 1048576 ∧ ln ≤ 1048576)) ∧ Below w.heap.size w w' := by
  have hq : (nm.size : Int) ≤ 9223372036854775807 := by have h := hnm; unfold maxLen at h; omega
  by_cases hn : (nm.size : Int) ≤ 1048576
  rotate_left
  · go_enter Try.func34, Try.ntmps34
    go_wp2_with fail
    go_returns
    exact ⟨-1, rfl, .inl (by omega), by repeat' (first | (with_reducible exact Below.refl _ _) | (with_reducible assumption) | (with_reducible refine Below.alloc ?_ ?_ _) | (with_reducible refine Below.setCell ?_ ?_ _) | (with_reducible refine Below.drew ?_) | (with_reducible refine below_drewN ?_ _) | (with_reducible refine below_via (by with_reducible assumption) ?_ ?_) | go_size)⟩
  have hs0 : 0 ≤ 1048576 - (nm.size : Int) := by omega
  have hs1 : 1048576 - (nm.size : Int) ≤ 1048576 := by omega
  obtain ⟨y, hy⟩ : ∃ y, szV (1048576 - (nm.size : Int)) sn = y := ⟨_, rfl⟩
  have HY := Lib.hid hy
  by_cases h3 : (1048576 - (nm.size : Int)) < (sn : Int)
  · have hyn : y = -1 := by rw [← hy]; exact szV_no h3
    subst hyn
    clear hy
    go_enter Try.func34, Try.ntmps34
    go_wp2_with (go_at_call 77; refine (szInts _ _ _ _ _ hs0 hs1 h1).mono ?_; rintro e w' ⟨rfl, rfl⟩; rw [HY.out])
    go_returns
    exact ⟨-1, rfl, .inl (by omega), by repeat' (first | (with_reducible exact Below.refl _ _) | (with_reducible assumption) | (with_reducible refine Below.alloc ?_ ?_ _) | (with_reducible refine Below.setCell ?_ ?_ _) | (with_reducible refine Below.drew ?_) | (with_reducible refine below_drewN ?_ _) | (with_reducible refine below_via (by with_reducible assumption) ?_ ?_) | go_size)⟩
  have hyv : y = 1048576 - (nm.size : Int) - (sn : Int) := by rw [← hy]; exact szV_yes (by omega)
  have hy0 : 0 ≤ y := by omega
  have hy1 : y ≤ 1048576 := by omega
  have hsn : sn ≤ 1048576 := by omega
  have hyn : ¬ (y < 0) := by omega
  clear hy hyv
  obtain ⟨x, hx⟩ : ∃ x, szV y ln = x := ⟨_, rfl⟩
  have HX := Lib.hid hx
  by_cases h4 : y < (ln : Int)
  · have hxn : x = -1 := by rw [← hx]; exact szV_no h4
    subst hxn
    clear hx
    go_enter Try.func34, Try.ntmps34
    go_wp2_with (first | (go_at_call 77; with_reducible show Calls _ _ #[.slice sa sn sc, _] _ _; refine (szInts _ _ _ _ _ hs0 hs1 h1).mono ?_; rintro e w' ⟨rfl, rfl⟩; rw [HY.out]) | (go_at_call 77; with_reducible show Calls _ _ #[.slice la ln lc, _] _ _; refine (szInts _ _ _ _ _ hy0 hy1 h2).mono ?_; rintro e w' ⟨rfl, rfl⟩; rw [HX.out]))
    go_returns
    exact ⟨-1, rfl, .inl (by omega), by repeat' (first | (with_reducible exact Below.refl _ _) | (with_reducible assumption) | (with_reducible refine Below.alloc ?_ ?_ _) | (with_reducible refine Below.setCell ?_ ?_ _) | (with_reducible refine Below.drew ?_) | (with_reducible refine below_drewN ?_ _) | (with_reducible refine below_via (by with_reducible assumption) ?_ ?_) | go_size)⟩
  · have hxv : x = y - (ln : Int) := by rw [← hx]; exact szV_yes (by omega)
    have hx0 : 0 ≤ x := by omega
    have hx1 : x ≤ 1048576 := by omega
    have hln : ln ≤ 1048576 := by omega
    clear hx hxv
    go_enter Try.func34, Try.ntmps34
    go_wp2_with (first | (go_at_call 77; with_reducible show Calls _ _ #[.slice sa sn sc, _] _ _; refine (szInts _ _ _ _ _ hs0 hs1 h1).mono ?_; rintro e w' ⟨rfl, rfl⟩; rw [HY.out]) | (go_at_call 77; with_reducible show Calls _ _ #[.slice la ln lc, _] _ _; refine (szInts _ _ _ _ _ hy0 hy1 h2).mono ?_; rintro e w' ⟨rfl, rfl⟩; rw [HX.out]))
    go_returns
    exact ⟨x, rfl, .inr ⟨hx0, hx1, hsn, hln⟩, by repeat' (first | (with_reducible exact Below.refl _ _) | (with_reducible assumption) | (with_reducible refine Below.alloc ?_ ?_ _) | (with_reducible refine Below.setCell ?_ ?_ _) | (with_reducible refine Below.drew ?_) | (with_reducible refine below_drewN ?_ _) | (with_reducible refine below_via (by with_reducible assumption) ?_ ?_) | go_size)⟩
set_option maxRecDepth 20000 in
set_option maxHeartbeats 8000000 in
theorem szGrdL (r c : Int) (a : Option Addr) (n cp : Nat) (l : Int) (w : World) (h3 : n ≤ maxLen) (l0 : 0 ≤ l) (l1 : l ≤ 1048576) :
    Calls Try.prog 35 #[.agg #[.int .i64 r, .int .i64 c, .slice a n cp], .int .i64 l] w fun e w' => ∃ z : Int, e = .returned (.int .i64 z) ∧ (z < 0 ∨ (0 ≤ z ∧ n ≤ 1048576)) ∧ Below w.heap.size w w' := by
  rcases Int.lt_or_le l n with h | h
  · have H := szV_no h
    go_enter Try.func35, Try.ntmps35
    go_wp2_with (go_at_call 77; refine (szInts _ _ _ _ _ l0 l1 h3).mono ?_; rintro e w' ⟨rfl, rfl⟩; rw [H])
    go_returns
    exact ⟨-1, rfl, .inl (by omega), by repeat' (first | (with_reducible exact Below.refl _ _) | (with_reducible assumption) | (with_reducible refine Below.alloc ?_ ?_ _) | (with_reducible refine Below.setCell ?_ ?_ _) | (with_reducible refine Below.drew ?_) | (with_reducible refine below_drewN ?_ _) | (with_reducible refine below_via (by with_reducible assumption) ?_ ?_) | go_size)⟩
  · have H := szV_yes h
    have hx0 : 0 ≤ l - (n : Int) := by omega
    have hx1 : ¬ (l - (n : Int) < 0) := by omega
    have hu : n ≤ 1048576 := by omega
    go_enter Try.func35, Try.ntmps35
    go_wp2_with (go_at_call 77; refine (szInts _ _ _ _ _ l0 l1 h3).mono ?_; rintro e w' ⟨rfl, rfl⟩; rw [H])
    go_returns
    exact ⟨l - (n : Int), rfl, .inr ⟨hx0, hu⟩, by repeat' (first | (with_reducible exact Below.refl _ _) | (with_reducible assumption) | (with_reducible refine Below.alloc ?_ ?_ _) | (with_reducible refine Below.setCell ?_ ?_ _) | (with_reducible refine Below.drew ?_) | (with_reducible refine below_drewN ?_ _) | (with_reducible refine below_via (by with_reducible assumption) ?_ ?_) | go_size)⟩
end Go.Proofs.Ytdpifddmhbeklaa
