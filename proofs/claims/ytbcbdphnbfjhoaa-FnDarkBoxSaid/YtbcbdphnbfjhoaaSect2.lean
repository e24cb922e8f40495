/-
  DERIVED. IsSection: the law.
-/
import Derived.Test.YtbcbdphnbfjhoaaSect
namespace Go.Proofs.Ytbcbdphnbfjhoaa
open Go.RowKit
set_option linter.unusedVariables false
set_option maxRecDepth 10000 in
set_option maxHeartbeats 4000000 in
theorem iSect (a b c d f : Int) (g off cap : Nat) (w : World) (hb : g < w.heap.size) (c0 : w.cell? ⟨g, off, none⟩ = some (.int .i64 a)) (c1 : w.cell? ⟨g, off + 1, none⟩ = some (.int .i64 b)) (c2 : w.cell? ⟨g, off + 2, none⟩ = some (.int .i64 c))
    (c3 : w.cell? ⟨g, off + 3, none⟩ = some (.int .i64 d)) (c4 : w.cell? ⟨g, off + 4, none⟩ = some (.int .i64 f)) :
    Calls Try.prog 48 #[.slice (some ⟨g, off, none⟩) 5 cap] w fun e w' => e = .returned (.bool (widthsB [a, b, c, d, f])) ∧ Below w.heap.size w w' := by
  rcases and5 (inB a 1 40000) (inB b 1 40000) (inB c 1 40000) (inB d 1 40000) (inB f 1 40000) with h1 | ⟨h1, h2⟩ | ⟨h1, h2, h3⟩ | ⟨h1, h2, h3, h4⟩ | ⟨h1, h2, h3, h4, h5⟩ | ⟨h1, h2, h3, h4, h5⟩
  rotate_right
  · obtain ⟨_, _⟩ := inB_iff.1 h1
    obtain ⟨_, _⟩ := inB_iff.1 h2
    obtain ⟨_, _⟩ := inB_iff.1 h3
    obtain ⟨_, _⟩ := inB_iff.1 h4
    obtain ⟨_, _⟩ := inB_iff.1 h5
    have hcv := fun W => run_arrayAt (P := Try.prog) (w := W) 104 2 5 (some ⟨g, off, none⟩) 5 cap Try.underlying104 (by omega)
    go_enter Try.func48, Try.ntmps48
    go_wp2_with (go_at_call 83; refine (iIn _ _ _ _).mono ?_; rintro e w' ⟨rfl, rfl⟩)
    refine wp_loop_rounds 6 ?_
    repeat any_goals (rw [rounds_succ]; go_wp2_with (go_at_call 83; refine (iIn _ _ _ _).mono ?_; rintro e w' ⟨rfl, rfl⟩))
    refine (iSectIn a b c d f _ (by omega) (by omega) (by omega) (by omega) (by omega) (by omega) (by omega) (by omega) (by omega) (by omega)).mono ?_
    rintro e w1 ⟨rfl, hb1⟩
    go_wp2
    go_returns
    exact ⟨ret_bool (by simp [widthsB, *]), by repeat' (first | (with_reducible exact Below.refl _ _) | (with_reducible assumption) | (with_reducible refine Below.alloc ?_ ?_ _) | (with_reducible refine Below.setCell ?_ ?_ _) | (with_reducible refine Below.drew ?_) | (with_reducible refine below_drewN ?_ _) | (with_reducible refine below_via (by with_reducible assumption) ?_ ?_) | go_size)⟩
  all_goals
    go_enter Try.func48, Try.ntmps48
    go_wp2_with (go_at_call 83; refine (iIn _ _ _ _).mono ?_; rintro e w' ⟨rfl, rfl⟩)
    refine wp_loop_rounds 6 ?_
    repeat any_goals (rw [rounds_succ]; go_wp2_with (go_at_call 83; refine (iIn _ _ _ _).mono ?_; rintro e w' ⟨rfl, rfl⟩))
    go_returns
    exact ⟨ret_bool (by simp [widthsB, *]), by repeat' (first | (with_reducible exact Below.refl _ _) | (with_reducible assumption) | (with_reducible refine Below.alloc ?_ ?_ _) | (with_reducible refine Below.setCell ?_ ?_ _) | (with_reducible refine Below.drew ?_) | (with_reducible refine below_drewN ?_ _) | (with_reducible refine below_via (by with_reducible assumption) ?_ ?_) | go_size)⟩
theorem list5 {zs : List Int} (h : zs.length = 5) : ∃ a b c d f, zs = [a, b, c, d, f] := by
  match zs, h with
  | [a, b, c, d, f], _ => exact ⟨a, b, c, d, f, rfl⟩
set_option maxHeartbeats 1000000 in
theorem sIsSection (a : Option Addr) (n cp : Nat) (zs : List Int) (w : World) (h : Rd w a n zs) (hn : n ≤ 1048576) :
    Calls Try.prog 49 #[.slice a n cp] w fun e w' => e = .returned (.bool (widthsB zs)) ∧ Below w.heap.size w w' := by
  by_cases h5 : n = 5
  · subst h5
    obtain ⟨x, y, z, u, v, rfl⟩ := list5 h.1
    obtain ⟨b, off, rfl, hb, hc⟩ := h.2 (by omega)
    exact sSect x y z u v b off cp w hb (hc 0 (by omega)) (hc 1 (by omega)) (hc 2 (by omega)) (hc 3 (by omega)) (hc 4 (by omega))
  · have H := Lib.hid (widthsB_len (l := zs) (by rw [h.1]; exact h5))
    have h6 : ((n : Int) != 5) = true := by simp; omega
    clear h h5
    go_enter Try.func49, Try.ntmps49
    go_wp2
    go_returns
    exact ⟨ret_bool H.out.symm, by repeat' (first | (with_reducible exact Below.refl _ _) | (with_reducible assumption) | (with_reducible refine Below.alloc ?_ ?_ _) | (with_reducible refine Below.setCell ?_ ?_ _) | (with_reducible refine Below.drew ?_) | (with_reducible refine below_drewN ?_ _) | (with_reducible refine below_via (by with_reducible assumption) ?_ ?_) | go_size)⟩
set_option maxHeartbeats 1000000 in
theorem iIsSection (a : Option Addr) (n cp : Nat) (zs : List Int) (w : World) (h : Rd w a n zs) (hn : n ≤ 1048576) :
    Calls Try.prog 48 #[.slice a n cp] w fun e w' => e = .returned (.bool (widthsB zs)) ∧ Below w.heap.size w w' := by
  by_cases h5 : n = 5
  · subst h5
    obtain ⟨x, y, z, u, v, rfl⟩ := list5 h.1
    obtain ⟨b, off, rfl, hb, hc⟩ := h.2 (by omega)
    exact iSect x y z u v b off cp w hb (hc 0 (by omega)) (hc 1 (by omega)) (hc 2 (by omega)) (hc 3 (by omega)) (hc 4 (by omega))
  · have H := Lib.hid (widthsB_len (l := zs) (by rw [h.1]; exact h5))
    have h6 : ((n : Int) != 5) = true := by simp; omega
    clear h h5
    go_enter Try.func48, Try.ntmps48
    go_wp2
    go_returns
    exact ⟨ret_bool H.out.symm, by repeat' (first | (with_reducible exact Below.refl _ _) | (with_reducible assumption) | (with_reducible refine Below.alloc ?_ ?_ _) | (with_reducible refine Below.setCell ?_ ?_ _) | (with_reducible refine Below.drew ?_) | (with_reducible refine below_drewN ?_ _) | (with_reducible refine below_via (by with_reducible assumption) ?_ ?_) | go_size)⟩
theorem eqIntsS (a a' : Option Addr) (n n' c c' : Nat) (xs : List Int) (w : World) (h : Rd w a n xs) (h' : Rd w a' n' xs) (hn : n ≤ 1048576) (hn' : n' ≤ 1048576) :
    Calls Try.prog 24 #[.slice a n c, .slice a' n' c'] w fun e w' => e = .returned (.bool true) ∧ Below w.heap.size w w' :=
  (eqInts a a' n n' c c' xs xs w h h' hn hn').mono fun _ _ ⟨h1, h2⟩ => ⟨by rw [h1]; simp [eqL], h2⟩
end Go.Proofs.Ytbcbdphnbfjhoaa
