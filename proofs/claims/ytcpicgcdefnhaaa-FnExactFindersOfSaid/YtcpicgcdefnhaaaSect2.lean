/-
  DERIVED. IsSection: the law.
-/
import Derived.Test.YtcpicgcdefnhaaaSect
namespace Go.Proofs.Ytcpicgcdefnhaaa
open Go.RowKit
set_option linter.unusedVariables false
theorem list5 {zs : List Int} (h : zs.length = 5) : ∃ a b c d f, zs = [a, b, c, d, f] := by
  match zs, h with
  | [a, b, c, d, f], _ => exact ⟨a, b, c, d, f, rfl⟩
set_option maxHeartbeats 1000000 in
theorem sIsSection (a : Option Addr) (n cp : Nat) (zs : List Int) (w : World) (h : Rd w a n zs) (hn : n ≤ 1048576) :
    Calls Try.prog 37 #[.slice a n cp] w fun e w' => e = .returned (.bool (widthsB zs)) ∧ Below w.heap.size w w' := by
  by_cases h5 : n = 5
  · subst h5
    obtain ⟨x, y, z, u, v, rfl⟩ := list5 h.1
    obtain ⟨b, off, rfl, hb, hc⟩ := h.2 (by omega)
    exact sSect x y z u v b off cp w hb (hc 0 (by omega)) (hc 1 (by omega)) (hc 2 (by omega)) (hc 3 (by omega)) (hc 4 (by omega))
  · have H := Lib.hid (widthsB_len (l := zs) (by rw [h.1]; exact h5))
    have h6 : ((n : Int) != 5) = true := by simp; omega
    clear h h5
    go_enter Try.func37, Try.ntmps37
    go_wp2
    go_returns
    exact ⟨ret_bool H.out.symm, by repeat' (first | (with_reducible exact Below.refl _ _) | (with_reducible assumption) | (with_reducible refine Below.alloc ?_ ?_ _) | (with_reducible refine Below.setCell ?_ ?_ _) | (with_reducible refine Below.drew ?_) | (with_reducible refine below_drewN ?_ _) | (with_reducible refine below_via (by with_reducible assumption) ?_ ?_) | go_size)⟩
theorem eqIntsS (a a' : Option Addr) (n n' c c' : Nat) (xs : List Int) (w : World) (h : Rd w a n xs) (h' : Rd w a' n' xs) (hn : n ≤ 1048576) (hn' : n' ≤ 1048576) :
    Calls Try.prog 23 #[.slice a n c, .slice a' n' c'] w fun e w' => e = .returned (.bool true) ∧ Below w.heap.size w w' :=
  (eqInts a a' n n' c c' xs xs w h h' hn hn').mono fun _ _ ⟨h1, h2⟩ => ⟨by rw [h1]; simp [eqL], h2⟩
end Go.Proofs.Ytcpicgcdefnhaaa
