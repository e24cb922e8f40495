/-
  DERIVED. Families: levels.
-/
import Derived.Test.YtdpifddmhbeklaaStkC
namespace Go.Proofs.Ytdpifddmhbeklaa
open Go.RowKit
set_option linter.unusedVariables false
set_option maxRecDepth 20000 in
theorem iHasLevel (nm : ByteArray) (kd p pw po : Int) (sa : Option Addr) (sn sc : Nat) (col : Int) (la : Option Addr) (ln lc : Nat) (v : Int) (w : World) (hl : ln ≤ 1048576) : Calls Try.prog 89 #[.agg #[.string nm, .int .i64 kd, .int .i64 p, .int .i64 pw, .int .i64 po, .slice sa sn sc, .int .i64 col, .slice la ln lc], .int .i64 v] w fun e w' => e = .returned (.bool (inB v 0 ((ln : Int) - 1))) ∧ Below w.heap.size w w' := by
  go_enter Try.func89, Try.ntmps89
  go_wp2_with (go_at_call 59; refine (iIn _ _ _ _).mono ?_; rintro e w' ⟨rfl, rfl⟩)
  go_returns
  exact ⟨rfl, by repeat' (first | (with_reducible exact Below.refl _ _) | (with_reducible assumption) | (with_reducible refine Below.alloc ?_ ?_ _) | (with_reducible refine Below.setCell ?_ ?_ _) | (with_reducible refine Below.drew ?_) | (with_reducible refine below_drewN ?_ _) | (with_reducible refine below_via (by with_reducible assumption) ?_ ?_) | go_size)⟩
theorem stk_lv {nm : ByteArray} {kd p pw po : Int} {sn : Nat} {zs : List Int} {col : Int} {ln : Nat} {ls : List Int} (h : stkB nm kd p pw po sn zs col ln ls = true) : 1 ≤ ln ∧ ln ≤ 4 := by
  have h2 := stk_fam h
  unfold famB at h2
  simp only [Bool.and_eq_true] at h2
  have := inB_iff.1 h2.1.2.1
  omega
end Go.Proofs.Ytdpifddmhbeklaa
