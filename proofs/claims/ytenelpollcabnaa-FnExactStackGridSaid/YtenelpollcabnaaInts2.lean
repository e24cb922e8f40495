/-
  DERIVED. The laws' helpers on slices of int64: eqInt64S.
-/
import Derived.Test.YtenelpollcabnaaInts
namespace Go.Proofs.Ytenelpollcabnaa
open Go.RowKit
set_option linter.unusedVariables false

def eqL (xs ys : List Int) : Bool := decide (xs = ys)
theorem list_get_ne {xs ys : List Int} {k : Nat} (h : k < xs.length) (hl : xs.length = ys.length) (hn : xs.getD k 0 ≠ ys.getD k 0) : xs ≠ ys := fun e => hn (by rw [e])
theorem list_eq_of {xs ys : List Int} (hl : xs.length = ys.length) (h : ∀ i, i < xs.length → xs.getD i 0 = ys.getD i 0) : xs = ys := by
  apply List.ext_getElem hl
  intro i h1 h2
  have := h i h1
  simpa [List.getD_eq_getElem?_getD, List.getElem?_eq_getElem h1, List.getElem?_eq_getElem h2] using this
def BoolBelow (w : World) (b : Bool) (e : Ending) (w' : World) : Prop := e = .returned (.bool b) ∧ Below w.heap.size w w'
set_option maxHeartbeats 1000000 in
theorem eqInts (a a' : Option Addr) (n n' c c' : Nat) (xs ys : List Int) (w : World) (h : Rd w a n xs) (h' : Rd w a' n' ys) (hn : n ≤ 1048576) (hn' : n' ≤ 1048576) :
    Calls Try.prog 13 #[.slice a n c, .slice a' n' c'] w fun e w' => e = .returned (.bool (eqL xs ys)) ∧ Below w.heap.size w w' := by
  obtain ⟨hl, hr⟩ := h
  obtain ⟨hl', hr'⟩ := h'
  by_cases hnn : n = n'
  · subst hnn
    rcases Nat.eq_zero_or_pos n with h0 | h0
    · have h1 : n ≤ 0 := by omega
      have e : xs = ys := by
        subst h0
        rw [List.eq_nil_of_length_eq_zero hl, List.eq_nil_of_length_eq_zero hl']
      have HE := Lib.hid e
      clear e hl hl' hr hr' h0
      go_enter Try.func13, Try.ntmps13
      go_wp2
      refine wp_loop_rounds 1 ?_; rw [rounds_succ]
      go_wp2
      go_returns
      exact ⟨ret_bool (by rw [HE.out]; simp [eqL]), by repeat' (first | (with_reducible exact Below.refl _ _) | (with_reducible assumption) | (with_reducible refine Below.alloc ?_ ?_ _) | (with_reducible refine Below.setCell ?_ ?_ _) | (with_reducible refine Below.drew ?_) | (with_reducible refine below_drewN ?_ _) | (with_reducible refine below_via (by with_reducible assumption) ?_ ?_) | go_size)⟩
    · obtain ⟨b, off, rfl, hb, hc⟩ := hr h0
      obtain ⟨b', off', rfl, hb', hc'⟩ := hr' h0
      have HL := Lib.hid hl
      have HL' := Lib.hid hl'
      have HC := Lib.hid hc
      have HC' := Lib.hid hc'
      clear hr hr' hl hl' hc hc'
      go_enter Try.func13, Try.ntmps13
      go_wp2
      go_loopw [5] (fun i wr => ∃ k : Nat, k ≤ n ∧ i = .int .i64 k ∧ Hid (∀ j, j < k → xs.getD j 0 = ys.getD j 0) ∧ Below w.heap.size w wr) (fun i _ => n - (intOf i).toNat)
      case atStart => exact ⟨0, Nat.zero_le _, rfl, fun j hj => absurd hj (by omega), by repeat' (first | (with_reducible exact Below.refl _ _) | (with_reducible assumption) | (with_reducible refine Below.alloc ?_ ?_ _) | (with_reducible refine Below.setCell ?_ ?_ _) | (with_reducible refine Below.drew ?_) | (with_reducible refine below_drewN ?_ _) | (with_reducible refine below_via (by with_reducible assumption) ?_ ?_) | go_size)⟩
      case round =>
        obtain ⟨k, hk, rfl, hall, hbel⟩ := hrel
        by_cases hlt : k < n
        · have hx : wr.cell? ⟨b, off + k, none⟩ = some (.int .i64 (xs.getD k 0)) := (hbel.cell (p := ⟨b, off + k, none⟩) hb).trans (HC.out k hlt)
          have hy : wr.cell? ⟨b', off' + k, none⟩ = some (.int .i64 (ys.getD k 0)) := (hbel.cell (p := ⟨b', off' + k, none⟩) hb').trans (HC'.out k hlt)
          generalize hxv : xs.getD k 0 = x at hx
          generalize hyv : ys.getD k 0 = y at hy
          have HX := Lib.hid hxv
          have HY := Lib.hid hyv
          clear hxv hyv
          have k0 : (0 : Int) ≤ (k : Int) := Int.natCast_nonneg _
          have k1 : (k : Int) < (n : Int) := by omega
          by_cases hxy : x = y
          · subst hxy
            have HA : Hid (∀ j, j < k + 1 → xs.getD j 0 = ys.getD j 0) := fun j hj => by
              rcases Nat.lt_or_ge j k with h1 | h1
              · exact hall j h1
              · obtain rfl : j = k := by omega
                rw [HX.out, HY.out]
            go_wp2
            go_quiet (fail)
            go_wp2
            go_roundw
            case rel => exact ⟨k + 1, by omega, by go_num, HA, by repeat' (first | (with_reducible exact Below.refl _ _) | (with_reducible assumption) | (with_reducible refine Below.alloc ?_ ?_ _) | (with_reducible refine Below.setCell ?_ ?_ _) | (with_reducible refine Below.drew ?_) | (with_reducible refine below_drewN ?_ _) | (with_reducible refine below_via (by with_reducible assumption) ?_ ?_) | go_size)⟩
            case measure => simp [intOf]; omega
          · have hb1 : (x != y) = true := by simpa using hxy
            have HE : Hid (eqL xs ys = false) := by
              have := list_get_ne (xs := xs) (ys := ys) (k := k) (by rw [HL.out]; exact hlt) (HL.out.trans HL'.out.symm) (by rw [HX.out, HY.out]; exact hxy)
              exact (by simp [eqL, this] : eqL xs ys = false)
            go_wp2
            go_quiet (fail)
            go_wp2
            go_returns
            exact ⟨ret_bool HE.out.symm, by repeat' (first | (with_reducible exact Below.refl _ _) | (with_reducible assumption) | (with_reducible refine Below.alloc ?_ ?_ _) | (with_reducible refine Below.setCell ?_ ?_ _) | (with_reducible refine Below.drew ?_) | (with_reducible refine below_drewN ?_ _) | (with_reducible refine below_via (by with_reducible assumption) ?_ ?_) | go_size)⟩
        · have hke : k = n := by omega
          have HK := Lib.hid hke
          clear hke
          go_wp2
          go_returns
          refine ⟨ret_bool ?_, hbel⟩
          have e : xs = ys := list_eq_of (HL.out.trans HL'.out.symm) (fun i hi => hall i (by rw [HL.out] at hi; rw [HK.out]; exact hi))
          simp [eqL, e]
  · have hne : xs ≠ ys := fun e => hnn (by rw [← hl, ← hl', e])
    have HN := Lib.hid hne
    have ht : ((n : Int) == (n' : Int)) = false := by simp; omega
    have ht2 : ((n : Int) != (n' : Int)) = true := by simp; omega
    clear hne hl hl' hr hr' hnn
    go_enter Try.func13, Try.ntmps13
    go_wp2
    go_returns
    exact ⟨ret_bool (by simp [eqL, HN.out]), by repeat' (first | (with_reducible exact Below.refl _ _) | (with_reducible assumption) | (with_reducible refine Below.alloc ?_ ?_ _) | (with_reducible refine Below.setCell ?_ ?_ _) | (with_reducible refine Below.drew ?_) | (with_reducible refine below_drewN ?_ _) | (with_reducible refine below_via (by with_reducible assumption) ?_ ?_) | go_size)⟩
end Go.Proofs.Ytenelpollcabnaa
