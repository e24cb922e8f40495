/-
  DERIVED. PrintGrid: are all modules known? spec and impl.
-/
import Derived.Test.YtfiddbmjgncabaaGridB
import Derived.Test.YtfiddbmjgncabaaPrint6
import Derived.Conc.MuLone
namespace Go.Proofs.Ytfiddbmjgncabaa
open Go.RowKit
set_option linter.unusedVariables false
def hasB (zs : List Int) (v : Int) : Bool := zs.any fun x => x == v
def knB (zs : List Int) : Bool := zs.all fun x => decide (0 ≤ x)
theorem hasB_yes {zs : List Int} {v : Int} {k : Nat} (h : k < zs.length) (e : zs.getD k 0 = v) : hasB zs v = true := by
  unfold hasB
  rw [List.any_eq_true]
  exact ⟨v, by rw [← e]; exact getD_mem h, by simp⟩
theorem hasB_no {zs : List Int} {v : Int} (h : ∀ k, k < zs.length → zs.getD k 0 ≠ v) : hasB zs v = false := by
  unfold hasB
  rw [List.any_eq_false]
  intro x hx
  obtain ⟨k, hk, rfl⟩ := List.mem_iff_getElem.1 hx
  have := h k hk
  simpa [List.getD_eq_getElem?_getD, List.getElem?_eq_getElem hk] using this
theorem kn_has {zs : List Int} (h : ∀ x ∈ zs, -1 ≤ x ∧ x ≤ 1) : knB zs = !hasB zs (-1) := by
  cases hb : hasB zs (-1)
  · unfold hasB at hb
    rw [List.any_eq_false] at hb
    unfold knB
    simp only [Bool.not_false, List.all_eq_true, decide_eq_true_eq]
    intro x hx
    have h1 := h x hx
    have h2 : x ≠ -1 := by simpa using hb x hx
    omega
  · unfold hasB at hb
    rw [List.any_eq_true] at hb
    obtain ⟨x, hx, e⟩ := hb
    have e : x = -1 := by simpa using e
    unfold knB
    simp only [Bool.not_true, List.all_eq_false]
    exact ⟨x, hx, by simp; omega⟩
set_option maxHeartbeats 2000000 in
theorem sHasV (a : Option Addr) (n c : Nat) (xs : List Int) (v : Int) (w : World) (h : Rd w a n xs) (hn : n ≤ 1048576) :
    Calls Try.prog 108 #[.slice a n c, .int .i64 v] w fun e w' => e = .returned (.bool (hasB xs v)) ∧ Below w.heap.size w w' := by
  obtain ⟨hl, hr⟩ := h
  have HL := Lib.hid hl
  clear hl
  rcases Nat.eq_zero_or_pos n with h0 | h0
  · have h1 : n ≤ 0 := by omega
    have HE : Hid (hasB xs v = false) := hasB_no (fun k hk => by have := HL.out; omega)
    clear hr h0
    go_enter Try.func108, Try.ntmps108
    go_wp2
    refine wp_loop_rounds 1 ?_; rw [rounds_succ]
    go_wp2
    go_returns
    exact ⟨by rw [HE.out] <;> rfl, by repeat' (first | (with_reducible exact Below.refl _ _) | (with_reducible assumption) | (with_reducible refine Below.alloc ?_ ?_ _) | (with_reducible refine Below.setCell ?_ ?_ _) | (with_reducible refine Below.drew ?_) | (with_reducible refine below_drewN ?_ _) | (with_reducible refine below_via (by with_reducible assumption) ?_ ?_) | go_size)⟩
  · obtain ⟨b, off, rfl, hb, hc⟩ := hr h0
    have HC := Lib.hid hc
    clear hr hc
    go_enter Try.func108, Try.ntmps108
    go_wp2
    go_loopw [5] (fun i wr => ∃ k : Nat, k ≤ n ∧ i = .int .i64 k ∧ Hid (∀ j, j < k → xs.getD j 0 ≠ v) ∧ Below w.heap.size w wr) (fun i _ => n - (intOf i).toNat)
    case atStart => exact ⟨0, Nat.zero_le _, rfl, fun j hj => by omega, by repeat' (first | (with_reducible exact Below.refl _ _) | (with_reducible assumption) | (with_reducible refine Below.alloc ?_ ?_ _) | (with_reducible refine Below.setCell ?_ ?_ _) | (with_reducible refine Below.drew ?_) | (with_reducible refine below_drewN ?_ _) | (with_reducible refine below_via (by with_reducible assumption) ?_ ?_) | go_size)⟩
    case round =>
      obtain ⟨k, hk, rfl, HJ, hbel⟩ := hrel
      by_cases hlt : k < n
      · have hx : wr.cell? ⟨b, off + k, none⟩ = some (.int .i64 (xs.getD k 0)) := (hbel.cell (p := ⟨b, off + k, none⟩) hb).trans (HC.out k hlt)
        have k0 : (0 : Int) ≤ (k : Int) := Int.natCast_nonneg _
        have k1 : (k : Int) < (n : Int) := by omega
        by_cases hv : xs.getD k 0 = v
        · have HE : Hid (hasB xs v = true) := hasB_yes (by rw [HL.out]; exact hlt) hv
          generalize xs.getD k 0 = x at hx hv
          have hvb : (x == v) = true := by simpa using hv
          have HVV := Lib.hid hv
          clear hv
          go_wp2
          go_returns
          exact ⟨by rw [HE.out] <;> rfl, hbel⟩
        · have HJ2 : Hid (∀ j, j < k + 1 → xs.getD j 0 ≠ v) := fun j hj => by
            rcases Nat.lt_or_ge j k with h | h
            · exact HJ.out j h
            · have : j = k := by omega
              rw [this]; exact hv
          generalize xs.getD k 0 = x at hx hv
          have hvb : (x == v) = false := by simpa using hv
          go_wp2
          go_roundw
          case rel => exact ⟨k + 1, by omega, by go_num, HJ2, hbel⟩
          case measure => simp [intOf]; omega
      · have HE : Hid (hasB xs v = false) := hasB_no (fun j hj => HJ.out j (by have := HL.out; omega))
        go_wp2
        go_returns
        exact ⟨by rw [HE.out] <;> rfl, hbel⟩
set_option maxHeartbeats 2000000 in
theorem sKnown (R C : Int) (a : Option Addr) (n cp : Nat) (zs : List Int) (w : World) (h : Rd w a n zs) (hn : n ≤ 1048576) (hg : gridB R C n zs = true) :
    Calls Try.prog 70 #[.agg #[.int .i64 R, .int .i64 C, .slice a n cp]] w fun e w' => e = .returned (.bool (knB zs)) ∧ Below w.heap.size w w' := by
  have HH := Lib.hid h
  have HE : Hid (knB zs = !hasB zs (-1)) := kn_has (gridB_yes hg).2.2.2.2.2.2.2
  clear h
  have bP := Lib.hid (Box3.new w 29 (.int .i64 R) (.int .i64 C) (.slice a n cp))
  go_enter Try.func70, Try.ntmps70
  go_wp2_with fail
  refine (sIsGrid R C a n cp zs _ (HH.out.below (by repeat' (first | (with_reducible exact Below.refl _ _) | (with_reducible assumption) | (with_reducible refine Below.alloc ?_ ?_ _) | (with_reducible refine Below.setCell ?_ ?_ _) | (with_reducible refine Below.drew ?_) | (with_reducible refine below_drewN ?_ _) | (with_reducible refine below_via (by with_reducible assumption) ?_ ?_) | go_size))) hn).mono ?_
  rintro e w1 ⟨rfl, hb1⟩
  have hz1 := hb1.size; try simp at hz1
  have k1 := (bP.out.keep (by repeat' (first | (with_reducible exact Below.refl _ _) | (with_reducible assumption) | (with_reducible refine Below.alloc ?_ ?_ _) | (with_reducible refine Below.setCell ?_ ?_ _) | (with_reducible refine Below.drew ?_) | (with_reducible refine below_drewN ?_ _) | (with_reducible refine below_via (by with_reducible assumption) ?_ ?_) | go_size)) : Box3 w1 _ _ _ _)
  obtain ⟨_, _, _, _⟩ := k1
  rw [hg]
  clear hg
  go_wp2_with fail
  refine (sHasV a n cp zs (-1) _ (HH.out.below (by repeat' (first | (with_reducible exact Below.refl _ _) | (with_reducible assumption) | (with_reducible refine Below.alloc ?_ ?_ _) | (with_reducible refine Below.setCell ?_ ?_ _) | (with_reducible refine Below.drew ?_) | (with_reducible refine below_drewN ?_ _) | (with_reducible refine below_via (by with_reducible assumption) ?_ ?_) | go_size))) hn).mono ?_
  rintro e w2 ⟨rfl, hb2⟩
  go_wp2
  go_returns
  exact ⟨by rw [HE.out] <;> rfl, by repeat' (first | (with_reducible exact Below.refl _ _) | (with_reducible assumption) | (with_reducible refine Below.alloc ?_ ?_ _) | (with_reducible refine Below.setCell ?_ ?_ _) | (with_reducible refine Below.drew ?_) | (with_reducible refine below_drewN ?_ _) | (with_reducible refine below_via (by with_reducible assumption) ?_ ?_) | go_size)⟩
set_option maxHeartbeats 2000000 in
theorem iKnown (R C : Int) (a : Option Addr) (n cp : Nat) (zs : List Int) (w : World) (h : Rd w a n zs) (hn : n ≤ 1048576) :
    Calls Try.prog 73 #[.agg #[.int .i64 R, .int .i64 C, .slice a n cp]] w fun e w' => e = .returned (.bool (knB zs)) ∧ Below w.heap.size w w' := by
  have HL := Lib.hid h.1
  rcases Nat.eq_zero_or_pos n with h0 | h0
  · have h1 : n ≤ 0 := by omega
    have HE : Hid (knB zs = true) := by
      unfold Hid knB
      rw [show zs = [] from List.eq_nil_of_length_eq_zero (by have := HL.out; omega)]
      rfl
    clear h h0
    go_enter Try.func73, Try.ntmps73
    go_wp2
    refine wp_loop_rounds 1 ?_; rw [rounds_succ]
    go_wp2
    go_returns
    exact ⟨by rw [HE.out] <;> rfl, by repeat' (first | (with_reducible exact Below.refl _ _) | (with_reducible assumption) | (with_reducible refine Below.alloc ?_ ?_ _) | (with_reducible refine Below.setCell ?_ ?_ _) | (with_reducible refine Below.drew ?_) | (with_reducible refine below_drewN ?_ _) | (with_reducible refine below_via (by with_reducible assumption) ?_ ?_) | go_size)⟩
  · obtain ⟨b, off, rfl, hb, hcell⟩ := h.2 h0
    have HC := Lib.hid hcell
    have hb1 : b < w.heap.size + 1 := by omega
    clear h hcell
    go_enter Try.func73, Try.ntmps73
    go_wp2
    go_loop [8] (fun i => ∃ k : Nat, k ≤ n ∧ i = .int .i64 k ∧ Hid (∀ j, j < k → 0 ≤ zs.getD j 0)) (fun i => n - (intOf i).toNat)
    case atStart => exact ⟨0, Nat.zero_le _, rfl, fun j hj => by omega⟩
    case round =>
      obtain ⟨k, hk, rfl, HJ⟩ := hrel
      by_cases hlt : k < n
      · have hx : w.cell? ⟨b, off + k, none⟩ = some (.int .i64 (zs.getD k 0)) := HC.out k hlt
        by_cases hv : zs.getD k 0 < 0
        · have HE : Hid (knB zs = false) := by
            unfold Hid knB
            exact all_no (i := k) (p := fun x => decide (0 ≤ x)) (by rw [HL.out]; exact hlt) (decide_eq_false (by omega))
          generalize zs.getD k 0 = x at hx hv
          go_wp2
          go_returns
          exact ⟨by rw [HE.out] <;> rfl, by repeat' (first | (with_reducible exact Below.refl _ _) | (with_reducible assumption) | (with_reducible refine Below.alloc ?_ ?_ _) | (with_reducible refine Below.setCell ?_ ?_ _) | (with_reducible refine Below.drew ?_) | (with_reducible refine below_drewN ?_ _) | (with_reducible refine below_via (by with_reducible assumption) ?_ ?_) | go_size)⟩
        · have HJ2 : Hid (∀ j, j < k + 1 → 0 ≤ zs.getD j 0) := fun j hj => by
            rcases Nat.lt_or_ge j k with h | h
            · exact HJ.out j h
            · have : j = k := by omega
              rw [this]; omega
          generalize zs.getD k 0 = x at hx hv
          go_wp2
          go_round
          case rel => exact ⟨k + 1, by omega, by go_num, HJ2⟩
          case measure => simp [intOf]; omega
      · have HE : Hid (knB zs = true) := all_yes (fun i hi => by have := HJ.out i (by have := HL.out; omega); simpa using this)
        go_wp2
        go_returns
        exact ⟨by rw [HE.out] <;> rfl, by repeat' (first | (with_reducible exact Below.refl _ _) | (with_reducible assumption) | (with_reducible refine Below.alloc ?_ ?_ _) | (with_reducible refine Below.setCell ?_ ?_ _) | (with_reducible refine Below.drew ?_) | (with_reducible refine below_drewN ?_ _) | (with_reducible refine below_via (by with_reducible assumption) ?_ ?_) | go_size)⟩
end Go.Proofs.Ytfiddbmjgncabaa
