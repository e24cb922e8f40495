/-
  DERIVED. IsGrid.
-/
import Derived.Test.YtenelpollcabnaaRast
import Derived.Conc.MuLone
namespace Go.Proofs.Ytenelpollcabnaa
open Go.RowKit
set_option linter.unusedVariables false
def gridB (r c : Int) (n : Nat) (zs : List Int) : Bool := inB r 1 40000 && (inB c 1 40000 && (decide (r * c ≤ 40000) && (decide ((n : Int) = r * c) && zs.all fun x => inB x (-1) 1)))
theorem gridB_yes {r c : Int} {n : Nat} {zs : List Int} (h : gridB r c n zs = true) : 1 ≤ r ∧ r ≤ 40000 ∧ 1 ≤ c ∧ c ≤ 40000 ∧ 1 ≤ r * c ∧ r * c ≤ 40000 ∧ (n : Int) = r * c ∧ ∀ x ∈ zs, -1 ≤ x ∧ x ≤ 1 := by
  simp only [gridB, Bool.and_eq_true, decide_eq_true_eq, List.all_eq_true, inB_iff] at h
  obtain ⟨⟨a1, a2⟩, ⟨a3, a4⟩, a5, a6, a7⟩ := h
  have h1 : 1 * 1 ≤ r * c := Int.mul_le_mul a1 a3 (by omega) (by omega)
  exact ⟨a1, a2, a3, a4, by omega, a5, a6, a7⟩
theorem grid_cases (r c : Int) (n : Nat) : inB r 1 40000 = false ∨ (inB r 1 40000 = true ∧ (1 ≤ r ∧ r ≤ 40000) ∧ inB c 1 40000 = false) ∨
    (inB r 1 40000 = true ∧ inB c 1 40000 = true ∧ (1 ≤ r ∧ r ≤ 40000 ∧ 1 ≤ c ∧ c ≤ 40000 ∧ 1 ≤ r * c ∧ r * c ≤ 1600000000) ∧ 40000 < r * c) ∨
    (inB r 1 40000 = true ∧ inB c 1 40000 = true ∧ (1 ≤ r ∧ r ≤ 40000 ∧ 1 ≤ c ∧ c ≤ 40000 ∧ 1 ≤ r * c ∧ r * c ≤ 40000) ∧ ((n : Int) != r * c) = true) ∨
    (inB r 1 40000 = true ∧ inB c 1 40000 = true ∧ (1 ≤ r ∧ r ≤ 40000 ∧ 1 ≤ c ∧ c ≤ 40000 ∧ 1 ≤ r * c ∧ r * c ≤ 40000) ∧ ((n : Int) != r * c) = false) := by
  rcases inCases r 1 40000 with h1 | ⟨h1, a1, a2⟩
  · exact .inl h1
  rcases inCases c 1 40000 with h2 | ⟨h2, b1, b2⟩
  · exact .inr (.inl ⟨h1, ⟨a1, a2⟩, h2⟩)
  have p := prod_le (show 0 ≤ r by omega) a2 (show 0 ≤ c by omega) b2
  have q : 1 * 1 ≤ r * c := Int.mul_le_mul a1 b1 (by omega) (by omega)
  by_cases h3 : r * c ≤ 40000
  · cases h4 : ((n : Int) != r * c)
    · exact .inr (.inr (.inr (.inr ⟨h1, h2, ⟨a1, a2, b1, b2, by omega, h3⟩, rfl⟩)))
    · exact .inr (.inr (.inr (.inl ⟨h1, h2, ⟨a1, a2, b1, b2, by omega, h3⟩, rfl⟩)))
  · exact .inr (.inr (.inl ⟨h1, h2, ⟨a1, a2, b1, b2, by omega, by omega⟩, by omega⟩))
set_option maxHeartbeats 2000000 in
theorem sIsGrid (r c : Int) (a : Option Addr) (n cp : Nat) (zs : List Int) (w : World) (h : Rd w a n zs) (hn : n ≤ 1048576) :
    Calls Try.prog 76 #[.agg #[.int .i64 r, .int .i64 c, .slice a n cp]] w fun e w' => e = .returned (.bool (gridB r c n zs)) ∧ Below w.heap.size w w' := by
  rcases grid_cases r c n with h1 | ⟨h1, _, h2⟩ | ⟨h1, h2, ⟨_, _, _, _, _, _⟩, h3⟩ | ⟨h1, h2, ⟨_, _, _, _, _, _⟩, h3⟩ | ⟨h1, h2, ⟨_, _, _, _, _, _⟩, h3⟩
  · clear h
    go_enter Try.func76, Try.ntmps76
    go_wp2_with (go_at_call 35; refine (sIn _ _ _ _).mono ?_; rintro e w' ⟨rfl, rfl⟩)
    go_returns
    exact ⟨ret_bool (by simp [gridB, h1]), by repeat' (first | (with_reducible exact Below.refl _ _) | (with_reducible assumption) | (with_reducible refine Below.alloc ?_ ?_ _) | (with_reducible refine Below.setCell ?_ ?_ _) | (with_reducible refine Below.drew ?_) | (with_reducible refine below_drewN ?_ _) | (with_reducible refine below_via (by with_reducible assumption) ?_ ?_) | go_size)⟩
  · clear h
    go_enter Try.func76, Try.ntmps76
    go_wp2_with (go_at_call 35; refine (sIn _ _ _ _).mono ?_; rintro e w' ⟨rfl, rfl⟩)
    go_returns
    exact ⟨ret_bool (by simp [gridB, h2]), by repeat' (first | (with_reducible exact Below.refl _ _) | (with_reducible assumption) | (with_reducible refine Below.alloc ?_ ?_ _) | (with_reducible refine Below.setCell ?_ ?_ _) | (with_reducible refine Below.drew ?_) | (with_reducible refine below_drewN ?_ _) | (with_reducible refine below_via (by with_reducible assumption) ?_ ?_) | go_size)⟩
  · clear h
    go_enter Try.func76, Try.ntmps76
    go_wp2_with (go_at_call 35; refine (sIn _ _ _ _).mono ?_; rintro e w' ⟨rfl, rfl⟩)
    go_returns
    exact ⟨ret_bool (by have : decide (r * c ≤ 40000) = false := by simp; omega
                        simp [gridB, this]), by repeat' (first | (with_reducible exact Below.refl _ _) | (with_reducible assumption) | (with_reducible refine Below.alloc ?_ ?_ _) | (with_reducible refine Below.setCell ?_ ?_ _) | (with_reducible refine Below.drew ?_) | (with_reducible refine below_drewN ?_ _) | (with_reducible refine below_via (by with_reducible assumption) ?_ ?_) | go_size)⟩
  · clear h
    go_enter Try.func76, Try.ntmps76
    go_wp2_with (go_at_call 35; refine (sIn _ _ _ _).mono ?_; rintro e w' ⟨rfl, rfl⟩)
    go_returns
    exact ⟨ret_bool (by simp at h3; simp [gridB, h3]), by repeat' (first | (with_reducible exact Below.refl _ _) | (with_reducible assumption) | (with_reducible refine Below.alloc ?_ ?_ _) | (with_reducible refine Below.setCell ?_ ?_ _) | (with_reducible refine Below.drew ?_) | (with_reducible refine below_drewN ?_ _) | (with_reducible refine below_via (by with_reducible assumption) ?_ ?_) | go_size)⟩
  · have hnr : (n : Int) = r * c := by simpa using h3
    have hpos : 0 < n := by omega
    obtain ⟨b, off, rfl, hb, hc⟩ := h.2 hpos
    have HL := Lib.hid h.1
    have HC := Lib.hid hc
    have HR := Lib.hid hnr
    have hb1 : b < w.heap.size + 1 := by omega
    clear h hc hnr
    go_enter Try.func76, Try.ntmps76
    go_wp2_with (go_at_call 35; refine (sIn _ _ _ _).mono ?_; rintro e w' ⟨rfl, rfl⟩)
    go_loop [3] (fun i => ∃ k : Nat, k ≤ n ∧ i = .int .i64 k ∧ Hid (∀ j, j < k → inB (zs.getD j 0) (-1) 1 = true)) (fun i => n - (intOf i).toNat)
    case atStart => exact ⟨0, Nat.zero_le _, rfl, fun j hj => absurd hj (by omega)⟩
    case round =>
      obtain ⟨k, hk, rfl, hall⟩ := hrel
      by_cases hlt : k < n
      · have hx : w.cell? ⟨b, off + k, none⟩ = some (.int .i64 (zs.getD k 0)) := HC.out k hlt
        generalize hxv : zs.getD k 0 = x at hx
        have HX := Lib.hid hxv
        clear hxv
        cases hg : inB x (-1) 1
        · have HE : Hid (zs.all (fun x => inB x (-1) 1) = false) := all_no (i := k) (by rw [HL.out]; exact hlt) (by rw [HX.out]; exact hg)
          go_wp2_with (go_at_call 35; refine (sIn _ _ _ _).mono ?_; rintro e w' ⟨rfl, rfl⟩)
          go_returns
          exact ⟨ret_bool (by simp only [gridB, HE.out, Bool.and_false]), by repeat' (first | (with_reducible exact Below.refl _ _) | (with_reducible assumption) | (with_reducible refine Below.alloc ?_ ?_ _) | (with_reducible refine Below.setCell ?_ ?_ _) | (with_reducible refine Below.drew ?_) | (with_reducible refine below_drewN ?_ _) | (with_reducible refine below_via (by with_reducible assumption) ?_ ?_) | go_size)⟩
        · have HA : Hid (∀ j, j < k + 1 → inB (zs.getD j 0) (-1) 1 = true) := fun j hj => by
            rcases Nat.lt_or_ge j k with h3 | h3
            · exact hall j h3
            · obtain rfl : j = k := by omega
              rw [HX.out]; exact hg
          go_wp2_with (go_at_call 35; refine (sIn _ _ _ _).mono ?_; rintro e w' ⟨rfl, rfl⟩)
          go_round
          case rel => exact ⟨k + 1, by omega, by go_num, HA⟩
          case measure => simp [intOf]; omega
      · have HE : Hid (zs.all (fun x => inB x (-1) 1) = true) := all_yes fun i hi => hall i (by have := HL.out; omega)
        have HD : Hid (decide (r * c ≤ 40000) = true) := decide_eq_true (by omega)
        go_wp2
        go_returns
        exact ⟨ret_bool (by simp only [gridB, h1, h2, HE.out, HD.out, decide_eq_true HR.out, Bool.and_self]), by repeat' (first | (with_reducible exact Below.refl _ _) | (with_reducible assumption) | (with_reducible refine Below.alloc ?_ ?_ _) | (with_reducible refine Below.setCell ?_ ?_ _) | (with_reducible refine Below.drew ?_) | (with_reducible refine below_drewN ?_ _) | (with_reducible refine below_via (by with_reducible assumption) ?_ ?_) | go_size)⟩
set_option maxHeartbeats 2000000 in
theorem iIsGrid (r c : Int) (a : Option Addr) (n cp : Nat) (zs : List Int) (w : World) (h : Rd w a n zs) (hn : n ≤ 1048576) :
    Calls Try.prog 60 #[.agg #[.int .i64 r, .int .i64 c, .slice a n cp]] w fun e w' => e = .returned (.bool (gridB r c n zs)) ∧ Below w.heap.size w w' := by
  rcases grid_cases r c n with h1 | ⟨h1, _, h2⟩ | ⟨h1, h2, ⟨_, _, _, _, _, _⟩, h3⟩ | ⟨h1, h2, ⟨_, _, _, _, _, _⟩, h3⟩ | ⟨h1, h2, ⟨_, _, _, _, _, _⟩, h3⟩
  · clear h
    go_enter Try.func60, Try.ntmps60
    go_wp2_with (go_at_call 41; refine (iIn _ _ _ _).mono ?_; rintro e w' ⟨rfl, rfl⟩)
    go_returns
    exact ⟨ret_bool (by simp [gridB, h1]), by repeat' (first | (with_reducible exact Below.refl _ _) | (with_reducible assumption) | (with_reducible refine Below.alloc ?_ ?_ _) | (with_reducible refine Below.setCell ?_ ?_ _) | (with_reducible refine Below.drew ?_) | (with_reducible refine below_drewN ?_ _) | (with_reducible refine below_via (by with_reducible assumption) ?_ ?_) | go_size)⟩
  · clear h
    go_enter Try.func60, Try.ntmps60
    go_wp2_with (go_at_call 41; refine (iIn _ _ _ _).mono ?_; rintro e w' ⟨rfl, rfl⟩)
    go_returns
    exact ⟨ret_bool (by simp [gridB, h2]), by repeat' (first | (with_reducible exact Below.refl _ _) | (with_reducible assumption) | (with_reducible refine Below.alloc ?_ ?_ _) | (with_reducible refine Below.setCell ?_ ?_ _) | (with_reducible refine Below.drew ?_) | (with_reducible refine below_drewN ?_ _) | (with_reducible refine below_via (by with_reducible assumption) ?_ ?_) | go_size)⟩
  · clear h
    go_enter Try.func60, Try.ntmps60
    go_wp2_with (go_at_call 41; refine (iIn _ _ _ _).mono ?_; rintro e w' ⟨rfl, rfl⟩)
    go_returns
    exact ⟨ret_bool (by have : decide (r * c ≤ 40000) = false := by simp; omega
                        simp [gridB, this]), by repeat' (first | (with_reducible exact Below.refl _ _) | (with_reducible assumption) | (with_reducible refine Below.alloc ?_ ?_ _) | (with_reducible refine Below.setCell ?_ ?_ _) | (with_reducible refine Below.drew ?_) | (with_reducible refine below_drewN ?_ _) | (with_reducible refine below_via (by with_reducible assumption) ?_ ?_) | go_size)⟩
  · clear h
    go_enter Try.func60, Try.ntmps60
    go_wp2_with (go_at_call 41; refine (iIn _ _ _ _).mono ?_; rintro e w' ⟨rfl, rfl⟩)
    go_returns
    exact ⟨ret_bool (by simp at h3; simp [gridB, h3]), by repeat' (first | (with_reducible exact Below.refl _ _) | (with_reducible assumption) | (with_reducible refine Below.alloc ?_ ?_ _) | (with_reducible refine Below.setCell ?_ ?_ _) | (with_reducible refine Below.drew ?_) | (with_reducible refine below_drewN ?_ _) | (with_reducible refine below_via (by with_reducible assumption) ?_ ?_) | go_size)⟩
  · have hnr : (n : Int) = r * c := by simpa using h3
    have hpos : 0 < n := by omega
    obtain ⟨b, off, rfl, hb, hc⟩ := h.2 hpos
    have HL := Lib.hid h.1
    have HC := Lib.hid hc
    have HR := Lib.hid hnr
    have hb1 : b < w.heap.size + 1 := by omega
    clear h hc hnr
    go_enter Try.func60, Try.ntmps60
    go_wp2_with (go_at_call 41; refine (iIn _ _ _ _).mono ?_; rintro e w' ⟨rfl, rfl⟩)
    go_loop [37] (fun i => ∃ k : Nat, k ≤ n ∧ i = .int .i64 k ∧ Hid (∀ j, j < k → inB (zs.getD j 0) (-1) 1 = true)) (fun i => n - (intOf i).toNat)
    case atStart => exact ⟨0, Nat.zero_le _, rfl, fun j hj => absurd hj (by omega)⟩
    case round =>
      obtain ⟨k, hk, rfl, hall⟩ := hrel
      by_cases hlt : k < n
      · have hx : w.cell? ⟨b, off + k, none⟩ = some (.int .i64 (zs.getD k 0)) := HC.out k hlt
        generalize hxv : zs.getD k 0 = x at hx
        have HX := Lib.hid hxv
        clear hxv
        cases hg : inB x (-1) 1
        · have HE : Hid (zs.all (fun x => inB x (-1) 1) = false) := all_no (i := k) (by rw [HL.out]; exact hlt) (by rw [HX.out]; exact hg)
          go_wp2_with (go_at_call 41; refine (iIn _ _ _ _).mono ?_; rintro e w' ⟨rfl, rfl⟩)
          go_returns
          exact ⟨ret_bool (by simp only [gridB, HE.out, Bool.and_false]), by repeat' (first | (with_reducible exact Below.refl _ _) | (with_reducible assumption) | (with_reducible refine Below.alloc ?_ ?_ _) | (with_reducible refine Below.setCell ?_ ?_ _) | (with_reducible refine Below.drew ?_) | (with_reducible refine below_drewN ?_ _) | (with_reducible refine below_via (by with_reducible assumption) ?_ ?_) | go_size)⟩
        · have HA : Hid (∀ j, j < k + 1 → inB (zs.getD j 0) (-1) 1 = true) := fun j hj => by
            rcases Nat.lt_or_ge j k with h3 | h3
            · exact hall j h3
            · obtain rfl : j = k := by omega
              rw [HX.out]; exact hg
          go_wp2_with (go_at_call 41; refine (iIn _ _ _ _).mono ?_; rintro e w' ⟨rfl, rfl⟩)
          go_round
          case rel => exact ⟨k + 1, by omega, by go_num, HA⟩
          case measure => simp [intOf]; omega
      · have HE : Hid (zs.all (fun x => inB x (-1) 1) = true) := all_yes fun i hi => hall i (by have := HL.out; omega)
        have HD : Hid (decide (r * c ≤ 40000) = true) := decide_eq_true (by omega)
        go_wp2
        go_returns
        exact ⟨ret_bool (by simp only [gridB, h1, h2, HE.out, HD.out, decide_eq_true HR.out, Bool.and_self]), by repeat' (first | (with_reducible exact Below.refl _ _) | (with_reducible assumption) | (with_reducible refine Below.alloc ?_ ?_ _) | (with_reducible refine Below.setCell ?_ ?_ _) | (with_reducible refine Below.drew ?_) | (with_reducible refine below_drewN ?_ _) | (with_reducible refine below_via (by with_reducible assumption) ?_ ?_) | go_size)⟩
end Go.Proofs.Ytenelpollcabnaa
