/-
  DERIVED. Spots in order do not depend on the order in which they are given, and turn clockwise: plain laws.
-/
import Derived.Test.YtdbecdgiafjkfaaOrd2
import Derived.Test.YtdbecdgiafjkfaaSpot3
namespace Go.Proofs.Ytdbecdgiafjkfaa
open Go.RowKit
set_option linter.unusedVariables false
theorem w64_in {n : Int} (h1 : -9223372036854775808 ≤ n) (h2 : n ≤ 9223372036854775807) : wrap64 n = n := by unfold wrap64; omega
theorem mul_bd {u v : Int} (a : -8000 ≤ u) (b : u ≤ 8000) (c : -8000 ≤ v) (d : v ≤ 8000) : -64000000 ≤ u * v ∧ u * v ≤ 64000000 := by
  have e1 : 0 ≤ (8000 - u) * (8000 + v) := Int.mul_nonneg (by omega) (by omega)
  have e2 : 0 ≤ (8000 + u) * (8000 - v) := Int.mul_nonneg (by omega) (by omega)
  have e3 : 0 ≤ (8000 - u) * (8000 - v) := Int.mul_nonneg (by omega) (by omega)
  have e4 : 0 ≤ (8000 + u) * (8000 + v) := Int.mul_nonneg (by omega) (by omega)
  have f1 : (8000 - u) * (8000 + v) = 64000000 + 8000 * v - 8000 * u - u * v := by grind
  have f2 : (8000 + u) * (8000 - v) = 64000000 - 8000 * v + 8000 * u - u * v := by grind
  have f3 : (8000 - u) * (8000 - v) = 64000000 - 8000 * v - 8000 * u + u * v := by grind
  have f4 : (8000 + u) * (8000 + v) = 64000000 + 8000 * v + 8000 * u + u * v := by grind
  generalize u * v = z at *
  omega
def Sp (x y : Int) : Prop := -4000 ≤ x ∧ x ≤ 4000 ∧ -4000 ≤ y ∧ y ≤ 4000
theorem spot_sp {x y : Int} (h : spotB x y = true) : Sp x y := by
  simp only [spotB, Bool.and_eq_true, inB_iff] at h
  exact ⟨h.1.1, h.1.2, h.2.1, h.2.2⟩
theorem sqV_in {px py qx qy : Int} (hp : Sp px py) (hq : Sp qx qy) : sqV px py qx qy = (px - qx) * (px - qx) + (py - qy) * (py - qy) := by
  obtain ⟨a1, a2, a3, a4⟩ := hp
  obtain ⟨b1, b2, b3, b4⟩ := hq
  unfold sqV
  rw [w64_in (n := px - qx) (by omega) (by omega), w64_in (n := py - qy) (by omega) (by omega)]
  have m1 := mul_bd (u := px - qx) (v := px - qx) (by omega) (by omega) (by omega) (by omega)
  have m2 := mul_bd (u := py - qy) (v := py - qy) (by omega) (by omega) (by omega) (by omega)
  generalize (px - qx) * (px - qx) = z1 at *
  generalize (py - qy) * (py - qy) = z2 at *
  rw [w64_in (n := z1) (by omega) (by omega), w64_in (n := z2) (by omega) (by omega), w64_in (by omega) (by omega)]
theorem turnV_in {px py qx qy rx ry : Int} (hp : Sp px py) (hq : Sp qx qy) (hr : Sp rx ry) : turnV px py qx qy rx ry = (qx - px) * (ry - qy) - (qy - py) * (rx - qx) := by
  obtain ⟨a1, a2, a3, a4⟩ := hp
  obtain ⟨b1, b2, b3, b4⟩ := hq
  obtain ⟨c1, c2, c3, c4⟩ := hr
  unfold turnV
  rw [w64_in (n := qx - px) (by omega) (by omega), w64_in (n := ry - qy) (by omega) (by omega), w64_in (n := qy - py) (by omega) (by omega), w64_in (n := rx - qx) (by omega) (by omega)]
  have m1 := mul_bd (u := qx - px) (v := ry - qy) (by omega) (by omega) (by omega) (by omega)
  have m2 := mul_bd (u := qy - py) (v := rx - qx) (by omega) (by omega) (by omega) (by omega)
  generalize (qx - px) * (ry - qy) = z1 at *
  generalize (qy - py) * (rx - qx) = z2 at *
  rw [w64_in (n := z1) (by omega) (by omega), w64_in (n := z2) (by omega) (by omega), w64_in (by omega) (by omega)]
theorem sqV_comm {px py qx qy : Int} (hp : Sp px py) (hq : Sp qx qy) : sqV qx qy px py = sqV px py qx qy := by
  rw [sqV_in hp hq, sqV_in hq hp]
  grind
theorem turn_rot {px py qx qy rx ry : Int} (hp : Sp px py) (hq : Sp qx qy) (hr : Sp rx ry) : turnV qx qy rx ry px py = turnV px py qx qy rx ry := by
  rw [turnV_in hp hq hr, turnV_in hq hr hp]
  grind
theorem turn_swap {px py qx qy rx ry : Int} (hp : Sp px py) (hq : Sp qx qy) (hr : Sp rx ry) : turnV px py rx ry qx qy = - turnV px py qx qy rx ry := by
  rw [turnV_in hp hq hr, turnV_in hp hr hq]
  grind
set_option linter.unusedSimpArgs false in
set_option maxHeartbeats 4000000 in
theorem ord_law {px py qx qy rx ry a1 a2 a3 a4 a5 a6 d1 d2 d3 d4 d5 d6 : Int} (hp : Sp px py) (hq : Sp qx qy) (hr : Sp rx ry) (ht : ¬ turnV px py qx qy rx ry = 0)
    (h : ordOf px py qx qy rx ry = (a1, a2, a3, a4, a5, a6)) (h' : ordOf qx qy px py rx ry = (d1, d2, d3, d4, d5, d6)) :
    (Sp a1 a2 ∧ Sp a3 a4 ∧ Sp a5 a6) ∧ 0 < turnV a1 a2 a3 a4 a5 a6 ∧ sqV a3 a4 a1 a2 ≤ sqV a5 a6 a3 a4 ∧ sqV a5 a6 a1 a2 ≤ sqV a5 a6 a3 a4 ∧
    (sqV a3 a4 a1 a2 = sqV a5 a6 a3 a4 ∨ sqV a5 a6 a1 a2 = sqV a5 a6 a3 a4 ∨ (d1 = a1 ∧ d2 = a2 ∧ d3 = a3 ∧ d4 = a4 ∧ d5 = a5 ∧ d6 = a6)) := by
  have s1 := sqV_comm hp hq
  have s2 := sqV_comm hq hr
  have s3 := sqV_comm hr hp
  have t1 := turn_rot hp hq hr
  have t2 := turn_rot hq hr hp
  have t3 := turn_swap hp hq hr
  have t4 := turn_swap hq hr hp
  have t5 := turn_swap hr hp hq
  rw [t1] at t2 t4
  rw [t2] at t5
  unfold ordOf ord2 ord1 at h h'
  obtain ⟨D0, hD0⟩ : ∃ D, sqV qx qy rx ry = D := ⟨_, rfl⟩
  obtain ⟨D1, hD1⟩ : ∃ D, sqV rx ry px py = D := ⟨_, rfl⟩
  obtain ⟨D2, hD2⟩ : ∃ D, sqV px py qx qy = D := ⟨_, rfl⟩
  obtain ⟨T, hT⟩ : ∃ T, turnV px py qx qy rx ry = T := ⟨_, rfl⟩
  rw [hD2] at s1
  rw [hD0] at s2
  rw [hD1] at s3
  rw [hT] at t1 t2 t3 t4 t5 ht
  by_cases h1 : D0 < D1 <;> by_cases h2 : D1 < D2 <;> by_cases h3 : D0 < D2 <;> by_cases h4 : D1 < D0 <;> by_cases tt : T < 0
  all_goals first | (exfalso; omega) | skip
  all_goals
    have tq : (0 < T) = ¬ (T < 0) := by apply propext; constructor <;> omega
    simp [hD0, hD1, hD2, s1, s2, s3, h1, h2, h3, h4, rot3, hT, t1, t2, t3, t4, t5, tq, tt] at h h'
    obtain ⟨rfl, rfl, rfl, rfl, rfl, rfl⟩ := h
    obtain ⟨rfl, rfl, rfl, rfl, rfl, rfl⟩ := h'
    refine ⟨⟨by assumption, by assumption, by assumption⟩, ?_⟩
    simp only [hD0, hD1, hD2, s1, s2, s3, hT, t1, t2, t3, t4, t5]
    clear tq
    (try simp only [and_self, or_true, and_true])
    omega
end Go.Proofs.Ytdbecdgiafjkfaa
