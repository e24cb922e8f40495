/-
  DERIVED. NearestSize: contracts.
-/
import Derived.Test.YtdbecdgiafjkfaaRootI
import Derived.Test.YtdbecdgiafjkfaaSquare
import Derived.Test.YtdbecdgiafjkfaaSpot3
import Derived.Test.YtdbecdgiafjkfaaMark
import Derived.Conc.MuLone
import Derived.BigQuiet
namespace Go.Proofs.Ytdbecdgiafjkfaa
open Go.RowKit
set_option linter.unusedVariables false
theorem root_ex (n : Nat) : ∃ d, IsRoot (n : Int) d := by
  induction n with
  | zero => exact ⟨0, by omega, by omega, by omega⟩
  | succ n ih =>
    obtain ⟨d, h0, h1, h2⟩ := ih
    have e : (d + 1 + 1) * (d + 1 + 1) = (d + 1) * (d + 1) + 2 * (d + 1) + 1 := by grind
    by_cases h : (d + 1) * (d + 1) ≤ ((n + 1 : Nat) : Int)
    · exact ⟨d + 1, by omega, h, by rw [e]; omega⟩
    · exact ⟨d, h0, by omega, by omega⟩
theorem rootZ_bd {n : Int} (h0 : 0 ≤ n) (h1 : n < 134217728) : 0 ≤ rootZ n ∧ rootZ n ≤ 11585 := by
  obtain ⟨m, rfl⟩ := Int.eq_ofNat_of_zero_le h0
  obtain ⟨d, h⟩ := root_ex m
  rw [← h.eq]
  exact ⟨h.1, root_small h.2.1 h.1 h1⟩
theorem spotB_bd {x y : Int} (h : spotB x y = true) : -4000 ≤ x ∧ x ≤ 4000 ∧ -4000 ≤ y ∧ y ≤ 4000 := by
  simp [spotB] at h
  have a := inB_iff.1 h.1
  have b := inB_iff.1 h.2
  omega
theorem sq_diff {x y : Int} (h1 : -4000 ≤ x) (h2 : x ≤ 4000) (h3 : -4000 ≤ y) (h4 : y ≤ 4000) : 0 ≤ (x - y) * (x - y) ∧ (x - y) * (x - y) ≤ 64000000 := by
  rcases Int.lt_or_le (x - y) 0 with h | h
  · have e : (x - y) * (x - y) = (y - x) * (y - x) := by grind
    rw [e]
    exact sq_bd (B := 8000) (by omega) (by omega)
  · exact sq_bd (B := 8000) h (by omega)
theorem wrap_id {n : Int} (h1 : -9223372036854775808 ≤ n) (h2 : n ≤ 9223372036854775807) : wrap64 n = n := by
  unfold wrap64
  omega
theorem sqV_eq {px py qx qy : Int} (h : spotB px py = true) (k : spotB qx qy = true) : sqV px py qx qy = (px - qx) * (px - qx) + (py - qy) * (py - qy) ∧ 0 ≤ sqV px py qx qy ∧ sqV px py qx qy < 134217728 := by
  obtain ⟨a1, a2, a3, a4⟩ := spotB_bd h
  obtain ⟨b1, b2, b3, b4⟩ := spotB_bd k
  obtain ⟨c1, c2⟩ := sq_diff a1 a2 b1 b2
  obtain ⟨d1, d2⟩ := sq_diff a3 a4 b3 b4
  have e : sqV px py qx qy = (px - qx) * (px - qx) + (py - qy) * (py - qy) := by
    unfold sqV
    rw [wrap_id (n := px - qx) (by omega) (by omega), wrap_id (n := py - qy) (by omega) (by omega), wrap_id (n := (px - qx) * (px - qx)) (by omega) (by omega), wrap_id (n := (py - qy) * (py - qy)) (by omega) (by omega), wrap_id (by omega) (by omega)]
  rw [e]
  exact ⟨rfl, by omega, by omega⟩
theorem sqV_comm {px py qx qy : Int} (h : spotB px py = true) (k : spotB qx qy = true) : sqV qx qy px py = sqV px py qx qy := by
  rw [(sqV_eq h k).1, (sqV_eq k h).1]
  grind
/-- what the quotient needs. -/
theorem want_bd {x num den : Int} (h0 : 0 ≤ x) (h1 : x ≤ 11585) (h2 : 1 ≤ num) (h3 : num ≤ 1000000) (h4 : 1 ≤ den) (h5 : den ≤ 1000) :
    0 ≤ x * den ∧ x * den ≤ 11585000 ∧ 0 ≤ (x * den + num) / (2 * num) ∧ (x * den + num) / (2 * num) ≤ 12585000 := by
  have a : 0 ≤ x * den := Int.mul_nonneg h0 (by omega)
  have b : x * den ≤ 11585 * 1000 := Int.mul_le_mul h1 h5 (by omega) (by omega)
  have c : 0 ≤ (x * den + num) / (2 * num) := Int.ediv_nonneg (by omega) (by omega)
  have d : (x * den + num) / (2 * num) ≤ x * den + num := Int.ediv_le_self _ (by omega)
  omega
def nearB (ax ay bx bY num den : Int) (n : Nat) (zs : List Int) : Int × Int → Prop := fun o =>
  (spotB ax ay && spotB bx bY = false → o = (0, 1)) ∧ (spotB ax ay && spotB bx bY = true →
    (inB num 1 1000000 && inB den 1 1000 = false → o = (0, 2)) ∧ (inB num 1 1000000 && inB den 1 1000 = true →
      (inB (n : Int) 1 8 && sizesB zs n = false → o = (0, 3)) ∧ (inB (n : Int) 1 8 && sizesB zs n = true → o.2 = 0)))
theorem sAbsN (n : Int) (w : World) (h1 : -9223372036854775807 ≤ n) (h2 : n ≤ 9223372036854775807) : Calls Try.prog 112 #[.int .i64 n] w fun e w' => e = .returned (.int .i64 (distV n)) ∧ w = w' := by
  go_enter Try.func112, Try.ntmps112
  go_wp2
  all_goals
    go_ret
    exact ⟨ret_int (by unfold distV; omega), rfl⟩
set_option maxRecDepth 20000 in
set_option maxHeartbeats 2000000 in
theorem sNearest (ax ay bx bY num den : Int) (a : Option Addr) (n cp : Nat) (zs : List Int) (w : World) (h : Rd w a n zs) (g1 : spotB ax ay = true) (g2 : spotB bx bY = true) (g3 : 1 ≤ num) (g4 : num ≤ 1000000) (g5 : 1 ≤ den) (g6 : den ≤ 1000) (hn0 : 0 < n) (hn8 : n ≤ 8) (hs : sizesB zs n = true) (v : Int) (hv : pickZ (wantZ (sqV ax ay bx bY) num den) zs n = v) :
    Calls Try.prog 76 #[.agg #[.int .i64 ax, .int .i64 ay], .agg #[.int .i64 bx, .int .i64 bY], .int .i64 num, .int .i64 den, .slice a n cp] w fun e w' => e = .returned (.int .i64 v) ∧ Below w.heap.size w w' := by
  obtain ⟨-, q0, q1⟩ := sqV_eq g1 g2
  obtain ⟨r0, r1⟩ := rootZ_bd q0 q1
  obtain ⟨x, hx⟩ : ∃ x, rootZ (sqV ax ay bx bY) = x := ⟨_, rfl⟩
  have HX := Lib.hid hx
  rw [hx] at r0 r1
  obtain ⟨u1, u2, u3, u4⟩ := want_bd r0 r1 g3 g4 g5 g6
  obtain ⟨y, hy⟩ : ∃ y, (x * den + num) / (2 * num) + 7 = y := ⟨_, rfl⟩
  have HV : Hid (pickZ y zs n = v) := by rw [← hy, ← hx]; exact hv
  have HY := Lib.hid hy
  have y1 : 7 ≤ y := by omega
  have y2 : y ≤ 12585007 := by omega
  have HS := Lib.hid hs
  obtain ⟨b, off, rfl, hb, hcell⟩ := h.2 hn0
  have HC : Hid (∀ wr, Below w.heap.size w wr → b < wr.heap.size ∧ ∀ i, i < n → wr.cell? ⟨b, off + i, none⟩ = some (.int .i64 (zs.getD i 0))) := fun wr h' => ⟨Nat.lt_of_lt_of_le hb h'.size, fun i hi => (h'.cell (p := ⟨b, off + i, none⟩) hb).trans (hcell i hi)⟩
  have c0 : w.cell? ⟨b, off, none⟩ = some (.int .i64 (zs.getD 0 0)) := by simpa using hcell 0 hn0
  have hb1 : b < w.heap.size + 1 := by omega
  have hb2 : b < w.heap.size + 1 + 1 := by omega
  have hb3 : b < w.heap.size + 1 + 1 + 1 := by omega
  have hb4 : b < w.heap.size + 1 + 1 + 1 + 1 := by omega
  have HZ : Hid (∀ k, k < n → 1 ≤ zs.getD k 0 ∧ zs.getD k 0 ≤ 400) := fun k hk => sizesB_at hs hk
  obtain ⟨z1, z2⟩ := HZ.out 0 hn0
  have HP1 := Lib.hid (pickZ_one y zs)
  generalize zs.getD 0 0 = z0 at c0 z1 z2 HP1
  clear hx hy hv hs h hcell HS
  go_enter Try.func76, Try.ntmps76
  go_wp2_with (first | (go_at_call 103; refine (sSquare _ _ _ _ _).mono ?_; rintro e w' ⟨rfl, rfl⟩) | (go_at_call 111; refine (sRoot _ _ q0 q1).mono ?_; rintro e w' ⟨rfl, rfl⟩; rw [HX.out]))
  rw [HY.out]
  go_loopw [12, 13] (fun s i wr => ∃ (k : Nat) (v : Int), 1 ≤ k ∧ k ≤ n ∧ i = .int .i64 k ∧ s = .int .i64 v ∧ Hid (pickZ y zs k = v) ∧ 1 ≤ v ∧ v ≤ 400 ∧ Below w.heap.size w wr) (fun _ i _ => n - (intOf i).toNat)
  case atStart => exact ⟨1, z0, by omega, hn0, rfl, rfl, HP1.out, z1, z2, by repeat' (first | (with_reducible exact Below.refl _ _) | (with_reducible assumption) | (with_reducible refine Below.alloc ?_ ?_ _) | (with_reducible refine Below.setCell ?_ ?_ _) | (with_reducible refine Below.drew ?_) | (with_reducible refine below_drewN ?_ _) | (with_reducible refine below_via (by with_reducible assumption) ?_ ?_) | go_size)⟩
  case round =>
    obtain ⟨k, u, hk1, hk, rfl, rfl, HU, v0, v1, hbel⟩ := hrel
    have hzz := hbel.size
    by_cases hlt : k < n
    · obtain ⟨hbw, hcw⟩ := HC.out wr hbel
      have hc := hcw k hlt
      obtain ⟨m1, m2⟩ := HZ.out k hlt
      generalize hzk : zs.getD k 0 = zk at hc m1 m2
      have HK := Lib.hid hzk
      clear hzk hcw c0
      have k0 : (0 : Int) ≤ (k : Int) := Int.natCast_nonneg _
      have k1 : (k : Int) < (n : Int) := by omega
      by_cases hq : distV (zk - y) < distV (u - y)
      · have HE := Lib.hid (pickZ_yes HK.out HU.out hq)
        go_wp2_with (go_at_call 112; refine (sAbsN _ _ (by omega) (by omega)).mono ?_; rintro e w' ⟨rfl, rfl⟩)
        go_roundw
        case rel => exact ⟨k + 1, zk, by omega, by omega, by go_num, rfl, HE.out, m1, m2, by repeat' (first | (with_reducible exact Below.refl _ _) | (with_reducible assumption) | (with_reducible refine Below.alloc ?_ ?_ _) | (with_reducible refine Below.setCell ?_ ?_ _) | (with_reducible refine Below.drew ?_) | (with_reducible refine below_drewN ?_ _) | (with_reducible refine below_via (by with_reducible assumption) ?_ ?_) | go_size)⟩
        case measure => simp [intOf]; omega
      · have HE := Lib.hid (pickZ_no HK.out HU.out hq)
        go_wp2_with (go_at_call 112; refine (sAbsN _ _ (by omega) (by omega)).mono ?_; rintro e w' ⟨rfl, rfl⟩)
        go_roundw
        case rel => exact ⟨k + 1, u, by omega, by omega, by go_num, rfl, HE.out, v0, v1, by repeat' (first | (with_reducible exact Below.refl _ _) | (with_reducible assumption) | (with_reducible refine Below.alloc ?_ ?_ _) | (with_reducible refine Below.setCell ?_ ?_ _) | (with_reducible refine Below.drew ?_) | (with_reducible refine below_drewN ?_ _) | (with_reducible refine below_via (by with_reducible assumption) ?_ ?_) | go_size)⟩
        case measure => simp [intOf]; omega
    · have hke : k = n := by omega
      have HE : Hid (u = v) := by
        have e := HU.out
        rw [hke] at e
        exact e.symm.trans HV.out
      clear hke
      go_wp2
      go_returns
      exact ⟨ret_int HE.out, by repeat' (first | (with_reducible exact Below.refl _ _) | (with_reducible assumption) | (with_reducible refine Below.alloc ?_ ?_ _) | (with_reducible refine Below.setCell ?_ ?_ _) | (with_reducible refine Below.drew ?_) | (with_reducible refine below_drewN ?_ _) | (with_reducible refine below_via (by with_reducible assumption) ?_ ?_) | go_size)⟩
set_option maxRecDepth 20000 in
set_option maxHeartbeats 2000000 in
theorem iNearest (ax ay bx bY num den : Int) (a : Option Addr) (n cp : Nat) (zs : List Int) (w : World) (h : Rd w a n zs) (g1 : spotB ax ay = true) (g2 : spotB bx bY = true) (g3 : 1 ≤ num) (g4 : num ≤ 1000000) (g5 : 1 ≤ den) (g6 : den ≤ 1000) (hn0 : 0 < n) (hn8 : n ≤ 8) (hs : sizesB zs n = true) (v : Int) (hv : pickZ (wantZ (sqV ax ay bx bY) num den) zs n = v) :
    Calls Try.prog 78 #[.agg #[.int .i64 ax, .int .i64 ay], .agg #[.int .i64 bx, .int .i64 bY], .int .i64 num, .int .i64 den, .slice a n cp] w fun e w' => e = .returned (.int .i64 v) ∧ Below w.heap.size w w' := by
  rw [← sqV_comm g1 g2] at hv
  obtain ⟨-, q0, q1⟩ := sqV_eq g2 g1
  obtain ⟨r0, r1⟩ := rootZ_bd q0 q1
  obtain ⟨x, hx⟩ : ∃ x, rootZ (sqV bx bY ax ay) = x := ⟨_, rfl⟩
  have HX := Lib.hid hx
  rw [hx] at r0 r1
  obtain ⟨u1, u2, u3, u4⟩ := want_bd r0 r1 g3 g4 g5 g6
  obtain ⟨y, hy⟩ : ∃ y, (x * den + num) / (2 * num) + 7 = y := ⟨_, rfl⟩
  have HV : Hid (pickZ y zs n = v) := by rw [← hy, ← hx]; exact hv
  have HY := Lib.hid hy
  have y1 : 7 ≤ y := by omega
  have y2 : y ≤ 12585007 := by omega
  have HS := Lib.hid hs
  obtain ⟨b, off, rfl, hb, hcell⟩ := h.2 hn0
  have HC : Hid (∀ wr, Below w.heap.size w wr → b < wr.heap.size ∧ ∀ i, i < n → wr.cell? ⟨b, off + i, none⟩ = some (.int .i64 (zs.getD i 0))) := fun wr h' => ⟨Nat.lt_of_lt_of_le hb h'.size, fun i hi => (h'.cell (p := ⟨b, off + i, none⟩) hb).trans (hcell i hi)⟩
  have c0 : w.cell? ⟨b, off, none⟩ = some (.int .i64 (zs.getD 0 0)) := by simpa using hcell 0 hn0
  have hb1 : b < w.heap.size + 1 := by omega
  have hb2 : b < w.heap.size + 1 + 1 := by omega
  have hb3 : b < w.heap.size + 1 + 1 + 1 := by omega
  have hb4 : b < w.heap.size + 1 + 1 + 1 + 1 := by omega
  have HZ : Hid (∀ k, k < n → 1 ≤ zs.getD k 0 ∧ zs.getD k 0 ≤ 400) := fun k hk => sizesB_at hs hk
  obtain ⟨z1, z2⟩ := HZ.out 0 hn0
  have HP0 : Hid (pickZ y zs 0 = zs.getD 0 0) := rfl
  generalize zs.getD 0 0 = z0 at c0 z1 z2 HP0
  clear hx hy hv hs h hcell HS
  go_enter Try.func78, Try.ntmps78
  go_wp2_with (first | (go_at_call 105; refine (iMinus _ _ _ _ _).mono ?_; rintro e w' ⟨rfl, rfl⟩) | (go_at_call 106; refine (iSquare _ _ _).mono ?_; rintro e w' ⟨rfl, rfl⟩) | (go_at_call 113; rw [sq2V_minus]; refine (iRoot _ _ q0 q1).mono ?_; rintro e w' ⟨rfl, rfl⟩; rw [HX.out]))
  rw [HY.out]
  go_loopw [12, 33] (fun s i wr => ∃ (k : Nat) (v : Int), k ≤ n ∧ i = .int .i64 k ∧ s = .int .i64 v ∧ Hid (pickZ y zs k = v) ∧ 1 ≤ v ∧ v ≤ 400 ∧ Below w.heap.size w wr) (fun _ i _ => n - (intOf i).toNat)
  case atStart => exact ⟨0, z0, Nat.zero_le _, rfl, rfl, by first | rfl | exact HP0.out, z1, z2, by repeat' (first | (with_reducible exact Below.refl _ _) | (with_reducible assumption) | (with_reducible refine Below.alloc ?_ ?_ _) | (with_reducible refine Below.setCell ?_ ?_ _) | (with_reducible refine Below.drew ?_) | (with_reducible refine below_drewN ?_ _) | (with_reducible refine below_via (by with_reducible assumption) ?_ ?_) | go_size)⟩
  case round =>
    obtain ⟨k, u, hk, rfl, rfl, HU, v0, v1, hbel⟩ := hrel
    have hzz := hbel.size
    by_cases hlt : k < n
    · obtain ⟨hbw, hcw⟩ := HC.out wr hbel
      have hc := hcw k hlt
      obtain ⟨m1, m2⟩ := HZ.out k hlt
      generalize hzk : zs.getD k 0 = zk at hc m1 m2
      have HK := Lib.hid hzk
      clear hzk hcw c0
      have k0 : (0 : Int) ≤ (k : Int) := Int.natCast_nonneg _
      have k1 : (k : Int) < (n : Int) := by omega
      by_cases hq : distV (zk - y) < distV (u - y)
      · have HE := Lib.hid (pickZ_yes HK.out HU.out hq)
        go_wp2_with (go_at_call 114; refine (iDist _ _ (by omega) (by omega)).mono ?_; rintro e w' ⟨rfl, rfl⟩)
        go_roundw
        case rel => exact ⟨k + 1, zk, by omega, by go_num, rfl, HE.out, m1, m2, by repeat' (first | (with_reducible exact Below.refl _ _) | (with_reducible assumption) | (with_reducible refine Below.alloc ?_ ?_ _) | (with_reducible refine Below.setCell ?_ ?_ _) | (with_reducible refine Below.drew ?_) | (with_reducible refine below_drewN ?_ _) | (with_reducible refine below_via (by with_reducible assumption) ?_ ?_) | go_size)⟩
        case measure => simp [intOf]; omega
      · have HE := Lib.hid (pickZ_no HK.out HU.out hq)
        go_wp2_with (go_at_call 114; refine (iDist _ _ (by omega) (by omega)).mono ?_; rintro e w' ⟨rfl, rfl⟩)
        go_roundw
        case rel => exact ⟨k + 1, u, by omega, by go_num, rfl, HE.out, v0, v1, by repeat' (first | (with_reducible exact Below.refl _ _) | (with_reducible assumption) | (with_reducible refine Below.alloc ?_ ?_ _) | (with_reducible refine Below.setCell ?_ ?_ _) | (with_reducible refine Below.drew ?_) | (with_reducible refine below_drewN ?_ _) | (with_reducible refine below_via (by with_reducible assumption) ?_ ?_) | go_size)⟩
        case measure => simp [intOf]; omega
    · have hke : k = n := by omega
      have HE : Hid (u = v) := by
        have e := HU.out
        rw [hke] at e
        exact e.symm.trans HV.out
      clear hke
      go_wp2
      go_returns
      exact ⟨ret_int HE.out, by repeat' (first | (with_reducible exact Below.refl _ _) | (with_reducible assumption) | (with_reducible refine Below.alloc ?_ ?_ _) | (with_reducible refine Below.setCell ?_ ?_ _) | (with_reducible refine Below.drew ?_) | (with_reducible refine below_drewN ?_ _) | (with_reducible refine below_via (by with_reducible assumption) ?_ ?_) | go_size)⟩
end Go.Proofs.Ytdbecdgiafjkfaa
