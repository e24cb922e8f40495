/-
  DERIVED. ModuleSize.
-/
import Derived.Test.YtbcbdphnbfjhoaaRowV
import Derived.Conc.MuLone
import Derived.BigQuiet
namespace Go.Proofs.Ytbcbdphnbfjhoaa
open Go.RowKit
set_option linter.unusedVariables false
def modW (L : List F4) (k : Nat) : Int := (L.getD k (0, 0, 0, 0)).2.2.2
def modH (L : List F4) (k : Nat) : Int := (L.getD k (0, 0, 0, 0)).2.2.1
def modS (L : List F4) : Nat → Int
  | 0 => 0
  | k + 1 => modS L k + modW L k + modH L k
def modK (L : List F4) (k : Nat) : Bool := inB (modW L k) 1 40000 && inB (modH L k) 1 40000
def modB (L : List F4) (n : Nat) : Bool := (List.range n).all (modK L)
theorem modB_yes {L : List F4} {n : Nat} (h : ∀ j, j < n → modK L j = true) : modB L n = true := by
  rw [modB, List.all_eq_true]
  intro j hj
  exact h j (List.mem_range.1 hj)
theorem modB_no {L : List F4} {n k : Nat} (hk : k < n) (h : modK L k = false) : modB L n = false := by
  rw [modB, List.all_eq_false]
  exact ⟨k, List.mem_range.2 hk, by rw [h]; decide⟩
theorem modS_succ {L : List F4} {k : Nat} {x y s : Int} (hs : modS L k = s) (hx : modW L k = x) (hy : modH L k = y) : modS L (k + 1) = s + x + y := by rw [modS, hs, hx, hy]
theorem modK_no1 {L : List F4} {k : Nat} {x : Int} (hx : modW L k = x) (h : inB x 1 40000 = false) : modK L k = false := by simp [modK, hx, h]
theorem modK_no2 {L : List F4} {k : Nat} {y : Int} (hy : modH L k = y) (h : inB y 1 40000 = false) : modK L k = false := by simp [modK, hy, h]
theorem modK_yes {L : List F4} {k : Nat} {x y : Int} (hx : modW L k = x) (hy : modH L k = y) (h1 : inB x 1 40000 = true) (h2 : inB y 1 40000 = true) : modK L k = true := by simp [modK, hx, hy, h1, h2]
def modOut (L : List F4) (n : Nat) : Int × Int × Int := if inB n 1 60 = true then (if modB L n = true then (modS L n, 14 * (n : Int), 0) else (0, 0, 2)) else (0, 0, 3)
theorem modOut_no {L : List F4} {n : Nat} (h : inB n 1 60 = false) : modOut L n = (0, 0, 3) := by simp [modOut, h]
theorem modOut_rng {L : List F4} {n : Nat} (h : inB n 1 60 = true) (h2 : modB L n = false) : modOut L n = (0, 0, 2) := by simp [modOut, h, h2]
theorem modOut_ok {L : List F4} {n : Nat} (h : inB n 1 60 = true) (h2 : modB L n = true) : modOut L n = (modS L n, 14 * (n : Int), 0) := by simp [modOut, h, h2]
theorem ret3_of {x y z a b c : Int} (h : ((x, y, z) : Int × Int × Int) = (a, b, c)) : Ending.returned (.tuple #[.int .i64 x, .int .i64 y, .int .i64 z]) = .returned (.tuple #[.int .i64 a, .int .i64 b, .int .i64 c]) := by
  injection h with h1 h; injection h with h2 h3; rw [h1, h2, h3]
set_option maxHeartbeats 2000000 in
theorem sModuleSize (a : Option Addr) (n cp : Nat) (L : List F4) (w : World) (h : RdV w a 4 n (finV L)) (hn : n ≤ 1048576) (x1 x2 x3 : Int) (hd : modOut L n = (x1, x2, x3)) :
    Calls Try.prog 44 #[.slice a n cp] w fun e w' => e = .returned (.tuple #[.int .i64 x1, .int .i64 x2, .int .i64 x3]) ∧ Below w.heap.size w w' := by
  have HD := Lib.hid hd
  clear hd
  cases h1 : inB (n : Int) 1 60
  · have HE := Lib.hid (modOut_no (L := L) h1)
    clear h
    go_enter Try.func44, Try.ntmps44
    go_wp2_with (go_at_call 81; refine (sIn _ _ _ _).mono ?_; rintro e w' ⟨rfl, rfl⟩)
    go_returns
    exact ⟨ret3_of (HE.out.symm.trans HD.out), by repeat' (first | (with_reducible exact Below.refl _ _) | (with_reducible assumption) | (with_reducible refine Below.alloc ?_ ?_ _) | (with_reducible refine Below.setCell ?_ ?_ _) | (with_reducible refine Below.drew ?_) | (with_reducible refine below_drewN ?_ _) | (with_reducible refine below_via (by with_reducible assumption) ?_ ?_) | go_size)⟩
  · obtain ⟨i1, i2⟩ := inB_iff.1 h1
    have hp : 0 < n := by omega
    have HH := Lib.hid h
    have HN1 := Lib.hid h1
    clear h
    go_enter Try.func44, Try.ntmps44
    go_wp2_with (go_at_call 81; refine (sIn _ _ _ _).mono ?_; rintro e w' ⟨rfl, rfl⟩)
    go_loopw [5, 6] (fun s i wr => ∃ (k : Nat) (v : Int), k ≤ n ∧ i = .int .i64 k ∧ s = .int .i64 v ∧ Hid (modS L k = v) ∧ 0 ≤ v ∧ v ≤ 80000 * (k : Int) ∧ Hid (∀ j, j < k → modK L j = true) ∧ Below w.heap.size w wr) (fun _ i _ => n - (intOf i).toNat)
    case atStart => exact ⟨0, 0, Nat.zero_le _, rfl, rfl, rfl, by omega, by omega, fun j hj => absurd hj (by omega), by repeat' (first | (with_reducible exact Below.refl _ _) | (with_reducible assumption) | (with_reducible refine Below.alloc ?_ ?_ _) | (with_reducible refine Below.setCell ?_ ?_ _) | (with_reducible refine Below.drew ?_) | (with_reducible refine below_drewN ?_ _) | (with_reducible refine below_via (by with_reducible assumption) ?_ ?_) | go_size)⟩
    case round =>
      obtain ⟨k, v, hk, rfl, rfl, HV, v0, v1, HA, hbel⟩ := hrel
      have hzz := hbel.size
      by_cases hlt : k < n
      · obtain ⟨b, off, rfl, hb, c0, c1, c2, c3⟩ := (HH.out.below hbel).fin hlt
        generalize hx0 : (L.getD k (0, 0, 0, 0)).1 = y0 at c0
        generalize hx1 : (L.getD k (0, 0, 0, 0)).2.1 = y1 at c1
        generalize hx2 : (L.getD k (0, 0, 0, 0)).2.2.1 = y at c2
        generalize hx3 : (L.getD k (0, 0, 0, 0)).2.2.2 = x at c3
        have HX : Hid (modW L k = x) := hx3
        have HY : Hid (modH L k = y) := hx2
        clear hx0 hx1 hx2 hx3
        have k0 : (0 : Int) ≤ (k : Int) := Int.natCast_nonneg _
        have k1 : (k : Int) < (n : Int) := by omega
        rcases and2 (inB x 1 40000) (inB y 1 40000) with h2 | ⟨h2, h3⟩ | ⟨h2, h3⟩
        · have HE := Lib.hid (modOut_rng HN1.out (modB_no hlt (modK_no1 HX.out h2)))
          go_wp2_with (go_at_call 81; refine (sIn _ _ _ _).mono ?_; rintro e w' ⟨rfl, rfl⟩)
          go_returns
          exact ⟨ret3_of (HE.out.symm.trans HD.out), by repeat' (first | (with_reducible exact Below.refl _ _) | (with_reducible assumption) | (with_reducible refine Below.alloc ?_ ?_ _) | (with_reducible refine Below.setCell ?_ ?_ _) | (with_reducible refine Below.drew ?_) | (with_reducible refine below_drewN ?_ _) | (with_reducible refine below_via (by with_reducible assumption) ?_ ?_) | go_size)⟩
        · have HE := Lib.hid (modOut_rng HN1.out (modB_no hlt (modK_no2 HY.out h3)))
          go_wp2_with (go_at_call 81; refine (sIn _ _ _ _).mono ?_; rintro e w' ⟨rfl, rfl⟩)
          go_returns
          exact ⟨ret3_of (HE.out.symm.trans HD.out), by repeat' (first | (with_reducible exact Below.refl _ _) | (with_reducible assumption) | (with_reducible refine Below.alloc ?_ ?_ _) | (with_reducible refine Below.setCell ?_ ?_ _) | (with_reducible refine Below.drew ?_) | (with_reducible refine below_drewN ?_ _) | (with_reducible refine below_via (by with_reducible assumption) ?_ ?_) | go_size)⟩
        · obtain ⟨m1, m2⟩ := inB_iff.1 h2
          obtain ⟨m3, m4⟩ := inB_iff.1 h3
          have HS := Lib.hid (modS_succ HV.out HX.out HY.out)
          have HK : Hid (∀ j, j < k + 1 → modK L j = true) := fun j hj => by
            rcases Nat.lt_or_ge j k with h4 | h4
            · exact HA.out j h4
            · obtain rfl : j = k := by omega
              exact modK_yes HX.out HY.out h2 h3
          go_wp2_with (go_at_call 81; refine (sIn _ _ _ _).mono ?_; rintro e w' ⟨rfl, rfl⟩)
          go_quiet (fail)
          go_wp2
          go_roundw
          case rel => exact ⟨k + 1, v + x + y, by omega, by go_num, by go_num, HS, by omega, by omega, HK, by repeat' (first | (with_reducible exact Below.refl _ _) | (with_reducible assumption) | (with_reducible refine Below.alloc ?_ ?_ _) | (with_reducible refine Below.setCell ?_ ?_ _) | (with_reducible refine Below.drew ?_) | (with_reducible refine below_drewN ?_ _) | (with_reducible refine below_via (by with_reducible assumption) ?_ ?_) | go_size)⟩
          case measure => simp [intOf]; omega
      · have hke : k = n := by omega
        have HE : Hid ((v, 14 * (n : Int), (0 : Int)) = (x1, x2, x3)) := by
          have e := modOut_ok HN1.out (modB_yes (L := L) (n := n) (fun j hj => HA.out j (by omega)))
          rw [← hke, HV.out, hke, HD.out] at e
          exact e.symm
        clear hke
        go_wp2
        go_returns
        exact ⟨ret3_of HE.out, by repeat' (first | (with_reducible exact Below.refl _ _) | (with_reducible assumption) | (with_reducible refine Below.alloc ?_ ?_ _) | (with_reducible refine Below.setCell ?_ ?_ _) | (with_reducible refine Below.drew ?_) | (with_reducible refine below_drewN ?_ _) | (with_reducible refine below_via (by with_reducible assumption) ?_ ?_) | go_size)⟩
set_option maxHeartbeats 2000000 in
theorem iModuleSize (a : Option Addr) (n cp : Nat) (L : List F4) (w : World) (h : RdV w a 4 n (finV L)) (hn : n ≤ 1048576) (x1 x2 x3 : Int) (hd : modOut L n = (x1, x2, x3)) :
    Calls Try.prog 46 #[.slice a n cp] w fun e w' => e = .returned (.tuple #[.int .i64 x1, .int .i64 x2, .int .i64 x3]) ∧ Below w.heap.size w w' := by
  have HD := Lib.hid hd
  clear hd
  cases h1 : inB (n : Int) 1 60
  · have HE := Lib.hid (modOut_no (L := L) h1)
    clear h
    go_enter Try.func46, Try.ntmps46
    go_wp2_with (go_at_call 83; refine (iIn _ _ _ _).mono ?_; rintro e w' ⟨rfl, rfl⟩)
    go_returns
    exact ⟨ret3_of (HE.out.symm.trans HD.out), by repeat' (first | (with_reducible exact Below.refl _ _) | (with_reducible assumption) | (with_reducible refine Below.alloc ?_ ?_ _) | (with_reducible refine Below.setCell ?_ ?_ _) | (with_reducible refine Below.drew ?_) | (with_reducible refine below_drewN ?_ _) | (with_reducible refine below_via (by with_reducible assumption) ?_ ?_) | go_size)⟩
  · obtain ⟨i1, i2⟩ := inB_iff.1 h1
    have hp : 0 < n := by omega
    have HH := Lib.hid h
    have HN1 := Lib.hid h1
    clear h
    go_enter Try.func46, Try.ntmps46
    go_wp2_with (go_at_call 83; refine (iIn _ _ _ _).mono ?_; rintro e w' ⟨rfl, rfl⟩)
    go_loopw [5, 14] (fun s i wr => ∃ (k : Nat) (v : Int), k ≤ n ∧ i = .int .i64 k ∧ s = .int .i64 v ∧ Hid (modS L k = v) ∧ 0 ≤ v ∧ v ≤ 80000 * (k : Int) ∧ Hid (∀ j, j < k → modK L j = true) ∧ Below w.heap.size w wr) (fun _ i _ => n - (intOf i).toNat)
    case atStart => exact ⟨0, 0, Nat.zero_le _, rfl, rfl, rfl, by omega, by omega, fun j hj => absurd hj (by omega), by repeat' (first | (with_reducible exact Below.refl _ _) | (with_reducible assumption) | (with_reducible refine Below.alloc ?_ ?_ _) | (with_reducible refine Below.setCell ?_ ?_ _) | (with_reducible refine Below.drew ?_) | (with_reducible refine below_drewN ?_ _) | (with_reducible refine below_via (by with_reducible assumption) ?_ ?_) | go_size)⟩
    case round =>
      obtain ⟨k, v, hk, rfl, rfl, HV, v0, v1, HA, hbel⟩ := hrel
      have hzz := hbel.size
      by_cases hlt : k < n
      · obtain ⟨b, off, rfl, hb, c0, c1, c2, c3⟩ := (HH.out.below hbel).fin hlt
        generalize hx0 : (L.getD k (0, 0, 0, 0)).1 = y0 at c0
        generalize hx1 : (L.getD k (0, 0, 0, 0)).2.1 = y1 at c1
        generalize hx2 : (L.getD k (0, 0, 0, 0)).2.2.1 = y at c2
        generalize hx3 : (L.getD k (0, 0, 0, 0)).2.2.2 = x at c3
        have HX : Hid (modW L k = x) := hx3
        have HY : Hid (modH L k = y) := hx2
        clear hx0 hx1 hx2 hx3
        have k0 : (0 : Int) ≤ (k : Int) := Int.natCast_nonneg _
        have k1 : (k : Int) < (n : Int) := by omega
        rcases and2 (inB x 1 40000) (inB y 1 40000) with h2 | ⟨h2, h3⟩ | ⟨h2, h3⟩
        · have HE := Lib.hid (modOut_rng HN1.out (modB_no hlt (modK_no1 HX.out h2)))
          go_wp2_with (go_at_call 83; refine (iIn _ _ _ _).mono ?_; rintro e w' ⟨rfl, rfl⟩)
          go_returns
          exact ⟨ret3_of (HE.out.symm.trans HD.out), by repeat' (first | (with_reducible exact Below.refl _ _) | (with_reducible assumption) | (with_reducible refine Below.alloc ?_ ?_ _) | (with_reducible refine Below.setCell ?_ ?_ _) | (with_reducible refine Below.drew ?_) | (with_reducible refine below_drewN ?_ _) | (with_reducible refine below_via (by with_reducible assumption) ?_ ?_) | go_size)⟩
        · have HE := Lib.hid (modOut_rng HN1.out (modB_no hlt (modK_no2 HY.out h3)))
          go_wp2_with (go_at_call 83; refine (iIn _ _ _ _).mono ?_; rintro e w' ⟨rfl, rfl⟩)
          go_returns
          exact ⟨ret3_of (HE.out.symm.trans HD.out), by repeat' (first | (with_reducible exact Below.refl _ _) | (with_reducible assumption) | (with_reducible refine Below.alloc ?_ ?_ _) | (with_reducible refine Below.setCell ?_ ?_ _) | (with_reducible refine Below.drew ?_) | (with_reducible refine below_drewN ?_ _) | (with_reducible refine below_via (by with_reducible assumption) ?_ ?_) | go_size)⟩
        · obtain ⟨m1, m2⟩ := inB_iff.1 h2
          obtain ⟨m3, m4⟩ := inB_iff.1 h3
          have HS := Lib.hid (modS_succ HV.out HX.out HY.out)
          have HK : Hid (∀ j, j < k + 1 → modK L j = true) := fun j hj => by
            rcases Nat.lt_or_ge j k with h4 | h4
            · exact HA.out j h4
            · obtain rfl : j = k := by omega
              exact modK_yes HX.out HY.out h2 h3
          go_wp2_with (go_at_call 83; refine (iIn _ _ _ _).mono ?_; rintro e w' ⟨rfl, rfl⟩)
          skip
          go_roundw
          case rel => exact ⟨k + 1, v + x + y, by omega, by go_num, by rw [Int.add_assoc], HS, by omega, by omega, HK, by repeat' (first | (with_reducible exact Below.refl _ _) | (with_reducible assumption) | (with_reducible refine Below.alloc ?_ ?_ _) | (with_reducible refine Below.setCell ?_ ?_ _) | (with_reducible refine Below.drew ?_) | (with_reducible refine below_drewN ?_ _) | (with_reducible refine below_via (by with_reducible assumption) ?_ ?_) | go_size)⟩
          case measure => simp [intOf]; omega
      · have hke : k = n := by omega
        have HE : Hid ((v, 14 * (n : Int), (0 : Int)) = (x1, x2, x3)) := by
          have e := modOut_ok HN1.out (modB_yes (L := L) (n := n) (fun j hj => HA.out j (by omega)))
          rw [← hke, HV.out, hke, HD.out] at e
          exact e.symm
        clear hke
        go_wp2
        go_returns
        exact ⟨ret3_of HE.out, by repeat' (first | (with_reducible exact Below.refl _ _) | (with_reducible assumption) | (with_reducible refine Below.alloc ?_ ?_ _) | (with_reducible refine Below.setCell ?_ ?_ _) | (with_reducible refine Below.drew ?_) | (with_reducible refine below_drewN ?_ _) | (with_reducible refine below_via (by with_reducible assumption) ?_ ?_) | go_size)⟩
end Go.Proofs.Ytbcbdphnbfjhoaa
