/-
  DERIVED. The walk of FnBinary.
-/
import Derived.Test.YtdbecdgiafjkfaaDBin
import Derived.Test.YtdbecdgiafjkfaaBinP
import Derived.Test.YtdbecdgiafjkfaaLikeG
import Derived.Test.YtdbecdgiafjkfaaLocI
import Derived.Test.YtdbecdgiafjkfaaInv2
namespace Go.Proofs.Ytdbecdgiafjkfaa
open Go.RowKit
set_option linter.unusedVariables false
set_option maxRecDepth 100000 in
set_option maxHeartbeats 8000000 in
theorem walk_FnBinary (code_a : Option Addr) (code_n code_c : Nat) (code_z : List Int) (w : World) (h_code : Ints .u8 w code_a code_n code_c code_z) :
    Calls Try.prog 11 #[.slice code_a code_n code_c] w fun e w' => e = .returned (.bool true) ∧ Below w.heap.size w w' := by
  obtain ⟨i0, hi, iz0, iz1, iz2⟩ := info_parts infoInt
  have hmx := h_code.max
  have HBY := Lib.hid h_code.bytes
  clear h_code
  by_cases hbig : 4096 < code_n
  · have tb : decide ((4096 : Int) < (code_n : Int)) = true := by simp; omega
    go_enter Try.func11, Try.ntmps11
    go_wp2_with fail
    refine (lBig _ _ _ _ hmx).mono ?_
    rintro e w' ⟨rfl, rfl⟩
    rw [tb]
    go_wp2
    go_returns
    exact ⟨rfl, by repeat' (first | (with_reducible exact Below.refl _ _) | (with_reducible assumption) | (with_reducible refine Below.alloc ?_ ?_ _) | (with_reducible refine Below.setCell ?_ ?_ _) | (with_reducible refine Below.drew ?_) | (with_reducible refine below_drewN ?_ _) | (with_reducible refine below_via (by with_reducible assumption) ?_ ?_) | go_size)⟩
  have tb : decide ((4096 : Int) < (code_n : Int)) = false := by simp; omega
  go_enter Try.func11, Try.ntmps11
  go_wp2_with fail
  refine (lBig _ _ _ _ hmx).mono ?_
  rintro e w' ⟨rfl, rfl⟩
  rw [tb]
  go_wp2_with fail
  refine (dBin _ _ _ _ HBY.out (by omega)).mono ?_
  rintro e w1 ⟨r, c, a, n, cp, zs, lim, rfl, hn, hcp, hrd, hb1⟩
  have hz1 := hb1.size
  obtain ⟨R, C, code, L, hI, hS, hcode⟩ := bin_code (r := r) (c := c) (limit := lim) (zs := zs) hn
  have HI := Lib.hid hI
  have HS := Lib.hid hS
  have HCO := Lib.hid hcode
  clear hI hS hcode HBY tb
  have b3 := Lib.hid (Box3.new w1 26 (.int .i64 r) (.int .i64 c) (.slice a n cp))
  go_wp2_with fail
  obtain ⟨W1, hW1⟩ : ∃ W1 : World, W1 = w1.alloc (.cells #[.int .i64 r, .int .i64 c, .slice a n cp] 26) := ⟨_, rfl⟩
  have hB : Below w1.heap.size w1 W1 := by rw [hW1]; repeat' (first | (with_reducible exact Below.refl _ _) | (with_reducible assumption) | (with_reducible refine Below.alloc ?_ ?_ _) | (with_reducible refine Below.setCell ?_ ?_ _) | (with_reducible refine Below.drew ?_) | (with_reducible refine below_drewN ?_ _) | (with_reducible refine below_via (by with_reducible assumption) ?_ ?_) | go_size)
  have hz2 : W1.heap.size = w1.heap.size + 1 := by rw [hW1]; simp
  have k3 : Hid (Box3 W1 w1.heap.size (.int .i64 r) (.int .i64 c) (.slice a n cp)) := by rw [hW1]; exact b3.out
  have HB1 : Hid (Below w.heap.size w W1) := hb1.trans (hB.mono hz1)
  have P1 : Hid (Rd W1 a n zs) := hrd.below hB
  rw [← hW1]
  clear hW1 b3 hB hb1 hrd
  refine (HI.out _ _ _ P1.out).mono ?_
  rintro e w2 ⟨a2, c2, rfl, ho2, hb2, hn2⟩
  have hz3 := hb2.size
  have hx3 := k3.out.keep hb2
  obtain ⟨_, _, _, _⟩ := hx3
  have HO2 := Lib.hid ho2
  clear ho2
  have b5 := Lib.hid (Box3.new w2 66 (.int .i64 R) (.int .i64 C) (.slice a2 L.length c2))
  go_wp2_with fail
  refine (HS.out _ _ _ (P1.out.below (by repeat' (first | (with_reducible exact Below.refl _ _) | (with_reducible assumption) | (with_reducible refine Below.alloc ?_ ?_ _) | (with_reducible refine Below.setCell ?_ ?_ _) | (with_reducible refine Below.drew ?_) | (with_reducible refine below_drewN ?_ _) | (with_reducible refine below_via (by with_reducible assumption) ?_ ?_) | go_size)))).mono ?_
  rintro e w3 ⟨a3, c3, rfl, ho3, hb3, hn3⟩
  have hz4 := hb3.size; try simp at hz4
  have HO3 := Lib.hid ho3
  clear ho3
  have hx3 := (k3.out.keep (by repeat' (first | (with_reducible exact Below.refl _ _) | (with_reducible assumption) | (with_reducible refine Below.alloc ?_ ?_ _) | (with_reducible refine Below.setCell ?_ ?_ _) | (with_reducible refine Below.drew ?_) | (with_reducible refine below_drewN ?_ _) | (with_reducible refine below_via (by with_reducible assumption) ?_ ?_) | go_size)) : Box3 w3 _ _ _ _)
  have hx5 := (b5.out.keep (by repeat' (first | (with_reducible exact Below.refl _ _) | (with_reducible assumption) | (with_reducible refine Below.alloc ?_ ?_ _) | (with_reducible refine Below.setCell ?_ ?_ _) | (with_reducible refine Below.drew ?_) | (with_reducible refine below_drewN ?_ _) | (with_reducible refine below_via (by with_reducible assumption) ?_ ?_) | go_size)) : Box3 w3 _ _ _ _)
  have K3 := Lib.hid hx3
  have K5 := Lib.hid hx5
  have P3 : Hid (Rd w3 a n zs) := P1.out.below (by repeat' (first | (with_reducible exact Below.refl _ _) | (with_reducible assumption) | (with_reducible refine Below.alloc ?_ ?_ _) | (with_reducible refine Below.setCell ?_ ?_ _) | (with_reducible refine Below.drew ?_) | (with_reducible refine below_drewN ?_ _) | (with_reducible refine below_via (by with_reducible assumption) ?_ ?_) | go_size))
  have G3 : Hid (Rd w3 a2 L.length L) := (own_rd HO2.out).below (by repeat' (first | (with_reducible exact Below.refl _ _) | (with_reducible assumption) | (with_reducible refine Below.alloc ?_ ?_ _) | (with_reducible refine Below.setCell ?_ ?_ _) | (with_reducible refine Below.drew ?_) | (with_reducible refine below_drewN ?_ _) | (with_reducible refine below_via (by with_reducible assumption) ?_ ?_) | go_size))
  have HB3 : Hid (Below w.heap.size w w3) := by
    have h := HB1.out
    have hs := h.size
    unfold Hid
    repeat' (first | (with_reducible exact Below.refl _ _) | (with_reducible assumption) | (with_reducible refine Below.alloc ?_ ?_ _) | (with_reducible refine Below.setCell ?_ ?_ _) | (with_reducible refine Below.drew ?_) | (with_reducible refine below_drewN ?_ _) | (with_reducible refine below_via (by with_reducible assumption) ?_ ?_) | go_size)
  obtain ⟨_, _, _, _⟩ := hx3
  obtain ⟨_, _, _, _⟩ := hx5
  clear hb2 hb3 k3 b5 HO2 P1 HB1
  have b7 := Lib.hid (Box3.new w3 66 (.int .i64 R) (.int .i64 C) (.slice a3 L.length c3))
  go_wp2_with fail
  refine (lLikeG R C _ _ _ _ _ _ L _ (G3.out.below (by repeat' (first | (with_reducible exact Below.refl _ _) | (with_reducible assumption) | (with_reducible refine Below.alloc ?_ ?_ _) | (with_reducible refine Below.setCell ?_ ?_ _) | (with_reducible refine Below.drew ?_) | (with_reducible refine below_drewN ?_ _) | (with_reducible refine below_via (by with_reducible assumption) ?_ ?_) | go_size))) ((own_rd HO3.out).below (by repeat' (first | (with_reducible exact Below.refl _ _) | (with_reducible assumption) | (with_reducible refine Below.alloc ?_ ?_ _) | (with_reducible refine Below.setCell ?_ ?_ _) | (with_reducible refine Below.drew ?_) | (with_reducible refine below_drewN ?_ _) | (with_reducible refine below_via (by with_reducible assumption) ?_ ?_) | go_size))) hn2).mono ?_
  rintro e w4 ⟨rfl, hb4⟩
  have hz5 := hb4.size; try simp at hz5
  have hx3 := (K3.out.keep (by repeat' (first | (with_reducible exact Below.refl _ _) | (with_reducible assumption) | (with_reducible refine Below.alloc ?_ ?_ _) | (with_reducible refine Below.setCell ?_ ?_ _) | (with_reducible refine Below.drew ?_) | (with_reducible refine below_drewN ?_ _) | (with_reducible refine below_via (by with_reducible assumption) ?_ ?_) | go_size)) : Box3 w4 _ _ _ _)
  have hx5 := (K5.out.keep (by repeat' (first | (with_reducible exact Below.refl _ _) | (with_reducible assumption) | (with_reducible refine Below.alloc ?_ ?_ _) | (with_reducible refine Below.setCell ?_ ?_ _) | (with_reducible refine Below.drew ?_) | (with_reducible refine below_drewN ?_ _) | (with_reducible refine below_via (by with_reducible assumption) ?_ ?_) | go_size)) : Box3 w4 _ _ _ _)
  have P4 : Hid (Rd w4 a n zs) := P3.out.below (by repeat' (first | (with_reducible exact Below.refl _ _) | (with_reducible assumption) | (with_reducible refine Below.alloc ?_ ?_ _) | (with_reducible refine Below.setCell ?_ ?_ _) | (with_reducible refine Below.drew ?_) | (with_reducible refine below_drewN ?_ _) | (with_reducible refine below_via (by with_reducible assumption) ?_ ?_) | go_size))
  have G4 : Hid (Rd w4 a2 L.length L) := G3.out.below (by repeat' (first | (with_reducible exact Below.refl _ _) | (with_reducible assumption) | (with_reducible refine Below.alloc ?_ ?_ _) | (with_reducible refine Below.setCell ?_ ?_ _) | (with_reducible refine Below.drew ?_) | (with_reducible refine below_drewN ?_ _) | (with_reducible refine below_via (by with_reducible assumption) ?_ ?_) | go_size))
  have HB4 : Hid (Below w.heap.size w w4) := by
    have h := HB3.out
    have hs := h.size
    unfold Hid
    repeat' (first | (with_reducible exact Below.refl _ _) | (with_reducible assumption) | (with_reducible refine Below.alloc ?_ ?_ _) | (with_reducible refine Below.setCell ?_ ?_ _) | (with_reducible refine Below.drew ?_) | (with_reducible refine below_drewN ?_ _) | (with_reducible refine below_via (by with_reducible assumption) ?_ ?_) | go_size)
  have K34 := Lib.hid hx3
  have K54 := Lib.hid hx5
  clear hb4 K3 K5 P3 G3 HB3 HO3 b7
  rcases HCO.out with (rfl | rfl) | ⟨rfl, hri, rfl, rfl, rfl⟩
  · go_wp2
    go_returns
    exact ⟨rfl, HB4.out⟩
  · go_wp2
    go_returns
    exact ⟨rfl, HB4.out⟩
  obtain ⟨hr, hlim⟩ : rasterB R C n zs = true ∧ inB lim 0 256 = true := by simpa using hri
  obtain ⟨r1, r2, r3, r4, r5, r6, r7, r8⟩ := rasterB_yes hr
  have H7 := Lib.hid r7
  have HR := Lib.hid hr
  have HL := Lib.hid P4.out.1
  have hll : (binL lim zs).length = n := by unfold binL; rw [List.length_map]; exact HL.out
  have HLL := Lib.hid hll
  have HDP : Hid (dpO R C lim n zs = (cntV (fun x => decide (x < lim)) zs n : Int)) := by unfold Hid dpO selI; rw [hri]; rfl
  have HCV : Hid (codeV R C lim n zs = 0) := (codeV_ok hri).1
  have HGB : Hid (gridB R C (binL lim zs).length (binL lim zs) = true) := by unfold Hid; rw [hll]; exact bin_grid hr
  have HDC : Hid (dcO R C (binL lim zs).length (binL lim zs) = (cntV (fun x => decide (x < lim)) zs n : Int)) := by
    unfold Hid dcO selI
    rw [HGB.out, hll]
    show ((cntV (fun x => x == 1) (binL lim zs) n : Nat) : Int) = _
    rw [cntV_bin lim zs n (by rw [HL.out]; exact Nat.le_refl _)]
  have HDE : Hid (dcE R C (binL lim zs).length (binL lim zs) = 0) := by unfold Hid dcE selI; rw [HGB.out]; rfl
  obtain ⟨B, hBB⟩ : ∃ B, binL lim zs = B := ⟨_, rfl⟩
  rw [hBB] at HLL HGB HDC HDE G4 hn2 hx5 K54 ⊢
  clear hr hlim hri hll r5 r6 r7 r8 HCO HI HS hBB
  obtain ⟨_, _, _, _⟩ := hx3
  obtain ⟨_, _, _, _⟩ := hx5
  go_wp2_with fail
  refine (iDarkPixels R C a n cp zs lim _ (P4.out.below (by repeat' (first | (with_reducible exact Below.refl _ _) | (with_reducible assumption) | (with_reducible refine Below.alloc ?_ ?_ _) | (with_reducible refine Below.setCell ?_ ?_ _) | (with_reducible refine Below.drew ?_) | (with_reducible refine below_drewN ?_ _) | (with_reducible refine below_via (by with_reducible assumption) ?_ ?_) | go_size))) hn).mono ?_
  rw [HDP.out, HCV.out]
  rintro e w5 ⟨rfl, hb5⟩
  have hz6 := hb5.size
  have hx3 := (K34.out.keep (by repeat' (first | (with_reducible exact Below.refl _ _) | (with_reducible assumption) | (with_reducible refine Below.alloc ?_ ?_ _) | (with_reducible refine Below.setCell ?_ ?_ _) | (with_reducible refine Below.drew ?_) | (with_reducible refine below_drewN ?_ _) | (with_reducible refine below_via (by with_reducible assumption) ?_ ?_) | go_size)) : Box3 w5 _ _ _ _)
  have hx5 := (K54.out.keep (by repeat' (first | (with_reducible exact Below.refl _ _) | (with_reducible assumption) | (with_reducible refine Below.alloc ?_ ?_ _) | (with_reducible refine Below.setCell ?_ ?_ _) | (with_reducible refine Below.drew ?_) | (with_reducible refine below_drewN ?_ _) | (with_reducible refine below_via (by with_reducible assumption) ?_ ?_) | go_size)) : Box3 w5 _ _ _ _)
  obtain ⟨_, _, _, _⟩ := hx3
  obtain ⟨_, _, _, _⟩ := hx5
  go_wp2_with fail
  refine (iDarkCountG R C a2 B.length c2 B _ (G4.out.below (by repeat' (first | (with_reducible exact Below.refl _ _) | (with_reducible assumption) | (with_reducible refine Below.alloc ?_ ?_ _) | (with_reducible refine Below.setCell ?_ ?_ _) | (with_reducible refine Below.drew ?_) | (with_reducible refine below_drewN ?_ _) | (with_reducible refine below_via (by with_reducible assumption) ?_ ?_) | go_size))) hn2).mono ?_
  rw [HDC.out, HDE.out]
  rintro e w6 ⟨rfl, hb6⟩
  have hz7 := hb6.size
  have K3 := Lib.hid (K34.out.keep (by repeat' (first | (with_reducible exact Below.refl _ _) | (with_reducible assumption) | (with_reducible refine Below.alloc ?_ ?_ _) | (with_reducible refine Below.setCell ?_ ?_ _) | (with_reducible refine Below.drew ?_) | (with_reducible refine below_drewN ?_ _) | (with_reducible refine below_via (by with_reducible assumption) ?_ ?_) | go_size)) : Box3 w6 _ _ _ _)
  have P6 : Hid (Rd w6 a n zs) := P4.out.below (by repeat' (first | (with_reducible exact Below.refl _ _) | (with_reducible assumption) | (with_reducible refine Below.alloc ?_ ?_ _) | (with_reducible refine Below.setCell ?_ ?_ _) | (with_reducible refine Below.drew ?_) | (with_reducible refine below_drewN ?_ _) | (with_reducible refine below_via (by with_reducible assumption) ?_ ?_) | go_size))
  have HB6 : Hid (Below w.heap.size w w6) := by
    have h := HB4.out
    have hs := h.size
    unfold Hid
    repeat' (first | (with_reducible exact Below.refl _ _) | (with_reducible assumption) | (with_reducible refine Below.alloc ?_ ?_ _) | (with_reducible refine Below.setCell ?_ ?_ _) | (with_reducible refine Below.drew ?_) | (with_reducible refine below_drewN ?_ _) | (with_reducible refine below_via (by with_reducible assumption) ?_ ?_) | go_size)
  have hx3 := K3.out
  obtain ⟨_, _, _, _⟩ := hx3
  clear hb5 hb6 K34 K54 P4 G4 HB4 HDP HCV HGB HDC HDE
  go_wp2_with fail
  refine (iInvertRaster_ok R C a n cp zs _ P6.out hn HR.out).mono ?_
  rintro e w7 ⟨a7, c7, rfl, ho7, hb7, hn7⟩
  have hm7 : (zs.map fun x => 255 - x).length = n := by rw [List.length_map]; exact HL.out
  have hr7 := inv_rast HR.out
  rw [hm7] at ho7 hn7 ⊢
  have HR7 := Lib.hid hr7
  have HII := Lib.hid (inv_inv zs)
  obtain ⟨Z, hZ⟩ : ∃ Z, (zs.map fun x => 255 - x) = Z := ⟨_, rfl⟩
  rw [hZ] at ho7 HR7 HII
  have HO7 := Lib.hid ho7
  have hz8 := hb7.size
  have b13 := Lib.hid (Box3.new w7 26 (.int .i64 R) (.int .i64 C) (.slice a7 n c7))
  clear hm7 hr7 hZ ho7
  go_wp2_with fail
  refine (iInvertRaster_ok R C a7 n c7 Z _ ((own_rd HO7.out).below (by repeat' (first | (with_reducible exact Below.refl _ _) | (with_reducible assumption) | (with_reducible refine Below.alloc ?_ ?_ _) | (with_reducible refine Below.setCell ?_ ?_ _) | (with_reducible refine Below.drew ?_) | (with_reducible refine below_drewN ?_ _) | (with_reducible refine below_via (by with_reducible assumption) ?_ ?_) | go_size))) hn HR7.out).mono ?_
  rw [HII.out]
  rintro e w8 ⟨a8, c8, rfl, ho8, hb8, hn8⟩
  have hz9 := hb8.size; try simp at hz9
  rw [HL.out] at ho8 hn8 ⊢
  have HO8 := Lib.hid ho8
  have hx3 := (K3.out.keep (by repeat' (first | (with_reducible exact Below.refl _ _) | (with_reducible assumption) | (with_reducible refine Below.alloc ?_ ?_ _) | (with_reducible refine Below.setCell ?_ ?_ _) | (with_reducible refine Below.drew ?_) | (with_reducible refine below_drewN ?_ _) | (with_reducible refine below_via (by with_reducible assumption) ?_ ?_) | go_size)) : Box3 w8 _ _ _ _)
  have P8 : Hid (Rd w8 a n zs) := P6.out.below (by repeat' (first | (with_reducible exact Below.refl _ _) | (with_reducible assumption) | (with_reducible refine Below.alloc ?_ ?_ _) | (with_reducible refine Below.setCell ?_ ?_ _) | (with_reducible refine Below.drew ?_) | (with_reducible refine below_drewN ?_ _) | (with_reducible refine below_via (by with_reducible assumption) ?_ ?_) | go_size))
  have HB8 : Hid (Below w.heap.size w w8) := by
    have h := HB6.out
    have hs := h.size
    unfold Hid
    repeat' (first | (with_reducible exact Below.refl _ _) | (with_reducible assumption) | (with_reducible refine Below.alloc ?_ ?_ _) | (with_reducible refine Below.setCell ?_ ?_ _) | (with_reducible refine Below.drew ?_) | (with_reducible refine below_drewN ?_ _) | (with_reducible refine below_via (by with_reducible assumption) ?_ ?_) | go_size)
  have K38 := Lib.hid hx3
  obtain ⟨_, _, _, _⟩ := hx3
  have b15 := Lib.hid (Box3.new w8 26 (.int .i64 R) (.int .i64 C) (.slice a8 n c8))
  clear hb7 hb8 b13 HO7 P6 K3 HB6 ho8 HR7 HII
  obtain ⟨Ro, rfl⟩ := Int.eq_ofNat_of_zero_le (show 0 ≤ R by omega)
  obtain ⟨Co, rfl⟩ := Int.eq_ofNat_of_zero_le (show 0 ≤ C by omega)
  go_wp2_with fail
  have hloc := iLocal_ok Ro Co 0 (-1) a n cp zs ((w8.alloc (.cells #[.int .i64 (Ro : Int), .int .i64 (Co : Int), .slice a8 n c8] 26))) (P8.out.below (by repeat' (first | (with_reducible exact Below.refl _ _) | (with_reducible assumption) | (with_reducible refine Below.alloc ?_ ?_ _) | (with_reducible refine Below.setCell ?_ ?_ _) | (with_reducible refine Below.drew ?_) | (with_reducible refine below_drewN ?_ _) | (with_reducible refine below_via (by with_reducible assumption) ?_ ?_) | go_size))) hn HR.out (by omega) (by omega) (by omega)
  refine hloc.mono ?_
  rintro e w9 ⟨a9, c9, rfl, ho9, hb9, hn9⟩
  have HNZ := Lib.hid (loc_ones zs Ro Co)
  obtain ⟨Q, hQ⟩ : ∃ Q, rastL Co (locV zs Ro Co 0 (-1)) (Ro * Co) = Q := ⟨_, rfl⟩
  rw [hQ] at ho9 hn9 HNZ ⊢
  have HO9 := Lib.hid ho9
  have hz10 := hb9.size; try simp at hz10
  have hx3 := (K38.out.keep (by repeat' (first | (with_reducible exact Below.refl _ _) | (with_reducible assumption) | (with_reducible refine Below.alloc ?_ ?_ _) | (with_reducible refine Below.setCell ?_ ?_ _) | (with_reducible refine Below.drew ?_) | (with_reducible refine below_drewN ?_ _) | (with_reducible refine below_via (by with_reducible assumption) ?_ ?_) | go_size)) : Box3 w9 _ _ _ _)
  have hx15 := (b15.out.keep (by repeat' (first | (with_reducible exact Below.refl _ _) | (with_reducible assumption) | (with_reducible refine Below.alloc ?_ ?_ _) | (with_reducible refine Below.setCell ?_ ?_ _) | (with_reducible refine Below.drew ?_) | (with_reducible refine below_drewN ?_ _) | (with_reducible refine below_via (by with_reducible assumption) ?_ ?_) | go_size)) : Box3 w9 _ _ _ _)
  obtain ⟨_, _, _, _⟩ := hx3
  obtain ⟨_, _, _, _⟩ := hx15
  have b17 := Lib.hid (Box3.new w9 66 (.int .i64 (Ro : Int)) (.int .i64 (Co : Int)) (.slice a9 Q.length c9))
  clear hloc hQ ho9 K38
  go_wp2_with fail
  refine (lLikeR (Ro : Int) (Co : Int) _ _ _ _ _ _ zs _ ((own_rd HO8.out).below (by repeat' (first | (with_reducible exact Below.refl _ _) | (with_reducible assumption) | (with_reducible refine Below.alloc ?_ ?_ _) | (with_reducible refine Below.setCell ?_ ?_ _) | (with_reducible refine Below.drew ?_) | (with_reducible refine below_drewN ?_ _) | (with_reducible refine below_via (by with_reducible assumption) ?_ ?_) | go_size))) (P8.out.below (by repeat' (first | (with_reducible exact Below.refl _ _) | (with_reducible assumption) | (with_reducible refine Below.alloc ?_ ?_ _) | (with_reducible refine Below.setCell ?_ ?_ _) | (with_reducible refine Below.drew ?_) | (with_reducible refine below_drewN ?_ _) | (with_reducible refine below_via (by with_reducible assumption) ?_ ?_) | go_size))) hn).mono ?_
  rintro e w10 ⟨rfl, hb10⟩
  have hz11 := hb10.size; try simp at hz11
  have hx17 := (b17.out.keep (by repeat' (first | (with_reducible exact Below.refl _ _) | (with_reducible assumption) | (with_reducible refine Below.alloc ?_ ?_ _) | (with_reducible refine Below.setCell ?_ ?_ _) | (with_reducible refine Below.drew ?_) | (with_reducible refine below_drewN ?_ _) | (with_reducible refine below_via (by with_reducible assumption) ?_ ?_) | go_size)) : Box3 w10 _ _ _ _)
  obtain ⟨_, _, _, _⟩ := hx17
  go_wp2_with fail
  refine (lHas a9 Q.length c9 Q 0 _ ((own_rd HO9.out).below (by repeat' (first | (with_reducible exact Below.refl _ _) | (with_reducible assumption) | (with_reducible refine Below.alloc ?_ ?_ _) | (with_reducible refine Below.setCell ?_ ?_ _) | (with_reducible refine Below.drew ?_) | (with_reducible refine below_drewN ?_ _) | (with_reducible refine below_via (by with_reducible assumption) ?_ ?_) | go_size))) hn9 HNZ.out).mono ?_
  rintro e w11 ⟨rfl, hb11⟩
  have hz12 := hb11.size
  have HB11 : Hid (Below w.heap.size w w11) := by
    have h := HB8.out
    have hs := h.size
    unfold Hid
    repeat' (first | (with_reducible exact Below.refl _ _) | (with_reducible assumption) | (with_reducible refine Below.alloc ?_ ?_ _) | (with_reducible refine Below.setCell ?_ ?_ _) | (with_reducible refine Below.drew ?_) | (with_reducible refine below_drewN ?_ _) | (with_reducible refine below_via (by with_reducible assumption) ?_ ?_) | go_size)
  clear hb9 hb10 hb11
  go_wp2
  go_returns
  exact ⟨rfl, HB11.out⟩
end Go.Proofs.Ytdbecdgiafjkfaa
