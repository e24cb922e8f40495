/-
  DERIVED. The walk of FnPasted.
-/
import Derived.Test.YtdbecdgiafjkfaaDPaste
import Derived.Test.YtdbecdgiafjkfaaPasteP
import Derived.Test.YtdbecdgiafjkfaaPaste
import Derived.Test.YtdbecdgiafjkfaaLike
namespace Go.Proofs.Ytdbecdgiafjkfaa
open Go.RowKit
set_option linter.unusedVariables false
theorem iCropN (R C y x Rq q : Nat) (a : Option Addr) (n cp : Nat) (zs : List Int) (w : World) (h : Rd w a n zs) (hn : n ≤ 1048576) (hr : rasterB (R : Int) (C : Int) n zs = true) (hw : withinB (R : Int) (C : Int) (y : Int) (x : Int) (Rq : Int) (q : Int) = true) :
    Calls Try.prog 35 #[.agg #[.int .i64 (R : Int), .int .i64 (C : Int), .slice a n cp], .int .i64 (y : Int), .int .i64 (x : Int), .int .i64 (Rq : Int), .int .i64 (q : Int)] w (ResG w (Rq : Int) (q : Int) (cropL zs C y x Rq q) 0) := by
  have := iCropRaster_ok (R : Int) (C : Int) a n cp zs (y : Int) (x : Int) (Rq : Int) (q : Int) w h hn hr hw
  simp only [Int.toNat_natCast] at this
  exact this
theorem iPasteN (R C y x Rq q : Nat) (a a' : Option Addr) (n n' cp cp' : Nat) (zp zq : List Int) (w : World) (h : Rd w a n zp) (h' : Rd w a' n' zq) (hn : n ≤ 1048576) (hn' : n' ≤ 1048576) (hcp' : n' ≤ cp') (hr : rasterB (R : Int) (C : Int) n zp = true) (hq : rasterB (Rq : Int) (q : Int) n' zq = true) (hw : withinB (R : Int) (C : Int) (y : Int) (x : Int) (Rq : Int) (q : Int) = true) :
    Calls Try.prog 15 #[.agg #[.int .i64 (R : Int), .int .i64 (C : Int), .slice a n cp], .agg #[.int .i64 (Rq : Int), .int .i64 (q : Int), .slice a' n' cp'], .int .i64 (y : Int), .int .i64 (x : Int)] w (ResG w (R : Int) (C : Int) (pasteL zp zq q (atP y x C) Rq) 0) := by
  have := iPasteRaster_ok (R : Int) (C : Int) (Rq : Int) (q : Int) a a' n n' cp cp' zp zq (y : Int) (x : Int) w h h' hn hn' hcp' hr hq hw
  simp only [Int.toNat_natCast] at this
  exact this
theorem sPasteN (R C y x Rq q : Nat) (a a' : Option Addr) (n n' cp cp' : Nat) (zp zq : List Int) (w : World) (h : Rd w a n zp) (h' : Rd w a' n' zq) (hn : n ≤ 1048576) (hn' : n' ≤ 1048576) (hr : rasterB (R : Int) (C : Int) n zp = true) (hq : rasterB (Rq : Int) (q : Int) n' zq = true) (hw : withinB (R : Int) (C : Int) (y : Int) (x : Int) (Rq : Int) (q : Int) = true) :
    Calls Try.prog 13 #[.agg #[.int .i64 (R : Int), .int .i64 (C : Int), .slice a n cp], .agg #[.int .i64 (Rq : Int), .int .i64 (q : Int), .slice a' n' cp'], .int .i64 (y : Int), .int .i64 (x : Int)] w (ResG w (R : Int) (C : Int) (pasteL zp zq q (atP y x C) Rq) 0) := by
  have := sPasteRaster_ok (R : Int) (C : Int) (Rq : Int) (q : Int) a a' n n' cp cp' zp zq (y : Int) (x : Int) w h h' hn hn' hr hq hw
  simp only [Int.toNat_natCast] at this
  exact this
theorem rastN {r c : Int} {n : Nat} {zs : List Int} (h : rasterB r c n zs = true) : ∃ R C : Nat, r = (R : Int) ∧ c = (C : Int) ∧ 0 < R ∧ 0 < C ∧ R ≤ 400 ∧ C ≤ 400 ∧ R * C ≤ 40000 ∧ n = R * C := by
  obtain ⟨a, b, c', d, e, f, g, h8⟩ := rasterB_yes h
  obtain ⟨R, rfl⟩ := Int.eq_ofNat_of_zero_le (show 0 ≤ r by omega)
  obtain ⟨C, rfl⟩ := Int.eq_ofNat_of_zero_le (show 0 ≤ c by omega)
  have : ((R : Int) * (C : Int)) = ((R * C : Nat) : Int) := by simp
  exact ⟨R, C, rfl, rfl, by omega, by omega, by omega, by omega, by omega, by omega⟩
theorem paste_code {r c r' c' y x : Int} {n n' : Nat} {zp zq : List Int} (hn : n ≤ 1048576) (hn' : n' ≤ 1048576) : ∃ (R C code : Int) (L : List Int),
    (∀ (a a' : Option Addr) (cp cp' : Nat) (w : World), n' ≤ cp' → Rd w a n zp → Rd w a' n' zq → Calls Try.prog 15 #[.agg #[.int .i64 r, .int .i64 c, .slice a n cp], .agg #[.int .i64 r', .int .i64 c', .slice a' n' cp'], .int .i64 y, .int .i64 x] w (ResG w R C L code)) ∧
    (∀ (a a' : Option Addr) (cp cp' : Nat) (w : World), Rd w a n zp → Rd w a' n' zq → Calls Try.prog 13 #[.agg #[.int .i64 r, .int .i64 c, .slice a n cp], .agg #[.int .i64 r', .int .i64 c', .slice a' n' cp'], .int .i64 y, .int .i64 x] w (ResG w R C L code)) ∧
    ((code = 1 ∨ code = 2) ∨ (code = 0 ∧ rasterB r c n zp = true ∧ rasterB r' c' n' zq = true ∧ withinB r c y x r' c' = true ∧ ∃ Rp Cp Rq q y' x' : Nat, r = (Rp : Int) ∧ c = (Cp : Int) ∧ r' = (Rq : Int) ∧ c' = (q : Int) ∧ y = (y' : Int) ∧ x = (x' : Int) ∧ R = (Rp : Int) ∧ C = (Cp : Int) ∧ L = pasteL zp zq q (atP y' x' Cp) Rq)) := by
  cases hr : rasterB r c n zp
  · exact ⟨0, 0, 1, [], fun a a' cp cp' w _ h h' => iPasteRaster_no1 r c r' c' a a' n n' cp cp' zp zq y x w h h' hn hn' hr, fun a a' cp cp' w h h' => sPasteRaster_no1 r c r' c' a a' n n' cp cp' zp zq y x w h h' hn hn' hr, .inl (.inl rfl)⟩
  · cases hq : rasterB r' c' n' zq
    · exact ⟨0, 0, 1, [], fun a a' cp cp' w _ h h' => iPasteRaster_no2 r c r' c' a a' n n' cp cp' zp zq y x w h h' hn hn' hr hq, fun a a' cp cp' w h h' => sPasteRaster_no2 r c r' c' a a' n n' cp cp' zp zq y x w h h' hn hn' hr hq, .inl (.inl rfl)⟩
    · cases hw : withinB r c y x r' c'
      · exact ⟨0, 0, 2, [], fun a a' cp cp' w _ h h' => iPasteRaster_rng r c r' c' a a' n n' cp cp' zp zq y x w h h' hn hn' hr hq hw, fun a a' cp cp' w h h' => sPasteRaster_rng r c r' c' a a' n n' cp cp' zp zq y x w h h' hn hn' hr hq hw, .inl (.inr rfl)⟩
      · obtain ⟨Rp, Cp, rfl, rfl, _⟩ := rastN hr
        obtain ⟨Rq, q, rfl, rfl, _⟩ := rastN hq
        obtain ⟨_, _, _, _, hy, _, hx, _⟩ := withinB_iff.1 hw
        obtain ⟨y', rfl⟩ := Int.eq_ofNat_of_zero_le hy
        obtain ⟨x', rfl⟩ := Int.eq_ofNat_of_zero_le hx
        exact ⟨Rp, Cp, 0, _, fun a a' cp cp' w hc h h' => iPasteN Rp Cp y' x' Rq q a a' n n' cp cp' zp zq w h h' hn hn' hc hr hq hw, fun a a' cp cp' w h h' => sPasteN Rp Cp y' x' Rq q a a' n n' cp cp' zp zq w h h' hn hn' hr hq hw, .inr ⟨rfl, rfl, rfl, rfl, Rp, Cp, Rq, q, y', x', rfl, rfl, rfl, rfl, rfl, rfl, rfl, rfl, rfl⟩⟩
/-- all that the second half of the law wants. -/
theorem paste_facts {Rp Cp Rq q y x n n' : Nat} {zp zq : List Int} (hl : zp.length = n) (hl' : zq.length = n') (hr : rasterB (Rp : Int) (Cp : Int) n zp = true) (hq : rasterB (Rq : Int) (q : Int) n' zq = true) (hw : withinB (Rp : Int) (Cp : Int) (y : Int) (x : Int) (Rq : Int) (q : Int) = true) :
    (pasteL zp zq q (atP y x Cp) Rq).length = n ∧ rasterB (Rp : Int) (Cp : Int) n (pasteL zp zq q (atP y x Cp) Rq) = true ∧ cropL (pasteL zp zq q (atP y x Cp) Rq) Cp y x Rq q = zq ∧
    (cropL zp Cp y x Rq q).length = n' ∧ rasterB (Rq : Int) (q : Int) n' (cropL zp Cp y x Rq q) = true ∧ pasteL (pasteL zp zq q (atP y x Cp) Rq) (cropL zp Cp y x Rq q) q (atP y x Cp) Rq = zp := by
  obtain ⟨a1, a2, a3, a4, a5, a6, a7, a8⟩ := rasterB_yes hr
  obtain ⟨b1, b2, b3, b4, b5, b6, b7, b8⟩ := rasterB_yes hq
  obtain ⟨w1, w2, w3, w4, w5, w6, w7, w8⟩ := withinB_iff.1 hw
  have e1 : ((Rp : Int) * (Cp : Int)) = ((Rp * Cp : Nat) : Int) := by simp
  have e2 : ((Rq : Int) * (q : Int)) = ((Rq * q : Nat) : Int) := by simp
  have hn : n = Rp * Cp := by omega
  have hn' : n' = Rq * q := by omega
  have hx : x + q ≤ Cp := by omega
  have hq0 : 0 < q := by omega
  have ho : ∀ r, r < Rq → atP y x Cp r + q ≤ zp.length := fun r h => by
    rw [hl, hn]
    exact atP_bd (by omega) hx h
  have hzq : zq.length = Rq * q := by omega
  have hL := pasteL_length zp zq q (atP y x Cp) Rq hzq ho Rq (Nat.le_refl _)
  refine ⟨by omega, rastB_of (by omega) (by omega) (by omega) (by omega) (by omega) hn (paste_bd hzq ho hx a8 b8), crop_paste hzq ho hx hq0, by rw [cropL_length]; omega, rastB_of (by omega) (by omega) (by omega) (by omega) (by omega) hn' (crop_bd hq0 a8), paste_back hzq ho hx hq0⟩
set_option maxRecDepth 100000 in
set_option maxHeartbeats 8000000 in
theorem walk_FnPasted (code_a : Option Addr) (code_n code_c : Nat) (code_z : List Int) (w : World) (h_code : Ints .u8 w code_a code_n code_c code_z) :
    Calls Try.prog 8 #[.slice code_a code_n code_c] w fun e w' => e = .returned (.bool true) ∧ Below w.heap.size w w' := by
  obtain ⟨i0, hi, iz0, iz1, iz2⟩ := info_parts infoInt
  have hmx := h_code.max
  have HBY := Lib.hid h_code.bytes
  clear h_code
  by_cases hbig : 4096 < code_n
  · have tb : decide ((4096 : Int) < (code_n : Int)) = true := by simp; omega
    go_enter Try.func8, Try.ntmps8
    go_wp2_with fail
    refine (lBig _ _ _ _ hmx).mono ?_
    rintro e w' ⟨rfl, rfl⟩
    rw [tb]
    go_wp2
    go_returns
    exact ⟨rfl, by repeat' (first | (with_reducible exact Below.refl _ _) | (with_reducible assumption) | (with_reducible refine Below.alloc ?_ ?_ _) | (with_reducible refine Below.setCell ?_ ?_ _) | (with_reducible refine Below.drew ?_) | (with_reducible refine below_drewN ?_ _) | (with_reducible refine below_via (by with_reducible assumption) ?_ ?_) | go_size)⟩
  have tb : decide ((4096 : Int) < (code_n : Int)) = false := by simp; omega
  go_enter Try.func8, Try.ntmps8
  go_wp2_with fail
  refine (lBig _ _ _ _ hmx).mono ?_
  rintro e w' ⟨rfl, rfl⟩
  rw [tb]
  go_wp2_with fail
  refine (dPaste _ _ _ _ HBY.out (by omega)).mono ?_
  rintro e w1 ⟨r, c, a, n, cp, zp, r', c', a', n', cp', zq, y, x, rfl, hn, hn', hcp, hcp', hrd, hrd', hb1⟩
  have hz1 := hb1.size
  obtain ⟨R, C, code, L, hI, hS, hcode⟩ := paste_code (r := r) (c := c) (r' := r') (c' := c') (y := y) (x := x) (zp := zp) (zq := zq) hn hn'
  have HP := Lib.hid hrd
  have HQ := Lib.hid hrd'
  have HI := Lib.hid hI
  have HS := Lib.hid hS
  have HCO := Lib.hid hcode
  clear hrd hrd' hI hS hcode HBY tb
  have b3 := Lib.hid (Box3.new w1 26 (.int .i64 r) (.int .i64 c) (.slice a n cp))
  have b4 := Lib.hid (Box3.new (w1.alloc (.cells #[.int .i64 r, .int .i64 c, .slice a n cp] 26)) 26 (.int .i64 r') (.int .i64 c') (.slice a' n' cp'))
  go_wp2_with fail
  obtain ⟨W1, hW1⟩ : ∃ W1 : World, W1 = (w1.alloc (.cells #[.int .i64 r, .int .i64 c, .slice a n cp] 26)).alloc (.cells #[.int .i64 r', .int .i64 c', .slice a' n' cp'] 26) := ⟨_, rfl⟩
  have hB : Below w1.heap.size w1 W1 := by rw [hW1]; repeat' (first | (with_reducible exact Below.refl _ _) | (with_reducible assumption) | (with_reducible refine Below.alloc ?_ ?_ _) | (with_reducible refine Below.setCell ?_ ?_ _) | (with_reducible refine Below.drew ?_) | (with_reducible refine below_drewN ?_ _) | (with_reducible refine below_via (by with_reducible assumption) ?_ ?_) | go_size)
  have hz2 : W1.heap.size = w1.heap.size + 2 := by rw [hW1]; simp
  have k3 : Hid (Box3 W1 w1.heap.size (.int .i64 r) (.int .i64 c) (.slice a n cp)) := by rw [hW1]; exact b3.out.keep ((Below.refl _ _).alloc (Nat.le_refl _) _)
  have k4 : Hid (Box3 W1 (w1.heap.size + 1) (.int .i64 r') (.int .i64 c') (.slice a' n' cp')) := by
    rw [hW1]
    have := b4.out
    simp only [World.size_alloc] at this
    exact this
  have HB1 : Hid (Below w.heap.size w W1) := hb1.trans (hB.mono hz1)
  have P1 : Hid (Rd W1 a n zp) := HP.out.below hB
  have Q1 : Hid (Rd W1 a' n' zq) := HQ.out.below hB
  rw [← hW1]
  clear hW1 b3 b4 HP HQ hB hb1
  refine (HI.out _ _ _ _ _ hcp' P1.out Q1.out).mono ?_
  rintro e w2 ⟨a2, c2, rfl, ho2, hb2, hn2⟩
  have hz3 := hb2.size
  have hx3 := k3.out.keep hb2
  have hx4 := k4.out.keep hb2
  obtain ⟨_, _, _, _⟩ := hx3
  obtain ⟨_, _, _, _⟩ := hx4
  have HO2 := Lib.hid ho2
  have HC2 := own_cap ho2
  clear ho2
  have b7 := Lib.hid (Box3.new w2 26 (.int .i64 R) (.int .i64 C) (.slice a2 L.length c2))
  go_wp2_with fail
  refine (HS.out _ _ _ _ _ (P1.out.below (by repeat' (first | (with_reducible exact Below.refl _ _) | (with_reducible assumption) | (with_reducible refine Below.alloc ?_ ?_ _) | (with_reducible refine Below.setCell ?_ ?_ _) | (with_reducible refine Below.drew ?_) | (with_reducible refine below_drewN ?_ _) | (with_reducible refine below_via (by with_reducible assumption) ?_ ?_) | go_size))) (Q1.out.below (by repeat' (first | (with_reducible exact Below.refl _ _) | (with_reducible assumption) | (with_reducible refine Below.alloc ?_ ?_ _) | (with_reducible refine Below.setCell ?_ ?_ _) | (with_reducible refine Below.drew ?_) | (with_reducible refine below_drewN ?_ _) | (with_reducible refine below_via (by with_reducible assumption) ?_ ?_) | go_size)))).mono ?_
  rintro e w3 ⟨a3, c3, rfl, ho3, hb3, hn3⟩
  have hz4 := hb3.size; try simp at hz4
  have HO3 := Lib.hid ho3
  clear ho3
  have hx3 := (k3.out.keep (by repeat' (first | (with_reducible exact Below.refl _ _) | (with_reducible assumption) | (with_reducible refine Below.alloc ?_ ?_ _) | (with_reducible refine Below.setCell ?_ ?_ _) | (with_reducible refine Below.drew ?_) | (with_reducible refine below_drewN ?_ _) | (with_reducible refine below_via (by with_reducible assumption) ?_ ?_) | go_size)) : Box3 w3 _ _ _ _)
  have hx4 := (k4.out.keep (by repeat' (first | (with_reducible exact Below.refl _ _) | (with_reducible assumption) | (with_reducible refine Below.alloc ?_ ?_ _) | (with_reducible refine Below.setCell ?_ ?_ _) | (with_reducible refine Below.drew ?_) | (with_reducible refine below_drewN ?_ _) | (with_reducible refine below_via (by with_reducible assumption) ?_ ?_) | go_size)) : Box3 w3 _ _ _ _)
  have hx7 := (b7.out.keep (by repeat' (first | (with_reducible exact Below.refl _ _) | (with_reducible assumption) | (with_reducible refine Below.alloc ?_ ?_ _) | (with_reducible refine Below.setCell ?_ ?_ _) | (with_reducible refine Below.drew ?_) | (with_reducible refine below_drewN ?_ _) | (with_reducible refine below_via (by with_reducible assumption) ?_ ?_) | go_size)) : Box3 w3 _ _ _ _)
  have hx3' := hx3
  have hx4' := hx4
  have hx7' := hx7
  obtain ⟨_, _, _, _⟩ := hx3'
  obtain ⟨_, _, _, _⟩ := hx4'
  obtain ⟨_, _, _, _⟩ := hx7'
  have hL2 : Rd w3 a2 L.length L := (own_rd HO2.out).below (by repeat' (first | (with_reducible exact Below.refl _ _) | (with_reducible assumption) | (with_reducible refine Below.alloc ?_ ?_ _) | (with_reducible refine Below.setCell ?_ ?_ _) | (with_reducible refine Below.drew ?_) | (with_reducible refine below_drewN ?_ _) | (with_reducible refine below_via (by with_reducible assumption) ?_ ?_) | go_size))
  have b9 := Lib.hid (Box3.new w3 26 (.int .i64 R) (.int .i64 C) (.slice a3 L.length c3))
  have K3 := Lib.hid hx3
  have K4 := Lib.hid hx4
  have K7 := Lib.hid hx7
  have L2 := Lib.hid hL2
  clear hx3 hx4 hx7 hL2
  go_wp2_with fail
  refine (lLikeR R C _ _ _ _ _ _ L _ (L2.out.below (by repeat' (first | (with_reducible exact Below.refl _ _) | (with_reducible assumption) | (with_reducible refine Below.alloc ?_ ?_ _) | (with_reducible refine Below.setCell ?_ ?_ _) | (with_reducible refine Below.drew ?_) | (with_reducible refine below_drewN ?_ _) | (with_reducible refine below_via (by with_reducible assumption) ?_ ?_) | go_size))) ((own_rd HO3.out).below (by repeat' (first | (with_reducible exact Below.refl _ _) | (with_reducible assumption) | (with_reducible refine Below.alloc ?_ ?_ _) | (with_reducible refine Below.setCell ?_ ?_ _) | (with_reducible refine Below.drew ?_) | (with_reducible refine below_drewN ?_ _) | (with_reducible refine below_via (by with_reducible assumption) ?_ ?_) | go_size))) hn2).mono ?_
  rintro e w4 ⟨rfl, hb4⟩
  have hz5 := hb4.size; try simp at hz5
  have HB4 : Hid (Below W1.heap.size W1 w4) := by unfold Hid; repeat' (first | (with_reducible exact Below.refl _ _) | (with_reducible assumption) | (with_reducible refine Below.alloc ?_ ?_ _) | (with_reducible refine Below.setCell ?_ ?_ _) | (with_reducible refine Below.drew ?_) | (with_reducible refine below_drewN ?_ _) | (with_reducible refine below_via (by with_reducible assumption) ?_ ?_) | go_size)
  rcases HCO.out with hc1 | ⟨rfl, hr, hq, hw, Rp, Cp, Rq, q, y', x', rfl, rfl, rfl, rfl, rfl, rfl, rfl, rfl, hL⟩
  · have hb := HB1.out.trans (HB4.out.mono HB1.out.size)
    rcases hc1 with rfl | rfl
    · go_wp2
      go_returns
      exact ⟨rfl, hb⟩
    · go_wp2
      go_returns
      exact ⟨rfl, hb⟩
  obtain ⟨f1, f2, f3, f4, f5, f6⟩ := paste_facts P1.out.1 Q1.out.1 hr hq hw
  rw [← hL] at f1 f2 f3 f6
  have F1 := Lib.hid f1
  have F2 := Lib.hid f2
  have F3 := Lib.hid f3
  have F4 := Lib.hid f4
  have F5 := Lib.hid f5
  have F6 := Lib.hid f6
  have HW := Lib.hid hw
  have HRp := Lib.hid hr
  clear f1 f2 f3 f4 f5 f6 hw hr hq hL HI HS HCO
  have hx3 := (K3.out.keep (by repeat' (first | (with_reducible exact Below.refl _ _) | (with_reducible assumption) | (with_reducible refine Below.alloc ?_ ?_ _) | (with_reducible refine Below.setCell ?_ ?_ _) | (with_reducible refine Below.drew ?_) | (with_reducible refine below_drewN ?_ _) | (with_reducible refine below_via (by with_reducible assumption) ?_ ?_) | go_size)) : Box3 w4 _ _ _ _)
  have hx4 := (K4.out.keep (by repeat' (first | (with_reducible exact Below.refl _ _) | (with_reducible assumption) | (with_reducible refine Below.alloc ?_ ?_ _) | (with_reducible refine Below.setCell ?_ ?_ _) | (with_reducible refine Below.drew ?_) | (with_reducible refine below_drewN ?_ _) | (with_reducible refine below_via (by with_reducible assumption) ?_ ?_) | go_size)) : Box3 w4 _ _ _ _)
  have hx7 := (K7.out.keep (by repeat' (first | (with_reducible exact Below.refl _ _) | (with_reducible assumption) | (with_reducible refine Below.alloc ?_ ?_ _) | (with_reducible refine Below.setCell ?_ ?_ _) | (with_reducible refine Below.drew ?_) | (with_reducible refine below_drewN ?_ _) | (with_reducible refine below_via (by with_reducible assumption) ?_ ?_) | go_size)) : Box3 w4 _ _ _ _)
  obtain ⟨_, _, _, _⟩ := hx3
  obtain ⟨_, _, _, _⟩ := hx4
  obtain ⟨_, _, _, _⟩ := hx7
  go_wp2_with fail
  refine (iCropN Rp Cp y' x' Rq q a2 L.length c2 L _ (L2.out.below (by repeat' (first | (with_reducible exact Below.refl _ _) | (with_reducible assumption) | (with_reducible refine Below.alloc ?_ ?_ _) | (with_reducible refine Below.setCell ?_ ?_ _) | (with_reducible refine Below.drew ?_) | (with_reducible refine below_drewN ?_ _) | (with_reducible refine below_via (by with_reducible assumption) ?_ ?_) | go_size))) hn2 (by rw [F1.out]; exact F2.out) HW.out).mono ?_
  rw [F3.out]
  rintro e w5 ⟨a5, c5, rfl, ho5, hb5, hn5⟩
  have hz6 := hb5.size
  have HO5 := Lib.hid ho5
  clear ho5
  have b11 := Lib.hid (Box3.new w5 26 (.int .i64 (Rq : Int)) (.int .i64 (q : Int)) (.slice a5 zq.length c5))
  have hx3 := (K3.out.keep (by repeat' (first | (with_reducible exact Below.refl _ _) | (with_reducible assumption) | (with_reducible refine Below.alloc ?_ ?_ _) | (with_reducible refine Below.setCell ?_ ?_ _) | (with_reducible refine Below.drew ?_) | (with_reducible refine below_drewN ?_ _) | (with_reducible refine below_via (by with_reducible assumption) ?_ ?_) | go_size)) : Box3 w5 _ _ _ _)
  have hx4 := (K4.out.keep (by repeat' (first | (with_reducible exact Below.refl _ _) | (with_reducible assumption) | (with_reducible refine Below.alloc ?_ ?_ _) | (with_reducible refine Below.setCell ?_ ?_ _) | (with_reducible refine Below.drew ?_) | (with_reducible refine below_drewN ?_ _) | (with_reducible refine below_via (by with_reducible assumption) ?_ ?_) | go_size)) : Box3 w5 _ _ _ _)
  have hx7 := (K7.out.keep (by repeat' (first | (with_reducible exact Below.refl _ _) | (with_reducible assumption) | (with_reducible refine Below.alloc ?_ ?_ _) | (with_reducible refine Below.setCell ?_ ?_ _) | (with_reducible refine Below.drew ?_) | (with_reducible refine below_drewN ?_ _) | (with_reducible refine below_via (by with_reducible assumption) ?_ ?_) | go_size)) : Box3 w5 _ _ _ _)
  obtain ⟨_, _, _, _⟩ := hx3
  obtain ⟨_, _, _, _⟩ := hx4
  obtain ⟨_, _, _, _⟩ := hx7
  go_wp2_with fail
  refine (iCropN Rp Cp y' x' Rq q a n cp zp _ (P1.out.below (by repeat' (first | (with_reducible exact Below.refl _ _) | (with_reducible assumption) | (with_reducible refine Below.alloc ?_ ?_ _) | (with_reducible refine Below.setCell ?_ ?_ _) | (with_reducible refine Below.drew ?_) | (with_reducible refine below_drewN ?_ _) | (with_reducible refine below_via (by with_reducible assumption) ?_ ?_) | go_size))) hn HRp.out HW.out).mono ?_
  rintro e w6 ⟨a6, c6, rfl, ho6, hb6, hn6⟩
  have hz7 := hb6.size; try simp at hz7
  have HO6 := Lib.hid ho6
  have HC6 := own_cap ho6
  clear ho6
  have b13 := Lib.hid (Box3.new w6 26 (.int .i64 (Rq : Int)) (.int .i64 (q : Int)) (.slice a6 (cropL zp Cp y' x' Rq q).length c6))
  have hx3 := (K3.out.keep (by repeat' (first | (with_reducible exact Below.refl _ _) | (with_reducible assumption) | (with_reducible refine Below.alloc ?_ ?_ _) | (with_reducible refine Below.setCell ?_ ?_ _) | (with_reducible refine Below.drew ?_) | (with_reducible refine below_drewN ?_ _) | (with_reducible refine below_via (by with_reducible assumption) ?_ ?_) | go_size)) : Box3 w6 _ _ _ _)
  have hx4 := (K4.out.keep (by repeat' (first | (with_reducible exact Below.refl _ _) | (with_reducible assumption) | (with_reducible refine Below.alloc ?_ ?_ _) | (with_reducible refine Below.setCell ?_ ?_ _) | (with_reducible refine Below.drew ?_) | (with_reducible refine below_drewN ?_ _) | (with_reducible refine below_via (by with_reducible assumption) ?_ ?_) | go_size)) : Box3 w6 _ _ _ _)
  have hx7 := (K7.out.keep (by repeat' (first | (with_reducible exact Below.refl _ _) | (with_reducible assumption) | (with_reducible refine Below.alloc ?_ ?_ _) | (with_reducible refine Below.setCell ?_ ?_ _) | (with_reducible refine Below.drew ?_) | (with_reducible refine below_drewN ?_ _) | (with_reducible refine below_via (by with_reducible assumption) ?_ ?_) | go_size)) : Box3 w6 _ _ _ _)
  have hx11 := (b11.out.keep (by repeat' (first | (with_reducible exact Below.refl _ _) | (with_reducible assumption) | (with_reducible refine Below.alloc ?_ ?_ _) | (with_reducible refine Below.setCell ?_ ?_ _) | (with_reducible refine Below.drew ?_) | (with_reducible refine below_drewN ?_ _) | (with_reducible refine below_via (by with_reducible assumption) ?_ ?_) | go_size)) : Box3 w6 _ _ _ _)
  obtain ⟨_, _, _, _⟩ := hx3
  obtain ⟨_, _, _, _⟩ := hx4
  obtain ⟨_, _, _, _⟩ := hx7
  obtain ⟨_, _, _, _⟩ := hx11
  go_wp2_with fail
  refine (iPasteN Rp Cp y' x' Rq q a2 a6 L.length (cropL zp Cp y' x' Rq q).length c2 c6 L (cropL zp Cp y' x' Rq q) _ (L2.out.below (by repeat' (first | (with_reducible exact Below.refl _ _) | (with_reducible assumption) | (with_reducible refine Below.alloc ?_ ?_ _) | (with_reducible refine Below.setCell ?_ ?_ _) | (with_reducible refine Below.drew ?_) | (with_reducible refine below_drewN ?_ _) | (with_reducible refine below_via (by with_reducible assumption) ?_ ?_) | go_size))) ((own_rd HO6.out).below (by repeat' (first | (with_reducible exact Below.refl _ _) | (with_reducible assumption) | (with_reducible refine Below.alloc ?_ ?_ _) | (with_reducible refine Below.setCell ?_ ?_ _) | (with_reducible refine Below.drew ?_) | (with_reducible refine below_drewN ?_ _) | (with_reducible refine below_via (by with_reducible assumption) ?_ ?_) | go_size))) hn2 hn6 HC6 (by rw [F1.out]; exact F2.out) (by rw [F4.out]; exact F5.out) HW.out).mono ?_
  rw [F6.out]
  rintro e w7 ⟨a7, c7, rfl, ho7, hb7, hn7⟩
  have hz8 := hb7.size; try simp at hz8
  have HO7 := Lib.hid ho7
  clear ho7
  have b15 := Lib.hid (Box3.new w7 26 (.int .i64 (Rp : Int)) (.int .i64 (Cp : Int)) (.slice a7 zp.length c7))
  have hx3 := (K3.out.keep (by repeat' (first | (with_reducible exact Below.refl _ _) | (with_reducible assumption) | (with_reducible refine Below.alloc ?_ ?_ _) | (with_reducible refine Below.setCell ?_ ?_ _) | (with_reducible refine Below.drew ?_) | (with_reducible refine below_drewN ?_ _) | (with_reducible refine below_via (by with_reducible assumption) ?_ ?_) | go_size)) : Box3 w7 _ _ _ _)
  have hx4 := (K4.out.keep (by repeat' (first | (with_reducible exact Below.refl _ _) | (with_reducible assumption) | (with_reducible refine Below.alloc ?_ ?_ _) | (with_reducible refine Below.setCell ?_ ?_ _) | (with_reducible refine Below.drew ?_) | (with_reducible refine below_drewN ?_ _) | (with_reducible refine below_via (by with_reducible assumption) ?_ ?_) | go_size)) : Box3 w7 _ _ _ _)
  have hx11 := (b11.out.keep (by repeat' (first | (with_reducible exact Below.refl _ _) | (with_reducible assumption) | (with_reducible refine Below.alloc ?_ ?_ _) | (with_reducible refine Below.setCell ?_ ?_ _) | (with_reducible refine Below.drew ?_) | (with_reducible refine below_drewN ?_ _) | (with_reducible refine below_via (by with_reducible assumption) ?_ ?_) | go_size)) : Box3 w7 _ _ _ _)
  obtain ⟨_, _, _, _⟩ := hx3
  obtain ⟨_, _, _, _⟩ := hx4
  obtain ⟨_, _, _, _⟩ := hx11
  go_wp2_with fail
  refine (lLikeR (Rq : Int) (q : Int) _ _ _ _ _ _ zq _ ((own_rd HO5.out).below (by repeat' (first | (with_reducible exact Below.refl _ _) | (with_reducible assumption) | (with_reducible refine Below.alloc ?_ ?_ _) | (with_reducible refine Below.setCell ?_ ?_ _) | (with_reducible refine Below.drew ?_) | (with_reducible refine below_drewN ?_ _) | (with_reducible refine below_via (by with_reducible assumption) ?_ ?_) | go_size))) (Q1.out.below (by repeat' (first | (with_reducible exact Below.refl _ _) | (with_reducible assumption) | (with_reducible refine Below.alloc ?_ ?_ _) | (with_reducible refine Below.setCell ?_ ?_ _) | (with_reducible refine Below.drew ?_) | (with_reducible refine below_drewN ?_ _) | (with_reducible refine below_via (by with_reducible assumption) ?_ ?_) | go_size))) hn5).mono ?_
  rintro e w8 ⟨rfl, hb8⟩
  have hz9 := hb8.size; try simp at hz9
  have hx3 := (K3.out.keep (by repeat' (first | (with_reducible exact Below.refl _ _) | (with_reducible assumption) | (with_reducible refine Below.alloc ?_ ?_ _) | (with_reducible refine Below.setCell ?_ ?_ _) | (with_reducible refine Below.drew ?_) | (with_reducible refine below_drewN ?_ _) | (with_reducible refine below_via (by with_reducible assumption) ?_ ?_) | go_size)) : Box3 w8 _ _ _ _)
  have hx15 := (b15.out.keep (by repeat' (first | (with_reducible exact Below.refl _ _) | (with_reducible assumption) | (with_reducible refine Below.alloc ?_ ?_ _) | (with_reducible refine Below.setCell ?_ ?_ _) | (with_reducible refine Below.drew ?_) | (with_reducible refine below_drewN ?_ _) | (with_reducible refine below_via (by with_reducible assumption) ?_ ?_) | go_size)) : Box3 w8 _ _ _ _)
  obtain ⟨_, _, _, _⟩ := hx3
  obtain ⟨_, _, _, _⟩ := hx15
  go_wp2_with fail
  refine (lLikeR (Rp : Int) (Cp : Int) _ _ _ _ _ _ zp _ ((own_rd HO7.out).below (by repeat' (first | (with_reducible exact Below.refl _ _) | (with_reducible assumption) | (with_reducible refine Below.alloc ?_ ?_ _) | (with_reducible refine Below.setCell ?_ ?_ _) | (with_reducible refine Below.drew ?_) | (with_reducible refine below_drewN ?_ _) | (with_reducible refine below_via (by with_reducible assumption) ?_ ?_) | go_size))) (P1.out.below (by repeat' (first | (with_reducible exact Below.refl _ _) | (with_reducible assumption) | (with_reducible refine Below.alloc ?_ ?_ _) | (with_reducible refine Below.setCell ?_ ?_ _) | (with_reducible refine Below.drew ?_) | (with_reducible refine below_drewN ?_ _) | (with_reducible refine below_via (by with_reducible assumption) ?_ ?_) | go_size))) hn7).mono ?_
  rintro e w9 ⟨rfl, hb9⟩
  have HBz : Below W1.heap.size W1 w9 := by repeat' (first | (with_reducible exact Below.refl _ _) | (with_reducible assumption) | (with_reducible refine Below.alloc ?_ ?_ _) | (with_reducible refine Below.setCell ?_ ?_ _) | (with_reducible refine Below.drew ?_) | (with_reducible refine below_drewN ?_ _) | (with_reducible refine below_via (by with_reducible assumption) ?_ ?_) | go_size)
  have HBw := HB1.out.trans (HBz.mono HB1.out.size)
  go_wp2
  go_returns
  exact ⟨rfl, HBw⟩
end Go.Proofs.Ytdbecdgiafjkfaa
