/-
  DERIVED. The walk of FnMedians.
-/
import Derived.Test.YtfiddbmjgncabaaDLoc
import Derived.Test.YtfiddbmjgncabaaMedL
import Derived.Test.YtfiddbmjgncabaaLikQ
namespace Go.Proofs.Ytfiddbmjgncabaa
open Go.RowKit
set_option linter.unusedVariables false
set_option maxRecDepth 100000 in
set_option maxHeartbeats 8000000 in
theorem walk_FnMedians (code_a : Option Addr) (code_n code_c : Nat) (code_z : List Int) (w : World) (h_code : Ints .u8 w code_a code_n code_c code_z) :
    Calls Try.prog 9 #[.slice code_a code_n code_c] w fun e w' => e = .returned (.bool true) ∧ Below w.heap.size w w' := by
  obtain ⟨i0, hi, iz0, iz1, iz2⟩ := info_parts infoInt
  have hmx := h_code.max
  have HBY := Lib.hid h_code.bytes
  clear h_code
  by_cases hbig : 4096 < code_n
  · have tb : decide ((4096 : Int) < (code_n : Int)) = true := by simp; omega
    go_enter Try.func9, Try.ntmps9
    go_wp2_with fail
    refine (lBig _ _ _ _ hmx).mono ?_
    rintro e w' ⟨rfl, rfl⟩
    rw [tb]
    go_wp2
    go_returns
    exact ⟨rfl, by repeat' (first | (with_reducible exact Below.refl _ _) | (with_reducible assumption) | (with_reducible refine Below.alloc ?_ ?_ _) | (with_reducible refine Below.setCell ?_ ?_ _) | (with_reducible refine Below.drew ?_) | (with_reducible refine below_drewN ?_ _) | (with_reducible refine below_via (by with_reducible assumption) ?_ ?_) | go_size)⟩
  have tb : decide ((4096 : Int) < (code_n : Int)) = false := by simp; omega
  go_enter Try.func9, Try.ntmps9
  go_wp2_with fail
  refine (lBig _ _ _ _ hmx).mono ?_
  rintro e w' ⟨rfl, rfl⟩
  rw [tb]
  go_wp2_with fail
  refine (dMed _ _ _ _ HBY.out (by omega)).mono ?_
  rintro e w1 ⟨r, c, a, n, cp, zs, rfl, hnw, hcp, hrd, hb1, hfr⟩
  have hz1 := hb1.size
  have hn : n ≤ 1048576 := by omega
  obtain ⟨R, C, code, L, hI, hS, hcode⟩ := med_code (r := r) (c := c) (zs := zs) hn
  have HI := Lib.hid hI
  have HS := Lib.hid hS
  have HCO := Lib.hid hcode
  clear hI hS hcode tb hfr
  have b3 := Lib.hid (Box3.new w1 32 (.int .i64 r) (.int .i64 c) (.slice a n cp))
  go_wp2_with fail
  obtain ⟨W1, hW1⟩ : ∃ W1 : World, W1 = w1.alloc (.cells #[.int .i64 r, .int .i64 c, .slice a n cp] 32) := ⟨_, rfl⟩
  have hB : Below w1.heap.size w1 W1 := by rw [hW1]; repeat' (first | (with_reducible exact Below.refl _ _) | (with_reducible assumption) | (with_reducible refine Below.alloc ?_ ?_ _) | (with_reducible refine Below.setCell ?_ ?_ _) | (with_reducible refine Below.drew ?_) | (with_reducible refine below_drewN ?_ _) | (with_reducible refine below_via (by with_reducible assumption) ?_ ?_) | go_size)
  have hz2 : w1.heap.size < W1.heap.size := by rw [hW1]; simp
  have k3 : Hid (Box3 W1 w1.heap.size (.int .i64 r) (.int .i64 c) (.slice a n cp)) := by rw [hW1]; exact b3.out
  have HB1 : Hid (Below w.heap.size w W1) := hb1.trans (hB.mono hz1)
  have P1 : Hid (Rd W1 a n zs) := hrd.below hB
  rw [← hW1]
  clear hW1 b3 hB hb1 hrd
  refine (HI.out _ _ _ P1.out).mono ?_
  rintro e w2 ⟨a2, c2, rfl, ho2, hb2, hn2⟩
  have hz3 := hb2.size
  have hx3 := k3.out.keep hb2
  obtain ⟨_, _, _, _⟩ := hx3
  have HO2 := Lib.hid ho2
  clear ho2
  have b5 := Lib.hid (Box3.new w2 32 (.int .i64 R) (.int .i64 C) (.slice a2 L.length c2))
  go_wp2_with fail
  refine (HS.out _ _ _ (P1.out.below (by repeat' (first | (with_reducible exact Below.refl _ _) | (with_reducible assumption) | (with_reducible refine Below.alloc ?_ ?_ _) | (with_reducible refine Below.setCell ?_ ?_ _) | (with_reducible refine Below.drew ?_) | (with_reducible refine below_drewN ?_ _) | (with_reducible refine below_via (by with_reducible assumption) ?_ ?_) | go_size)))).mono ?_
  rintro e w3 ⟨a3, c3, rfl, ho3, hb3, hn3⟩
  have hz4 := hb3.size; try simp at hz4
  have HO3 := Lib.hid ho3
  clear ho3
  have hx3 := (k3.out.keep (by repeat' (first | (with_reducible exact Below.refl _ _) | (with_reducible assumption) | (with_reducible refine Below.alloc ?_ ?_ _) | (with_reducible refine Below.setCell ?_ ?_ _) | (with_reducible refine Below.drew ?_) | (with_reducible refine below_drewN ?_ _) | (with_reducible refine below_via (by with_reducible assumption) ?_ ?_) | go_size)) : Box3 w3 _ _ _ _)
  have hx5 := (b5.out.keep (by repeat' (first | (with_reducible exact Below.refl _ _) | (with_reducible assumption) | (with_reducible refine Below.alloc ?_ ?_ _) | (with_reducible refine Below.setCell ?_ ?_ _) | (with_reducible refine Below.drew ?_) | (with_reducible refine below_drewN ?_ _) | (with_reducible refine below_via (by with_reducible assumption) ?_ ?_) | go_size)) : Box3 w3 _ _ _ _)
  have K3 := Lib.hid hx3
  have K5 := Lib.hid hx5
  have P3 : Hid (Rd w3 a n zs) := P1.out.below (by repeat' (first | (with_reducible exact Below.refl _ _) | (with_reducible assumption) | (with_reducible refine Below.alloc ?_ ?_ _) | (with_reducible refine Below.setCell ?_ ?_ _) | (with_reducible refine Below.drew ?_) | (with_reducible refine below_drewN ?_ _) | (with_reducible refine below_via (by with_reducible assumption) ?_ ?_) | go_size))
  have G3 : Hid (Rd w3 a2 L.length L) := (own_rd HO2.out).below (by repeat' (first | (with_reducible exact Below.refl _ _) | (with_reducible assumption) | (with_reducible refine Below.alloc ?_ ?_ _) | (with_reducible refine Below.setCell ?_ ?_ _) | (with_reducible refine Below.drew ?_) | (with_reducible refine below_drewN ?_ _) | (with_reducible refine below_via (by with_reducible assumption) ?_ ?_) | go_size))
  have HB3 : Hid (Below w.heap.size w w3) := by
    have h := HB1.out
    have hs := h.size
    unfold Hid
    repeat' (first | (with_reducible exact Below.refl _ _) | (with_reducible assumption) | (with_reducible refine Below.alloc ?_ ?_ _) | (with_reducible refine Below.setCell ?_ ?_ _) | (with_reducible refine Below.drew ?_) | (with_reducible refine below_drewN ?_ _) | (with_reducible refine below_via (by with_reducible assumption) ?_ ?_) | go_size)
  obtain ⟨_, _, _, _⟩ := hx3
  obtain ⟨_, _, _, _⟩ := hx5
  clear hb2 hb3 k3 b5 HO2 P1 HB1
  have b7 := Lib.hid (Box3.new w3 32 (.int .i64 R) (.int .i64 C) (.slice a3 L.length c3))
  go_wp2_with fail
  refine (lLikeR R C _ _ _ _ _ _ L _ (G3.out.below (by repeat' (first | (with_reducible exact Below.refl _ _) | (with_reducible assumption) | (with_reducible refine Below.alloc ?_ ?_ _) | (with_reducible refine Below.setCell ?_ ?_ _) | (with_reducible refine Below.drew ?_) | (with_reducible refine below_drewN ?_ _) | (with_reducible refine below_via (by with_reducible assumption) ?_ ?_) | go_size))) ((own_rd HO3.out).below (by repeat' (first | (with_reducible exact Below.refl _ _) | (with_reducible assumption) | (with_reducible refine Below.alloc ?_ ?_ _) | (with_reducible refine Below.setCell ?_ ?_ _) | (with_reducible refine Below.drew ?_) | (with_reducible refine below_drewN ?_ _) | (with_reducible refine below_via (by with_reducible assumption) ?_ ?_) | go_size))) hn2).mono ?_
  rintro e w4 ⟨rfl, hb4⟩
  have hz5 := hb4.size; try simp at hz5
  have hx3 := (K3.out.keep (by repeat' (first | (with_reducible exact Below.refl _ _) | (with_reducible assumption) | (with_reducible refine Below.alloc ?_ ?_ _) | (with_reducible refine Below.setCell ?_ ?_ _) | (with_reducible refine Below.drew ?_) | (with_reducible refine below_drewN ?_ _) | (with_reducible refine below_via (by with_reducible assumption) ?_ ?_) | go_size)) : Box3 w4 _ _ _ _)
  have hx5 := (K5.out.keep (by repeat' (first | (with_reducible exact Below.refl _ _) | (with_reducible assumption) | (with_reducible refine Below.alloc ?_ ?_ _) | (with_reducible refine Below.setCell ?_ ?_ _) | (with_reducible refine Below.drew ?_) | (with_reducible refine below_drewN ?_ _) | (with_reducible refine below_via (by with_reducible assumption) ?_ ?_) | go_size)) : Box3 w4 _ _ _ _)
  have P4 : Hid (Rd w4 a n zs) := P3.out.below (by repeat' (first | (with_reducible exact Below.refl _ _) | (with_reducible assumption) | (with_reducible refine Below.alloc ?_ ?_ _) | (with_reducible refine Below.setCell ?_ ?_ _) | (with_reducible refine Below.drew ?_) | (with_reducible refine below_drewN ?_ _) | (with_reducible refine below_via (by with_reducible assumption) ?_ ?_) | go_size))
  have G4 : Hid (Rd w4 a2 L.length L) := G3.out.below (by repeat' (first | (with_reducible exact Below.refl _ _) | (with_reducible assumption) | (with_reducible refine Below.alloc ?_ ?_ _) | (with_reducible refine Below.setCell ?_ ?_ _) | (with_reducible refine Below.drew ?_) | (with_reducible refine below_drewN ?_ _) | (with_reducible refine below_via (by with_reducible assumption) ?_ ?_) | go_size))
  have HB4 : Hid (Below w.heap.size w w4) := by
    have h := HB3.out
    have hs := h.size
    unfold Hid
    repeat' (first | (with_reducible exact Below.refl _ _) | (with_reducible assumption) | (with_reducible refine Below.alloc ?_ ?_ _) | (with_reducible refine Below.setCell ?_ ?_ _) | (with_reducible refine Below.drew ?_) | (with_reducible refine below_drewN ?_ _) | (with_reducible refine below_via (by with_reducible assumption) ?_ ?_) | go_size)
  have K34 := Lib.hid hx3
  have K54 := Lib.hid hx5
  clear hb4 K3 K5 P3 G3 HB3 HO3 b7
  rcases HCO.out with rfl | ⟨rfl, hr, rfl, rfl, Ro, Co, rfl, rfl, rfl⟩
  · go_wp2
    go_returns
    exact ⟨rfl, HB4.out⟩
  obtain ⟨hrm, hlm, hcon⟩ := med_contrast P4.out.1 hr
  have HRM := Lib.hid hrm
  have HLM := Lib.hid hlm
  have HR := Lib.hid hr
  obtain ⟨M, hM⟩ : ∃ M, rastL Co (medV zs Ro Co) (Ro * Co) = M := ⟨_, rfl⟩
  rw [hM] at HRM HLM hcon G4 hn2 hx5 K54 hrm hlm ⊢
  rw [hlm] at G4 hn2 hx5 K54 ⊢
  have HE1 : Hid (okE (Ro : Int) (Co : Int) n zs = 0) := by unfold Hid okE selI; rw [hr]; rfl
  have HE2 : Hid (okE (Ro : Int) (Co : Int) n M = 0) := by unfold Hid okE selI; rw [hrm]; rfl
  clear hr hrm hlm hM HCO HI HS
  obtain ⟨_, _, _, _⟩ := hx3
  obtain ⟨_, _, _, _⟩ := hx5
  go_wp2_with fail
  refine (iContrastOf (Ro : Int) (Co : Int) a n cp zs _ (P4.out.below (by repeat' (first | (with_reducible exact Below.refl _ _) | (with_reducible assumption) | (with_reducible refine Below.alloc ?_ ?_ _) | (with_reducible refine Below.setCell ?_ ?_ _) | (with_reducible refine Below.drew ?_) | (with_reducible refine below_drewN ?_ _) | (with_reducible refine below_via (by with_reducible assumption) ?_ ?_) | go_size))) hn).mono ?_
  rw [HE1.out]
  rintro e w5 ⟨rfl, hb5⟩
  have hz6 := hb5.size
  have hx5 := (K54.out.keep (by repeat' (first | (with_reducible exact Below.refl _ _) | (with_reducible assumption) | (with_reducible refine Below.alloc ?_ ?_ _) | (with_reducible refine Below.setCell ?_ ?_ _) | (with_reducible refine Below.drew ?_) | (with_reducible refine below_drewN ?_ _) | (with_reducible refine below_via (by with_reducible assumption) ?_ ?_) | go_size)) : Box3 w5 _ _ _ _)
  obtain ⟨_, _, _, _⟩ := hx5
  go_wp2_with fail
  refine (iContrastOf (Ro : Int) (Co : Int) a2 n c2 M _ (G4.out.below (by repeat' (first | (with_reducible exact Below.refl _ _) | (with_reducible assumption) | (with_reducible refine Below.alloc ?_ ?_ _) | (with_reducible refine Below.setCell ?_ ?_ _) | (with_reducible refine Below.drew ?_) | (with_reducible refine below_drewN ?_ _) | (with_reducible refine below_via (by with_reducible assumption) ?_ ?_) | go_size))) hn).mono ?_
  rw [HE2.out]
  rintro e w6 ⟨rfl, hb6⟩
  have hz7 := hb6.size
  have HB6 : Hid (Below w.heap.size w w6) := by
    have h := HB4.out
    have hs := h.size
    unfold Hid
    repeat' (first | (with_reducible exact Below.refl _ _) | (with_reducible assumption) | (with_reducible refine Below.alloc ?_ ?_ _) | (with_reducible refine Below.setCell ?_ ?_ _) | (with_reducible refine Below.drew ?_) | (with_reducible refine below_drewN ?_ _) | (with_reducible refine below_via (by with_reducible assumption) ?_ ?_) | go_size)
  obtain ⟨q1, hq1⟩ : ∃ q, conO (Ro : Int) (Co : Int) n zs = q := ⟨_, rfl⟩
  obtain ⟨q2, hq2⟩ : ∃ q, conO (Ro : Int) (Co : Int) n M = q := ⟨_, rfl⟩
  rw [hq1, hq2] at hcon
  rw [hq1, hq2]
  clear hq1 hq2 hb5 hb6 K34 K54 P4 G4 HB4 HE1 HE2 HRM HLM HR
  go_wp2_with fail
  refine (dLoc _ _ _ _ ((HBY.out.kept (fun b hb => HB6.out.block b hb)).up HB6.out.size) (by omega)).mono ?_
  rintro e w7 ⟨r', c', a7, n7, cp7, zl, rad, off, rfl, hn7, hcp7, hrd7, hb7⟩
  have hz8 := hb7.size
  obtain ⟨R7, C7, code7, L7, hI, hS⟩ := loc_code (r := r') (c := c') (rad := rad) (off := off) (zs := zl) hn7
  have HI := Lib.hid hI
  have HS := Lib.hid hS
  have P7 := Lib.hid hrd7
  have HB7 : Hid (Below w.heap.size w w7) := HB6.out.trans (hb7.mono HB6.out.size)
  have b12 := Lib.hid (Box3.new w7 32 (.int .i64 r') (.int .i64 c') (.slice a7 n7 cp7))
  clear hI hS hrd7 hb7 HB6
  go_wp2_with fail
  refine (HI.out _ _ _ (P7.out.below (by repeat' (first | (with_reducible exact Below.refl _ _) | (with_reducible assumption) | (with_reducible refine Below.alloc ?_ ?_ _) | (with_reducible refine Below.setCell ?_ ?_ _) | (with_reducible refine Below.drew ?_) | (with_reducible refine below_drewN ?_ _) | (with_reducible refine below_via (by with_reducible assumption) ?_ ?_) | go_size)))).mono ?_
  rintro e w8 ⟨a8, c8, rfl, ho8, hb8, hn8⟩
  have hz9 := hb8.size; try simp at hz9
  have hx12 := (b12.out.keep (by repeat' (first | (with_reducible exact Below.refl _ _) | (with_reducible assumption) | (with_reducible refine Below.alloc ?_ ?_ _) | (with_reducible refine Below.setCell ?_ ?_ _) | (with_reducible refine Below.drew ?_) | (with_reducible refine below_drewN ?_ _) | (with_reducible refine below_via (by with_reducible assumption) ?_ ?_) | go_size)) : Box3 w8 _ _ _ _)
  obtain ⟨_, _, _, _⟩ := hx12
  have HO8 := Lib.hid ho8
  clear ho8
  have b15 := Lib.hid (Box3.new w8 29 (.int .i64 R7) (.int .i64 C7) (.slice a8 L7.length c8))
  go_wp2_with fail
  refine (HS.out _ _ _ (P7.out.below (by repeat' (first | (with_reducible exact Below.refl _ _) | (with_reducible assumption) | (with_reducible refine Below.alloc ?_ ?_ _) | (with_reducible refine Below.setCell ?_ ?_ _) | (with_reducible refine Below.drew ?_) | (with_reducible refine below_drewN ?_ _) | (with_reducible refine below_via (by with_reducible assumption) ?_ ?_) | go_size)))).mono ?_
  rintro e w9 ⟨a9, c9, rfl, ho9, hb9, hn9⟩
  have hz10 := hb9.size; try simp at hz10
  have hx15 := (b15.out.keep (by repeat' (first | (with_reducible exact Below.refl _ _) | (with_reducible assumption) | (with_reducible refine Below.alloc ?_ ?_ _) | (with_reducible refine Below.setCell ?_ ?_ _) | (with_reducible refine Below.drew ?_) | (with_reducible refine below_drewN ?_ _) | (with_reducible refine below_via (by with_reducible assumption) ?_ ?_) | go_size)) : Box3 w9 _ _ _ _)
  obtain ⟨_, _, _, _⟩ := hx15
  have HO9 := Lib.hid ho9
  clear ho9
  have G9 : Hid (Rd w9 a8 L7.length L7) := (own_rd HO8.out).below (by repeat' (first | (with_reducible exact Below.refl _ _) | (with_reducible assumption) | (with_reducible refine Below.alloc ?_ ?_ _) | (with_reducible refine Below.setCell ?_ ?_ _) | (with_reducible refine Below.drew ?_) | (with_reducible refine below_drewN ?_ _) | (with_reducible refine below_via (by with_reducible assumption) ?_ ?_) | go_size))
  have HB9 : Hid (Below w.heap.size w w9) := by
    have h := HB7.out
    have hs := h.size
    unfold Hid
    repeat' (first | (with_reducible exact Below.refl _ _) | (with_reducible assumption) | (with_reducible refine Below.alloc ?_ ?_ _) | (with_reducible refine Below.setCell ?_ ?_ _) | (with_reducible refine Below.drew ?_) | (with_reducible refine below_drewN ?_ _) | (with_reducible refine below_via (by with_reducible assumption) ?_ ?_) | go_size)
  clear hb8 hb9 b12 b15 HO8 P7 HB7
  go_wp2_with fail
  refine (lLikeG R7 C7 _ _ _ _ _ _ L7 _ (G9.out.below (by repeat' (first | (with_reducible exact Below.refl _ _) | (with_reducible assumption) | (with_reducible refine Below.alloc ?_ ?_ _) | (with_reducible refine Below.setCell ?_ ?_ _) | (with_reducible refine Below.drew ?_) | (with_reducible refine below_drewN ?_ _) | (with_reducible refine below_via (by with_reducible assumption) ?_ ?_) | go_size))) ((own_rd HO9.out).below (by repeat' (first | (with_reducible exact Below.refl _ _) | (with_reducible assumption) | (with_reducible refine Below.alloc ?_ ?_ _) | (with_reducible refine Below.setCell ?_ ?_ _) | (with_reducible refine Below.drew ?_) | (with_reducible refine below_drewN ?_ _) | (with_reducible refine below_via (by with_reducible assumption) ?_ ?_) | go_size))) hn8).mono ?_
  rintro e w10 ⟨rfl, hb10⟩
  have HB10 : Hid (Below w.heap.size w w10) := by
    have h := HB9.out
    have hs := h.size
    unfold Hid
    repeat' (first | (with_reducible exact Below.refl _ _) | (with_reducible assumption) | (with_reducible refine Below.alloc ?_ ?_ _) | (with_reducible refine Below.setCell ?_ ?_ _) | (with_reducible refine Below.drew ?_) | (with_reducible refine below_drewN ?_ _) | (with_reducible refine below_via (by with_reducible assumption) ?_ ?_) | go_size)
  clear hb10
  go_wp2
  go_returns
  exact ⟨rfl, HB10.out⟩
end Go.Proofs.Ytfiddbmjgncabaa
