/-
  DERIVED. The walk of FnModuleBoxes.
-/
import Derived.Test.YtfiddbmjgncabaaDPrG
import Derived.Test.YtfiddbmjgncabaaMBox
import Derived.Test.YtfiddbmjgncabaaDice
import Derived.Test.YtfiddbmjgncabaaLikeG
import Derived.Test.YtfiddbmjgncabaaDTurnR
import Derived.BigQuiet
namespace Go.Proofs.Ytfiddbmjgncabaa
open Go.RowKit
set_option linter.unusedVariables false
theorem rd_kx {W wr : World} {g n : Nat} {a : Option Addr} {zs : List Int} (h : Rd W a n zs) (hk : KX W wr W.heap.size g) (hne : ∀ b off, a = some ⟨b, off, none⟩ → 0 < n → b ≠ g) : Rd wr a n zs := by
  refine ⟨h.1, fun hp => ?_⟩
  obtain ⟨b, off, e, hlt, hcl⟩ := h.2 hp
  exact ⟨b, off, e, Nat.lt_of_lt_of_le hlt hk.1, fun i hi => (World.cell?_of_block (a := ⟨b, off + i, none⟩) (hk.2 b hlt (hne b off e hp))).trans (hcl i hi)⟩
set_option maxRecDepth 100000 in
set_option maxHeartbeats 8000000 in
theorem walk_FnModuleBoxes (code_a : Option Addr) (code_n code_c : Nat) (code_z : List Int) (w : World) (h_code : Ints .u8 w code_a code_n code_c code_z) :
    Calls Try.prog 5 #[.slice code_a code_n code_c] w fun e w' => e = .returned (.bool true) ∧ Below w.heap.size w w' := by
  obtain ⟨i0, hi, iz0, iz1, iz2⟩ := info_parts infoInt
  have hmx := h_code.max
  have HBY := Lib.hid h_code.bytes
  clear h_code
  by_cases hbig : 4096 < code_n
  · have tb : decide ((4096 : Int) < (code_n : Int)) = true := by simp; omega
    go_enter Try.func5, Try.ntmps5
    go_wp2_with fail
    refine (lBig _ _ _ _ hmx).mono ?_
    rintro e w' ⟨rfl, rfl⟩
    rw [tb]
    go_wp2
    go_returns
    exact ⟨rfl, by repeat' (first | (with_reducible exact Below.refl _ _) | (with_reducible assumption) | (with_reducible refine Below.alloc ?_ ?_ _) | (with_reducible refine Below.setCell ?_ ?_ _) | (with_reducible refine Below.drew ?_) | (with_reducible refine below_drewN ?_ _) | (with_reducible refine below_via (by with_reducible assumption) ?_ ?_) | go_size)⟩
  have tb : decide ((4096 : Int) < (code_n : Int)) = false := by simp; omega
  go_enter Try.func5, Try.ntmps5
  go_wp2_with fail
  refine (lBig _ _ _ _ hmx).mono ?_
  rintro e w' ⟨rfl, rfl⟩
  rw [tb]
  go_wp2_with fail
  refine (dPrG _ _ _ _ HBY.out (by omega)).mono ?_
  rintro e w1 ⟨r, c, a, n, cp, zs, f, rfl, hn, hcp, hrd, hb1⟩
  have hz1 := hb1.size
  obtain ⟨p, hp⟩ : ∃ x, f 0 = x := ⟨_, rfl⟩
  obtain ⟨t, ht⟩ : ∃ x, f 1 = x := ⟨_, rfl⟩
  obtain ⟨q, hq⟩ : ∃ x, f 2 = x := ⟨_, rfl⟩
  obtain ⟨bl, hbl⟩ : ∃ x, f 3 = x := ⟨_, rfl⟩
  obtain ⟨dk, hd⟩ : ∃ x, f 4 = x := ⟨_, rfl⟩
  obtain ⟨l, hl⟩ : ∃ x, f 5 = x := ⟨_, rfl⟩
  rw [hp, ht, hq, hbl, hd, hl]
  obtain ⟨TR, TC, code, L, hI, hS, hcode⟩ := prt_code (R := r) (C := c) (p := p) (t := t) (q := q) (d := dk) (l := l) (zs := zs) hn
  have HI := Lib.hid hI
  have HS := Lib.hid hS
  have HCO := Lib.hid hcode
  clear hI hS hcode tb hp ht hq hbl hd hl
  obtain ⟨w2, hw2⟩ : ∃ w2 : World, w2 = w1.alloc (.cells #[.int .i64 r, .int .i64 c, .slice a n cp] 29) := ⟨_, rfl⟩
  have hz2 : w2.heap.size = w1.heap.size + 1 := by rw [hw2]; simp
  have b3 : Hid (Box3 w2 w1.heap.size (.int .i64 r) (.int .i64 c) (.slice a n cp)) := by rw [hw2]; exact Box3.new w1 _ _ _ _
  obtain ⟨ff, hff⟩ : ∃ ff : Nat → Int, ff = fun j => if j = 0 then p else if j = 1 then t else if j = 2 then q else if j = 3 then 0 else if j = 4 then dk else l := ⟨_, rfl⟩
  obtain ⟨w3, hw3⟩ : ∃ w3 : World, w3 = w2.alloc (.cells #[.int .i64 p, .int .i64 t, .int .i64 q, .int .i64 0, .int .i64 dk, .int .i64 l] 34) := ⟨_, rfl⟩
  have hz3 : w3.heap.size = w1.heap.size + 2 := by rw [hw3]; simp; omega
  have b4' : B6 w3 (w1.heap.size + 1) ff := by
    rw [hw3, ← hz2]
    have h := B6.six w2 34 ff
    rw [hff] at h ⊢
    exact h
  have B4 := Lib.hid b4'
  have e0 : ff 0 = p := by rw [hff]; rfl
  have e1 : ff 1 = t := by rw [hff]; rfl
  have e2 : ff 2 = q := by rw [hff]; rfl
  have e3 : ff 3 = 0 := by rw [hff]; rfl
  have e4 : ff 4 = dk := by rw [hff]; rfl
  have e5 : ff 5 = l := by rw [hff]; rfl
  have hB3 : Below w1.heap.size w1 w3 := by rw [hw3, hw2]; repeat' (first | (with_reducible exact Below.refl _ _) | (with_reducible assumption) | (with_reducible refine Below.alloc ?_ ?_ _) | (with_reducible refine Below.setCell ?_ ?_ _) | (with_reducible refine Below.drew ?_) | (with_reducible refine below_drewN ?_ _) | (with_reducible refine below_via (by with_reducible assumption) ?_ ?_) | go_size)
  have B3 : Hid (Box3 w3 w1.heap.size (.int .i64 r) (.int .i64 c) (.slice a n cp)) := by rw [hw3]; exact b3.out.keep ((Below.refl _ _).alloc (Nat.le_refl _) _)
  have P3 : Hid (Rd w3 a n zs) := hrd.below hB3
  have HB3 : Hid (Below w.heap.size w w3) := hb1.trans (hB3.mono hz1)
  have HE := Lib.hid (And.intro e0 (And.intro e1 (And.intro e2 (And.intro e3 (And.intro e4 e5)))))
  clear hff e0 e1 e2 e3 e4 e5 b3 b4' hB3 hrd hb1
  go_wp2_with fail
  rw [← hw2, ← hw3]
  clear hw3 hw2
  refine (HI.out _ _ _ P3.out).mono ?_
  rintro e w4 ⟨a4, c4, rfl, ho4, hb4, hn4⟩
  have hz4 := hb4.size
  have k3 := Lib.hid (B3.out.keep hb4)
  have k4 := Lib.hid (B4.out.keep hb4)
  have hx3 := k3.out
  obtain ⟨_, _, _, _⟩ := hx3
  obtain ⟨g0, g1, g2, g3, g4, g5, g6, -⟩ := k4.out.all
  obtain ⟨e0, e1, e2, e3, e4, e5⟩ := HE.out
  rw [e0] at g1
  rw [e1] at g2
  rw [e2] at g3
  rw [e3] at g4
  rw [e4] at g5
  rw [e5] at g6
  clear e0 e1 e2 e3 e4 e5
  have HO4 := Lib.hid ho4
  have P4 : Hid (Rd w4 a n zs) := P3.out.below hb4
  have HB4 : Hid (Below w.heap.size w w4) := HB3.out.trans (hb4.mono HB3.out.size)
  have b5 := Lib.hid (Box3.new w4 32 (.int .i64 TR) (.int .i64 TC) (.slice a4 L.length c4))
  clear ho4 hb4 B3 B4 P3 HB3
  go_wp2_with fail
  refine (HS.out _ _ _ (P4.out.below (by repeat' (first | (with_reducible exact Below.refl _ _) | (with_reducible assumption) | (with_reducible refine Below.alloc ?_ ?_ _) | (with_reducible refine Below.setCell ?_ ?_ _) | (with_reducible refine Below.drew ?_) | (with_reducible refine below_drewN ?_ _) | (with_reducible refine below_via (by with_reducible assumption) ?_ ?_) | go_size)))).mono ?_
  rintro e w5 ⟨a5, c5, rfl, ho5, hb5, hn5⟩
  have hz5 := hb5.size; try simp at hz5
  have HO5 := Lib.hid ho5
  clear ho5 g0 g1 g2 g3 g4 g5 g6
  have K3 := Lib.hid (k3.out.keep (by repeat' (first | (with_reducible exact Below.refl _ _) | (with_reducible assumption) | (with_reducible refine Below.alloc ?_ ?_ _) | (with_reducible refine Below.setCell ?_ ?_ _) | (with_reducible refine Below.drew ?_) | (with_reducible refine below_drewN ?_ _) | (with_reducible refine below_via (by with_reducible assumption) ?_ ?_) | go_size)) : Box3 w5 _ _ _ _)
  have K4 := Lib.hid (k4.out.keep (by repeat' (first | (with_reducible exact Below.refl _ _) | (with_reducible assumption) | (with_reducible refine Below.alloc ?_ ?_ _) | (with_reducible refine Below.setCell ?_ ?_ _) | (with_reducible refine Below.drew ?_) | (with_reducible refine below_drewN ?_ _) | (with_reducible refine below_via (by with_reducible assumption) ?_ ?_) | go_size)) : B6 w5 _ _)
  have K5 := Lib.hid (b5.out.keep (by repeat' (first | (with_reducible exact Below.refl _ _) | (with_reducible assumption) | (with_reducible refine Below.alloc ?_ ?_ _) | (with_reducible refine Below.setCell ?_ ?_ _) | (with_reducible refine Below.drew ?_) | (with_reducible refine below_drewN ?_ _) | (with_reducible refine below_via (by with_reducible assumption) ?_ ?_) | go_size)) : Box3 w5 _ _ _ _)
  have P5 : Hid (Rd w5 a n zs) := P4.out.below (by repeat' (first | (with_reducible exact Below.refl _ _) | (with_reducible assumption) | (with_reducible refine Below.alloc ?_ ?_ _) | (with_reducible refine Below.setCell ?_ ?_ _) | (with_reducible refine Below.drew ?_) | (with_reducible refine below_drewN ?_ _) | (with_reducible refine below_via (by with_reducible assumption) ?_ ?_) | go_size))
  have G5 : Hid (Rd w5 a4 L.length L) := (own_rd HO4.out).below (by repeat' (first | (with_reducible exact Below.refl _ _) | (with_reducible assumption) | (with_reducible refine Below.alloc ?_ ?_ _) | (with_reducible refine Below.setCell ?_ ?_ _) | (with_reducible refine Below.drew ?_) | (with_reducible refine below_drewN ?_ _) | (with_reducible refine below_via (by with_reducible assumption) ?_ ?_) | go_size))
  have HB5 : Hid (Below w.heap.size w w5) := by
    have h := HB4.out
    have hs := h.size
    unfold Hid
    repeat' (first | (with_reducible exact Below.refl _ _) | (with_reducible assumption) | (with_reducible refine Below.alloc ?_ ?_ _) | (with_reducible refine Below.setCell ?_ ?_ _) | (with_reducible refine Below.drew ?_) | (with_reducible refine below_drewN ?_ _) | (with_reducible refine below_via (by with_reducible assumption) ?_ ?_) | go_size)
  have hx5 := K5.out
  obtain ⟨_, _, _, _⟩ := hx5
  clear hb5 k3 k4 b5 HO4 P4 HB4
  have b7 := Lib.hid (Box3.new w5 32 (.int .i64 TR) (.int .i64 TC) (.slice a5 L.length c5))
  go_wp2_with fail
  refine (lLikeR TR TC _ _ _ _ _ _ L _ (G5.out.below (by repeat' (first | (with_reducible exact Below.refl _ _) | (with_reducible assumption) | (with_reducible refine Below.alloc ?_ ?_ _) | (with_reducible refine Below.setCell ?_ ?_ _) | (with_reducible refine Below.drew ?_) | (with_reducible refine below_drewN ?_ _) | (with_reducible refine below_via (by with_reducible assumption) ?_ ?_) | go_size))) ((own_rd HO5.out).below (by repeat' (first | (with_reducible exact Below.refl _ _) | (with_reducible assumption) | (with_reducible refine Below.alloc ?_ ?_ _) | (with_reducible refine Below.setCell ?_ ?_ _) | (with_reducible refine Below.drew ?_) | (with_reducible refine below_drewN ?_ _) | (with_reducible refine below_via (by with_reducible assumption) ?_ ?_) | go_size))) hn4).mono ?_
  rintro e w6 ⟨rfl, hb6⟩
  have hz6 := hb6.size; try simp at hz6
  have K36 := Lib.hid (K3.out.keep (by repeat' (first | (with_reducible exact Below.refl _ _) | (with_reducible assumption) | (with_reducible refine Below.alloc ?_ ?_ _) | (with_reducible refine Below.setCell ?_ ?_ _) | (with_reducible refine Below.drew ?_) | (with_reducible refine below_drewN ?_ _) | (with_reducible refine below_via (by with_reducible assumption) ?_ ?_) | go_size)) : Box3 w6 _ _ _ _)
  have K46 := Lib.hid (K4.out.keep (by repeat' (first | (with_reducible exact Below.refl _ _) | (with_reducible assumption) | (with_reducible refine Below.alloc ?_ ?_ _) | (with_reducible refine Below.setCell ?_ ?_ _) | (with_reducible refine Below.drew ?_) | (with_reducible refine below_drewN ?_ _) | (with_reducible refine below_via (by with_reducible assumption) ?_ ?_) | go_size)) : B6 w6 _ _)
  have K56 := Lib.hid (K5.out.keep (by repeat' (first | (with_reducible exact Below.refl _ _) | (with_reducible assumption) | (with_reducible refine Below.alloc ?_ ?_ _) | (with_reducible refine Below.setCell ?_ ?_ _) | (with_reducible refine Below.drew ?_) | (with_reducible refine below_drewN ?_ _) | (with_reducible refine below_via (by with_reducible assumption) ?_ ?_) | go_size)) : Box3 w6 _ _ _ _)
  have P6 : Hid (Rd w6 a n zs) := P5.out.below (by repeat' (first | (with_reducible exact Below.refl _ _) | (with_reducible assumption) | (with_reducible refine Below.alloc ?_ ?_ _) | (with_reducible refine Below.setCell ?_ ?_ _) | (with_reducible refine Below.drew ?_) | (with_reducible refine below_drewN ?_ _) | (with_reducible refine below_via (by with_reducible assumption) ?_ ?_) | go_size))
  have G6 : Hid (Rd w6 a4 L.length L) := G5.out.below (by repeat' (first | (with_reducible exact Below.refl _ _) | (with_reducible assumption) | (with_reducible refine Below.alloc ?_ ?_ _) | (with_reducible refine Below.setCell ?_ ?_ _) | (with_reducible refine Below.drew ?_) | (with_reducible refine below_drewN ?_ _) | (with_reducible refine below_via (by with_reducible assumption) ?_ ?_) | go_size))
  have HB6 : Hid (Below w.heap.size w w6) := by
    have h := HB5.out
    have hs := h.size
    unfold Hid
    repeat' (first | (with_reducible exact Below.refl _ _) | (with_reducible assumption) | (with_reducible refine Below.alloc ?_ ?_ _) | (with_reducible refine Below.setCell ?_ ?_ _) | (with_reducible refine Below.drew ?_) | (with_reducible refine below_drewN ?_ _) | (with_reducible refine below_via (by with_reducible assumption) ?_ ?_) | go_size)
  clear hb6 K3 K4 K5 P5 G5 HB5 HO5 b7
  rcases HCO.out with ⟨hc1, hc2⟩ | ⟨rfl, hok⟩
  · have tc : (code != 0) = true := by simp; omega
    go_wp2
    go_returns
    exact ⟨rfl, HB6.out⟩
  obtain ⟨Cn, rfl, hC1, hn1, hC4, hn0, hp1, hp2, ht1, ht2, hok⟩ := hok
  have HOK := Lib.hid hok
  clear hok HCO HI HS
  have hx3 := K36.out
  obtain ⟨_, _, _, _⟩ := hx3
  go_wp2_with fail
  refine (lRoll _ _ _ _ _ ((HBY.out.kept (fun b hb => HB6.out.block b hb)).up HB6.out.size) (by omega)).mono ?_
  rintro e w7 ⟨rfl, hdi, hb7⟩
  have hz7 := hb7.size
  have HDI := Lib.hid hdi
  have hlt6 : w6.heap.size < w7.heap.size := by obtain ⟨_, _, _, _, _, h, _⟩ := hdi; exact h
  have K37 := Lib.hid (K36.out.keep hb7)
  have K47 := Lib.hid (K46.out.keep hb7)
  have K57 := Lib.hid (K56.out.keep hb7)
  have P7 : Hid (Rd w7 a n zs) := P6.out.below hb7
  have G7 : Hid (Rd w7 a4 L.length L) := G6.out.below hb7
  have HB7 : Hid (Below w.heap.size w w7) := HB6.out.trans (hb7.mono HB6.out.size)
  have hx3 := K37.out
  obtain ⟨_, _, _, _⟩ := hx3
  have LP := Lib.hid (P6.out.lt)
  have LG := Lib.hid (G6.out.lt)
  clear hdi hb7 K36 K46 K56 P6 G6 HB6 HBY
  go_wp2_with fail
  refine (lBelow _ _ _ HDI.out (by omega) (by omega)).mono ?_
  rintro e w8 ⟨x, rfl, hx0, hx1, hdi, hg8⟩
  obtain ⟨k, rfl⟩ := Int.eq_ofNat_of_zero_le hx0
  have hk : k < n := by omega
  have hz8 := hg8.size
  have HD8 := Lib.hid hdi
  have B38 : Hid (Box3 w8 w1.heap.size (.int .i64 r) (.int .i64 (Cn : Int)) (.slice a n cp)) := K37.out.nxt3 hg8 (by omega)
  have B48 : Hid (B6 w8 (w1.heap.size + 1) ff) := K47.out.nxt hg8 (by omega)
  have B58 : Hid (Box3 w8 w4.heap.size (.int .i64 TR) (.int .i64 TC) (.slice a4 L.length c4)) := K57.out.nxt3 hg8 (by omega)
  have P8 : Hid (Rd w8 a n zs) := rd_nxt P7.out hg8 (fun b off e hp => by have := LP.out b off e hp; omega)
  have G8 : Hid (Rd w8 a4 L.length L) := rd_nxt G7.out hg8 (fun b off e hp => by have := LG.out b off e hp; omega)
  have HB8 : Hid (Below w.heap.size w w8) := below_nxt HB7.out hg8 HB7.out.size (by have := HB7.out.size; omega)
  clear hdi hg8 K37 K47 K57 P7 G7 HB7 HDI
  obtain ⟨y0, xx0, hy0, hxx0, hty, hpx, hbe, y1, y2, x1, x2, -⟩ := HOK.out k 0 0 hk (by omega) (by omega) (by omega) (by omega)
  have hCne : ¬ ((Cn : Int) = 0) := by omega
  have hCz : ¬ (Cn = 0) := by omega
  have hx3 := B38.out
  obtain ⟨_, _, _, _⟩ := hx3
  obtain ⟨g0, g1, g2, g3, g4, g5, g6, -⟩ := B48.out.all
  obtain ⟨e0, e1, e2, e3, e4, e5⟩ := HE.out
  rw [e0] at g1
  rw [e1] at g2
  rw [e2] at g3
  rw [e3] at g4
  rw [e4] at g5
  rw [e5] at g6
  clear e0 e1 e2 e3 e4 e5
  obtain ⟨kr, hkr⟩ : ∃ m, k / Cn = m := ⟨_, rfl⟩
  obtain ⟨kc, hkc⟩ : ∃ m, k % Cn = m := ⟨_, rfl⟩
  rw [hkr] at hy0 hxx0 hty hpx hbe
  rw [hkc] at hy0 hxx0 hty hpx hbe
  have hkr2 : kr ≤ k := by rw [← hkr]; exact Nat.div_le_self _ _
  have hkc2 : kc ≤ k := by rw [← hkc]; exact Nat.mod_le _ _
  have hq1 : Int.tdiv (k : Int) (Cn : Int) = (kr : Int) := by rw [← hkr]; rfl
  have hq2 : Int.tmod (k : Int) (Cn : Int) = (kc : Int) := by rw [← hkc]; rfl
  have hq3 : (k : Int) / (Cn : Int) = (kr : Int) := by rw [← hkr]; rfl
  have v1 : IntKind.i64.wrap (kr : Int) = (kr : Int) := IntWalk.i64_in _ (by omega)
  have v2 : wrap64 (kr : Int) = (kr : Int) := w64_nat (by omega)
  have HSW : Hid (∀ w', Below w8.heap.size w8 w' → Below w8.heap.size w8 w' ∧ w1.heap.size < w'.heap.size ∧ w1.heap.size + 1 < w'.heap.size ∧ w'.cell? ⟨w1.heap.size, 0, none⟩ = some (.int .i64 r) ∧ w'.cell? ⟨w1.heap.size, 1, none⟩ = some (.int .i64 (Cn : Int)) ∧ w'.cell? ⟨w1.heap.size, 2, none⟩ = some (.slice a n cp) ∧ w'.cell? ⟨w1.heap.size + 1, 0, none⟩ = some (.int .i64 p) ∧ w'.cell? ⟨w1.heap.size + 1, 1, none⟩ = some (.int .i64 t) ∧ w'.cell? ⟨w1.heap.size + 1, 2, none⟩ = some (.int .i64 q) ∧ w'.cell? ⟨w1.heap.size + 1, 3, none⟩ = some (.int .i64 0) ∧ w'.cell? ⟨w1.heap.size + 1, 4, none⟩ = some (.int .i64 dk) ∧ w'.cell? ⟨w1.heap.size + 1, 5, none⟩ = some (.int .i64 l)) := fun w' h => ⟨h, Nat.lt_of_lt_of_le (by assumption) h.size, Nat.lt_of_lt_of_le (by assumption) h.size, (h.cell (p := ⟨_, _, none⟩) (by assumption)).trans (by assumption), (h.cell (p := ⟨_, _, none⟩) (by assumption)).trans (by assumption), (h.cell (p := ⟨_, _, none⟩) (by assumption)).trans (by assumption), (h.cell (p := ⟨_, _, none⟩) (by assumption)).trans (by assumption), (h.cell (p := ⟨_, _, none⟩) (by assumption)).trans (by assumption), (h.cell (p := ⟨_, _, none⟩) (by assumption)).trans (by assumption), (h.cell (p := ⟨_, _, none⟩) (by assumption)).trans (by assumption), (h.cell (p := ⟨_, _, none⟩) (by assumption)).trans (by assumption), (h.cell (p := ⟨_, _, none⟩) (by assumption)).trans (by assumption)⟩
  go_wp2_with fail
  go_cut [11, 12, 13, 14, 15] from 18 (fun p1 p2 p3 p4 p5 wx => p1 = .int .i64 y0 ∧ p2 = .int .i64 xx0 ∧ p3 = .int .i64 t ∧ p4 = .int .i64 p ∧ p5 = .int .i64 0 ∧ Hid (Below w8.heap.size w8 wx))
  case first =>
    go_region_held3 (fun w' => Below w8.heap.size w8 w' ∧ w1.heap.size < w'.heap.size ∧ w1.heap.size + 1 < w'.heap.size ∧ w'.cell? ⟨w1.heap.size, 0, none⟩ = some (.int .i64 r) ∧ w'.cell? ⟨w1.heap.size, 1, none⟩ = some (.int .i64 (Cn : Int)) ∧ w'.cell? ⟨w1.heap.size, 2, none⟩ = some (.slice a n cp) ∧ w'.cell? ⟨w1.heap.size + 1, 0, none⟩ = some (.int .i64 p) ∧ w'.cell? ⟨w1.heap.size + 1, 1, none⟩ = some (.int .i64 t) ∧ w'.cell? ⟨w1.heap.size + 1, 2, none⟩ = some (.int .i64 q) ∧ w'.cell? ⟨w1.heap.size + 1, 3, none⟩ = some (.int .i64 0) ∧ w'.cell? ⟨w1.heap.size + 1, 4, none⟩ = some (.int .i64 dk) ∧ w'.cell? ⟨w1.heap.size + 1, 5, none⟩ = some (.int .i64 l)) (exact HSW.out _ (by repeat' (first | (with_reducible exact Below.refl _ _) | (with_reducible assumption) | (with_reducible refine Below.alloc ?_ ?_ _) | (with_reducible refine Below.setCell ?_ ?_ _) | (with_reducible refine Below.drew ?_) | (with_reducible refine below_drewN ?_ _) | (with_reducible refine below_via (by with_reducible assumption) ?_ ?_) | go_size))) ((go_at_call 32; refine (iBox p t q 0 dk l (kr : Int) (kc : Int) _).mono ?_; rintro e w' ⟨rfl, hbq⟩; have hzq := hbq.size; (try simp at hzq)))
    all_goals
      go_wp2
      go_meet
      case rel => exact ⟨by first | rfl | exact congrArg (Value.int .i64) hy0, by first | rfl | exact congrArg (Value.int .i64) hxx0, by first | rfl | exact congrArg (Value.int .i64) hty, by first | rfl | exact congrArg (Value.int .i64) hpx, by first | rfl | exact congrArg (Value.int .i64) hbe, by unfold Hid; repeat' (first | (with_reducible exact Below.refl _ _) | (with_reducible assumption) | (with_reducible refine Below.alloc ?_ ?_ _) | (with_reducible refine Below.setCell ?_ ?_ _) | (with_reducible refine Below.drew ?_) | (with_reducible refine below_drewN ?_ _) | (with_reducible refine below_via (by with_reducible assumption) ?_ ?_) | go_size)⟩
  obtain ⟨rfl, rfl, rfl, rfl, rfl, hbc⟩ := hcut
  obtain ⟨w9, rfl⟩ : ∃ w9 : World, w9 = wc := ⟨_, rfl⟩
  have hb9 := hbc.out
  have hz9 := hb9.size
  have K39 := Lib.hid (B38.out.keep hb9)
  have K49 := Lib.hid (B48.out.keep hb9)
  have K59 := Lib.hid (B58.out.keep hb9)
  have D9 := Lib.hid (HD8.out.keep hb9)
  have P9 : Hid (Rd w9 a n zs) := P8.out.below hb9
  have G9 : Hid (Rd w9 a4 L.length L) := G8.out.below hb9
  have HB9 : Hid (Below w.heap.size w w9) := HB8.out.trans (hb9.mono HB8.out.size)
  clear HSW g0 g1 g2 g3 g4 g5 g6 B38 B48 B58 P8 G8 HB8 HD8 hb9 hbc v1 v2 hq1 hq2 hq3
  have hx3 := K39.out
  obtain ⟨_, _, _, _⟩ := hx3
  obtain ⟨g0, g1, g2, g3, g4, g5, g6, -⟩ := K49.out.all
  obtain ⟨e0, e1, e2, e3, e4, e5⟩ := HE.out
  rw [e0] at g1
  rw [e1] at g2
  rw [e2] at g3
  rw [e3] at g4
  rw [e4] at g5
  rw [e5] at g6
  clear e0 e1 e2 e3 e4 e5
  go_wp2_with fail
  --REG
  have hsw1 := HB9.out.size
  have lt5 : w4.heap.size < w9.heap.size := by omega
  have ne5 : w4.heap.size ≠ w6.heap.size := by omega
  have lt3 : w1.heap.size < w9.heap.size := by omega
  have ne3 : w1.heap.size ≠ w6.heap.size := by omega
  have lt4 : w1.heap.size + 1 < w9.heap.size := by omega
  have ne4 : w1.heap.size + 1 ≠ w6.heap.size := by omega
  go_cut [16, 17] from 18 (fun p1 p2 wx => ∃ v : Int, p1 = .int .i64 v ∧ (v == dk) = (zs.getD k 0 == 1) ∧ p2 = .int .i64 0 ∧ Hid (KX w9 wx w9.heap.size w6.heap.size) ∧ Hid (Below w.heap.size w wx))
  case first =>
    refine wp_region_inv (fun dd ac wz => ∃ (v16 v17 v86 v87 v88 v89 v90 v91 v92 v93 v94 v95 v96 v97 v98 v99 v100 v101 v102 : Value), ac = ({ tmps := List.toArray (.slice code_a code_n code_c :: undef :: .bool false :: .pointer (some ⟨w1.heap.size, 0, none⟩) :: .pointer (some ⟨w1.heap.size + 1, 0, none⟩) :: .pointer (some ⟨w4.heap.size, 0, none⟩) :: .int .i64 0 :: .pointer (some ⟨w5.heap.size, 0, none⟩) :: .int .i64 0 :: .pointer (some ⟨w6.heap.size, 0, none⟩) :: .int .i64 (k : Int) :: .int .i64 y0 :: .int .i64 xx0 :: .int .i64 t :: .int .i64 p :: .int .i64 0 :: v16 :: v17 :: u18 :: u19 :: u20 :: u21 :: u22 :: u23 :: u24 :: u25 :: u26 :: u27 :: u28 :: u29 :: u30 :: u31 :: u32 :: u33 :: u34 :: u35 :: u36 :: u37 :: u38 :: u39 :: u40 :: u41 :: u42 :: u43 :: u44 :: u45 :: u46 :: u47 :: u48 :: u49 :: u50 :: u51 :: u52 :: u53 :: u54 :: u55 :: u56 :: u57 :: u58 :: u59 :: u60 :: u61 :: u62 :: u63 :: u64 :: u65 :: u66 :: u67 :: u68 :: u69 :: u70 :: u71 :: .int .i64 0 :: .bool false :: .bool false :: .int .i64 t :: .pointer (some ⟨w1.heap.size + 1, 1, none⟩) :: .int .i64 t :: .bool false :: .bool false :: .bool false :: .int .i64 p :: .pointer (some ⟨w1.heap.size + 1, 0, none⟩) :: .int .i64 p :: .bool false :: .bool false :: v86 :: v87 :: v88 :: v89 :: v90 :: v91 :: v92 :: v93 :: v94 :: v95 :: v96 :: v97 :: v98 :: v99 :: v100 :: v101 :: v102 :: u103 :: u104 :: u105 :: u106 :: u107 :: u108 :: u109 :: u110 :: u111 :: u112 :: u113 :: u114 :: u115 :: u116 :: u117 :: []), defers := [] } : Act) ∧ KX w9 wz w9.heap.size w6.heap.size ∧ Dice wz w6.heap.size ∧ Below w.heap.size w wz ∧ (dd 0 = true → v87 = .agg #[.int .i64 TR, .int .i64 TC, .slice a4 L.length c4]) ∧ (dd 1 = true → v88 = .int .i64 y0) ∧ (dd 2 = true → v89 = .pointer (some ⟨w6.heap.size, 0, none⟩)) ∧ (dd 3 = true → v90 = .pointer (some ⟨w1.heap.size + 1, 1, none⟩)) ∧ (dd 4 = true → v91 = .int .i64 t) ∧ (dd 5 = true → ∃ i : Int, v92 = .int .i64 i ∧ 0 ≤ i ∧ i < t) ∧ (dd 6 = true → ∃ i : Int, v93 = .int .i64 (y0 + i) ∧ 0 ≤ i ∧ i < t) ∧ (dd 7 = true → v94 = .int .i64 xx0) ∧ (dd 8 = true → v95 = .pointer (some ⟨w6.heap.size, 0, none⟩)) ∧ (dd 9 = true → v96 = .pointer (some ⟨w1.heap.size + 1, 0, none⟩)) ∧ (dd 10 = true → v97 = .int .i64 p) ∧ (dd 11 = true → ∃ i : Int, v98 = .int .i64 i ∧ 0 ≤ i ∧ i < p) ∧ (dd 12 = true → ∃ i : Int, v99 = .int .i64 (xx0 + i) ∧ 0 ≤ i ∧ i < p) ∧ (dd 13 = true → ∃ v : Int, v100 = .tuple #[.int .i64 v, .int .i64 0] ∧ (v == dk) = (zs.getD k 0 == 1)) ∧ (dd 14 = true → ∃ v : Int, v86 = .tuple #[.int .i64 v, .int .i64 0] ∧ (v == dk) = (zs.getD k 0 == 1)) ∧ (dd 15 = true → ∃ v : Int, v101 = .int .i64 v ∧ (v == dk) = (zs.getD k 0 == 1)) ∧ (dd 16 = true → v102 = .int .i64 0) ∧ (dd 17 = true → ∃ v : Int, v16 = .int .i64 v ∧ (v == dk) = (zs.getD k 0 == 1)) ∧ (dd 18 = true → v17 = .int .i64 0)) (by kernel_rfl) (by kernel_rfl) ?_ ?_ ?_
    · exact ⟨_, _, _, _, _, _, _, _, _, _, _, _, _, _, _, _, _, _, _, rfl, ⟨Nat.le_refl _, fun _ _ _ => rfl⟩, D9.out.keep (Below.refl _ _).drew, HB9.out.drew, (fun h => by cases h), (fun h => by cases h), (fun h => by cases h), (fun h => by cases h), (fun h => by cases h), (fun h => by cases h), (fun h => by cases h), (fun h => by cases h), (fun h => by cases h), (fun h => by cases h), (fun h => by cases h), (fun h => by cases h), (fun h => by cases h), (fun h => by cases h), (fun h => by cases h), (fun h => by cases h), (fun h => by cases h), (fun h => by cases h), (fun h => by cases h)⟩
    · refine Steps.cons (fun dd ac wz hI hdd hdep K hK' => ?_) ?_
      · obtain ⟨v16, v17, v86, v87, v88, v89, v90, v91, v92, v93, v94, v95, v96, v97, v98, v99, v100, v101, v102, rfl, hK, hD, hW, f0, f1, f2, f3, f4, f5, f6, f7, f8, f9, f10, f11, f12, f13, f14, f15, f16, f17, f18⟩ := hI
        have x0 := (World.cell?_of_block (a := ⟨w4.heap.size, 0, none⟩) (hK.2 _ lt5 ne5)).trans K59.out.2.1
        have x1 := (World.cell?_of_block (a := ⟨w4.heap.size, 1, none⟩) (hK.2 _ lt5 ne5)).trans K59.out.2.2.1
        have x2 := (World.cell?_of_block (a := ⟨w4.heap.size, 2, none⟩) (hK.2 _ lt5 ne5)).trans K59.out.2.2.2
        go_simp
        refine hK' _ _ ⟨_, _, _, _, _, _, _, _, _, _, _, _, _, _, _, _, _, _, _, rfl, hK, hD, hW, (fun _ => rfl), f1, f2, f3, f4, f5, f6, f7, f8, f9, f10, f11, f12, f13, f14, f15, f16, f17, f18⟩
      refine Steps.cons (fun dd ac wz hI hdd hdep K hK' => ?_) ?_
      · obtain ⟨v16, v17, v86, v87, v88, v89, v90, v91, v92, v93, v94, v95, v96, v97, v98, v99, v100, v101, v102, rfl, hK, hD, hW, f0, f1, f2, f3, f4, f5, f6, f7, f8, f9, f10, f11, f12, f13, f14, f15, f16, f17, f18⟩ := hI
        go_simp
        refine hK' _ _ ⟨_, _, _, _, _, _, _, _, _, _, _, _, _, _, _, _, _, _, _, rfl, hK, hD, hW, f0, (fun _ => rfl), f2, f3, f4, f5, f6, f7, f8, f9, f10, f11, f12, f13, f14, f15, f16, f17, f18⟩
      refine Steps.cons (fun dd ac wz hI hdd hdep K hK' => ?_) ?_
      · obtain ⟨v16, v17, v86, v87, v88, v89, v90, v91, v92, v93, v94, v95, v96, v97, v98, v99, v100, v101, v102, rfl, hK, hD, hW, f0, f1, f2, f3, f4, f5, f6, f7, f8, f9, f10, f11, f12, f13, f14, f15, f16, f17, f18⟩ := hI
        go_simp
        refine hK' _ _ ⟨_, _, _, _, _, _, _, _, _, _, _, _, _, _, _, _, _, _, _, rfl, hK, hD, hW, f0, f1, (fun _ => rfl), f3, f4, f5, f6, f7, f8, f9, f10, f11, f12, f13, f14, f15, f16, f17, f18⟩
      refine Steps.cons (fun dd ac wz hI hdd hdep K hK' => ?_) ?_
      · obtain ⟨v16, v17, v86, v87, v88, v89, v90, v91, v92, v93, v94, v95, v96, v97, v98, v99, v100, v101, v102, rfl, hK, hD, hW, f0, f1, f2, f3, f4, f5, f6, f7, f8, f9, f10, f11, f12, f13, f14, f15, f16, f17, f18⟩ := hI
        go_simp
        refine hK' _ _ ⟨_, _, _, _, _, _, _, _, _, _, _, _, _, _, _, _, _, _, _, rfl, hK, hD, hW, f0, f1, f2, (fun _ => rfl), f4, f5, f6, f7, f8, f9, f10, f11, f12, f13, f14, f15, f16, f17, f18⟩
      refine Steps.cons (fun dd ac wz hI hdd hdep K hK' => ?_) ?_
      · obtain ⟨v16, v17, v86, v87, v88, v89, v90, v91, v92, v93, v94, v95, v96, v97, v98, v99, v100, v101, v102, rfl, hK, hD, hW, f0, f1, f2, f3, f4, f5, f6, f7, f8, f9, f10, f11, f12, f13, f14, f15, f16, f17, f18⟩ := hI
        have q3 := f3 (hdep 3 rfl)
        subst q3
        have x0 := (World.cell?_of_block (a := ⟨w1.heap.size + 1, 1, none⟩) (hK.2 _ lt4 ne4)).trans g2
        go_simp
        refine hK' _ _ ⟨_, _, _, _, _, _, _, _, _, _, _, _, _, _, _, _, _, _, _, rfl, hK, hD, hW, f0, f1, f2, f3, (fun _ => rfl), f5, f6, f7, f8, f9, f10, f11, f12, f13, f14, f15, f16, f17, f18⟩
      refine Steps.cons (fun dd ac wz hI hdd hdep K hK' => ?_) ?_
      · obtain ⟨v16, v17, v86, v87, v88, v89, v90, v91, v92, v93, v94, v95, v96, v97, v98, v99, v100, v101, v102, rfl, hK, hD, hW, f0, f1, f2, f3, f4, f5, f6, f7, f8, f9, f10, f11, f12, f13, f14, f15, f16, f17, f18⟩ := hI
        have q2 := f2 (hdep 2 rfl)
        subst q2
        have q4 := f4 (hdep 4 rfl)
        subst q4
        go_simp
        refine (lBelow w6.heap.size t wz hD ht1 (by omega)).mono ?_
        rintro e w1' ⟨x, rfl, xa, xb, hs1, hg1⟩
        refine hK' _ _ ⟨_, _, _, _, _, _, _, _, _, _, _, _, _, _, _, _, _, _, _, rfl, (hK.nxt hg1 (Nat.le_refl _)), (hs1), (below_nxt hW hg1 hW.size (by omega)), f0, f1, f2, f3, f4, (fun _ => ⟨x, rfl, xa, xb⟩), f6, f7, f8, f9, f10, f11, f12, f13, f14, f15, f16, f17, f18⟩
      refine Steps.cons (fun dd ac wz hI hdd hdep K hK' => ?_) ?_
      · obtain ⟨v16, v17, v86, v87, v88, v89, v90, v91, v92, v93, v94, v95, v96, v97, v98, v99, v100, v101, v102, rfl, hK, hD, hW, f0, f1, f2, f3, f4, f5, f6, f7, f8, f9, f10, f11, f12, f13, f14, f15, f16, f17, f18⟩ := hI
        have q1 := f1 (hdep 1 rfl)
        subst q1
        obtain ⟨i5, q5, a5, b5⟩ := f5 (hdep 5 rfl)
        subst q5
        have ww : IntKind.i64.wrap (y0 + i5) = y0 + i5 := IntWalk.i64_in _ (by omega)
        go_simp
        refine hK' _ _ ⟨_, _, _, _, _, _, _, _, _, _, _, _, _, _, _, _, _, _, _, rfl, hK, hD, hW, f0, f1, f2, f3, f4, f5, (fun _ => ⟨i5, rfl, a5, b5⟩), f7, f8, f9, f10, f11, f12, f13, f14, f15, f16, f17, f18⟩
      refine Steps.cons (fun dd ac wz hI hdd hdep K hK' => ?_) ?_
      · obtain ⟨v16, v17, v86, v87, v88, v89, v90, v91, v92, v93, v94, v95, v96, v97, v98, v99, v100, v101, v102, rfl, hK, hD, hW, f0, f1, f2, f3, f4, f5, f6, f7, f8, f9, f10, f11, f12, f13, f14, f15, f16, f17, f18⟩ := hI
        go_simp
        refine hK' _ _ ⟨_, _, _, _, _, _, _, _, _, _, _, _, _, _, _, _, _, _, _, rfl, hK, hD, hW, f0, f1, f2, f3, f4, f5, f6, (fun _ => rfl), f8, f9, f10, f11, f12, f13, f14, f15, f16, f17, f18⟩
      refine Steps.cons (fun dd ac wz hI hdd hdep K hK' => ?_) ?_
      · obtain ⟨v16, v17, v86, v87, v88, v89, v90, v91, v92, v93, v94, v95, v96, v97, v98, v99, v100, v101, v102, rfl, hK, hD, hW, f0, f1, f2, f3, f4, f5, f6, f7, f8, f9, f10, f11, f12, f13, f14, f15, f16, f17, f18⟩ := hI
        go_simp
        refine hK' _ _ ⟨_, _, _, _, _, _, _, _, _, _, _, _, _, _, _, _, _, _, _, rfl, hK, hD, hW, f0, f1, f2, f3, f4, f5, f6, f7, (fun _ => rfl), f9, f10, f11, f12, f13, f14, f15, f16, f17, f18⟩
      refine Steps.cons (fun dd ac wz hI hdd hdep K hK' => ?_) ?_
      · obtain ⟨v16, v17, v86, v87, v88, v89, v90, v91, v92, v93, v94, v95, v96, v97, v98, v99, v100, v101, v102, rfl, hK, hD, hW, f0, f1, f2, f3, f4, f5, f6, f7, f8, f9, f10, f11, f12, f13, f14, f15, f16, f17, f18⟩ := hI
        go_simp
        refine hK' _ _ ⟨_, _, _, _, _, _, _, _, _, _, _, _, _, _, _, _, _, _, _, rfl, hK, hD, hW, f0, f1, f2, f3, f4, f5, f6, f7, f8, (fun _ => rfl), f10, f11, f12, f13, f14, f15, f16, f17, f18⟩
      refine Steps.cons (fun dd ac wz hI hdd hdep K hK' => ?_) ?_
      · obtain ⟨v16, v17, v86, v87, v88, v89, v90, v91, v92, v93, v94, v95, v96, v97, v98, v99, v100, v101, v102, rfl, hK, hD, hW, f0, f1, f2, f3, f4, f5, f6, f7, f8, f9, f10, f11, f12, f13, f14, f15, f16, f17, f18⟩ := hI
        have q9 := f9 (hdep 9 rfl)
        subst q9
        have x0 := (World.cell?_of_block (a := ⟨w1.heap.size + 1, 0, none⟩) (hK.2 _ lt4 ne4)).trans g1
        go_simp
        refine hK' _ _ ⟨_, _, _, _, _, _, _, _, _, _, _, _, _, _, _, _, _, _, _, rfl, hK, hD, hW, f0, f1, f2, f3, f4, f5, f6, f7, f8, f9, (fun _ => rfl), f11, f12, f13, f14, f15, f16, f17, f18⟩
      refine Steps.cons (fun dd ac wz hI hdd hdep K hK' => ?_) ?_
      · obtain ⟨v16, v17, v86, v87, v88, v89, v90, v91, v92, v93, v94, v95, v96, v97, v98, v99, v100, v101, v102, rfl, hK, hD, hW, f0, f1, f2, f3, f4, f5, f6, f7, f8, f9, f10, f11, f12, f13, f14, f15, f16, f17, f18⟩ := hI
        have q8 := f8 (hdep 8 rfl)
        subst q8
        have q10 := f10 (hdep 10 rfl)
        subst q10
        go_simp
        refine (lBelow w6.heap.size p wz hD hp1 (by omega)).mono ?_
        rintro e w1' ⟨x, rfl, xa, xb, hs1, hg1⟩
        refine hK' _ _ ⟨_, _, _, _, _, _, _, _, _, _, _, _, _, _, _, _, _, _, _, rfl, (hK.nxt hg1 (Nat.le_refl _)), (hs1), (below_nxt hW hg1 hW.size (by omega)), f0, f1, f2, f3, f4, f5, f6, f7, f8, f9, f10, (fun _ => ⟨x, rfl, xa, xb⟩), f12, f13, f14, f15, f16, f17, f18⟩
      refine Steps.cons (fun dd ac wz hI hdd hdep K hK' => ?_) ?_
      · obtain ⟨v16, v17, v86, v87, v88, v89, v90, v91, v92, v93, v94, v95, v96, v97, v98, v99, v100, v101, v102, rfl, hK, hD, hW, f0, f1, f2, f3, f4, f5, f6, f7, f8, f9, f10, f11, f12, f13, f14, f15, f16, f17, f18⟩ := hI
        have q7 := f7 (hdep 7 rfl)
        subst q7
        obtain ⟨i11, q11, a11, b11⟩ := f11 (hdep 11 rfl)
        subst q11
        have ww : IntKind.i64.wrap (xx0 + i11) = xx0 + i11 := IntWalk.i64_in _ (by omega)
        go_simp
        refine hK' _ _ ⟨_, _, _, _, _, _, _, _, _, _, _, _, _, _, _, _, _, _, _, rfl, hK, hD, hW, f0, f1, f2, f3, f4, f5, f6, f7, f8, f9, f10, f11, (fun _ => ⟨i11, rfl, a11, b11⟩), f13, f14, f15, f16, f17, f18⟩
      refine Steps.cons (fun dd ac wz hI hdd hdep K hK' => ?_) ?_
      · obtain ⟨v16, v17, v86, v87, v88, v89, v90, v91, v92, v93, v94, v95, v96, v97, v98, v99, v100, v101, v102, rfl, hK, hD, hW, f0, f1, f2, f3, f4, f5, f6, f7, f8, f9, f10, f11, f12, f13, f14, f15, f16, f17, f18⟩ := hI
        have q0 := f0 (hdep 0 rfl)
        subst q0
        obtain ⟨i6, q6, a6, b6⟩ := f6 (hdep 6 rfl)
        subst q6
        obtain ⟨i12, q12, a12, b12⟩ := f12 (hdep 12 rfl)
        subst q12
        go_simp
        have hr : Rd wz a4 L.length L := rd_kx G9.out hK (fun b off e hp => by have := LG.out b off e hp; omega)
        refine (iPixelAt TR TC a4 L.length c4 L (y0 + i6) (xx0 + i12) wz hr hn4).mono ?_
        rintro e w1' ⟨rfl, hbx⟩
        obtain ⟨ya, xa, hya, hxa, -, -, -, -, -, -, -, hpe, hpo⟩ := HOK.out k i6 i12 hk a6 b6 a12 b12
        rw [hkr, hkc] at hya hxa
        have eya := hya.symm.trans hy0
        have exa := hxa.symm.trans hxx0
        subst eya
        subst exa
        rw [hpe]
        refine hK' _ _ ⟨_, _, _, _, _, _, _, _, _, _, _, _, _, _, _, _, _, _, _, rfl, (hK.below hbx (Nat.le_refl _)), (hD.keep hbx), (hW.trans (hbx.mono hW.size)), f0, f1, f2, f3, f4, f5, f6, f7, f8, f9, f10, f11, f12, (fun _ => ⟨_, rfl, hpo⟩), f14, f15, f16, f17, f18⟩
      refine Steps.cons (fun dd ac wz hI hdd hdep K hK' => ?_) ?_
      · obtain ⟨v16, v17, v86, v87, v88, v89, v90, v91, v92, v93, v94, v95, v96, v97, v98, v99, v100, v101, v102, rfl, hK, hD, hW, f0, f1, f2, f3, f4, f5, f6, f7, f8, f9, f10, f11, f12, f13, f14, f15, f16, f17, f18⟩ := hI
        obtain ⟨v13, q13, a13⟩ := f13 (hdep 13 rfl)
        subst q13
        go_simp
        refine hK' _ _ ⟨_, _, _, _, _, _, _, _, _, _, _, _, _, _, _, _, _, _, _, rfl, hK, hD, hW, f0, f1, f2, f3, f4, f5, f6, f7, f8, f9, f10, f11, f12, f13, (fun _ => ⟨_, rfl, a13⟩), f15, f16, f17, f18⟩
      refine Steps.cons (fun dd ac wz hI hdd hdep K hK' => ?_) ?_
      · obtain ⟨v16, v17, v86, v87, v88, v89, v90, v91, v92, v93, v94, v95, v96, v97, v98, v99, v100, v101, v102, rfl, hK, hD, hW, f0, f1, f2, f3, f4, f5, f6, f7, f8, f9, f10, f11, f12, f13, f14, f15, f16, f17, f18⟩ := hI
        obtain ⟨v14, q14, a14⟩ := f14 (hdep 14 rfl)
        subst q14
        go_simp
        refine hK' _ _ ⟨_, _, _, _, _, _, _, _, _, _, _, _, _, _, _, _, _, _, _, rfl, hK, hD, hW, f0, f1, f2, f3, f4, f5, f6, f7, f8, f9, f10, f11, f12, f13, f14, (fun _ => ⟨_, rfl, a14⟩), f16, f17, f18⟩
      refine Steps.cons (fun dd ac wz hI hdd hdep K hK' => ?_) ?_
      · obtain ⟨v16, v17, v86, v87, v88, v89, v90, v91, v92, v93, v94, v95, v96, v97, v98, v99, v100, v101, v102, rfl, hK, hD, hW, f0, f1, f2, f3, f4, f5, f6, f7, f8, f9, f10, f11, f12, f13, f14, f15, f16, f17, f18⟩ := hI
        obtain ⟨v14, q14, a14⟩ := f14 (hdep 14 rfl)
        subst q14
        go_simp
        refine hK' _ _ ⟨_, _, _, _, _, _, _, _, _, _, _, _, _, _, _, _, _, _, _, rfl, hK, hD, hW, f0, f1, f2, f3, f4, f5, f6, f7, f8, f9, f10, f11, f12, f13, f14, f15, (fun _ => rfl), f17, f18⟩
      refine Steps.cons (fun dd ac wz hI hdd hdep K hK' => ?_) ?_
      · obtain ⟨v16, v17, v86, v87, v88, v89, v90, v91, v92, v93, v94, v95, v96, v97, v98, v99, v100, v101, v102, rfl, hK, hD, hW, f0, f1, f2, f3, f4, f5, f6, f7, f8, f9, f10, f11, f12, f13, f14, f15, f16, f17, f18⟩ := hI
        obtain ⟨v15, q15, a15⟩ := f15 (hdep 15 rfl)
        subst q15
        go_simp
        refine hK' _ _ ⟨_, _, _, _, _, _, _, _, _, _, _, _, _, _, _, _, _, _, _, rfl, hK, hD, hW, f0, f1, f2, f3, f4, f5, f6, f7, f8, f9, f10, f11, f12, f13, f14, f15, f16, (fun _ => ⟨_, rfl, a15⟩), f18⟩
      refine Steps.cons (fun dd ac wz hI hdd hdep K hK' => ?_) ?_
      · obtain ⟨v16, v17, v86, v87, v88, v89, v90, v91, v92, v93, v94, v95, v96, v97, v98, v99, v100, v101, v102, rfl, hK, hD, hW, f0, f1, f2, f3, f4, f5, f6, f7, f8, f9, f10, f11, f12, f13, f14, f15, f16, f17, f18⟩ := hI
        have q16 := f16 (hdep 16 rfl)
        subst q16
        go_simp
        refine hK' _ _ ⟨_, _, _, _, _, _, _, _, _, _, _, _, _, _, _, _, _, _, _, rfl, hK, hD, hW, f0, f1, f2, f3, f4, f5, f6, f7, f8, f9, f10, f11, f12, f13, f14, f15, f16, f17, (fun _ => rfl)⟩
      exact Steps.nil
    · intro dd ac wz hI hall
      obtain ⟨v16, v17, v86, v87, v88, v89, v90, v91, v92, v93, v94, v95, v96, v97, v98, v99, v100, v101, v102, rfl, hK, hD, hW, f0, f1, f2, f3, f4, f5, f6, f7, f8, f9, f10, f11, f12, f13, f14, f15, f16, f17, f18⟩ := hI
      obtain ⟨v, q17, a17⟩ := f17 (hall 17 (by decide))
      have q18 := f18 (hall 18 (by decide))
      subst q17
      subst q18
      have HK' := Lib.hid hK
      have HW' := Lib.hid hW
      clear hK hD hW f0 f1 f2 f3 f4 f5 f6 f7 f8 f9 f10 f11 f12 f13 f14 f15 f16 f17 f18 hall
      go_wp2
      go_meet
      case rel => exact ⟨v, rfl, a17, rfl, HK', HW'⟩
  obtain ⟨v, rfl, hvd, rfl, HKc, HWc⟩ := hcut
  obtain ⟨w10, rfl⟩ : ∃ w10 : World, w10 = wc := ⟨_, rfl⟩
  have x0 := (World.cell?_of_block (a := ⟨w1.heap.size, 2, none⟩) (HKc.out.2 _ lt3 ne3)).trans K39.out.2.2.2
  have x1 := (World.cell?_of_block (a := ⟨w1.heap.size + 1, 4, none⟩) (HKc.out.2 _ lt4 ne4)).trans g5
  have y0' : w1.heap.size < w10.heap.size := by have := HKc.out.1; omega
  have y1' : w1.heap.size + 1 < w10.heap.size := by have := HKc.out.1; omega
  have hr : Rd w10 a n zs := rd_kx P9.out HKc.out (fun b off e hp => by have := LP.out b off e hp; omega)
  obtain ⟨b, off, rfl, hb, hcl⟩ := hr.2 (by omega)
  have hcell := hcl k hk
  have hkn : (k : Int) < (n : Int) := by omega
  have hkn0 : (0 : Int) ≤ (k : Int) := by omega
  clear hcl hr HOK HE K39 K49 K59 D9 P9 G9 HB9 LP LG HKc g0 g1 g2 g3 g4 g5 g6 hy0 hxx0
  obtain ⟨z, hz⟩ : ∃ z, zs.getD k 0 = z := ⟨_, rfl⟩
  rw [hz] at hvd hcell
  cases hv : (v == dk) <;> rw [hv] at hvd
  · have hzz := hvd.symm
    clear hvd hz
    go_wp2_with fail
    go_quiet (fail)
    go_wp2
    go_returns
    exact ⟨rfl, below_drewN HWc.out _⟩
  · have hzz : z = 1 := by simpa using hvd.symm
    have hvv : v = dk := by simpa using hv
    clear hvd hz hv
    subst hzz
    subst hvv
    go_wp2_with fail
    go_quiet (fail)
    go_wp2
    go_returns
    exact ⟨rfl, below_drewN HWc.out _⟩
end Go.Proofs.Ytfiddbmjgncabaa
