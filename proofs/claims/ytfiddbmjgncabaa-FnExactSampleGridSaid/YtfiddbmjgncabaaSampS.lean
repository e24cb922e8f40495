/-
  DERIVED. SampleGrid: the contract of spec.
-/
import Derived.Test.YtfiddbmjgncabaaSampN
import Derived.Test.YtfiddbmjgncabaaPix
import Derived.Test.YtfiddbmjgncabaaMk
import Derived.Test.YtfiddbmjgncabaaInv
namespace Go.Proofs.Ytfiddbmjgncabaa
open Go.RowKit
set_option linter.unusedVariables false
def smpV (c : Int) (zs : List Int) (p t q limit : Int) (i j : Nat) : Int := if pixV c zs (((i : Int) + q) * t + t.tdiv 2) (((j : Int) + q) * p + p.tdiv 2) < limit then 1 else 0
theorem half_bd {t : Int} (h1 : 1 ≤ t) (h2 : t ≤ 12) : 0 ≤ t.tdiv 2 ∧ t.tdiv 2 ≤ 6 ∧ t.tdiv 2 < t := by
  have e : t.tdiv 2 = t / 2 := Int.tdiv_eq_ediv_of_nonneg (by omega)
  omega
theorem smp_place {i rows : Nat} {t q r : Int} (hi : i < rows) (h3 : rows ≤ 400) (h1 : 1 ≤ t) (h2 : t ≤ 12) (q0 : 0 ≤ q) (q1 : q ≤ 16) (hr : r = ((rows : Int) + 2 * q) * t) :
    0 ≤ ((i : Int) + q) * t ∧ ((i : Int) + q) * t ≤ 5184 ∧ 0 ≤ ((i : Int) + q) * t + t.tdiv 2 ∧ ((i : Int) + q) * t + t.tdiv 2 < r := by
  obtain ⟨a1, a2, a3⟩ := half_bd h1 h2
  have b := prod_le (r := (i : Int) + q) (R := 432) (show 0 ≤ (i : Int) + q by omega) (by omega) (show 0 ≤ t by omega) h2
  have m : ((i : Int) + q + 1) * t ≤ ((rows : Int) + 2 * q) * t := Int.mul_le_mul_of_nonneg_right (by omega) (by omega)
  rw [Int.add_mul, Int.one_mul, ← hr] at m
  omega
theorem smp_side {rows : Nat} {t q : Int} (h1 : 1 ≤ t) (h2 : t ≤ 12) (q0 : 0 ≤ q) (q1 : q ≤ 16) (h3 : rows ≤ 400) : sideV (rows : Int) q t = ((rows : Int) + 2 * q) * t := by
  have b := prod_le (r := (rows : Int) + 2 * q) (R := 432) (show 0 ≤ (rows : Int) + 2 * q by omega) (by omega) (show 0 ≤ t by omega) h2
  unfold sideV
  have e : IntKind.i64.wrap (((rows : Int) + 2 * q) * t) = ((rows : Int) + 2 * q) * t := IntWalk.i64_in _ (by omega)
  rw [← IntWalk.i64_left]
  exact e
set_option maxRecDepth 20000 in
set_option maxHeartbeats 8000000 in
theorem sSamp_ok (rows cols : Nat) (r c p t q u d l limit : Int) (a : Option Addr) (n cp : Nat) (zs : List Int) (w : World) (h : Rd w a n zs) (hn : n ≤ 1048576) (hr : rasterB r c n zs = true) (hp : printB p t q u d l = true) (hk : psE p t q u d l (rows : Int) (cols : Int) = 0) (h1 : selI (psB p t q u d l (rows : Int) (cols : Int)) (sideV (rows : Int) q t) 0 = r) (h2 : selI (psB p t q u d l (rows : Int) (cols : Int)) (sideV (cols : Int) q p) 0 = c) (hrr : r = ((rows : Int) + 2 * q) * t) (hcc : c = ((cols : Int) + 2 * q) * p) (p1 : 1 ≤ p) (p2 : p ≤ 12) (t1 : 1 ≤ t) (t2 : t ≤ 12) (q1 : 0 ≤ q) (q2 : q ≤ 16) (rb1 : 1 ≤ rows) (rb : rows ≤ 400) (cb1 : 1 ≤ cols) (cb : cols ≤ 400) :
    Calls Try.prog 13 #[.agg #[.int .i64 r, .int .i64 c, .slice a n cp], .int .i64 (rows : Int), .int .i64 (cols : Int), .agg #[.int .i64 p, .int .i64 t, .int .i64 q, .int .i64 u, .int .i64 d, .int .i64 l], .int .i64 limit] w (ResG w (rows : Int) (cols : Int) (rastL cols (smpV c zs p t q limit) (rows * cols)) 0) := by
  obtain ⟨r1, r2, r3, r4, r5, r6, r7, r8⟩ := rasterB_yes hr
  have HH := Lib.hid h
  have H7 := Lib.hid r7
  have H8 := Lib.hid r8
  have HRR := Lib.hid hrr
  have HCC := Lib.hid hcc
  have E1 := Lib.hid h1
  have E2 := Lib.hid h2
  have E3 := Lib.hid hk
  clear h h1 h2 hk hrr hcc r5 r6 r7 r8
  obtain ⟨i0, hi, iz0, iz1, iz2⟩ := info_parts infoInt
  have hp2 : rows * cols ≤ 400 * 400 := Nat.mul_le_mul (by omega) (by omega)
  have HN0 := Lib.hid (smp_new (.int .i64 r) (.int .i64 c) (.slice a n cp) p t q u d l 32 34 29 w)
  go_enter Try.func13, Try.ntmps13
  go_wp2_with fail
  obtain ⟨W, hW⟩ : ∃ W : World, W = (((w.alloc (.cells #[.int .i64 r, .int .i64 c, .slice a n cp] 32)).alloc (.cells #[.int .i64 p, .int .i64 t, .int .i64 q, .int .i64 u, .int .i64 d, .int .i64 l] 34)).alloc (.cells #[.int .i64 0, .int .i64 0, .slice none 0 0] 29)) := ⟨_, rfl⟩
  have HSZ : Hid (W.heap.size = w.heap.size + 3) := by unfold Hid; rw [hW]; simp
  rw [← hW] at HN0
  rw [← hW]
  have HK : Hid (∀ wr, Below W.heap.size W wr → Box3 wr w.heap.size (.int .i64 r) (.int .i64 c) (.slice a n cp) ∧ Box6 wr (w.heap.size + 1) p t q u d l ∧ Out3 wr (w.heap.size + 1 + 1) ∧ Below w.heap.size w wr ∧ w.heap.size + 3 ≤ wr.heap.size) := fun wr h => HN0.out wr (h.mono (by rw [HSZ.out]; exact Nat.le_refl _))
  have hbW := (HK.out W (Below.refl _ _)).2.2.2.1
  have hwW := (HK.out W (Below.refl _ _)).2.2.2.2
  clear hW HN0
  refine (sIsRaster r c a n cp zs _ (HH.out.below (by repeat' (first | (with_reducible exact Below.refl _ _) | (with_reducible assumption) | (with_reducible refine Below.alloc ?_ ?_ _) | (with_reducible refine Below.setCell ?_ ?_ _) | (with_reducible refine Below.drew ?_) | (with_reducible refine below_drewN ?_ _) | (with_reducible refine below_via (by with_reducible assumption) ?_ ?_) | go_size))) hn).mono ?_
  rintro e w1 ⟨rfl, hb1⟩
  have hz1 := hb1.size
  rw [hr]
  obtain ⟨kp, kq, ko, -, hzw10⟩ := HK.out w1 (by repeat' (first | (with_reducible exact Below.refl _ _) | (with_reducible assumption) | (with_reducible refine Below.alloc ?_ ?_ _) | (with_reducible refine Below.setCell ?_ ?_ _) | (with_reducible refine Below.drew ?_) | (with_reducible refine below_drewN ?_ _) | (with_reducible refine below_via (by with_reducible assumption) ?_ ?_) | go_size))
  obtain ⟨_, _, _, _⟩ := kp
  obtain ⟨_, _, _, _, _, _, _⟩ := kq
  obtain ⟨_, o3, o4, o5, o6, o7, o8⟩ := ko
  go_wp2_with fail
  refine (sIsPrint p t q u d l _).mono ?_
  rintro e w2 ⟨rfl, hb2⟩
  have hz2 := hb2.size
  rw [hp]
  obtain ⟨kp, kq, ko, -, hzw20⟩ := HK.out w2 (by repeat' (first | (with_reducible exact Below.refl _ _) | (with_reducible assumption) | (with_reducible refine Below.alloc ?_ ?_ _) | (with_reducible refine Below.setCell ?_ ?_ _) | (with_reducible refine Below.drew ?_) | (with_reducible refine below_drewN ?_ _) | (with_reducible refine below_via (by with_reducible assumption) ?_ ?_) | go_size))
  obtain ⟨_, _, _, _⟩ := kp
  obtain ⟨_, _, _, _, _, _, _⟩ := kq
  obtain ⟨_, o3, o4, o5, o6, o7, o8⟩ := ko
  go_wp2_with fail
  refine (sPS (rows : Int) (cols : Int) p t q u d l _).mono ?_
  rw [E1.out, E2.out, E3.out]
  rintro e w3 ⟨rfl, hb3⟩
  have hz3 := hb3.size
  obtain ⟨kp, kq, ko, -, hzw30⟩ := HK.out w3 (by repeat' (first | (with_reducible exact Below.refl _ _) | (with_reducible assumption) | (with_reducible refine Below.alloc ?_ ?_ _) | (with_reducible refine Below.setCell ?_ ?_ _) | (with_reducible refine Below.drew ?_) | (with_reducible refine below_drewN ?_ _) | (with_reducible refine below_via (by with_reducible assumption) ?_ ?_) | go_size))
  obtain ⟨_, _, _, _⟩ := kp
  obtain ⟨_, _, _, _, _, _, _⟩ := kq
  obtain ⟨_, o3, o4, o5, o6, o7, o8⟩ := ko
  go_wp2
  obtain ⟨V, hV⟩ : ∃ V : World, V = w3.alloc (.cells #[] 2) := ⟨_, rfl⟩
  have hBV : Below w3.heap.size w3 V := by rw [hV]; exact (Below.refl _ _).alloc (Nat.le_refl _) _
  have HSV : Hid (V.heap.size = w3.heap.size + 1) := by unfold Hid; rw [hV]; simp
  have HO0 : Hid (V.ownsRow w3.heap.size 2 1 (.slice (some ⟨w3.heap.size, 0, none⟩) 0 0) 0 []) := by
    have := World.ownsRow_lit (base := w3.heap.size) (e := 2) (size := 1) w3 #[] 0 (by simp) (by unfold maxLen; omega) (by simp)
    rw [hV]
    exact this
  have HB3 : Hid (Below W.heap.size W w3) := by unfold Hid; repeat' (first | (with_reducible exact Below.refl _ _) | (with_reducible assumption) | (with_reducible refine Below.alloc ?_ ?_ _) | (with_reducible refine Below.setCell ?_ ?_ _) | (with_reducible refine Below.drew ?_) | (with_reducible refine below_drewN ?_ _) | (with_reducible refine below_via (by with_reducible assumption) ?_ ?_) | go_size)
  have HP2 : Hid (∀ wr, Below w3.heap.size V wr → Below w.heap.size w wr ∧ Box3 wr w.heap.size (.int .i64 r) (.int .i64 c) (.slice a n cp) ∧ Box6 wr (w.heap.size + 1) p t q u d l ∧ Out3 wr (w.heap.size + 1 + 1) ∧ Rd wr a n zs) := by
    intro wr hb
    have h1 : Below w3.heap.size w3 wr := hBV.trans hb
    have h2 : Below W.heap.size W wr := HB3.out.trans (h1.mono HB3.out.size)
    obtain ⟨g1, g2, g3, g4, -⟩ := HK.out wr h2
    exact ⟨g4, g1, g2, g3, HH.out.below g4⟩
  rw [← hV]
  have hs1 : w.heap.size + 3 ≤ w3.heap.size := by omega
  clear hV hBV hb1 hb2 hb3 hr hp o3 o4 o5 o6 o7 o8
  go_loopw [15, 16] (fun v i wr => ∃ k : Nat, k ≤ rows ∧ i = .int .i64 k ∧ wr.ownsRow w3.heap.size 2 1 v (k * cols) ((rastL cols (smpV c zs p t q limit) (k * cols)).map (Value.int .i64)) ∧ Below w3.heap.size V wr) (fun _ i _ => rows - (intOf i).toNat)
  case atStart => exact ⟨0, Nat.zero_le _, rfl, by simpa [rastL] using HO0.out, Below.refl _ _⟩
  case round =>
    obtain ⟨k, hkn, rfl, hown, hbel⟩ := hrel
    obtain ⟨d0, ⟨d1, d2, d3, d4⟩, d5, d6, d7⟩ := HP2.out wr hbel
    by_cases hlt : k < rows
    · clear d0 d5 d6 d7
      obtain ⟨wo, rfl⟩ : ∃ wo : World, wo = wr := ⟨_, rfl⟩
      go_wp2
      clear d1 d2 d3 d4
      obtain ⟨y1, y2, y3, y4⟩ := smp_place hlt rb t1 t2 q1 q2 HRR.out
      obtain ⟨y5, y6, y7⟩ := half_bd t1 t2
      go_loopw [15, 17] (fun v i wr => ∃ j : Nat, j ≤ cols ∧ i = .int .i64 j ∧ wr.ownsRow w3.heap.size 2 1 v (k * cols + j) ((rastL cols (smpV c zs p t q limit) (k * cols + j)).map (Value.int .i64)) ∧ Below w3.heap.size V wr) (fun _ i _ => cols - (intOf i).toNat)
      case atStart => exact ⟨0, Nat.zero_le _, rfl, by simpa using hown, hbel⟩
      case round =>
        obtain ⟨j, hj, rfl, hown1, hbel1⟩ := hrel
        clear hown hbel
        obtain ⟨d0, ⟨d1, d2, d3, d4⟩, d5, d6, d7⟩ := HP2.out wr hbel1
        by_cases hlc : j < cols
        · have hroom : k * cols + j + 1 ≤ rows * cols := by
            have : (k + 1) * cols ≤ rows * cols := Nat.mul_le_mul_right _ hlt
            rw [Nat.add_mul, Nat.one_mul] at this
            omega
          obtain ⟨x1, x2, x3, x4⟩ := smp_place hlc cb p1 p2 q1 q2 HCC.out
          obtain ⟨x5, x6, x7⟩ := half_bd p1 p2
          have hszr := hbel1.size
          have hs3 := HSV.out
          have HD7 := Lib.hid d7
          have HBL := Lib.hid hbel1
          have HOW := Lib.hid hown1
          obtain ⟨_, _, _, _, _, _, _⟩ := d5
          have v1 : IntKind.i64.wrap ((k : Int) + q) = (k : Int) + q := IntWalk.i64_in _ (by omega)
          have v2 : IntKind.i64.wrap (((k : Int) + q) * t) = ((k : Int) + q) * t := IntWalk.i64_in _ (by omega)
          have v3 : IntKind.i64.wrap (t.tdiv 2) = t.tdiv 2 := IntWalk.i64_in _ (by omega)
          have v4 : IntKind.i64.wrap (((k : Int) + q) * t + t.tdiv 2) = ((k : Int) + q) * t + t.tdiv 2 := IntWalk.i64_in _ (by omega)
          have v5 : IntKind.i64.wrap ((j : Int) + q) = (j : Int) + q := IntWalk.i64_in _ (by omega)
          have v6 : IntKind.i64.wrap (((j : Int) + q) * p) = ((j : Int) + q) * p := IntWalk.i64_in _ (by omega)
          have v7 : IntKind.i64.wrap (p.tdiv 2) = p.tdiv 2 := IntWalk.i64_in _ (by omega)
          have v8 : IntKind.i64.wrap (((j : Int) + q) * p + p.tdiv 2) = ((j : Int) + q) * p + p.tdiv 2 := IntWalk.i64_in _ (by omega)
          clear d0 d6 d7 hown1 hbel1
          go_wp2_with fail
          refine (sAt r c a n cp zs (((k : Int) + q) * t + t.tdiv 2) (((j : Int) + q) * p + p.tdiv 2) _ (HD7.out.below (by repeat' (first | (with_reducible exact Below.refl _ _) | (with_reducible assumption) | (with_reducible refine Below.alloc ?_ ?_ _) | (with_reducible refine Below.setCell ?_ ?_ _) | (with_reducible refine Below.drew ?_) | (with_reducible refine below_drewN ?_ _) | (with_reducible refine below_via (by with_reducible assumption) ?_ ?_) | go_size))) (by omega) (by omega) (by omega) (by omega) (by omega) (by omega) H7.out).mono ?_
          have HLV : Hid (smpV c zs p t q limit k j = if pixV c zs (((k : Int) + q) * t + t.tdiv 2) (((j : Int) + q) * p + p.tdiv 2) < limit then 1 else 0) := rfl
          obtain ⟨x, hx⟩ : ∃ x, pixV c zs (((k : Int) + q) * t + t.tdiv 2) (((j : Int) + q) * p + p.tdiv 2) = x := ⟨_, rfl⟩
          rw [hx] at HLV ⊢
          rintro e wq ⟨rfl, hbq⟩
          have hszq := hbq.size
          clear hx v1 v2 v3 v4 v5 v6 v7 v8
          by_cases hlv : x < limit
          · have HVV : Hid (smpV c zs p t q limit k j = 1) := by unfold Hid; rw [HLV.out, if_pos hlv]
            go_wp2_with (at_builtin; refine wpList_append_own _ rfl _ _ 22 rfl w3.heap.size 2 i0 (.int .i64 0) 1 8 Try.underlying22 hi iz0 iz1 iz2 rfl (by decide) _ _ _ rfl ((own_below HOW.out (by repeat' (first | (with_reducible exact Below.refl _ _) | (with_reducible assumption) | (with_reducible refine Below.alloc ?_ ?_ _) | (with_reducible refine Below.setCell ?_ ?_ _) | (with_reducible refine Below.drew ?_) | (with_reducible refine below_drewN ?_ _) | (with_reducible refine below_via (by with_reducible assumption) ?_ ?_) | go_size))).alloc _) ⟨wq.heap.size, 0, none⟩ 1 1 [.int .i64 1] rfl rfl (cell_one_new _ _ _) (by simp [Value.oneCell']) (by unfold maxLen; omega) (by omega) (by simp; omega) ?_; intro v' w5 hown' hgrow _)
            have HO : Hid (w5.ownsRow w3.heap.size 2 1 v' (k * cols + (j + 1)) ((rastL cols (smpV c zs p t q limit) (k * cols + (j + 1))).map (Value.int .i64))) := by
              unfold Hid
              rw [← Nat.add_assoc, rastL_succ _ _ _ _ hlc, List.map_append, HVV.out]
              exact hown'
            have HB : Hid (Below w3.heap.size V w5) := ((HBL.out.trans (hbq.mono (by omega))).alloc (by omega) _).grown hgrow (by simp; omega) (fun j e => (HOW.out.lt j e).1)
            clear hown' hgrow
            go_wp2
            go_roundw
            case rel => exact ⟨j + 1, by omega, by go_num, HO.out, HB.out⟩
            case measure => simp [intOf]; omega

          · have HVV : Hid (smpV c zs p t q limit k j = 0) := by unfold Hid; rw [HLV.out, if_neg hlv]
            go_wp2_with (at_builtin; refine wpList_append_own _ rfl _ _ 22 rfl w3.heap.size 2 i0 (.int .i64 0) 1 8 Try.underlying22 hi iz0 iz1 iz2 rfl (by decide) _ _ _ rfl ((own_below HOW.out (by repeat' (first | (with_reducible exact Below.refl _ _) | (with_reducible assumption) | (with_reducible refine Below.alloc ?_ ?_ _) | (with_reducible refine Below.setCell ?_ ?_ _) | (with_reducible refine Below.drew ?_) | (with_reducible refine below_drewN ?_ _) | (with_reducible refine below_via (by with_reducible assumption) ?_ ?_) | go_size))).alloc _) ⟨wq.heap.size, 0, none⟩ 1 1 [.int .i64 0] rfl rfl (cell_one_new _ _ _) (by simp [Value.oneCell']) (by unfold maxLen; omega) (by omega) (by simp; omega) ?_; intro v' w5 hown' hgrow _)
            have HO : Hid (w5.ownsRow w3.heap.size 2 1 v' (k * cols + (j + 1)) ((rastL cols (smpV c zs p t q limit) (k * cols + (j + 1))).map (Value.int .i64))) := by
              unfold Hid
              rw [← Nat.add_assoc, rastL_succ _ _ _ _ hlc, List.map_append, HVV.out]
              exact hown'
            have HB : Hid (Below w3.heap.size V w5) := ((HBL.out.trans (hbq.mono (by omega))).alloc (by omega) _).grown hgrow (by simp; omega) (fun j e => (HOW.out.lt j e).1)
            clear hown' hgrow
            go_wp2
            go_roundw
            case rel => exact ⟨j + 1, by omega, by go_num, HO.out, HB.out⟩
            case measure => simp [intOf]; omega

        · have hce : j = cols := by omega
          have e : k * cols + cols = (k + 1) * cols := by rw [Nat.add_mul, Nat.one_mul]
          rw [hce, e] at hown1
          have HO := Lib.hid hown1
          have HB := Lib.hid hbel1
          have HC := Lib.hid hce
          clear hce hown1 hbel1 e d0 d5 d6 d7
          go_wp2
          go_roundw
          case rel => exact ⟨k + 1, by omega, by go_num, HO.out, HB.out⟩
          case measure => simp [intOf]; omega
    · have hke : k = rows := by omega
      obtain ⟨o2, o3, o4, o5, o6, o7, o8⟩ := d6
      rw [hke] at hown
      obtain ⟨av, cv, rfl⟩ := own_shape hown
      have HO := Lib.hid hown
      have HK := Lib.hid hke
      have HB := Lib.hid d0
      clear hke hown hbel d0 d5 d7
      go_wp2
      have hlen : (rastL cols (smpV c zs p t q limit) (rows * cols)).length = rows * cols := rastL_length _ _ _
      refine bodyPost_ret (v := .tuple #[.agg #[.int .i64 rows, .int .i64 cols, .slice av (rows * cols) cv], .int .i64 0]) (by simp [results, Try.results13, go_sem, o3, o4, o5]) rfl ?_
      refine ⟨av, cv, by rw [hlen], ?_, (((HB.out.setCell (by simp; omega) _).setCell (by simp; omega) _).setCell (by simp; omega) _), by rw [hlen]; omega⟩
      rw [hlen]
      exact own_mono (own_far (own_far (own_far HO.out (by simp; omega) _) (by simp; omega) _) (by simp; omega) _) (by omega)
end Go.Proofs.Ytfiddbmjgncabaa
