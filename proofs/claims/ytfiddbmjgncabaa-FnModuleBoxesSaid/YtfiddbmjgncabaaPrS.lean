/-
  DERIVED. PrintGrid: the contract of spec.
-/
import Derived.Test.YtfiddbmjgncabaaPrN
import Derived.Test.YtfiddbmjgncabaaPrX
import Derived.Test.YtfiddbmjgncabaaMk
namespace Go.Proofs.Ytfiddbmjgncabaa
open Go.RowKit
set_option linter.unusedVariables false
def prtV (R C : Int) (zs : List Int) (p t q u d l : Int) (i j : Nat) : Int := if pxB R C zs p t q u (i : Int) (j : Int) = true then d else l
set_option maxRecDepth 20000 in
set_option maxHeartbeats 8000000 in
theorem sPrG_ok (T1 T2 : Nat) (R C p t q u d l : Int) (a : Option Addr) (n cp : Nat) (zs : List Int) (w : World) (h : Rd w a n zs) (hn : n ≤ 1048576) (hg : gridB R C n zs = true) (hp : printB p t q u d l = true) (hk : knB zs = true) (hE : psE p t q u d l R C = 0) (h1 : selI (psB p t q u d l R C) (sideV R q t) 0 = (T1 : Int)) (h2 : selI (psB p t q u d l R C) (sideV C q p) 0 = (T2 : Int)) (R2 : R ≤ 400) (C2 : C ≤ 400) (p1 : 1 ≤ p) (p2 : p ≤ 12) (t1 : 1 ≤ t) (t2 : t ≤ 12) (q1 : 0 ≤ q) (q2 : q ≤ 16) (u1 : 1 - p ≤ u) (u2 : u ≤ p - 1) (T11 : 1 ≤ T1) (T12 : T1 ≤ 400) (T21 : 1 ≤ T2) (T22 : T2 ≤ 400) :
    Calls Try.prog 23 #[.agg #[.int .i64 R, .int .i64 C, .slice a n cp], .agg #[.int .i64 p, .int .i64 t, .int .i64 q, .int .i64 u, .int .i64 d, .int .i64 l]] w (ResG w (T1 : Int) (T2 : Int) (rastL T2 (prtV R C zs p t q u d l) (T1 * T2)) 0) := by
  obtain ⟨r1, r2, r3, r4, r5, r6, r7, r8⟩ := gridB_yes hg
  have HH := Lib.hid h
  have H7 := Lib.hid r7
  have E1 := Lib.hid h1
  have E2 := Lib.hid h2
  have E3 := Lib.hid hE
  clear h1 h2 hE
  clear h r5 r6 r7 r8
  obtain ⟨i0, hi, iz0, iz1, iz2⟩ := info_parts infoInt
  have hp2 : T1 * T2 ≤ 400 * 400 := Nat.mul_le_mul (by omega) (by omega)
  have HN0 := Lib.hid (smp_new (.int .i64 R) (.int .i64 C) (.slice a n cp) p t q u d l 29 34 32 w)
  go_enter Try.func23, Try.ntmps23
  go_wp2_with fail
  obtain ⟨W, hW⟩ : ∃ W : World, W = (((w.alloc (.cells #[.int .i64 R, .int .i64 C, .slice a n cp] 29)).alloc (.cells #[.int .i64 p, .int .i64 t, .int .i64 q, .int .i64 u, .int .i64 d, .int .i64 l] 34)).alloc (.cells #[.int .i64 0, .int .i64 0, .slice none 0 0] 32)) := ⟨_, rfl⟩
  have HSZ : Hid (W.heap.size = w.heap.size + 3) := by unfold Hid; rw [hW]; simp
  rw [← hW] at HN0
  rw [← hW]
  have HK : Hid (∀ wr, Below W.heap.size W wr → Box3 wr w.heap.size (.int .i64 R) (.int .i64 C) (.slice a n cp) ∧ Box6 wr (w.heap.size + 1) p t q u d l ∧ Out3 wr (w.heap.size + 1 + 1) ∧ Below w.heap.size w wr ∧ w.heap.size + 3 ≤ wr.heap.size) := fun wr h => HN0.out wr (h.mono (by rw [HSZ.out]; exact Nat.le_refl _))
  have hbW := (HK.out W (Below.refl _ _)).2.2.2.1
  have hwW := (HK.out W (Below.refl _ _)).2.2.2.2
  clear hW HN0
  refine (sIsGrid R C a n cp zs _ (HH.out.below (by repeat' (first | (with_reducible exact Below.refl _ _) | (with_reducible assumption) | (with_reducible refine Below.alloc ?_ ?_ _) | (with_reducible refine Below.setCell ?_ ?_ _) | (with_reducible refine Below.drew ?_) | (with_reducible refine below_drewN ?_ _) | (with_reducible refine below_via (by with_reducible assumption) ?_ ?_) | go_size))) hn).mono ?_
  rintro e w1 ⟨rfl, hb1⟩
  have hz1 := hb1.size
  rw [hg]
  obtain ⟨kp, kq, ko, -, hzw10⟩ := HK.out w1 (by repeat' (first | (with_reducible exact Below.refl _ _) | (with_reducible assumption) | (with_reducible refine Below.alloc ?_ ?_ _) | (with_reducible refine Below.setCell ?_ ?_ _) | (with_reducible refine Below.drew ?_) | (with_reducible refine below_drewN ?_ _) | (with_reducible refine below_via (by with_reducible assumption) ?_ ?_) | go_size))
  obtain ⟨_, _, _, _⟩ := kp
  obtain ⟨_, _, _, _, _, _, _⟩ := kq
  obtain ⟨_, o3, o4, o5, o6, o7, o8⟩ := ko
  go_wp2_with fail
  refine (sIsPrint p t q u d l _).mono ?_
  rintro e w2 ⟨rfl, hb2⟩
  have hz2 := hb2.size
  rw [hp]
  obtain ⟨kp, kq, ko, -, hzw20⟩ := HK.out w2 (by repeat' (first | (with_reducible exact Below.refl _ _) | (with_reducible assumption) | (with_reducible refine Below.alloc ?_ ?_ _) | (with_reducible refine Below.setCell ?_ ?_ _) | (with_reducible refine Below.drew ?_) | (with_reducible refine below_drewN ?_ _) | (with_reducible refine below_via (by with_reducible assumption) ?_ ?_) | go_size))
  obtain ⟨_, _, _, _⟩ := kp
  obtain ⟨_, _, _, _, _, _, _⟩ := kq
  obtain ⟨_, o3, o4, o5, o6, o7, o8⟩ := ko
  go_wp2_with fail
  refine (sKnown R C a n cp zs _ (HH.out.below (by repeat' (first | (with_reducible exact Below.refl _ _) | (with_reducible assumption) | (with_reducible refine Below.alloc ?_ ?_ _) | (with_reducible refine Below.setCell ?_ ?_ _) | (with_reducible refine Below.drew ?_) | (with_reducible refine below_drewN ?_ _) | (with_reducible refine below_via (by with_reducible assumption) ?_ ?_) | go_size))) hn hg).mono ?_
  rintro e w3 ⟨rfl, hb3⟩
  have hz3 := hb3.size
  rw [hk]
  obtain ⟨kp, kq, ko, -, hzw30⟩ := HK.out w3 (by repeat' (first | (with_reducible exact Below.refl _ _) | (with_reducible assumption) | (with_reducible refine Below.alloc ?_ ?_ _) | (with_reducible refine Below.setCell ?_ ?_ _) | (with_reducible refine Below.drew ?_) | (with_reducible refine below_drewN ?_ _) | (with_reducible refine below_via (by with_reducible assumption) ?_ ?_) | go_size))
  obtain ⟨_, _, _, _⟩ := kp
  obtain ⟨_, _, _, _, _, _, _⟩ := kq
  obtain ⟨_, o3, o4, o5, o6, o7, o8⟩ := ko
  go_wp2_with fail
  refine (sPS R C p t q u d l _).mono ?_
  rw [E1.out, E2.out, E3.out]
  rintro e w4 ⟨rfl, hb4⟩
  have hz4 := hb4.size
  obtain ⟨kp, kq, ko, -, hzw40⟩ := HK.out w4 (by repeat' (first | (with_reducible exact Below.refl _ _) | (with_reducible assumption) | (with_reducible refine Below.alloc ?_ ?_ _) | (with_reducible refine Below.setCell ?_ ?_ _) | (with_reducible refine Below.drew ?_) | (with_reducible refine below_drewN ?_ _) | (with_reducible refine below_via (by with_reducible assumption) ?_ ?_) | go_size))
  obtain ⟨_, _, _, _⟩ := kp
  obtain ⟨_, _, _, _, _, _, _⟩ := kq
  obtain ⟨_, o3, o4, o5, o6, o7, o8⟩ := ko
  go_wp2
  obtain ⟨V, hV⟩ : ∃ V : World, V = w4.alloc (.cells #[] 2) := ⟨_, rfl⟩
  have hBV : Below w4.heap.size w4 V := by rw [hV]; exact (Below.refl _ _).alloc (Nat.le_refl _) _
  have HSV : Hid (V.heap.size = w4.heap.size + 1) := by unfold Hid; rw [hV]; simp
  have HO0 : Hid (V.ownsRow w4.heap.size 2 1 (.slice (some ⟨w4.heap.size, 0, none⟩) 0 0) 0 []) := by
    have := World.ownsRow_lit (base := w4.heap.size) (e := 2) (size := 1) w4 #[] 0 (by simp) (by unfold maxLen; omega) (by simp)
    rw [hV]
    exact this
  have HB3 : Hid (Below W.heap.size W w4) := by unfold Hid; repeat' (first | (with_reducible exact Below.refl _ _) | (with_reducible assumption) | (with_reducible refine Below.alloc ?_ ?_ _) | (with_reducible refine Below.setCell ?_ ?_ _) | (with_reducible refine Below.drew ?_) | (with_reducible refine below_drewN ?_ _) | (with_reducible refine below_via (by with_reducible assumption) ?_ ?_) | go_size)
  have HP2 : Hid (∀ wr, Below w4.heap.size V wr → Below w.heap.size w wr ∧ Box3 wr w.heap.size (.int .i64 R) (.int .i64 C) (.slice a n cp) ∧ Box6 wr (w.heap.size + 1) p t q u d l ∧ Out3 wr (w.heap.size + 1 + 1) ∧ Rd wr a n zs) := by
    intro wr hb
    have h1 : Below w4.heap.size w4 wr := hBV.trans hb
    have h2 : Below W.heap.size W wr := HB3.out.trans (h1.mono HB3.out.size)
    obtain ⟨g1, g2, g3, g4, -⟩ := HK.out wr h2
    exact ⟨g4, g1, g2, g3, HH.out.below g4⟩
  rw [← hV]
  have hs1 : w.heap.size + 3 ≤ w4.heap.size := by omega
  clear hV hBV hb1 hb2 hb3 hb4 hg hp hk o3 o4 o5 o6 o7 o8
  go_loopw [9, 10] (fun v i wr => ∃ k : Nat, k ≤ T1 ∧ i = .int .i64 k ∧ wr.ownsRow w4.heap.size 2 1 v (k * T2) ((rastL T2 (prtV R C zs p t q u d l) (k * T2)).map (Value.int .i64)) ∧ Below w4.heap.size V wr) (fun _ i _ => T1 - (intOf i).toNat)
  case atStart => exact ⟨0, Nat.zero_le _, rfl, by simpa [rastL] using HO0.out, Below.refl _ _⟩
  case round =>
    obtain ⟨k, hkn, rfl, hown, hbel⟩ := hrel
    obtain ⟨d0, ⟨d1, d2, d3, d4⟩, d5, d6, d7⟩ := HP2.out wr hbel
    by_cases hlt : k < T1
    · clear d0 d5 d6 d7
      obtain ⟨wo, rfl⟩ : ∃ wo : World, wo = wr := ⟨_, rfl⟩
      go_wp2
      clear d1 d2 d3 d4
      go_loopw [9, 11] (fun v i wr => ∃ j : Nat, j ≤ T2 ∧ i = .int .i64 j ∧ wr.ownsRow w4.heap.size 2 1 v (k * T2 + j) ((rastL T2 (prtV R C zs p t q u d l) (k * T2 + j)).map (Value.int .i64)) ∧ Below w4.heap.size V wr) (fun _ i _ => T2 - (intOf i).toNat)
      case atStart => exact ⟨0, Nat.zero_le _, rfl, by simpa using hown, hbel⟩
      case round =>
        obtain ⟨j, hj, rfl, hown1, hbel1⟩ := hrel
        clear hown hbel
        obtain ⟨d0, ⟨d1, d2, d3, d4⟩, d5, d6, d7⟩ := HP2.out wr hbel1
        by_cases hlc : j < T2
        · have hroom : k * T2 + j + 1 ≤ T1 * T2 := by
            have : (k + 1) * T2 ≤ T1 * T2 := Nat.mul_le_mul_right _ hlt
            rw [Nat.add_mul, Nat.one_mul] at this
            omega
          have hszr := hbel1.size
          have hs3 := HSV.out
          have HD7 := Lib.hid d7
          have HBL := Lib.hid hbel1
          have HOW := Lib.hid hown1
          have HX5 := Lib.hid d5
          obtain ⟨_, _, _, _, _, _, _⟩ := d5
          clear d0 d6 d7 hown1 hbel1
          go_wp2_with fail
          refine (sPix R C p t q u d l a n cp zs k j _ (HD7.out.below (by repeat' (first | (with_reducible exact Below.refl _ _) | (with_reducible assumption) | (with_reducible refine Below.alloc ?_ ?_ _) | (with_reducible refine Below.setCell ?_ ?_ _) | (with_reducible refine Below.drew ?_) | (with_reducible refine below_drewN ?_ _) | (with_reducible refine below_via (by with_reducible assumption) ?_ ?_) | go_size))) r1 R2 r3 C2 H7.out p1 p2 t1 t2 q1 q2 u1 u2 (by omega) (by omega)).mono ?_
          have HLV : Hid (prtV R C zs p t q u d l k j = if pxB R C zs p t q u (k : Int) (j : Int) = true then d else l) := rfl
          rintro e wq ⟨rfl, hbq⟩
          have hszq := hbq.size
          have kq := HX5.out.keep hbq
          obtain ⟨_, _, _, _, _, _, _⟩ := kq
          clear HX5
          cases hpx : pxB R C zs p t q u (k : Int) (j : Int)
          · have HVV : Hid (prtV R C zs p t q u d l k j = l) := by unfold Hid; rw [HLV.out, hpx]; rfl
            go_wp2_with (at_builtin; refine wpList_append_own _ rfl _ _ 22 rfl w4.heap.size 2 i0 (.int .i64 0) 1 8 Try.underlying22 hi iz0 iz1 iz2 rfl (by decide) _ _ _ rfl ((own_below HOW.out (by repeat' (first | (with_reducible exact Below.refl _ _) | (with_reducible assumption) | (with_reducible refine Below.alloc ?_ ?_ _) | (with_reducible refine Below.setCell ?_ ?_ _) | (with_reducible refine Below.drew ?_) | (with_reducible refine below_drewN ?_ _) | (with_reducible refine below_via (by with_reducible assumption) ?_ ?_) | go_size))).alloc _) ⟨wq.heap.size, 0, none⟩ 1 1 [.int .i64 l] rfl rfl (cell_one_new _ _ _) (by simp [Value.oneCell']) (by unfold maxLen; omega) (by omega) (by simp; omega) ?_; intro v' w5 hown' hgrow _)
            have HO : Hid (w5.ownsRow w4.heap.size 2 1 v' (k * T2 + (j + 1)) ((rastL T2 (prtV R C zs p t q u d l) (k * T2 + (j + 1))).map (Value.int .i64))) := by
              unfold Hid
              rw [← Nat.add_assoc, rastL_succ _ _ _ _ hlc, List.map_append, HVV.out]
              exact hown'
            have HB : Hid (Below w4.heap.size V w5) := ((HBL.out.trans (hbq.mono (by omega))).alloc (by omega) _).grown hgrow (by simp; omega) (fun j e => (HOW.out.lt j e).1)
            clear hown' hgrow
            go_wp2
            go_roundw
            case rel => exact ⟨j + 1, by omega, by go_num, HO.out, HB.out⟩
            case measure => simp [intOf]; omega
          · have HVV : Hid (prtV R C zs p t q u d l k j = d) := by unfold Hid; rw [HLV.out, hpx]; rfl
            go_wp2_with (at_builtin; refine wpList_append_own _ rfl _ _ 22 rfl w4.heap.size 2 i0 (.int .i64 0) 1 8 Try.underlying22 hi iz0 iz1 iz2 rfl (by decide) _ _ _ rfl ((own_below HOW.out (by repeat' (first | (with_reducible exact Below.refl _ _) | (with_reducible assumption) | (with_reducible refine Below.alloc ?_ ?_ _) | (with_reducible refine Below.setCell ?_ ?_ _) | (with_reducible refine Below.drew ?_) | (with_reducible refine below_drewN ?_ _) | (with_reducible refine below_via (by with_reducible assumption) ?_ ?_) | go_size))).alloc _) ⟨wq.heap.size, 0, none⟩ 1 1 [.int .i64 d] rfl rfl (cell_one_new _ _ _) (by simp [Value.oneCell']) (by unfold maxLen; omega) (by omega) (by simp; omega) ?_; intro v' w5 hown' hgrow _)
            have HO : Hid (w5.ownsRow w4.heap.size 2 1 v' (k * T2 + (j + 1)) ((rastL T2 (prtV R C zs p t q u d l) (k * T2 + (j + 1))).map (Value.int .i64))) := by
              unfold Hid
              rw [← Nat.add_assoc, rastL_succ _ _ _ _ hlc, List.map_append, HVV.out]
              exact hown'
            have HB : Hid (Below w4.heap.size V w5) := ((HBL.out.trans (hbq.mono (by omega))).alloc (by omega) _).grown hgrow (by simp; omega) (fun j e => (HOW.out.lt j e).1)
            clear hown' hgrow
            go_wp2
            go_roundw
            case rel => exact ⟨j + 1, by omega, by go_num, HO.out, HB.out⟩
            case measure => simp [intOf]; omega
        · have hce : j = T2 := by omega
          have e : k * T2 + T2 = (k + 1) * T2 := by rw [Nat.add_mul, Nat.one_mul]
          rw [hce, e] at hown1
          have HO := Lib.hid hown1
          have HB := Lib.hid hbel1
          have HC := Lib.hid hce
          clear hce hown1 hbel1 e d0 d5 d6 d7
          go_wp2
          go_roundw
          case rel => exact ⟨k + 1, by omega, by go_num, HO.out, HB.out⟩
          case measure => simp [intOf]; omega
    · have hke : k = T1 := by omega
      obtain ⟨o2, o3, o4, o5, o6, o7, o8⟩ := d6
      rw [hke] at hown
      obtain ⟨av, cv, rfl⟩ := own_shape hown
      have HO := Lib.hid hown
      have HK2 := Lib.hid hke
      have HB := Lib.hid d0
      clear hke hown hbel d0 d5 d7
      go_wp2
      have hlen : (rastL T2 (prtV R C zs p t q u d l) (T1 * T2)).length = T1 * T2 := rastL_length _ _ _
      refine bodyPost_ret (v := .tuple #[.agg #[.int .i64 T1, .int .i64 T2, .slice av (T1 * T2) cv], .int .i64 0]) (by simp [results, Try.results23, go_sem, o3, o4, o5]) rfl ?_
      refine ⟨av, cv, by rw [hlen], ?_, (((HB.out.setCell (by simp; omega) _).setCell (by simp; omega) _).setCell (by simp; omega) _), by rw [hlen]; omega⟩
      rw [hlen]
      exact own_mono (own_far (own_far (own_far HO.out (by simp; omega) _) (by simp; omega) _) (by simp; omega) _) (by omega)
end Go.Proofs.Ytfiddbmjgncabaa
