/-
  DERIVED. LocalBinary: the walk of spec.
-/
import Derived.Test.YtfiddbmjgncabaaLocS
namespace Go.Proofs.Ytfiddbmjgncabaa
open Go.RowKit
set_option linter.unusedVariables false
theorem winL_bd {zs : List Int} (h : ∀ x ∈ zs, 0 ≤ x ∧ x ≤ 255) (C t l n m q : Nat) (hq : q < n * m) : 0 ≤ (winL zs C t l n m).getD q 0 ∧ (winL zs C t l n m).getD q 0 ≤ 255 := by
  unfold winL
  rw [rastL_getD _ _ _ _ hq]
  by_cases hi : (t + q / m) * C + (l + q % m) < zs.length
  · exact h _ (getD_mem hi)
  · simp [List.getD_eq_getElem?_getD, List.getElem?_eq_none (show zs.length ≤ (t + q / m) * C + (l + q % m) by omega)]
set_option maxRecDepth 20000 in
set_option maxHeartbeats 8000000 in
theorem sLocal_ok (rows cols rad : Nat) (off : Int) (a : Option Addr) (n cp : Nat) (zs : List Int) (w : World) (h : Rd w a n zs) (hn : n ≤ 1048576) (hr : rasterB (rows : Int) (cols : Int) n zs = true) (h20 : rad ≤ 20) (ho1 : -255 ≤ off) (ho2 : off ≤ 255) :
    Calls Try.prog 47 #[.agg #[.int .i64 (rows : Int), .int .i64 (cols : Int), .slice a n cp], .int .i64 (rad : Int), .int .i64 off] w (ResG w (rows : Int) (cols : Int) (rastL cols (locV zs rows cols rad off) (rows * cols)) 0) := by
  obtain ⟨r1, r2, r3, r4, r5, r6, r7, r8⟩ := rasterB_yes hr
  have HH := Lib.hid h
  have HL := Lib.hid h.1
  have H7 := Lib.hid r7
  have H8 := Lib.hid r8
  clear h r5 r6 r7 r8
  have i1 : inB (rad : Int) 0 20 = true := inB_yes (by omega) (by omega)
  have i2 : inB off (-255) 255 = true := inB_yes ho1 ho2
  have bP := Lib.hid (Box3.new w 32 (.int .i64 (rows : Int)) (.int .i64 (cols : Int)) (.slice a n cp))
  have bO := Lib.hid (Out3.new (w.alloc (.cells #[.int .i64 (rows : Int), .int .i64 (cols : Int), .slice a n cp] 32)) 29)
  obtain ⟨i0, hi, hz0, hz1', hz2⟩ := info_parts infoInt
  have hp2 : rows * cols ≤ 400 * 400 := Nat.mul_le_mul (by omega) (by omega)
  go_enter Try.func47, Try.ntmps47
  go_wp2_with fail
  refine (sIsRaster (rows : Int) (cols : Int) a n cp zs _ (HH.out.below (by repeat' (first | (with_reducible exact Below.refl _ _) | (with_reducible assumption) | (with_reducible refine Below.alloc ?_ ?_ _) | (with_reducible refine Below.setCell ?_ ?_ _) | (with_reducible refine Below.drew ?_) | (with_reducible refine below_drewN ?_ _) | (with_reducible refine below_via (by with_reducible assumption) ?_ ?_) | go_size))) hn).mono ?_
  rintro e w1 ⟨rfl, hb1⟩
  have hz1 := hb1.size; try simp at hz1
  rw [hr]
  go_wp2_with (go_at_call 95; refine (sIn _ _ _ _).mono ?_; rintro e w' ⟨rfl, rfl⟩)
  obtain ⟨W, hW⟩ : ∃ W : World, W = w1.alloc (.cells #[] 2) := ⟨_, rfl⟩
  have hW1 : Below w1.heap.size w1 W := by rw [hW]; exact (Below.refl _ _).alloc (Nat.le_refl _) _
  have kP : Hid (Box3 w1 w.heap.size (.int .i64 (rows : Int)) (.int .i64 (cols : Int)) (.slice a n cp)) := bP.out.keep (by repeat' (first | (with_reducible exact Below.refl _ _) | (with_reducible assumption) | (with_reducible refine Below.alloc ?_ ?_ _) | (with_reducible refine Below.setCell ?_ ?_ _) | (with_reducible refine Below.drew ?_) | (with_reducible refine below_drewN ?_ _) | (with_reducible refine below_via (by with_reducible assumption) ?_ ?_) | go_size))
  have kO := bO.out.keep (by repeat' (first | (with_reducible exact Below.refl _ _) | (with_reducible assumption) | (with_reducible refine Below.alloc ?_ ?_ _) | (with_reducible refine Below.setCell ?_ ?_ _) | (with_reducible refine Below.drew ?_) | (with_reducible refine below_drewN ?_ _) | (with_reducible refine below_via (by with_reducible assumption) ?_ ?_) | go_size) : Below _ _ w1)
  simp only [World.size_alloc] at kO
  have KO := Lib.hid kO
  have hww : Below w.heap.size w w1 := by repeat' (first | (with_reducible exact Below.refl _ _) | (with_reducible assumption) | (with_reducible refine Below.alloc ?_ ?_ _) | (with_reducible refine Below.setCell ?_ ?_ _) | (with_reducible refine Below.drew ?_) | (with_reducible refine below_drewN ?_ _) | (with_reducible refine below_via (by with_reducible assumption) ?_ ?_) | go_size)
  have HP2 : Hid (∀ wr, Below w1.heap.size W wr → Below w.heap.size w wr ∧ Box3 wr w.heap.size (.int .i64 (rows : Int)) (.int .i64 (cols : Int)) (.slice a n cp) ∧ Out3 wr (w.heap.size + 1) ∧ Rd wr a n zs) := by
    intro wr hb
    have h1 : Below w1.heap.size w1 wr := hW1.trans hb
    have h2 : Below w.heap.size w wr := hww.trans (h1.mono hww.size)
    exact ⟨h2, kP.out.below h1 (by omega), KO.out.below h1 (by omega), HH.out.below h2⟩
  have HS : Hid (W.heap.size = w1.heap.size + 1) := by unfold Hid; rw [hW]; simp
  have HO0 : Hid (W.ownsRow w1.heap.size 2 1 (.slice (some ⟨w1.heap.size, 0, none⟩) 0 0) 0 []) := by
    have := World.ownsRow_lit (base := w1.heap.size) (e := 2) (size := 1) w1 #[] 0 (by simp) (by unfold maxLen; omega) (by simp)
    rw [hW]
    exact this
  rw [← hW]
  have hs1 : w.heap.size + 2 ≤ w1.heap.size := by omega
  clear hW hW1 hww kP kO KO bP bO hb1 hr
  go_loopw [8, 9] (fun v q wr => ∃ k : Nat, k ≤ rows ∧ q = .int .i64 k ∧ wr.ownsRow w1.heap.size 2 1 v (k * cols) ((rastL cols (locV zs rows cols rad off) (k * cols)).map (Value.int .i64)) ∧ Below w1.heap.size W wr) (fun _ q _ => rows - (intOf q).toNat)
  case atStart => exact ⟨0, Nat.zero_le _, rfl, by simpa [rastL] using HO0.out, Below.refl _ _⟩
  case round =>
    obtain ⟨k, hkn, rfl, hown, hbel⟩ := hrel
    obtain ⟨d0, ⟨d1, d2, d3, d4⟩, d5, d6⟩ := HP2.out wr hbel
    by_cases hlt : k < rows
    · clear d0 d5 d6
      obtain ⟨wo, rfl⟩ : ∃ wo : World, wo = wr := ⟨_, rfl⟩
      go_wp2
      clear d1 d2 d3 d4
      go_loopw [8, 10] (fun v q wr => ∃ c : Nat, c ≤ cols ∧ q = .int .i64 c ∧ wr.ownsRow w1.heap.size 2 1 v (k * cols + c) ((rastL cols (locV zs rows cols rad off) (k * cols + c)).map (Value.int .i64)) ∧ Below w1.heap.size W wr) (fun _ q _ => cols - (intOf q).toNat)
      case atStart => exact ⟨0, Nat.zero_le _, rfl, by simpa using hown, hbel⟩
      case round =>
        obtain ⟨c, hc, rfl, hown1, hbel1⟩ := hrel
        clear hown hbel
        obtain ⟨d0, ⟨d1, d2, d3, d4⟩, d5, d6⟩ := HP2.out wr hbel1
        clear d5
        by_cases hlc : c < cols
        · have hroom : k * cols + c + 1 ≤ rows * cols := by
            have : (k + 1) * cols ≤ rows * cols := Nat.mul_le_mul_right _ hlt
            rw [Nat.add_mul, Nat.one_mul] at this
            omega
          have hszr := hbel1.size
          have hs3 := HS.out
          have HD6 := Lib.hid d6
          clear d6 d0
          obtain ⟨n1, n2, -, -, -⟩ := winN_le (R := rows) hlt h20
          obtain ⟨m1, m2, -, -, -⟩ := winN_le (R := cols) hlc h20
          go_wp2_with fail
          refine (sWinOf rows cols k c rad a n cp zs _ (HD6.out.below (by repeat' (first | (with_reducible exact Below.refl _ _) | (with_reducible assumption) | (with_reducible refine Below.alloc ?_ ?_ _) | (with_reducible refine Below.setCell ?_ ?_ _) | (with_reducible refine Below.drew ?_) | (with_reducible refine below_drewN ?_ _) | (with_reducible refine below_via (by with_reducible assumption) ?_ ?_) | go_size))) H7.out (by omega) (by omega) hlt hlc h20).mono ?_
          rintro e w2 ⟨av, cv, rfl, ho2, hb2⟩
          have hzB := hb2.size
          have hbel2 : Below w1.heap.size W w2 := hbel1.trans (hb2.mono (by omega))
          have hown2 := own_below hown1 hb2
          have hm0 : 1 ≤ winN rows k rad * winN cols c rad := Nat.mul_pos n1 m1
          have hm1 : winN rows k rad * winN cols c rad ≤ 41 * 41 := Nat.mul_le_mul n2 m2
          have HWB := Lib.hid (fun q (hq : q < winN rows k rad * winN cols c rad) => winL_bd H8.out cols (k - rad) (c - rad) (winN rows k rad) (winN cols c rad) q hq)
          have HWS := Lib.hid (winL_sum zs cols (k - rad) (c - rad) (winN rows k rad) (winN cols c rad))
          have HLV : Hid (locV zs rows cols rad off k c = if (zs.getD (k * cols + c) 0 + off) * ((winN rows k rad * winN cols c rad : Nat) : Int) < winS zs cols (k - rad) (c - rad) (winN rows k rad) (winN cols c rad) then 1 else 0) := rfl
          obtain ⟨S, hS⟩ : ∃ S, winS zs cols (k - rad) (c - rad) (winN rows k rad) (winN cols c rad) = S := ⟨_, rfl⟩
          obtain ⟨L, hLL⟩ : ∃ L, winL zs cols (k - rad) (c - rad) (winN rows k rad) (winN cols c rad) = L := ⟨_, rfl⟩
          rw [hS] at HWS HLV
          rw [hLL] at HWB HWS ho2
          obtain ⟨m, hm⟩ : ∃ m, winN rows k rad * winN cols c rad = m := ⟨_, rfl⟩
          rw [hm] at hm0 hm1 HWB HWS HLV ho2 ⊢
          clear hS hLL hm n1 n2 m1 m2 hown1 hbel1 hb2
          have HRW := own_rd ho2
          obtain ⟨b, o1, rfl, hbb, hcl⟩ := HRW.2 (by omega)
          have HCL := Lib.hid hcl
          have HO2 := Lib.hid hown2
          have HB2 := Lib.hid hbel2
          clear hcl ho2 HRW hown2 hbel2
          go_wp2
          go_loop [12, 13] (fun s q => ∃ t : Nat, t ≤ m ∧ q = .int .i64 t ∧ s = .int .i64 (sumZ t fun i => L.getD i 0)) (fun _ q => m - (intOf q).toNat)
          case atStart => exact ⟨0, Nat.zero_le _, rfl, rfl⟩
          case round =>
            obtain ⟨t, ht, rfl, rfl⟩ := hrel
            by_cases htl : t < m
            · have hx : w2.cell? ⟨b, o1 + t, none⟩ = some (.int .i64 (L.getD t 0)) := HCL.out t htl
              have hbd := sumZ_bd (n := t) (f := fun i => L.getD i 0) (M := 255) (fun i hi => HWB.out i (by omega))
              have hbt := HWB.out t htl
              have hst : Hid (sumZ (t + 1) (fun i => L.getD i 0) = sumZ t (fun i => L.getD i 0) + L.getD t 0) := rfl
              obtain ⟨x, hxv⟩ : ∃ x, L.getD t 0 = x := ⟨_, rfl⟩
              obtain ⟨s0, hs0⟩ : ∃ s0, (sumZ t fun i => L.getD i 0) = s0 := ⟨_, rfl⟩
              rw [hxv] at hx hbt hst
              rw [hs0] at hbd hst ⊢
              have ht5 : t * 255 ≤ 1681 * 255 := Nat.mul_le_mul_right _ (by omega)
              have hbd2 : 0 ≤ s0 ∧ s0 ≤ 428655 := by omega
              clear hbd hxv hs0 ht5
              go_wp2
              go_round
              case rel => exact ⟨t + 1, by omega, by go_num, by rw [hst.out]⟩
              case measure => simp [intOf]; omega
            · have hte : t = m := by omega
              rw [hte, HWS.out]
              have HTE := Lib.hid hte
              clear hte ht
              obtain ⟨d0, ⟨d1, d2, d3, d4⟩, d5, d6⟩ := HP2.out w2 HB2.out
              have HD6 := Lib.hid d6
              clear d0 d5 d6
              go_wp2_with fail
              refine (sAt (rows : Int) (cols : Int) a n cp zs (k : Int) (c : Int) _ (HD6.out.below (by repeat' (first | (with_reducible exact Below.refl _ _) | (with_reducible assumption) | (with_reducible refine Below.alloc ?_ ?_ _) | (with_reducible refine Below.setCell ?_ ?_ _) | (with_reducible refine Below.drew ?_) | (with_reducible refine below_drewN ?_ _) | (with_reducible refine below_via (by with_reducible assumption) ?_ ?_) | go_size))) (by omega) (by omega) (by omega) (by omega) (by omega) (by omega) H7.out).mono ?_
              rw [pixV_nat]
              rintro e wq ⟨rfl, hbq⟩
              have hszq := hbq.size
              have hin : k * cols + c < zs.length := by
                rw [HL.out]
                have e7 := H7.out
                have e3 : ((rows : Int) * (cols : Int)) = ((rows * cols : Nat) : Int) := by simp
                omega
              have hpx : 0 ≤ zs.getD (k * cols + c) 0 ∧ zs.getD (k * cols + c) 0 ≤ 255 := H8.out _ (getD_mem hin)
              obtain ⟨x, hxv⟩ : ∃ x, zs.getD (k * cols + c) 0 = x := ⟨_, rfl⟩
              rw [hxv] at hpx HLV ⊢
              have z1 : 0 ≤ (510 - (x + off)) * (m : Int) := Int.mul_nonneg (by omega) (by omega)
              have z2 : 0 ≤ (510 + (x + off)) * (m : Int) := Int.mul_nonneg (by omega) (by omega)
              rw [Int.sub_mul] at z1
              rw [Int.add_mul] at z2
              have zb : -857310 ≤ (x + off) * (m : Int) ∧ (x + off) * (m : Int) ≤ 857310 := by omega
              obtain ⟨zb1, zb2⟩ := zb
              clear z1 z2 hxv
              by_cases hlv : (x + off) * (m : Int) < S
              · have HVV : Hid (locV zs rows cols rad off k c = 1) := by unfold Hid; rw [HLV.out, if_pos hlv]
                go_wp2_with (at_builtin; refine wpList_append_own _ rfl _ _ 22 rfl w1.heap.size 2 i0 (.int .i64 0) 1 8 Try.underlying22 hi hz0 hz1' hz2 rfl (by decide) _ _ _ rfl ((own_below HO2.out (by repeat' (first | (with_reducible exact Below.refl _ _) | (with_reducible assumption) | (with_reducible refine Below.alloc ?_ ?_ _) | (with_reducible refine Below.setCell ?_ ?_ _) | (with_reducible refine Below.drew ?_) | (with_reducible refine below_drewN ?_ _) | (with_reducible refine below_via (by with_reducible assumption) ?_ ?_) | go_size))).alloc _) ⟨wq.heap.size, 0, none⟩ 1 1 [.int .i64 1] rfl rfl (cell_one_new _ _ _) (by simp [Value.oneCell']) (by unfold maxLen; omega) (by omega) (by simp; omega) ?_; intro v' w5 hown' hgrow _)
                have HO : Hid (w5.ownsRow w1.heap.size 2 1 v' (k * cols + (c + 1)) ((rastL cols (locV zs rows cols rad off) (k * cols + (c + 1))).map (Value.int .i64))) := by
                  unfold Hid
                  rw [← Nat.add_assoc, rastL_succ _ _ _ _ hlc, List.map_append, HVV.out]
                  exact hown'
                have HB : Hid (Below w1.heap.size W w5) := ((HB2.out.trans (hbq.mono (by omega))).alloc (by omega) _).grown hgrow (by simp; omega) (fun j e => (HO2.out.lt j e).1)
                clear hown' hgrow
                go_wp2
                go_roundw
                case rel => exact ⟨c + 1, by omega, by go_num, HO.out, HB.out⟩
                case measure => simp [intOf]; omega
              · have HVV : Hid (locV zs rows cols rad off k c = 0) := by unfold Hid; rw [HLV.out, if_neg hlv]
                go_wp2_with (at_builtin; refine wpList_append_own _ rfl _ _ 22 rfl w1.heap.size 2 i0 (.int .i64 0) 1 8 Try.underlying22 hi hz0 hz1' hz2 rfl (by decide) _ _ _ rfl ((own_below HO2.out (by repeat' (first | (with_reducible exact Below.refl _ _) | (with_reducible assumption) | (with_reducible refine Below.alloc ?_ ?_ _) | (with_reducible refine Below.setCell ?_ ?_ _) | (with_reducible refine Below.drew ?_) | (with_reducible refine below_drewN ?_ _) | (with_reducible refine below_via (by with_reducible assumption) ?_ ?_) | go_size))).alloc _) ⟨wq.heap.size, 0, none⟩ 1 1 [.int .i64 0] rfl rfl (cell_one_new _ _ _) (by simp [Value.oneCell']) (by unfold maxLen; omega) (by omega) (by simp; omega) ?_; intro v' w5 hown' hgrow _)
                have HO : Hid (w5.ownsRow w1.heap.size 2 1 v' (k * cols + (c + 1)) ((rastL cols (locV zs rows cols rad off) (k * cols + (c + 1))).map (Value.int .i64))) := by
                  unfold Hid
                  rw [← Nat.add_assoc, rastL_succ _ _ _ _ hlc, List.map_append, HVV.out]
                  exact hown'
                have HB : Hid (Below w1.heap.size W w5) := ((HB2.out.trans (hbq.mono (by omega))).alloc (by omega) _).grown hgrow (by simp; omega) (fun j e => (HO2.out.lt j e).1)
                clear hown' hgrow
                go_wp2
                go_roundw
                case rel => exact ⟨c + 1, by omega, by go_num, HO.out, HB.out⟩
                case measure => simp [intOf]; omega
        · have hce : c = cols := by omega
          have e : k * cols + cols = (k + 1) * cols := by rw [Nat.add_mul, Nat.one_mul]
          rw [hce, e] at hown1
          have HO := Lib.hid hown1
          have HB := Lib.hid hbel1
          have HC := Lib.hid hce
          clear hce hown1 hbel1 e d0 d6
          go_wp2
          go_roundw
          case rel => exact ⟨k + 1, by omega, by go_num, HO.out, HB.out⟩
          case measure => simp [intOf]; omega
    · have hke : k = rows := by omega
      obtain ⟨o2, o3, o4, o5, o6, o7, o8⟩ := d5
      rw [hke] at hown
      obtain ⟨av, cv, rfl⟩ := own_shape hown
      have HO := Lib.hid hown
      have HK := Lib.hid hke
      have HB := Lib.hid d0
      clear hke hown hbel d0 d6
      go_wp2
      have hlen : (rastL cols (locV zs rows cols rad off) (rows * cols)).length = rows * cols := rastL_length _ _ _
      refine bodyPost_ret (v := .tuple #[.agg #[.int .i64 rows, .int .i64 cols, .slice av (rows * cols) cv], .int .i64 0]) (by simp [results, Try.results47, go_sem, o3, o4, o5]) rfl ?_
      refine ⟨av, cv, by rw [hlen], ?_, (((HB.out.setCell (by simp) _).setCell (by simp) _).setCell (by simp) _), by rw [hlen]; omega⟩
      rw [hlen]
      exact own_mono (own_far (own_far (own_far HO.out (by simp; omega) _) (by simp; omega) _) (by simp; omega) _) (by omega)
end Go.Proofs.Ytfiddbmjgncabaa
