/-
  DERIVED. A grid drawn by l16Draw.
-/
import Derived.Test.YtfiddbmjgncabaaDGridS
import Derived.Conc.MuLone
import Derived.Maps.AppendAt
import Derived.Deep.AppendLies
namespace Go.Proofs.Ytfiddbmjgncabaa
open Go.RowKit
set_option linter.unusedVariables false
set_option maxRecDepth 100000 in
set_option maxHeartbeats 8000000 in
theorem d16 (g : Nat) (w : World) (h : Src w g) (w0 : World) (hw0 : Below w0.heap.size w0 w) (hwg : w0.heap.size ≤ g) : Calls Try.prog 78 #[.pointer (some ⟨g, 0, none⟩)] w (DrawnRS w0 w g) := by
  obtain ⟨i0, hi, iz0, iz1, iz2⟩ := info_parts infoInt
  have hgb : g < w.heap.size := h.lt
  have hz0 := hw0.size
  have hS0 := h.keep ((Below.refl _ _).alloc (Nat.le_refl _) (.cells #[.int .i64 0, .int .i64 0, .slice none 0 0] 29))
  have HS := Lib.hid hS0
  have HO := Lib.hid (Out3.new w 29)
  have hbW : Below w0.heap.size w0 (w.alloc (.cells #[.int .i64 0, .int .i64 0, .slice none 0 0] 29)) := hw0.alloc hz0 _
  clear h hS0
  go_enter Try.func78, Try.ntmps78
  go_wp2_with fail
  refine (sNext g 6 _ HS.out).mono ?_
  rintro e w1 ⟨x0, rfl, x0a, x0b, -, hs1, hg1⟩
  have HS1 := Lib.hid hs1
  have HO1 := Lib.hid (HO.out.nxt hg1 (by omega))
  have HB1 := Lib.hid (below_nxt hbW hg1 (by simp; omega) hwg)
  have KA1 := Lib.hid ((((KX.refl w w.heap.size g).alloc (Nat.le_refl _) (.cells #[.int .i64 0, .int .i64 0, .slice none 0 0] 29)).nxt hg1 (Nat.le_refl _)))
  have hz1 := hg1.size
  simp at hz1
  clear x0b hs1 hg1 HO hbW HS
  by_cases h0 : x0 = 0
  · subst h0
    go_wp2_with fail
    refine (dGridS g w1 HS1.out w0 HB1.out hwg).mono ?_
    rintro e w2 ⟨r, c, a3, n3, c3, zs, rfl, hn3, hc3, hr3, hb3, hf3, hk3⟩
    have HO2 := Lib.hid (hk3.2.out3 HO1.out (by omega) (by omega))
    obtain ⟨o1, o2, o3, o4, o5, o6, o7⟩ := HO2.out
    have HR3 := Lib.hid hr3
    have HB3 := Lib.hid hb3
    have HF3 := Lib.hid hf3
    have HK3 := Lib.hid hk3
    have hz3 := hk3.2.1
    have hbe := hb3
    clear hr3 hb3 hf3 hk3
    go_wp2
    (try simp only [Exit.inBlock, Exit.then])
    refine bodyPost_ret (v := .agg #[.int .i64 r, .int .i64 c, .slice a3 n3 c3]) (by simp [results, Try.results78, go_sem, o2, o3, o4]) rfl ?_
    refine ⟨_, _, _, _, _, _, rfl, by omega, hc3, rd_nxt HR3.out (only_setCell (only_setCell (only_setCell (World.grownBy.refl w2 (some w.heap.size)) _) _) _) (fun b off e _ => by have := HF3.out b off e; omega), by repeat' (first | (with_reducible exact Below.refl _ _) | (with_reducible assumption) | (with_reducible refine Below.alloc ?_ ?_ _) | (with_reducible refine Below.setCell ?_ ?_ _) | (with_reducible refine Below.drew ?_) | (with_reducible refine below_drewN ?_ _) | (with_reducible refine below_via (by with_reducible assumption) ?_ ?_) | go_size), fun b off e => by have := HF3.out b off e; omega, ?_⟩
    have hq : KpS w _ g := ⟨HK3.out.1, KA1.out.then HK3.out.2 (by omega)⟩
    repeat' (first | exact hq | refine KpS.set ?_ ?_ ?_ | omega | (dsimp only; omega))
  · have t0 : (x0 == 0) = false := by simpa using h0
    clear h0
    go_wp2_with fail
    refine (sNext g 9 _ HS1.out).mono ?_
    rintro e w2 ⟨x1, rfl, x1a, x1b, -, hs2, hg2⟩
    have HS2 := Lib.hid hs2
    have x1c := x1b (by omega)
    have HO2 := Lib.hid (HO1.out.nxt hg2 (by omega))
    have HB2 := Lib.hid (below_nxt HB1.out hg2 (by omega) hwg)
    have KA2 := Lib.hid (KA1.out.nxt hg2 (Nat.le_refl _))
    have hz2 := hg2.size
    clear x1b hs2 hg2 HO1 HB1 HS1
    go_wp2_with fail
    refine (sNext g 9 _ HS2.out).mono ?_
    rintro e w3 ⟨x2, rfl, x2a, x2b, -, hs3, hg3⟩
    have HS3 := Lib.hid (hs3.keep ((Below.refl _ _).alloc (Nat.le_refl _) (.cells #[.int .i64 (1 + x1), .int .i64 (1 + x2), .slice none 0 0] 29)))
    have x2c := x2b (by omega)
    have HO3a := Lib.hid (HO2.out.nxt hg3 (by omega))
    have HB3a := Lib.hid (below_nxt HB2.out hg3 (by omega) hwg)
    have KA3 := Lib.hid (KA2.out.nxt hg3 (Nat.le_refl _))
    have hz3 := hg3.size
    clear x2b hs3 hg3 HO2 HB2 HS2
    have HB3 := Lib.hid (HB3a.out.alloc (by omega) (.cells #[.int .i64 (1 + x1), .int .i64 (1 + x2), .slice none 0 0] 29))
    have hd0 := DInv.start HS3.out HB3.out (by simp; omega)
    simp only [World.size_alloc] at hd0
    have HD0 := Lib.hid hd0
    have HO3 := Lib.hid (HO3a.out.keep (by repeat' (first | (with_reducible exact Below.refl _ _) | (with_reducible assumption) | (with_reducible refine Below.alloc ?_ ?_ _) | (with_reducible refine Below.setCell ?_ ?_ _) | (with_reducible refine Below.drew ?_) | (with_reducible refine below_drewN ?_ _) | (with_reducible refine below_via (by with_reducible assumption) ?_ ?_) | go_size) : Below w3.heap.size w3 ((w3.alloc (.cells #[.int .i64 (1 + x1), .int .i64 (1 + x2), .slice none 0 0] 29)).alloc (.cells #[] 2))))
    obtain ⟨R, hR⟩ : ∃ R, R = 1 + x1 := ⟨_, rfl⟩
    obtain ⟨C, hC⟩ : ∃ C, C = 1 + x2 := ⟨_, rfl⟩
    have HF3 : Hid (BoxF ((w3.alloc (.cells #[.int .i64 (1 + x1), .int .i64 (1 + x2), .slice none 0 0] 29)).alloc (.cells #[] 2)) w3.heap.size R C) := by rw [hR, hC]; exact ⟨by simp; omega, by simp [go_sem], by simp [go_sem], by simp [go_sem]⟩
    have hR1 : 1 ≤ R ∧ R ≤ 9 := by omega
    have hC1 : 1 ≤ C ∧ C ≤ 9 := by omega
    obtain ⟨hR1, hR2⟩ := hR1
    obtain ⟨hC1, hC2⟩ := hC1
    have hrc1 : 1 * 1 ≤ R * C := Int.mul_le_mul hR1 hC1 (by omega) (by omega)
    have hrc2 : R * C ≤ 9 * 9 := Int.mul_le_mul hR2 hC2 (by omega) (by omega)
    clear hd0 HS3 HB3a HB3 HO3a hR hC
    go_wp2
    clear x1a x1c x2a x2c x0a
    generalize hWW : ((w3.alloc (.cells #[.int .i64 (1 + x1), .int .i64 (1 + x2), .slice none 0 0] 29)).alloc (.cells #[] 2)) = W at HD0 HO3 HF3 ⊢
    have KW : Hid (KX w W w.heap.size g) := by rw [← hWW]; exact (KA3.out.alloc (Nat.le_refl _) _).alloc (Nat.le_refl _) _
    have hWs : W.heap.size = w3.heap.size + 2 := by rw [← hWW]; simp
    clear hWW KA1 KA2 KA3
    go_loopw [4, 5] (fun v i wr => ∃ (k : Nat) (zs : List Int), (k : Int) ≤ R * C ∧ i = .int .i64 k ∧ Hid (DInv w0 wr (w3.heap.size + 1) g v k zs) ∧ Hid (KX W wr (w3.heap.size + 1) g)) (fun _ i _ => 100 - (intOf i).toNat)
    case atStart => exact ⟨0, [], by omega, rfl, HD0.out, KX.refl _ _ _⟩
    case round =>
      obtain ⟨k, zs, hk, rfl, HD, HK⟩ := hrel
      obtain ⟨av, cv, rfl⟩ := ownN_shape HD.out.1
      have hbz := HD.out.2.2.2.1
      have hkz := HK.out.1
      obtain ⟨b1, b2, b3, b4⟩ := HK.out.boxF HF3.out (by omega) (by omega)
      by_cases hlt : (k : Int) < R * C
      · rcases Nat.eq_zero_or_pos k with hk0 | hk0
        · subst hk0
          go_wp2_with fail
          refine (sNext g 2 _ HD.out.2.2.1).mono ?_
          rintro e w8 ⟨x8, rfl, x8a, x8b, -, hs8, hg8⟩
          have HD8 := Lib.hid (HD.out.nxt hg8 hs8 (by omega) hwg)
          have HK8 := Lib.hid (HK.out.nxt hg8 (by omega))
          have hz8 := hg8.size
          clear hg8 hs8 x8b
          go_wp2_with (at_builtin; refine wpList_append_lies _ rfl _ _ 22 rfl (w3.heap.size + 1) 2 i0 (.int .i64 0) 1 8 Try.underlying22 hi iz0 iz1 iz2 rfl (by decide) _ _ _ rfl (HD8.out.1.alloc _) ⟨w8.heap.size, 0, none⟩ 1 1 [.int .i64 x8] rfl rfl (cell_one_new _ _ _) (by simp [Value.oneCell']) (by omega) (by unfold maxLen; omega) (by omega) (by have := HD8.out.2.2.2.1; simp; omega) (w8.heap.size + 1) (by simp) ?_; intro g' cap w9 hown' hgrow hat hlt')
          have HD9 := Lib.hid (HD8.out.app (by omega) (by omega) hown' hgrow)
          have HK9 := Lib.hid ((HK8.out.alloc (by omega) _).grown hgrow (fun j e => (HD8.out.1.lt j e).1) (by omega))
          clear hown' hgrow hat
          go_wp2
          go_roundw
          case rel => exact ⟨1, _, by omega, by first | rfl | go_num, HD9.out, HK9.out⟩
          case measure => first | (simp [intOf]; done) | (simp [intOf]; omega)
        · have hkp : (0 : Int) < (k : Int) := by omega
          go_wp2_with fail
          refine (sNext g 3 _ HD.out.2.2.1).mono ?_
          rintro e w4 ⟨x3, rfl, x3a, x3b, -, hs3, hg3⟩
          have HD3 := Lib.hid (HD.out.nxt hg3 hs3 (by omega) hwg)
          have HK3 := Lib.hid (HK.out.nxt hg3 (by omega))
          have hz4 := hg3.size
          clear hg3 hs3 x3b b2 b3 b4
          by_cases hx : 0 < x3
          · obtain ⟨gv, c1, hv⟩ := HD3.out.shape (by omega)
            injection hv with hv1 _ hv2
            subst hv1 hv2
            obtain ⟨c0, f0⟩ := HD3.out.cell (k - 1) (by omega)
            obtain ⟨y, hy⟩ : ∃ y, zs.getD (k - 1) 0 = y := ⟨_, rfl⟩
            rw [hy] at c0
            have e0 : ((k : Int) - 1).toNat = k - 1 := by omega
            have e1 : IntKind.i64.wrap ((k : Int) - 1) = (k : Int) - 1 := IntWalk.i64_in _ (by omega)
            have e2 : (0 : Int) ≤ (k : Int) - 1 := by omega
            have e3 : (k : Int) - 1 < (k : Int) := by omega
            clear hy
            go_wp2_with (at_builtin; refine wpList_append_lies _ rfl _ _ 22 rfl (w3.heap.size + 1) 2 i0 (.int .i64 0) 1 8 Try.underlying22 hi iz0 iz1 iz2 rfl (by decide) _ _ _ rfl (HD3.out.1.alloc _) ⟨w4.heap.size, 0, none⟩ 1 1 [.int .i64 y] rfl rfl (cell_one_new _ _ _) (by simp [Value.oneCell']) (by omega) (by unfold maxLen; omega) (by omega) (by have := HD3.out.2.2.2.1; simp; omega) (w4.heap.size + 1) (by simp) ?_; intro g' cap w9 hown' hgrow hat hlt')
            have HD9 := Lib.hid (HD3.out.app (by omega) (by omega) hown' hgrow)
            have HK9 := Lib.hid ((HK3.out.alloc (by omega) _).grown hgrow (fun j e => (HD3.out.1.lt j e).1) (by omega))
            clear hown' hgrow hat
            go_wp2
            go_roundw
            case rel => exact ⟨k + 1, _, by omega, by go_num, HD9.out, HK9.out⟩
            case measure => simp [intOf]; omega
          · have hx2 : ¬ 0 < x3 := hx
            go_wp2_with fail
            refine (sNext g 2 _ HD3.out.2.2.1).mono ?_
            rintro e w8 ⟨x8, rfl, x8a, x8b, -, hs8, hg8⟩
            have HD8 := Lib.hid (HD3.out.nxt hg8 hs8 (by omega) hwg)
            have HK8 := Lib.hid (HK3.out.nxt hg8 (by omega))
            have hz8 := hg8.size
            clear hg8 hs8 x8b
            go_wp2_with (at_builtin; refine wpList_append_lies _ rfl _ _ 22 rfl (w3.heap.size + 1) 2 i0 (.int .i64 0) 1 8 Try.underlying22 hi iz0 iz1 iz2 rfl (by decide) _ _ _ rfl (HD8.out.1.alloc _) ⟨w8.heap.size, 0, none⟩ 1 1 [.int .i64 x8] rfl rfl (cell_one_new _ _ _) (by simp [Value.oneCell']) (by omega) (by unfold maxLen; omega) (by omega) (by have := HD8.out.2.2.2.1; simp; omega) (w8.heap.size + 1) (by simp) ?_; intro g' cap w9 hown' hgrow hat hlt')
            have HD9 := Lib.hid (HD8.out.app (by omega) (by omega) hown' hgrow)
            have HK9 := Lib.hid ((HK8.out.alloc (by omega) _).grown hgrow (fun j e => (HD8.out.1.lt j e).1) (by omega))
            clear hown' hgrow hat
            go_wp2
            go_roundw
            case rel => exact ⟨k + 1, _, by omega, by go_num, HD9.out, HK9.out⟩
            case measure => simp [intOf]; omega
      · have hke : (k : Int) = R * C := by omega
        have hk36 : k ≤ 81 := by omega
        have HKo := HK.out.out3 HO3.out (by omega) (by omega)
        obtain ⟨o1, o2, o3, o4, o5, o6, o7⟩ := HKo
        have hcp := own_cap HD.out.1
        have hbe := HD.out.2.1
        have hsz := HD.out.2.2.2.1
        go_wp2
        (try simp only [Exit.inBlock, Exit.then])
        refine bodyPost_ret (v := .agg #[.int .i64 R, .int .i64 C, .slice av (k) cv]) (by simp [results, Try.results78, go_sem, o2, o3, o4]) rfl ?_
        exact ⟨_, _, _, _, _, _, rfl, by omega, hcp, own_rd (own_far (own_far (own_far HD.out.1 (by dsimp only; omega) _) (by dsimp only; omega) _) (by dsimp only; omega) _), by repeat' (first | (with_reducible exact Below.refl _ _) | (with_reducible assumption) | (with_reducible refine Below.alloc ?_ ?_ _) | (with_reducible refine Below.setCell ?_ ?_ _) | (with_reducible refine Below.drew ?_) | (with_reducible refine below_drewN ?_ _) | (with_reducible refine below_via (by with_reducible assumption) ?_ ?_) | go_size), fun b off e => by have := own_fresh HD.out.1 (by omega) b off e; omega, by have hq : KpS w _ g := ⟨HD.out.2.2.1, KW.out.then HK.out (by omega)⟩; repeat' (first | exact hq | refine KpS.set ?_ ?_ ?_ | omega | (dsimp only; omega))⟩
end Go.Proofs.Ytfiddbmjgncabaa
