/-
  DERIVED. A raster drawn, the source still at hand: the walk.
-/
import Derived.Test.YtfiddbmjgncabaaDRast
import Derived.Conc.MuLone
import Derived.Maps.AppendAt
import Derived.Deep.AppendLies
namespace Go.Proofs.Ytfiddbmjgncabaa
open Go.RowKit
set_option linter.unusedVariables false
/-- The source is still at hand; what lay here, but for the source, is as it was. -/
def KpS (w wr : World) (g : Nat) : Prop := Src wr g ∧ KX w wr w.heap.size g
theorem KpS.set {w wr : World} {g b i : Nat} {v : Value} (h : KpS w wr g) (h1 : w.heap.size ≤ b) (hg : g < w.heap.size) : KpS w (wr.setCell ⟨b, i, none⟩ v) g :=
  ⟨h.1.grown (only_setCell (World.grownBy.refl wr (some b)) v) (fun j e => by injection e with e; omega), h.2.grown (only_setCell (World.grownBy.refl wr (some b)) v) (fun j e => by injection e with e; omega) (Nat.le_refl _)⟩
theorem KX.then {w W wr : World} {base g : Nat} (h1 : KX w W w.heap.size g) (h2 : KX W wr base g) (hb : w.heap.size ≤ base) : KX w wr w.heap.size g :=
  ⟨Nat.le_trans h1.1 h2.1, fun b a c => (h2.2 b (by omega) c).trans (h1.2 b a c)⟩
def DrawnRS (w0 w : World) (g : Nat) (e : Ending) (w' : World) : Prop := ∃ r c a n cp zs, e = .returned (.agg #[.int .i64 r, .int .i64 c, .slice a n cp]) ∧ n ≤ 4000 ∧ n ≤ cp ∧ Rd w' a n zs ∧ Below w0.heap.size w0 w' ∧ (∀ b off, a = some ⟨b, off, none⟩ → w.heap.size ≤ b) ∧ KpS w w' g
set_option maxRecDepth 100000 in
set_option maxHeartbeats 8000000 in
theorem dRastS (g : Nat) (w : World) (h : Src w g) (w0 : World) (hw0 : Below w0.heap.size w0 w) (hwg : w0.heap.size ≤ g) : Calls Try.prog 90 #[.pointer (some ⟨g, 0, none⟩)] w (DrawnRS w0 w g) := by
  obtain ⟨i0, hi, iz0, iz1, iz2⟩ := info_parts infoInt
  have hgb : g < w.heap.size := h.lt
  have hz0 := hw0.size
  have hS0 := h.keep ((Below.refl _ _).alloc (Nat.le_refl _) (.cells #[.int .i64 0, .int .i64 0, .slice none 0 0] 32))
  have HS := Lib.hid hS0
  have HO := Lib.hid (Out3.new w 32)
  have hbW : Below w0.heap.size w0 (w.alloc (.cells #[.int .i64 0, .int .i64 0, .slice none 0 0] 32)) := hw0.alloc hz0 _
  clear h hS0
  go_enter Try.func90, Try.ntmps90
  go_wp2_with fail
  refine (sNext g 7 _ HS.out).mono ?_
  rintro e w1 ⟨x1, rfl, x1a, x1b, -, hs1, hg1⟩
  have HS1 := Lib.hid hs1
  have x1c := x1b (by omega)
  have HO1 := Lib.hid (HO.out.nxt hg1 (by omega))
  have HB1 := Lib.hid (below_nxt hbW hg1 (by simp; omega) hwg)
  have hz1 := hg1.size
  simp at hz1
  have KA1 := Lib.hid ((((KX.refl w w.heap.size g).alloc (Nat.le_refl _) (.cells #[.int .i64 0, .int .i64 0, .slice none 0 0] 32)).nxt hg1 (Nat.le_refl _)))
  clear x1b hs1 hg1 HO hbW
  go_wp2_with fail
  refine (sNext g 7 _ HS1.out).mono ?_
  rintro e w2 ⟨x2, rfl, x2a, x2b, -, hs2, hg2⟩
  have HS2 := Lib.hid (hs2.keep ((Below.refl _ _).alloc (Nat.le_refl _) (.cells #[.int .i64 (1 + x1), .int .i64 (1 + x2), .slice none 0 0] 32)))
  have x2c := x2b (by omega)
  have HO2 := Lib.hid (HO1.out.nxt hg2 (by omega))
  have HB2 := Lib.hid (below_nxt HB1.out hg2 (by omega) hwg)
  have hz2 := hg2.size
  have KA2 := Lib.hid (KA1.out.nxt hg2 (Nat.le_refl _))
  clear x2b hs2 hg2 HO1 HB1 HS1
  have HB3 := Lib.hid (HB2.out.alloc (by omega) (.cells #[.int .i64 (1 + x1), .int .i64 (1 + x2), .slice none 0 0] 32))
  have hd0 := DInv.start HS2.out HB3.out (by simp; omega)
  simp only [World.size_alloc] at hd0
  have HD0 := Lib.hid hd0
  have HO3 := Lib.hid (HO2.out.keep (by repeat' (first | (with_reducible exact Below.refl _ _) | (with_reducible assumption) | (with_reducible refine Below.alloc ?_ ?_ _) | (with_reducible refine Below.setCell ?_ ?_ _) | (with_reducible refine Below.drew ?_) | (with_reducible refine below_drewN ?_ _) | (with_reducible refine below_via (by with_reducible assumption) ?_ ?_) | go_size) : Below w2.heap.size w2 ((w2.alloc (.cells #[.int .i64 (1 + x1), .int .i64 (1 + x2), .slice none 0 0] 32)).alloc (.cells #[] 2))))
  obtain ⟨hrc1, hrc2⟩ := cellsR7 (R := 1 + x1) (C := 1 + x2) (by omega) (by omega) (by omega) (by omega)
  obtain ⟨R, hR⟩ : ∃ R, R = 1 + x1 := ⟨_, rfl⟩
  obtain ⟨C, hC⟩ : ∃ C, C = 1 + x2 := ⟨_, rfl⟩
  have HF3 : Hid (BoxF ((w2.alloc (.cells #[.int .i64 (1 + x1), .int .i64 (1 + x2), .slice none 0 0] 32)).alloc (.cells #[] 2)) w2.heap.size R C) := by rw [hR, hC]; exact ⟨by simp; omega, by simp [go_sem], by simp [go_sem], by simp [go_sem]⟩
  rw [← hR, ← hC] at hrc1 hrc2
  have hR1 : 1 ≤ R ∧ R ≤ 7 := by omega
  have hC1 : 1 ≤ C ∧ C ≤ 7 := by omega
  obtain ⟨hR1, hR2⟩ := hR1
  obtain ⟨hC1, hC2⟩ := hC1
  clear hd0 HS HS2 HB2 HB3 HO2 hR hC
  go_wp2
  clear x1a x1c x2a x2c
  generalize hWW : ((w2.alloc (.cells #[.int .i64 (1 + x1), .int .i64 (1 + x2), .slice none 0 0] 32)).alloc (.cells #[] 2)) = W at HD0 HO3 HF3 ⊢
  have KW : Hid (KX w W w.heap.size g) := by rw [← hWW]; exact (KA2.out.alloc (Nat.le_refl _) _).alloc (Nat.le_refl _) _
  have hWs : W.heap.size = w2.heap.size + 2 := by rw [← hWW]; simp
  clear hWW
  go_loopw [4, 5] (fun v i wr => ∃ (k : Nat) (zs : List Int), (k : Int) ≤ R * C ∧ i = .int .i64 k ∧ Hid (DInv w0 wr (w2.heap.size + 1) g v k zs) ∧ Hid (KX W wr (w2.heap.size + 1) g)) (fun _ i _ => 100 - (intOf i).toNat)
  case atStart => exact ⟨0, [], by omega, rfl, HD0.out, KX.refl _ _ _⟩
  case round =>
    obtain ⟨k, zs, hk, rfl, HD, HK⟩ := hrel
    obtain ⟨av, cv, rfl⟩ := ownN_shape HD.out.1
    have hbz := HD.out.2.2.2.1
    have hkz := HK.out.1
    obtain ⟨b1, b2, b3, b4⟩ := HK.out.boxF HF3.out (by omega) (by omega)
    by_cases hlt : (k : Int) < R * C
    · go_wp2_with fail
      refine (sNext g 256 _ HD.out.2.2.1).mono ?_
      rintro e w3 ⟨x3, rfl, x3a, x3b, -, hs3, hg3⟩
      have HD3a := Lib.hid (HD.out.nxt hg3 hs3 (by omega) hwg)
      have HK3a := Lib.hid (HK.out.nxt hg3 (by omega))
      have x3c := x3b (by omega)
      have hz3 := hg3.size
      clear hg3 hs3 x3b b2 b3 b4
      have HDa := Lib.hid (HD3a.out.alloc (by omega) (.cells #[.int .i64 0, .int .i64 255, .int .i64 x3, .int .i64 30, .int .i64 220] 2))
      have HKa := Lib.hid (HK3a.out.alloc (by omega) (.cells #[.int .i64 0, .int .i64 255, .int .i64 x3, .int .i64 30, .int .i64 220] 2))
      have HL : Hid (Lits (w3.alloc (.cells #[.int .i64 0, .int .i64 255, .int .i64 x3, .int .i64 30, .int .i64 220] 2)) w3.heap.size 5 0 255) := Lits.new w3 2 [0, 255, x3, 30, 220] 0 255 (by intro y hy; simp at hy; omega)
      go_wp2_with fail
      refine (sNext g 5 _ HDa.out.2.2.1).mono ?_
      rintro e w9 ⟨x9, rfl, x9a, x9b, -, hs9, hg9⟩
      have HD3 := Lib.hid (HDa.out.nxt hg9 hs9 (by omega) hwg)
      have HK3 := Lib.hid (HKa.out.nxt hg9 (by omega))
      have x9c := x9b (by omega)
      have HL9 := Lib.hid (HL.out.nxt hg9 (by omega))
      have hz9 := hg9.size
      simp at hz9
      clear hg9 hs9 x9b HL HDa HKa HD3a HK3a
      obtain ⟨q, hq⟩ := Int.eq_ofNat_of_zero_le x9a
      subst hq
      obtain ⟨y, y1, y2, hy⟩ := HL9.out.2 q (by omega)
      go_wp2_with (at_builtin; refine wpList_append_lies _ rfl _ _ 22 rfl (w2.heap.size + 1) 2 i0 (.int .i64 0) 1 8 Try.underlying22 hi iz0 iz1 iz2 rfl (by decide) _ _ _ rfl (HD3.out.1.alloc _) ⟨w9.heap.size, 0, none⟩ 1 1 [.int .i64 y] rfl rfl (cell_one_new _ _ _) (by simp [Value.oneCell']) (by omega) (by unfold maxLen; omega) (by omega) (by have := HD3.out.2.2.2.1; simp; omega) (w9.heap.size + 1) (by simp) ?_; intro g' cap w5 hown' hgrow hat hlt')
      have HD5 := Lib.hid (HD3.out.app (by omega) (by omega) hown' hgrow)
      have HK5 := Lib.hid ((HK3.out.alloc (by omega) _).grown hgrow (fun j e => (HD3.out.1.lt j e).1) (by omega))
      clear hown' hgrow hat
      go_wp2
      go_roundw
      case rel => exact ⟨k + 1, _, by omega, by go_num, HD5.out, HK5.out⟩
      case measure => simp [intOf]; omega
    · have hke : (k : Int) = R * C := by omega
      have hk36 : k ≤ 49 := by omega
      go_wp2_with fail
      refine (sNext g 30 _ HD.out.2.2.1).mono ?_
      rintro e w4 ⟨x4, rfl, x4a, x4b, -, hs4, hg4⟩
      have HD4 := Lib.hid (HD.out.nxt hg4 hs4 (by omega) hwg)
      have HK4 := Lib.hid (HK.out.nxt hg4 (by omega))
      have x4c := x4b (by omega)
      have hz4 := hg4.size
      clear hg4 hs4 x4b b2 b3 b4 b1
      by_cases h0 : x4 = 0
      · subst h0
        go_wp2_with (at_builtin; refine wpList_append_lies _ rfl _ _ 22 rfl (w2.heap.size + 1) 2 i0 (.int .i64 0) 1 8 Try.underlying22 hi iz0 iz1 iz2 rfl (by decide) _ _ _ rfl (HD4.out.1.alloc _) ⟨w4.heap.size, 0, none⟩ 1 1 [.int .i64 (0)] rfl rfl (cell_one_new _ _ _) (by simp [Value.oneCell']) (by omega) (by unfold maxLen; omega) (by omega) (by have := HD4.out.2.2.2.1; simp; omega) (w4.heap.size + 1) (by simp) ?_; intro g' cap w5 hown' hgrow hat hlt'; have HK5 := Lib.hid ((HK4.out.alloc (by omega) _).grown hgrow (fun j e => (HD4.out.1.lt j e).1) (by omega)); obtain ⟨b1, b2, b3, b4⟩ := HK5.out.boxF HF3.out (by omega) (by omega); obtain ⟨o1, o2, o3, o4, o5, o6, o7⟩ := HK5.out.out3 HO3.out (by omega) (by omega))
        have HD5 := Lib.hid (HD4.out.app (by omega) (by omega) hown' hgrow)
        have hz5 := hgrow.size
        simp at hz5
        have hcp := own_capD HD5.out.1
        have hbe := HD5.out.2.1
        have hsz := HD5.out.2.2.2.1
        clear hown' hgrow hat
        go_wp2
        (try simp only [Exit.inBlock, Exit.then])
        refine bodyPost_ret (v := .agg #[.int .i64 R, .int .i64 C, .slice (some ⟨g', 0, none⟩) (k + 1) cap]) (by simp [results, Try.results90, go_sem, o2, o3, o4]) rfl ?_
        exact ⟨_, _, _, _, _, _, rfl, by omega, hcp, own_rd (own_far (own_far (own_far HD5.out.1 (by dsimp only; omega) _) (by dsimp only; omega) _) (by dsimp only; omega) _), by repeat' (first | (with_reducible exact Below.refl _ _) | (with_reducible assumption) | (with_reducible refine Below.alloc ?_ ?_ _) | (with_reducible refine Below.setCell ?_ ?_ _) | (with_reducible refine Below.drew ?_) | (with_reducible refine below_drewN ?_ _) | (with_reducible refine below_via (by with_reducible assumption) ?_ ?_) | go_size), fun b off e => by have := own_fresh HD5.out.1 (by omega) b off e; omega, by have hq : KpS w _ g := ⟨HD5.out.2.2.1, KW.out.then HK5.out (by omega)⟩; repeat' (first | exact hq | refine KpS.set ?_ ?_ ?_ | omega | (dsimp only; omega))⟩
      · have t0 : (x4 == 0) = false := by simpa using h0
        by_cases h1 : x4 = 1
        · subst h1
          obtain ⟨gv, c1, hv⟩ := HD4.out.shape (by omega)
          injection hv with hv1 _ hv2
          subst hv1 hv2
          have hgv := (HD4.out.1.lt gv rfl)
          have HDa := Lib.hid (HD4.out.alloc (by omega) (.cells #[.int .i64 (-1), .int .i64 256] 2))
          have HKa := Lib.hid (HK4.out.alloc (by omega) (.cells #[.int .i64 (-1), .int .i64 256] 2))
          have HL : Hid (Lits (w4.alloc (.cells #[.int .i64 (-1), .int .i64 256] 2)) w4.heap.size 2 (-1) 256) := Lits.new w4 2 [-1, 256] (-1) 256 (by decide)
          go_wp2_with fail
          refine (sNext g 2 _ HDa.out.2.2.1).mono ?_
          rintro e w5 ⟨x5, rfl, x5a, x5b, -, hs5, hg5⟩
          have HD5 := Lib.hid (HDa.out.nxt hg5 hs5 (by omega) hwg)
          have HK5 := Lib.hid (HKa.out.nxt hg5 (by omega))
          have x5c := x5b (by omega)
          have HL5 := Lib.hid (HL.out.nxt hg5 (by omega))
          have hz5 := hg5.size
          simp at hz5
          clear hg5 hs5 x5b HL HDa HKa
          obtain ⟨q, hq⟩ := Int.eq_ofNat_of_zero_le x5a
          subst hq
          obtain ⟨y, y1, y2, hy⟩ := HL5.out.2 q (by omega)
          obtain ⟨c0, f0⟩ := HD5.out.cell 0 (by omega)
          have HD6 := Lib.hid (HD5.out.set (by omega) (by omega) 0 y)
          have k0 : (0 : Int) < (k : Int) := by omega
          have n1 : gv ≠ w2.heap.size := by omega
          have n2 : gv ≠ w.heap.size := by omega
          have n3 : w2.heap.size ≠ gv := by omega
          have n4 : w.heap.size ≠ gv := by omega
          have HKb := HK5.out.boxF HF3.out (by omega) (by omega)
          obtain ⟨b1, b2, b3, b4⟩ := HKb
          have HKo := HK5.out.out3 HO3.out (by omega) (by omega)
          obtain ⟨o1, o2, o3, o4, o5, o6, o7⟩ := HKo
          have hcp := own_capD HD5.out.1
          have hbe := HD5.out.2.1
          have hsz := HD5.out.2.2.2.1
          go_wp2
          (try simp only [Exit.inBlock, Exit.then])
          refine bodyPost_ret (v := .agg #[.int .i64 R, .int .i64 C, .slice (some ⟨gv, 0, none⟩) (k) cv]) (by simp [results, Try.results90, go_sem, o2, o3, o4]) rfl ?_
          exact ⟨_, _, _, _, _, _, rfl, by omega, hcp, own_rd (own_far (own_far (own_far HD6.out.1 (by dsimp only; omega) _) (by dsimp only; omega) _) (by dsimp only; omega) _), by repeat' (first | (with_reducible exact Below.refl _ _) | (with_reducible assumption) | (with_reducible refine Below.alloc ?_ ?_ _) | (with_reducible refine Below.setCell ?_ ?_ _) | (with_reducible refine Below.drew ?_) | (with_reducible refine below_drewN ?_ _) | (with_reducible refine below_via (by with_reducible assumption) ?_ ?_) | go_size), fun b off e => by have := own_fresh HD5.out.1 (by omega) b off e; omega, by have hq : KpS w _ g := ⟨HD5.out.2.2.1, KW.out.then HK5.out (by omega)⟩; repeat' (first | exact hq | refine KpS.set ?_ ?_ ?_ | omega | (dsimp only; omega))⟩
        · have t1 : (x4 == 1) = false := by simpa using h1
          by_cases h2 : x4 = 2
          · subst h2
            have HDa := Lib.hid (HD4.out.alloc (by omega) (.cells #[.int .i64 0, .int .i64 401] 2))
            have HKa := Lib.hid (HK4.out.alloc (by omega) (.cells #[.int .i64 0, .int .i64 401] 2))
            have HL : Hid (Lits (w4.alloc (.cells #[.int .i64 0, .int .i64 401] 2)) w4.heap.size 2 0 401) := Lits.new w4 2 [0, 401] 0 401 (by decide)
            go_wp2_with fail
            refine (sNext g 2 _ HDa.out.2.2.1).mono ?_
            rintro e w5 ⟨x5, rfl, x5a, x5b, -, hs5, hg5⟩
            have HD5 := Lib.hid (HDa.out.nxt hg5 hs5 (by omega) hwg)
            have HK5 := Lib.hid (HKa.out.nxt hg5 (by omega))
            have x5c := x5b (by omega)
            have HL5 := Lib.hid (HL.out.nxt hg5 (by omega))
            have hz5 := hg5.size
            simp at hz5
            clear hg5 hs5 x5b HL HDa HKa
            obtain ⟨q, hq⟩ := Int.eq_ofNat_of_zero_le x5a
            subst hq
            obtain ⟨y, y1, y2, hy⟩ := HL5.out.2 q (by omega)
            have n1 : w.heap.size ≠ w2.heap.size := by omega
            have n2 : w2.heap.size ≠ w.heap.size := by omega
            have HKb := HK5.out.boxF HF3.out (by omega) (by omega)
            obtain ⟨b1, b2, b3, b4⟩ := HKb
            have HKo := HK5.out.out3 HO3.out (by omega) (by omega)
            obtain ⟨o1, o2, o3, o4, o5, o6, o7⟩ := HKo
            have hcp := own_capD HD5.out.1
            have hbe := HD5.out.2.1
            have hsz := HD5.out.2.2.2.1
            go_wp2
            (try simp only [Exit.inBlock, Exit.then])
            refine bodyPost_ret (v := .agg #[.int .i64 y, .int .i64 C, .slice av (k) cv]) (by simp [results, Try.results90, go_sem, o2, o3, o4]) rfl ?_
            exact ⟨_, _, _, _, _, _, rfl, by omega, hcp, own_rd (own_far (own_far (own_far (own_far HD5.out.1 (by dsimp only; omega) _) (by dsimp only; omega) _) (by dsimp only; omega) _) (by dsimp only; omega) _), by repeat' (first | (with_reducible exact Below.refl _ _) | (with_reducible assumption) | (with_reducible refine Below.alloc ?_ ?_ _) | (with_reducible refine Below.setCell ?_ ?_ _) | (with_reducible refine Below.drew ?_) | (with_reducible refine below_drewN ?_ _) | (with_reducible refine below_via (by with_reducible assumption) ?_ ?_) | go_size), fun b off e => by have := own_fresh HD5.out.1 (by omega) b off e; omega, by have hq : KpS w _ g := ⟨HD5.out.2.2.1, KW.out.then HK5.out (by omega)⟩; repeat' (first | exact hq | refine KpS.set ?_ ?_ ?_ | omega | (dsimp only; omega))⟩
          · have t2 : (x4 == 2) = false := by simpa using h2
            have HKb := HK4.out.boxF HF3.out (by omega) (by omega)
            obtain ⟨b1, b2, b3, b4⟩ := HKb
            have HKo := HK4.out.out3 HO3.out (by omega) (by omega)
            obtain ⟨o1, o2, o3, o4, o5, o6, o7⟩ := HKo
            have hcp := own_capD HD4.out.1
            have hbe := HD4.out.2.1
            have hsz := HD4.out.2.2.2.1
            go_wp2
            (try simp only [Exit.inBlock, Exit.then])
            refine bodyPost_ret (v := .agg #[.int .i64 R, .int .i64 C, .slice av (k) cv]) (by simp [results, Try.results90, go_sem, o2, o3, o4]) rfl ?_
            exact ⟨_, _, _, _, _, _, rfl, by omega, hcp, own_rd (own_far (own_far (own_far HD4.out.1 (by dsimp only; omega) _) (by dsimp only; omega) _) (by dsimp only; omega) _), by repeat' (first | (with_reducible exact Below.refl _ _) | (with_reducible assumption) | (with_reducible refine Below.alloc ?_ ?_ _) | (with_reducible refine Below.setCell ?_ ?_ _) | (with_reducible refine Below.drew ?_) | (with_reducible refine below_drewN ?_ _) | (with_reducible refine below_via (by with_reducible assumption) ?_ ?_) | go_size), fun b off e => by have := own_fresh HD4.out.1 (by omega) b off e; omega, by have hq : KpS w _ g := ⟨HD4.out.2.2.1, KW.out.then HK4.out (by omega)⟩; repeat' (first | exact hq | refine KpS.set ?_ ?_ ?_ | omega | (dsimp only; omega))⟩
end Go.Proofs.Ytfiddbmjgncabaa
