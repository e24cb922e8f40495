/-
  DERIVED. A line drawn.
-/
import Derived.Test.YtbcbdphnbfjhoaaDHit
import Derived.Test.YtbcbdphnbfjhoaaRuns0
import Derived.Test.YtbcbdphnbfjhoaaSize
import Derived.Conc.MuLone
import Derived.Maps.AppendAt
import Derived.Deep.AppendLies
namespace Go.Proofs.Ytbcbdphnbfjhoaa
open Go.RowKit
set_option linter.unusedVariables false
theorem max1 (x : Int) (h : x ≤ 10) : 1 ≤ max 1 x ∧ max 1 x ≤ 10 := by omega
set_option maxRecDepth 100000 in
set_option maxHeartbeats 8000000 in
theorem dLine (g : Nat) (w : World) (h : Src w g) (w0 : World) (hw0 : Below w0.heap.size w0 w) (hwg : w0.heap.size ≤ g) : Calls Try.prog 94 #[.pointer (some ⟨g, 0, none⟩)] w (DrawnInts w0 1000) := by
  obtain ⟨i0, hi, iz0, iz1, iz2⟩ := info_parts infoInt
  have HS := Lib.hid h
  have hgb : g < w.heap.size := h.lt
  have hz0 := hw0.size
  clear h
  go_enter Try.func94, Try.ntmps94
  have HD0 := Lib.hid (DInv.start HS.out hw0 hz0)
  go_wp2_with fail
  refine (sNext g 4 _ HD0.out.2.2.1).mono ?_
  rintro e w1 ⟨x1, rfl, x1a, x1b, -, hs1, hg1⟩
  have HD1 := Lib.hid (HD0.out.nxt hg1 hs1 hgb hwg)
  have x1c := x1b (by omega)
  clear x1b hg1 hs1
  go_wp2
  go_loopw [3, 4] (fun v nn wr => ∃ (n : Int) (m : Nat) (zs : List Int), nn = .int .i64 n ∧ 0 ≤ n ∧ n ≤ 3 ∧ (m : Int) ≤ 60 * (3 - n) ∧ Hid (DInv w0 wr w.heap.size g v m zs)) (fun _ nn _ => (intOf nn).toNat)
  case atStart => exact ⟨x1, 0, [], rfl, by omega, by omega, by omega, HD1.out⟩
  case round =>
    obtain ⟨n, m, zs, rfl, n0, n1, hm, HD⟩ := hrel
    obtain ⟨av, cv, rfl⟩ := ownN_shape HD.out.1
    by_cases hn : 0 < n
    · clear x1a x1c HD1
      go_wp2_with fail
      refine (sNext g 3 _ HD.out.2.2.1).mono ?_
      rintro e w2 ⟨x2, rfl, x2a, x2b, -, hs2, hg2⟩
      have HD2 := Lib.hid (HD.out.nxt hg2 hs2 hgb hwg)
      have x2c := x2b (by omega)
      clear hg2 hs2 x2b
      have HB2 := Lib.hid (HD2.out.alloc hz0 (.cells #[.int .i64 1, .int .i64 1, .int .i64 3, .int .i64 1, .int .i64 1, .int .i64 2] 2))
      have HL2 : Hid (Lits (w2.alloc (.cells #[.int .i64 1, .int .i64 1, .int .i64 3, .int .i64 1, .int .i64 1, .int .i64 2] 2)) w2.heap.size 6 1 3) := Lits.new w2 2 [1, 1, 3, 1, 1, 2] 1 3 (by decide)
      have HX2 : Hid (∀ j, (Value.slice av m cv).ownBlock = some j → j ≠ w2.heap.size) := fun j e => by have := (HD2.out.1.lt j e).2; omega
      have hbz := HD2.out.2.2.2.1
      go_wp2
      go_loopw [3, 21] (fun v i wr => ∃ (j m : Nat) (zs : List Int), j ≤ 6 ∧ i = .int .i64 j ∧ (m : Int) ≤ 60 * (3 - n) + 10 * (j : Int) ∧ Hid (DInv w0 wr w.heap.size g v m zs) ∧ Hid (Lits wr w2.heap.size 6 1 3) ∧ Hid (∀ j, v.ownBlock = some j → j ≠ w2.heap.size)) (fun _ i _ => 6 - (intOf i).toNat)
      case atStart => exact ⟨0, m, zs, by omega, rfl, by omega, HB2.out, HL2.out, HX2.out⟩
      case round =>
        obtain ⟨j, m, zs, hj, rfl, hm, HD, HL, HX⟩ := hrel
        obtain ⟨av, cv, rfl⟩ := ownN_shape HD.out.1
        have hbz := HD.out.2.2.2.1
        clear HB2 HL2 HX2 HD2
        by_cases hlt : j < 6
        · obtain ⟨y, y1, y2, hy⟩ := HL.out.2 j hlt
          obtain ⟨hp0, hp1⟩ : 0 ≤ y * (1 + x2) ∧ y * (1 + x2) ≤ 3 * 3 := prod_le (by omega) y2 (by omega) (by omega)
          go_wp2_with fail
          refine (sNext g 3 _ HD.out.2.2.1).mono ?_
          rintro e w3 ⟨x3, rfl, x3a, x3b, -, hs3, hg3⟩
          have HD3 := Lib.hid (HD.out.nxt hg3 hs3 hgb hwg)
          have x3c := x3b (by omega)
          have HL3 := Lib.hid (HL.out.nxt hg3 (by omega))
          clear hg3 hs3 x3b HL
          go_wp2_with fail
          refine (sNext g 4 _ HD3.out.2.2.1).mono ?_
          rintro e w4 ⟨x4, rfl, x4a, x4b, -, hs4, hg4⟩
          have HD4 := Lib.hid (HD3.out.nxt hg4 hs4 hgb hwg)
          have x4c := x4b (by omega)
          have HL4 := Lib.hid (HL3.out.nxt hg4 (by omega))
          clear hg4 hs4 x4b HL3 hy
          go_wp2
          all_goals
            go_loopw [3, 8] (fun v s wr => ∃ (wd : Int) (m : Nat) (zs : List Int), s = .int .i64 wd ∧ 0 ≤ wd ∧ wd ≤ 10 ∧ (m : Int) + wd ≤ 60 * (3 - n) + 10 * ((j : Int) + 1) ∧ Hid (DInv w0 wr w.heap.size g v m zs) ∧ Hid (Lits wr w2.heap.size 6 1 3) ∧ Hid (∀ j, v.ownBlock = some j → j ≠ w2.heap.size)) (fun _ s _ => (intOf s).toNat)
            case atStart => exact ⟨_, m, zs, rfl, by omega, by omega, by omega, HD4.out, HL4.out, HX.out⟩
            case round =>
              obtain ⟨wd, m, zs, rfl, wd0, wd1, hm, HD, HL, HX⟩ := hrel
              obtain ⟨av, cv, rfl⟩ := ownN_shape HD.out.1
              have hbz := HD.out.2.2.2.1
              clear HD4 HL4
              by_cases hwd : 0 < wd
              · go_wp2_with (at_builtin; refine wpList_append_lies _ rfl _ _ 22 rfl w.heap.size 2 i0 (.int .i64 0) 1 8 Try.underlying22 hi iz0 iz1 iz2 rfl (by decide) _ _ _ rfl (HD.out.1.alloc _) ⟨wr.heap.size, 0, none⟩ 1 1 [.int .i64 (1 - (j : Int) % 2)] rfl rfl (cell_one_new _ _ _) (by simp [Value.oneCell']) (by omega) (by unfold maxLen; omega) (by omega) (by have := HD.out.2.2.2.1; simp; omega) (wr.heap.size + 1) (by simp) ?_; intro g' cap w5 hown' hgrow hat hlt')
                have HD5 := Lib.hid (HD.out.app hgb hz0 hown' hgrow)
                have HL5 := Lib.hid (HL.out.app hgrow HX.out)
                have HX5 : Hid (∀ j, (Value.slice (some ⟨g', 0, none⟩) (m + 1) cap).ownBlock = some j → j ≠ w2.heap.size) := fun j e => by
                  simp [Value.ownBlock] at e
                  subst e
                  rcases hat with h1 | h1
                  · exact HX.out _ h1
                  · have := HL.out.1; omega
                clear hown' hgrow hat
                go_wp2
                go_roundw
                case rel => exact ⟨wd - 1, m + 1, _, rfl, by omega, by omega, by omega, HD5.out, HL5.out, HX5⟩
                case measure => simp [intOf]; omega
              · go_wp2
                go_roundw
                case rel => exact ⟨j + 1, m, zs, by omega, by go_num, by omega, HD.out, HL.out, HX.out⟩
                case measure => simp [intOf]; omega
        · go_wp2
          go_roundw
          case rel => exact ⟨n - 1, m, zs, rfl, by omega, by omega, by omega, HD.out⟩
          case measure => simp [intOf]; omega
    · clear x1a x1c HD1
      have hbz := HD.out.2.2.2.1
      go_wp2_with fail
      refine (sNext g 16 _ HD.out.2.2.1).mono ?_
      rintro e w2 ⟨x2, rfl, x2a, x2b, -, hs2, hg2⟩
      have HD2 := Lib.hid (HD.out.nxt hg2 hs2 hgb hwg)
      have x2c := x2b (by omega)
      clear hg2 hs2 x2b
      have hbz2 := HD2.out.2.2.2.1
      by_cases h0 : x2 = 0
      · subst h0
        have HB2 := Lib.hid (HD2.out.alloc hz0 (.cells #[.int .i64 2, .int .i64 (-1)] 2))
        have HL2 : Hid (Lits (w2.alloc (.cells #[.int .i64 2, .int .i64 (-1)] 2)) w2.heap.size 2 (-1) 2) := Lits.new w2 2 [2, -1] (-1) 2 (by decide)
        go_wp2_with fail
        refine (sNext g 2 _ HB2.out.2.2.1).mono ?_
        rintro e w3 ⟨x3, rfl, x3a, x3b, -, hs3, hg3⟩
        have x3c := x3b (by omega)
        have HD3 := Lib.hid (HB2.out.nxt hg3 hs3 hgb hwg)
        have HL3 := Lib.hid (HL2.out.nxt hg3 (by omega))
        clear hg3 hs3 x3b HB2 HL2
        obtain ⟨q, hq⟩ := Int.eq_ofNat_of_zero_le x3a
        subst hq
        obtain ⟨y, y1, y2, hy⟩ := HL3.out.2 q (by omega)
        have hbz3 := HD3.out.2.2.2.1
        go_wp2_with (at_builtin; refine wpList_append_lies _ rfl _ _ 22 rfl w.heap.size 2 i0 (.int .i64 0) 1 8 Try.underlying22 hi iz0 iz1 iz2 rfl (by decide) _ _ _ rfl (HD3.out.1.alloc _) ⟨w3.heap.size, 0, none⟩ 1 1 [.int .i64 y] rfl rfl (cell_one_new _ _ _) (by simp [Value.oneCell']) (by omega) (by unfold maxLen; omega) (by omega) (by have := HD3.out.2.2.2.1; simp; omega) (w3.heap.size + 1) (by simp) ?_; intro g' cap w5 hown' hgrow hat hlt')
        have HD5 := Lib.hid (HD3.out.app hgb hz0 hown' hgrow)
        clear hown' hgrow hat
        have hcp := own_cap HD5.out.1
        go_wp2
        go_returns
        exact ⟨_, m + 1, cap, _, rfl, by omega, hcp, own_rd HD5.out.1, HD5.out.2.1⟩
      · have t0 : (x2 == 0) = false := by simpa using h0
        by_cases h1 : x2 = 1
        · subst h1
          go_wp2_with fail
          refine (dHit g w.heap.size av m cv zs 4 w0 _ HD2.out hgb hwg (by omega) (by omega) (by omega)).mono ?_
          rintro e w3 ⟨zs3, r3, rfl, hd3⟩
          have HD3 := Lib.hid hd3
          have hcp := own_cap HD3.out.1
          clear hd3
          go_wp2
          go_returns
          exact ⟨_, m, cv, zs3, rfl, by omega, hcp, own_rd HD3.out.1, HD3.out.2.1⟩
        · have t1 : (x2 == 1) = false := by simpa using h1
          have hcp := own_cap HD2.out.1
          go_wp2
          go_returns
          exact ⟨_, m, cv, zs, rfl, by omega, hcp, own_rd HD2.out.1, HD2.out.2.1⟩
end Go.Proofs.Ytbcbdphnbfjhoaa
