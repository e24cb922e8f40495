/-
  DERIVED. MedianRaster: the function that tells a pixel.
-/
import Derived.Test.YtfiddbmjgncabaaMedQ
import Derived.Test.YtfiddbmjgncabaaMedS
import Derived.Test.YtfiddbmjgncabaaLocS
import Derived.Sort.OwnSortedInts
namespace Go.Proofs.Ytfiddbmjgncabaa
open Go.RowKit
set_option linter.unusedVariables false
theorem entMed : ∀ (args : Array Value) (w : World), (callFunc 88 args).run Try.prog w = .ok (.enter 88 args) w := enters_of Try.func88 (by kernel_rfl) rfl
set_option maxRecDepth 20000 in
set_option maxHeartbeats 8000000 in
theorem cMed (b R C i j t l N M : Nat) (a : Option Addr) (n cp : Nat) (zs : List Int) (w : World) (hB : Box3 w b (.int .i64 (R : Int)) (.int .i64 (C : Int)) (.slice a n cp)) (h : Rd w a n zs) (hn : (n : Int) = (R : Int) * (C : Int)) (hR : R ≤ 400) (hC : C ≤ 400) (hi : i < R) (hj : j < C)
    (ht1 : i ≤ t + 1) (ht2 : t ≤ 0 ∨ t + 1 ≤ i) (hl1 : j ≤ l + 1) (hl2 : l ≤ 0 ∨ l + 1 ≤ j) (hN1 : t + N ≤ R) (hN2 : t + N ≤ i + 2) (hN3 : R ≤ t + N ∨ i + 2 ≤ t + N) (hM1 : l + M ≤ C) (hM2 : l + M ≤ j + 2) (hM3 : C ≤ l + M ∨ j + 2 ≤ l + M) (hN0 : 1 ≤ N) (hM0 : 1 ≤ M) :
    Calls Try.prog 88 #[.int .i64 (i : Int), .int .i64 (j : Int), .pointer (some ⟨b, 0, none⟩)] w
    fun e w' => e = .returned (.int .i64 ((sortZ (winL zs C t l N M)).getD ((N * M - 1) / 2) 0)) ∧ Below w.heap.size w w' := by
  obtain ⟨i0, hi0, hz0, hz1', hz2⟩ := info_parts infoInt
  have HH := Lib.hid h
  have HN := Lib.hid hn
  have HBX := Lib.hid hB
  have hbl := hB.1
  have hN9 : N ≤ 3 := by omega
  have hM9 : M ≤ 3 := by omega
  have hp2 : N * M ≤ 3 * 3 := Nat.mul_le_mul hN9 hM9
  have hp3 : 1 * 1 ≤ N * M := Nat.mul_le_mul hN0 hM0
  have hmk : ∀ W : World, (Instr.makeSlice 22 (.int .i64 0) (.int .i64 9)).run Try.prog W = .ok (.slice (some ⟨W.heap.size, 0, none⟩) 0 9) (W.alloc (.cells (vals (zerN 9)) 2)) := by
    intro W
    have hb : (i0.bytes : Int) * ((9 : Nat) : Int) ≤ 281474976710656 := by rw [hz2]; omega
    have hr := run_make (P := Try.prog) W 22 2 i0 (.int .i64 0) Try.underlying22 hi0 hz0 .i64 .i64 0 ((9 : Nat) : Int) (by omega) (by omega) hb (by omega)
    simp only [Int.toNat_natCast, Int.toNat_zero] at hr
    exact hr.trans (by rw [hz1']; simp only [Value.cells, zeros_made]; rfl)
  have x1 : max (0 : Int) ((i : Int) - 1) = (t : Int) := by omega
  have x2 : min ((R : Int) - 1) ((i : Int) + 1) = (t : Int) + (N : Int) - 1 := by omega
  have x3 : max (0 : Int) ((j : Int) - 1) = (l : Int) := by omega
  have x4 : min ((C : Int) - 1) ((j : Int) + 1) = (l : Int) + (M : Int) - 1 := by omega
  clear h hn hB
  have m0 := HBX.out.2.1
  have m1 := HBX.out.2.2.1
  go_enter Try.func88, Try.ntmps88
  go_wp2
  all_goals
    clear hmk m0 m1
    obtain ⟨W, hW⟩ : ∃ W : World, W = w.alloc (.cells (vals (zerN 9)) 2) := ⟨_, rfl⟩
    rw [← hW]
    have hBW : Hid (Below w.heap.size w W) := by rw [hW]; unfold Hid; repeat' (first | (with_reducible exact Below.refl _ _) | (with_reducible assumption) | (with_reducible refine Below.alloc ?_ ?_ _) | (with_reducible refine Below.setCell ?_ ?_ _) | (with_reducible refine Below.drew ?_) | (with_reducible refine below_drewN ?_ _) | (with_reducible refine below_via (by with_reducible assumption) ?_ ?_) | go_size)
    have HS : Hid (W.heap.size = w.heap.size + 1) := by unfold Hid; rw [hW]; simp
    have HO0 : Hid (W.ownsRow w.heap.size 2 1 (.slice (some ⟨w.heap.size, 0, none⟩) 0 9) 0 []) := by
      have := World.ownsRow_made (base := w.heap.size) (e := 2) (size := 1) w (vals (zerN 9)) 9 (by simp) (by unfold maxLen; omega) (by simp [vals_size, zerN_length])
      rw [hW]
      exact this
    have bW : Hid (∀ wr, Below w.heap.size W wr → Box3 wr b (.int .i64 (R : Int)) (.int .i64 (C : Int)) (.slice a n cp) ∧ Rd wr a n zs ∧ Below w.heap.size w wr) := by
      intro wr hb
      have h2 : Below w.heap.size w wr := hBW.out.trans hb
      exact ⟨HBX.out.keep h2, HH.out.below h2, h2⟩
    clear hW
    go_loopw [6, 7] (fun v q wr => ∃ k : Nat, k ≤ N ∧ q = .int .i64 ((t + k : Nat) : Int) ∧ wr.ownsRow w.heap.size 2 1 v (k * M) ((rastL M (fun i j => zs.getD ((t + i) * C + (l + j)) 0) (k * M)).map (Value.int .i64)) ∧ Below w.heap.size W wr) (fun _ q _ => 1000 - (intOf q).toNat)
    case atStart => exact ⟨0, Nat.zero_le _, by first | rfl | (congr 1; omega), by simpa [rastL] using HO0.out, Below.refl _ _⟩
    case round =>
      obtain ⟨k, hk, rfl, hown, hbel⟩ := hrel
      obtain ⟨d1, d2, d3⟩ := bW.out wr hbel
      obtain ⟨d4, d5, d6, d7⟩ := d1
      by_cases hlt : k < N
      · obtain ⟨wo, rfl⟩ : ∃ wo : World, wo = wr := ⟨_, rfl⟩
        clear d2 d3
        obtain ⟨r, hr⟩ : ∃ r, t + k = r := ⟨_, rfl⟩
        have y1 : (r : Int) ≤ (t : Int) + (N : Int) - 1 := by omega
        have y0 : r < R := by omega
        rw [hr]
        have HRR := Lib.hid hr
        clear hr
        go_wp2
        all_goals
          clear d4 d5 d6 d7
          go_loopw [6, 8] (fun v q wr => ∃ c : Nat, c ≤ M ∧ q = .int .i64 ((l + c : Nat) : Int) ∧ wr.ownsRow w.heap.size 2 1 v (k * M + c) ((rastL M (fun i j => zs.getD ((t + i) * C + (l + j)) 0) (k * M + c)).map (Value.int .i64)) ∧ Below w.heap.size W wr) (fun _ q _ => 1000 - (intOf q).toNat)
          case atStart => exact ⟨0, Nat.zero_le _, by first | rfl | (congr 1; omega), by simpa using hown, hbel⟩
          case round =>
            obtain ⟨c, hc, rfl, hown1, hbel1⟩ := hrel
            clear hown hbel
            obtain ⟨d1, d2, d3⟩ := bW.out wr hbel1
            obtain ⟨d4, d5, d6, d7⟩ := d1
            by_cases hlc : c < M
            · have hroom : k * M + c + 1 ≤ N * M := by
                have : (k + 1) * M ≤ N * M := Nat.mul_le_mul_right _ hlt
                rw [Nat.add_mul, Nat.one_mul] at this
                omega
              have hszr := hbel1.size
              have hs3 := HS.out
              have HD2 := Lib.hid d2
              have y2 : (l : Int) + (c : Int) ≤ (l : Int) + (M : Int) - 1 := by omega
              clear d2
              go_wp2_with fail
              all_goals
                refine (iPix (R : Int) (C : Int) a n cp zs (r : Int) ((l + c : Nat) : Int) _ (HD2.out.below (by repeat' (first | (with_reducible exact Below.refl _ _) | (with_reducible assumption) | (with_reducible refine Below.alloc ?_ ?_ _) | (with_reducible refine Below.setCell ?_ ?_ _) | (with_reducible refine Below.drew ?_) | (with_reducible refine below_drewN ?_ _) | (with_reducible refine below_via (by with_reducible assumption) ?_ ?_) | go_size))) (by omega) (by omega) (by omega) (by omega) (by omega) (by omega) HN.out).mono ?_
                rw [pixV_nat]
                rintro e wq ⟨rfl, hbq⟩
                have hszq := hbq.size
                go_wp2_with (at_builtin; refine wpList_append_own _ rfl _ _ 22 rfl w.heap.size 2 i0 (.int .i64 0) 1 8 Try.underlying22 hi0 hz0 hz1' hz2 rfl (by decide) _ _ _ rfl ((own_below hown1 (by repeat' (first | (with_reducible exact Below.refl _ _) | (with_reducible assumption) | (with_reducible refine Below.alloc ?_ ?_ _) | (with_reducible refine Below.setCell ?_ ?_ _) | (with_reducible refine Below.drew ?_) | (with_reducible refine below_drewN ?_ _) | (with_reducible refine below_via (by with_reducible assumption) ?_ ?_) | go_size))).alloc _) ⟨wq.heap.size, 0, none⟩ 1 1 [.int .i64 (zs.getD (r * C + (l + c)) 0)] rfl rfl (cell_one_new _ _ _) (by simp [Value.oneCell']) (by unfold maxLen; omega) (by omega) (by simp; omega) ?_; intro v' w2 hown' hgrow _)
                have HO : Hid (w2.ownsRow w.heap.size 2 1 v' (k * M + (c + 1)) ((rastL M (fun i j => zs.getD ((t + i) * C + (l + j)) 0) (k * M + (c + 1))).map (Value.int .i64))) := by
                  unfold Hid
                  rw [← Nat.add_assoc, winL_row zs C t l k M c hlc, List.map_append, HRR.out]
                  exact hown'
                have HB : Hid (Below w.heap.size W w2) := ((hbel1.trans (hbq.mono (by omega))).alloc (by omega) _).grown hgrow (by simp; omega) (fun j e => (hown1.lt j e).1)
                clear hown1 hown' hgrow hbel1 d3 d4 d5 d6 d7
                go_wp2
                go_roundw
                case rel => exact ⟨c + 1, by omega, by first | go_num | (congr 1; omega), HO.out, HB.out⟩
                case measure => simp [intOf]; omega
            · have hce : c = M := by omega
              have e : k * M + M = (k + 1) * M := by rw [Nat.add_mul, Nat.one_mul]
              rw [hce, e] at hown1
              have HO := Lib.hid hown1
              have HB := Lib.hid hbel1
              have y3 : ¬ (l : Int) + (c : Int) ≤ (l : Int) + (M : Int) - 1 := by omega
              clear hce hown1 hbel1 e d2 d3
              go_wp2
              all_goals
                go_roundw
                case rel => exact ⟨k + 1, by omega, by have := HRR.out; first | (congr 1; omega) | go_num, HO.out, HB.out⟩
                case measure => simp [intOf]; omega
      · have hkN : k = N := by omega
        rw [hkN] at hown
        have HKN := Lib.hid hkN
        have y4 : ¬ (t : Int) + (k : Int) ≤ (t : Int) + (N : Int) - 1 := by omega
        clear hkN
        obtain ⟨av, cv, rfl⟩ := own_shape hown
        rcases hown.2 with ⟨hv, h0⟩ | ⟨g, cap, cur, hv, hg, hh, hnc, hm, hs, ht⟩
        · exfalso; omega
        injection hv with hv1 hv2 hv3
        subst hv1 hv3
        have hgl : g < wr.heap.size := by
          rcases Nat.lt_or_ge g wr.heap.size with h | h
          · exact h
          · rw [Array.getElem?_eq_none h] at hh; cases hh
        have hlen := winL_length zs C t l N M
        have hL0 : rastL M (fun i j => zs.getD ((t + i) * C + (l + j)) 0) (N * M) = winL zs C t l N M := rfl
        rw [hL0] at ht
        obtain ⟨L, hL⟩ : ∃ L, winL zs C t l N M = L := ⟨_, rfl⟩
        have HLE := Lib.hid hL
        rw [hL] at hlen ht
        rw [Nat.mul_one, ← hlen] at ht
        rw [← hlen] at hnc
        have HOS : Hid (∀ q os, (Go.Sort.grow (Go.Sort.putRow (Value.int .i64) (Go.Sort.ahead wr q) g 0 (sortZ L).toArray) os).ownsRow w.heap.size 2 1 (.slice (some ⟨g, 0, none⟩) L.length cv) L.length ((sortZ L).map (Value.int .i64))) := fun q os => ownsRow_sortedI (sortZ_length L) hg hh hnc hm hs
        have HBB : Hid (∀ q os, Below w.heap.size w (Go.Sort.grow (Go.Sort.putRow (Value.int .i64) (Go.Sort.ahead wr q) g 0 (sortZ L).toArray) os)) := fun q os => below_only d3 (grownBy_sortedI _) d3.size hg
        have hsort := lSort g 0 cv L wr (holds_of_blockI hh ht) hgl (by omega)
        obtain ⟨m, hm'⟩ : ∃ m, N * M = m := ⟨_, rfl⟩
        rw [hm'] at hlen hp2 hp3 ⊢
        rw [hlen] at hsort HOS
        have HMM := Lib.hid hm'
        have HSO := Lib.hid hsort
        have HLN := Lib.hid hlen
        clear hown hbel d2 d3 hh ht hs hL hL0 hlen hm' hsort hnc hm
        go_wp2_with fail
        refine HSO.out.mono ?_
        rintro e w2 ⟨rfl, q, os, hw2⟩
        have ho2 := HOS.out q os
        have hb2 := HBB.out q os
        rw [← hw2] at ho2 hb2
        have hcell : w2.cell? ⟨g, (m - 1) / 2, none⟩ = some (.int .i64 ((sortZ L).getD ((m - 1) / 2) 0)) := by
          have hl2 := sortZ_length L
          have hl3 := HLN.out
          rw [ho2.cellAt ((m - 1) / 2) (by omega)]
          simp [List.getElem?_map, List.getElem?_eq_getElem (show (m - 1) / 2 < (sortZ L).length by omega), List.getD_eq_getElem?_getD]
        have HB2 := Lib.hid hb2
        have HEQ : Hid ((sortZ (winL zs C t l N M)).getD ((N * M - 1) / 2) 0 = (sortZ L).getD ((m - 1) / 2) 0) := by unfold Hid; rw [HLE.out, HMM.out]
        obtain ⟨x, hx⟩ : ∃ x, (sortZ L).getD ((m - 1) / 2) 0 = x := ⟨_, rfl⟩
        rw [hx] at hcell HEQ
        have e1 : Int.tdiv ((m : Int) - 1) 2 = (((m - 1) / 2 : Nat) : Int) := by
          rw [Int.tdiv_eq_ediv_of_nonneg (by omega)]
          omega
        obtain ⟨ix, hix⟩ : ∃ ix, (m - 1) / 2 = ix := ⟨_, rfl⟩
        have hix2 : ix < m := by omega
        rw [hix] at hcell e1
        have g1 : IntKind.i64.wrap (ix : Int) = (ix : Int) := IntWalk.i64_in _ (by omega)
        have hix3 : (ix : Int) < (m : Int) := by omega
        clear hx hix ho2 hb2 hw2 HOS HBB HSO
        go_wp2
        go_returns
        exact ⟨by rw [HEQ.out] <;> rfl, HB2.out⟩
end Go.Proofs.Ytfiddbmjgncabaa
