/-
  DERIVED. The contract of spec.l22Window.
-/
import Derived.Test.YtfiddbmjgncabaaSumT
import Derived.Test.YtfiddbmjgncabaaInv
import Derived.Test.YtfiddbmjgncabaaPasteS
import Derived.Conc.MuLone
namespace Go.Proofs.Ytfiddbmjgncabaa
open Go.RowKit
set_option linter.unusedVariables false
theorem winL_row (zs : List Int) (C t l n m : Nat) (q : Nat) (hq : q < m) : rastL m (fun i j => zs.getD ((t + i) * C + (l + j)) 0) (n * m + q + 1) = rastL m (fun i j => zs.getD ((t + i) * C + (l + j)) 0) (n * m + q) ++ [zs.getD ((t + n) * C + (l + q)) 0] := rastL_succ _ _ _ _ hq
set_option maxRecDepth 20000 in
set_option maxHeartbeats 8000000 in
theorem sWin (R C i j rad t l N M : Nat) (a : Option Addr) (n cp : Nat) (zs : List Int) (w : World) (h : Rd w a n zs) (hn : (n : Int) = (R : Int) * (C : Int)) (hR : R ≤ 400) (hC : C ≤ 400) (hi : i < R) (hj : j < C) (hr : rad ≤ 20)
    (ht1 : i ≤ t + rad) (ht2 : t ≤ 0 ∨ t + rad ≤ i) (hl1 : j ≤ l + rad) (hl2 : l ≤ 0 ∨ l + rad ≤ j) (hN1 : t + N ≤ R) (hN2 : t + N ≤ i + rad + 1) (hN3 : R ≤ t + N ∨ i + rad + 1 ≤ t + N) (hM1 : l + M ≤ C) (hM2 : l + M ≤ j + rad + 1) (hM3 : C ≤ l + M ∨ j + rad + 1 ≤ l + M) :
    Calls Try.prog 87 #[.agg #[.int .i64 (R : Int), .int .i64 (C : Int), .slice a n cp], .int .i64 (i : Int), .int .i64 (j : Int), .int .i64 (rad : Int)] w
    fun e w' => ∃ av cv, e = .returned (.slice av (N * M) cv) ∧ w'.ownsRow w.heap.size 2 1 (.slice av (N * M) cv) (N * M) ((winL zs C t l N M).map (Value.int .i64)) ∧ Below w.heap.size w w' := by
  obtain ⟨i0, hi0, hz0, hz1', hz2⟩ := info_parts infoInt
  have HH := Lib.hid h
  have HN := Lib.hid hn
  have bP := Lib.hid (Box3.new w 32 (.int .i64 (R : Int)) (.int .i64 (C : Int)) (.slice a n cp))
  have hp2 : N * M ≤ 400 * 400 := Nat.mul_le_mul (by omega) (by omega)
  clear h hn
  go_enter Try.func87, Try.ntmps87
  go_wp2
  all_goals
    obtain ⟨W, hW⟩ : ∃ W : World, W = (w.alloc (.cells #[.int .i64 (R : Int), .int .i64 (C : Int), .slice a n cp] 32)).alloc (.cells #[] 2) := ⟨_, rfl⟩
    rw [← hW]
    have hBW : Hid (Below w.heap.size w W) := by rw [hW]; unfold Hid; repeat' (first | (with_reducible exact Below.refl _ _) | (with_reducible assumption) | (with_reducible refine Below.alloc ?_ ?_ _) | (with_reducible refine Below.setCell ?_ ?_ _) | (with_reducible refine Below.drew ?_) | (with_reducible refine below_drewN ?_ _) | (with_reducible refine below_via (by with_reducible assumption) ?_ ?_) | go_size)
    have HS : Hid (W.heap.size = w.heap.size + 2) := by unfold Hid; rw [hW]; simp
    have HO0 : Hid (W.ownsRow (w.heap.size + 1) 2 1 (.slice (some ⟨w.heap.size + 1, 0, none⟩) 0 0) 0 []) := by
      have := World.ownsRow_lit (base := w.heap.size + 1) (e := 2) (size := 1) (w.alloc (.cells #[.int .i64 (R : Int), .int .i64 (C : Int), .slice a n cp] 32)) #[] 0 (by simp) (by unfold maxLen; omega) (by simp)
      rw [hW]
      simp at this
      exact this
    have bW : Hid (∀ wr, Below (w.heap.size + 1) W wr → Box3 wr w.heap.size (.int .i64 (R : Int)) (.int .i64 (C : Int)) (.slice a n cp) ∧ Rd wr a n zs ∧ Below w.heap.size w wr) := by
      intro wr hb
      have h1 : Box3 W w.heap.size (.int .i64 (R : Int)) (.int .i64 (C : Int)) (.slice a n cp) := by rw [hW]; exact bP.out.keep ((Below.refl _ _).alloc (Nat.le_refl _) _)
      have h2 : Below w.heap.size w wr := hBW.out.trans (hb.mono (by omega))
      exact ⟨h1.below hb (by omega), HH.out.below h2, h2⟩
    clear hW bP
    go_loopw [9, 10] (fun v q wr => ∃ k : Nat, k ≤ N ∧ q = .int .i64 ((t + k : Nat) : Int) ∧ wr.ownsRow (w.heap.size + 1) 2 1 v (k * M) ((rastL M (fun i j => zs.getD ((t + i) * C + (l + j)) 0) (k * M)).map (Value.int .i64)) ∧ Below (w.heap.size + 1) W wr) (fun _ q _ => 1000 - (intOf q).toNat)
    case atStart => exact ⟨0, Nat.zero_le _, by congr 1; omega, by simpa [rastL] using HO0.out, Below.refl _ _⟩
    case round =>
      obtain ⟨k, hk, rfl, hown, hbel⟩ := hrel
      obtain ⟨d1, d2, d3⟩ := bW.out wr hbel
      obtain ⟨d4, d5, d6, d7⟩ := d1
      by_cases hlt : k < N
      · obtain ⟨wo, rfl⟩ : ∃ wo : World, wo = wr := ⟨_, rfl⟩
        go_wp2
        all_goals
          clear d2 d3 d4 d5 d6 d7
          go_loopw [9, 11] (fun v q wr => ∃ c : Nat, c ≤ M ∧ q = .int .i64 ((l + c : Nat) : Int) ∧ wr.ownsRow (w.heap.size + 1) 2 1 v (k * M + c) ((rastL M (fun i j => zs.getD ((t + i) * C + (l + j)) 0) (k * M + c)).map (Value.int .i64)) ∧ Below (w.heap.size + 1) W wr) (fun _ q _ => 1000 - (intOf q).toNat)
          case atStart => exact ⟨0, Nat.zero_le _, by congr 1; omega, by simpa using hown, hbel⟩
          case round =>
            obtain ⟨c, hc, rfl, hown1, hbel1⟩ := hrel
            clear hown hbel
            obtain ⟨d1, d2, d3⟩ := bW.out wr hbel1
            obtain ⟨d4, d5, d6, d7⟩ := d1
            by_cases hlc : c < M
            · have hroom : k * M + c + 1 ≤ N * M := by
                have : (k + 1) * M ≤ N * M := Nat.mul_le_mul_right _ hlt
                rw [Nat.add_mul, Nat.one_mul] at this
                omega
              have hszr := hbel1.size
              have hs3 := HS.out
              have HD2 := Lib.hid d2
              clear d2
              go_wp2_with fail
              all_goals
                refine (sAt (R : Int) (C : Int) a n cp zs ((t + k : Nat) : Int) ((l + c : Nat) : Int) _ (HD2.out.below (by repeat' (first | (with_reducible exact Below.refl _ _) | (with_reducible assumption) | (with_reducible refine Below.alloc ?_ ?_ _) | (with_reducible refine Below.setCell ?_ ?_ _) | (with_reducible refine Below.drew ?_) | (with_reducible refine below_drewN ?_ _) | (with_reducible refine below_via (by with_reducible assumption) ?_ ?_) | go_size))) (by omega) (by omega) (by omega) (by omega) (by omega) (by omega) HN.out).mono ?_
                rw [pixV_nat]
                rintro e wq ⟨rfl, hbq⟩
                have hszq := hbq.size
                go_wp2_with (at_builtin; refine wpList_append_own _ rfl _ _ 22 rfl (w.heap.size + 1) 2 i0 (.int .i64 0) 1 8 Try.underlying22 hi0 hz0 hz1' hz2 rfl (by decide) _ _ _ rfl ((own_below hown1 (by repeat' (first | (with_reducible exact Below.refl _ _) | (with_reducible assumption) | (with_reducible refine Below.alloc ?_ ?_ _) | (with_reducible refine Below.setCell ?_ ?_ _) | (with_reducible refine Below.drew ?_) | (with_reducible refine below_drewN ?_ _) | (with_reducible refine below_via (by with_reducible assumption) ?_ ?_) | go_size))).alloc _) ⟨wq.heap.size, 0, none⟩ 1 1 [.int .i64 (zs.getD ((t + k) * C + (l + c)) 0)] rfl rfl (cell_one_new _ _ _) (by simp [Value.oneCell']) (by unfold maxLen; omega) (by omega) (by simp; omega) ?_; intro v' w2 hown' hgrow _)
                have HO : Hid (w2.ownsRow (w.heap.size + 1) 2 1 v' (k * M + (c + 1)) ((rastL M (fun i j => zs.getD ((t + i) * C + (l + j)) 0) (k * M + (c + 1))).map (Value.int .i64))) := by
                  unfold Hid
                  rw [← Nat.add_assoc, winL_row zs C t l k M c hlc, List.map_append]
                  exact hown'
                have HB : Hid (Below (w.heap.size + 1) W w2) := ((hbel1.trans (hbq.mono (by omega))).alloc (by omega) _).grown hgrow (by simp; omega) (fun j e => (hown1.lt j e).1)
                clear hown1 hown' hgrow hbel1 d3 d4 d5 d6 d7
                go_wp2
                go_roundw
                case rel => exact ⟨c + 1, by omega, by first | go_num | (congr 1; omega), HO.out, HB.out⟩
                case measure => simp [intOf]; omega
            · have hce : c = M := by omega
              have e : k * M + M = (k + 1) * M := by rw [Nat.add_mul, Nat.one_mul]
              rw [hce, e] at hown1
              have HO := Lib.hid hown1
              have HB := Lib.hid hbel1
              clear hown1 hbel1 e d2 d3
              go_wp2
              all_goals
                go_roundw
                case rel => exact ⟨k + 1, by omega, by first | go_num | (congr 1; omega), HO.out, HB.out⟩
                case measure => simp [intOf]; omega
      · have hkN : k = N := by omega
        rw [hkN] at hown
        obtain ⟨av, cv, rfl⟩ := own_shape hown
        have HO := Lib.hid hown
        have HB := Lib.hid d3
        have HKN := Lib.hid hkN
        clear hown hbel d2 d3
        go_wp2
        all_goals
          go_returns
          exact ⟨av, cv, rfl, own_mono HO.out (Nat.le_succ _), HB.out⟩
end Go.Proofs.Ytfiddbmjgncabaa
