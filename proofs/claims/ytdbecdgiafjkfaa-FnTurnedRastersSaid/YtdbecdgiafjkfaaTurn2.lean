/-
  DERIVED. TurnRaster: the contract of the spec.
-/
import Derived.Test.YtdbecdgiafjkfaaInv
import Derived.Conc.MuLone
namespace Go.Proofs.Ytdbecdgiafjkfaa
open Go.RowKit
set_option linter.unusedVariables false
set_option maxHeartbeats 4000000 in
theorem sTurnRaster_ok (r c : Int) (a : Option Addr) (n cp : Nat) (zs : List Int) (w : World) (h : Rd w a n zs) (hn : n ≤ 1048576) (hr : rasterB r c n zs = true) :
    Calls Try.prog 38 #[.agg #[.int .i64 r, .int .i64 c, .slice a n cp]] w (ResG w c r (rastL r.toNat (fun i j => pixV c zs (r - 1 - (j : Int)) (i : Int)) (c.toNat * r.toNat)) 0) := by
  obtain ⟨r1, r2, r3, r4, r5, r6, r7, r8⟩ := rasterB_yes hr
  have hp : 0 < n := by omega
  obtain ⟨rows, rfl⟩ := Int.eq_ofNat_of_zero_le (show 0 ≤ r by omega)
  obtain ⟨cols, rfl⟩ := Int.eq_ofNat_of_zero_le (show 0 ≤ c by omega)
  have hnn : n = rows * cols := by
    have : ((rows : Int) * (cols : Int)) = ((rows * cols : Nat) : Int) := by simp
    omega
  have HN := Lib.hid hnn
  have HH := Lib.hid h
  have hl := Lib.hid h.1
  have H7 := Lib.hid r7
  have H8 := Lib.hid r8
  have HR := Lib.hid hr
  clear h r5 r6 r7 r8 hnn
  have bP := Lib.hid (Box3.new w 26 (.int .i64 (rows : Int)) (.int .i64 (cols : Int)) (.slice a n cp))
  have bO := Lib.hid (Out3.new (w.alloc (.cells #[.int .i64 (rows : Int), .int .i64 (cols : Int), .slice a n cp] 26)) 26)
  go_enter Try.func38, Try.ntmps38
  go_wp2_with fail
  refine (sIsRaster (rows : Int) (cols : Int) a n cp zs _ (HH.out.below (by repeat' (first | (with_reducible exact Below.refl _ _) | (with_reducible assumption) | (with_reducible refine Below.alloc ?_ ?_ _) | (with_reducible refine Below.setCell ?_ ?_ _) | (with_reducible refine Below.drew ?_) | (with_reducible refine below_drewN ?_ _) | (with_reducible refine below_via (by with_reducible assumption) ?_ ?_) | go_size))) hn).mono ?_
  rintro e w1 ⟨rfl, hb1⟩
  have hz1 := hb1.size; try simp at hz1
  obtain ⟨_, _, _, _⟩ := (bP.out.keep (by repeat' (first | (with_reducible exact Below.refl _ _) | (with_reducible assumption) | (with_reducible refine Below.alloc ?_ ?_ _) | (with_reducible refine Below.setCell ?_ ?_ _) | (with_reducible refine Below.drew ?_) | (with_reducible refine below_drewN ?_ _) | (with_reducible refine below_via (by with_reducible assumption) ?_ ?_) | go_size)) : Box3 w1 _ _ _ _)
  rw [hr]
  clear hr
  have HP2 : Hid (∀ wr, Below w1.heap.size w1 wr → Below w.heap.size w wr ∧ Box3 wr w.heap.size (.int .i64 (rows : Int)) (.int .i64 (cols : Int)) (.slice a n cp) ∧ Out3 wr (w.heap.size + 1)) := by
    intro wr hwr
    have x1 := (bP.out.keep (by repeat' (first | (with_reducible exact Below.refl _ _) | (with_reducible assumption) | (with_reducible refine Below.alloc ?_ ?_ _) | (with_reducible refine Below.setCell ?_ ?_ _) | (with_reducible refine Below.drew ?_) | (with_reducible refine below_drewN ?_ _) | (with_reducible refine below_via (by with_reducible assumption) ?_ ?_) | go_size)) : Box3 wr w.heap.size (.int .i64 (rows : Int)) (.int .i64 (cols : Int)) (.slice a n cp))
    have x2 := bO.out.keep (by repeat' (first | (with_reducible exact Below.refl _ _) | (with_reducible assumption) | (with_reducible refine Below.alloc ?_ ?_ _) | (with_reducible refine Below.setCell ?_ ?_ _) | (with_reducible refine Below.drew ?_) | (with_reducible refine below_drewN ?_ _) | (with_reducible refine below_via (by with_reducible assumption) ?_ ?_) | go_size) : Below _ _ wr)
    simp only [World.size_alloc] at x2
    exact ⟨by repeat' (first | (with_reducible exact Below.refl _ _) | (with_reducible assumption) | (with_reducible refine Below.alloc ?_ ?_ _) | (with_reducible refine Below.setCell ?_ ?_ _) | (with_reducible refine Below.drew ?_) | (with_reducible refine below_drewN ?_ _) | (with_reducible refine below_via (by with_reducible assumption) ?_ ?_) | go_size), x1, x2⟩
  have HRd : Hid (∀ wr, Below w.heap.size w wr → Rd wr a n zs) := fun wr h => HH.out.below h
  obtain ⟨i0, hi, hz0, hz1', hz2⟩ := info_parts infoInt
  have hp2 : cols * rows ≤ 400 * 400 := Nat.mul_le_mul (by omega) (by omega)
  clear hb1 bP bO HH
  obtain ⟨f, hf⟩ : ∃ f : Nat → Nat → Int, f = (fun (i j : Nat) => pixV (cols : Int) zs ((rows : Int) - 1 - (j : Int)) (i : Int)) := ⟨_, rfl⟩
  have HFV : Hid (∀ i j : Nat, pixV (cols : Int) zs ((rows : Int) - 1 - (j : Int)) (i : Int) = f i j) := by intro i j; rw [hf]
  have HFF : Hid ((fun (i j : Nat) => pixV (cols : Int) zs ((rows : Int) - 1 - (j : Int)) (i : Int)) = f) := hf.symm
  clear hf
  go_wp2
  obtain ⟨W, hW⟩ : ∃ W, W = w1.alloc (.cells #[] 2) := ⟨_, rfl⟩
  have hBW : Hid (Below w1.heap.size w1 W) := by rw [hW]; exact (Below.refl _ _).alloc (Nat.le_refl _) _
  have HS : Hid (W.heap.size = w1.heap.size + 1) := by unfold Hid; rw [hW]; simp
  have HO0 : Hid (W.ownsRow w1.heap.size 2 1 (.slice (some ⟨w1.heap.size, 0, none⟩) 0 0) 0 []) := by
    have := World.ownsRow_lit (base := w1.heap.size) (e := 2) (size := 1) w1 #[] 0 (by simp) (by unfold maxLen; omega) (by simp)
    rw [hW]
    exact this
  rw [← hW]
  have hs1 : w.heap.size + 2 ≤ w1.heap.size := by omega
  clear hW
  go_loopw [4, 5] (fun v i wr => ∃ r : Nat, r ≤ cols ∧ i = .int .i64 r ∧ wr.ownsRow w1.heap.size 2 1 v (r * rows) ((rastL rows f (r * rows)).map (Value.int .i64)) ∧ Below w1.heap.size W wr) (fun _ i _ => cols - (intOf i).toNat)
  case atStart => exact ⟨0, Nat.zero_le _, rfl, by simpa [rastL] using HO0.out, Below.refl _ _⟩
  case round =>
    obtain ⟨k, hkn, rfl, hown, hbel⟩ := hrel
    obtain ⟨d0, ⟨d1, d2, d3, d4⟩, d5⟩ := HP2.out wr (hBW.out.trans hbel)
    by_cases hlt : k < cols
    · clear d0 d5
      obtain ⟨wo, rfl⟩ : ∃ wo : World, wo = wr := ⟨_, rfl⟩
      go_wp2
      clear d1 d2 d3 d4
      go_loopw [4, 6] (fun v i wr => ∃ c : Nat, c ≤ rows ∧ i = .int .i64 c ∧ wr.ownsRow w1.heap.size 2 1 v (k * rows + c) ((rastL rows f (k * rows + c)).map (Value.int .i64)) ∧ Below w1.heap.size W wr) (fun _ i _ => rows - (intOf i).toNat)
      case atStart => exact ⟨0, Nat.zero_le _, rfl, by simpa using hown, hbel⟩
      case round =>
        obtain ⟨c, hc, rfl, hown1, hbel1⟩ := hrel
        clear hown hbel
        obtain ⟨d0, ⟨d1, d2, d3, d4⟩, d5⟩ := HP2.out wr (hBW.out.trans hbel1)
        clear d5
        by_cases hlc : c < rows
        · have hroom : k * rows + c + 1 ≤ cols * rows := by
            have : (k + 1) * rows ≤ cols * rows := Nat.mul_le_mul_right _ hlt
            rw [Nat.add_mul, Nat.one_mul] at this
            omega
          have hszr := hbel1.size
          have hs3 := HS.out
          go_wp2_with fail
          refine (sAt (rows : Int) (cols : Int) a n cp zs ((rows : Int) - 1 - (c : Int)) (k : Int) _ (HRd.out _ (by repeat' (first | (with_reducible exact Below.refl _ _) | (with_reducible assumption) | (with_reducible refine Below.alloc ?_ ?_ _) | (with_reducible refine Below.setCell ?_ ?_ _) | (with_reducible refine Below.drew ?_) | (with_reducible refine below_drewN ?_ _) | (with_reducible refine below_via (by with_reducible assumption) ?_ ?_) | go_size))) (by omega) (by omega) (by omega) (by omega) (by omega) (by omega) H7.out).mono ?_
          rintro e wq ⟨rfl, hbq⟩
          have hszq := hbq.size
          rw [HFV.out]
          go_wp2_with (at_builtin; refine wpList_append_own _ rfl _ _ 22 rfl w1.heap.size 2 i0 (.int .i64 0) 1 8 Try.underlying22 hi hz0 hz1' hz2 rfl (by decide) _ _ _ rfl ((own_below hown1 (by repeat' (first | (with_reducible exact Below.refl _ _) | (with_reducible assumption) | (with_reducible refine Below.alloc ?_ ?_ _) | (with_reducible refine Below.setCell ?_ ?_ _) | (with_reducible refine Below.drew ?_) | (with_reducible refine below_drewN ?_ _) | (with_reducible refine below_via (by with_reducible assumption) ?_ ?_) | go_size))).alloc _) ⟨wq.heap.size, 0, none⟩ 1 1 [.int .i64 (f k c)] rfl rfl (cell_one_new _ _ _) (by simp [Value.oneCell']) (by unfold maxLen; omega) (by omega) (by simp; omega) ?_; intro v' w2 hown' hgrow _)
          have HO : Hid (w2.ownsRow w1.heap.size 2 1 v' (k * rows + (c + 1)) ((rastL rows f (k * rows + (c + 1))).map (Value.int .i64))) := by
            unfold Hid
            rw [← Nat.add_assoc, rastL_succ _ _ _ _ hlc, List.map_append]
            exact hown'
          have HB : Hid (Below w1.heap.size W w2) := ((hbel1.trans (hbq.mono (by omega))).alloc (by omega) _).grown hgrow (by simp; omega) (fun j e => (hown1.lt j e).1)
          clear hown1 hown' hgrow hbel1 d0 d1 d2 d3 d4
          go_wp2
          go_roundw
          case rel => exact ⟨c + 1, by omega, by go_num, HO.out, HB.out⟩
          case measure => simp [intOf]; omega
        · have hce : c = rows := by omega
          have e : k * rows + rows = (k + 1) * rows := by rw [Nat.add_mul, Nat.one_mul]
          rw [hce, e] at hown1
          have HC := Lib.hid hce
          have HO := Lib.hid hown1
          have HB := Lib.hid hbel1
          clear hce hown1 hbel1 e d0
          go_wp2
          go_roundw
          case rel => exact ⟨k + 1, by omega, by go_num, HO.out, HB.out⟩
          case measure => simp [intOf]; omega
    · have hke : k = cols := by omega
      obtain ⟨o2, o3, o4, o5, o6, o7, o8⟩ := d5
      rw [hke] at hown
      obtain ⟨av, cv, rfl⟩ := own_shape hown
      have HO := Lib.hid hown
      have HK := Lib.hid hke
      have HB := Lib.hid d0
      clear hke hown hbel d0
      go_wp2
      have hlen : (rastL rows f (cols * rows)).length = cols * rows := rastL_length _ _ _
      refine bodyPost_ret (v := .tuple #[.agg #[.int .i64 cols, .int .i64 rows, .slice av (cols * rows) cv], .int .i64 0]) (by simp [results, Try.results38, go_sem, o3, o4, o5]) rfl ?_
      simp only [Int.toNat_natCast]
      rw [HFF.out]
      refine ⟨av, cv, by rw [hlen], ?_, (((HB.out.setCell (by simp) _).setCell (by simp) _).setCell (by simp) _), by rw [hlen]; omega⟩
      rw [hlen]
      exact own_mono (own_far (own_far (own_far HO.out (by simp; omega) _) (by simp; omega) _) (by simp; omega) _) (by omega)
end Go.Proofs.Ytdbecdgiafjkfaa
