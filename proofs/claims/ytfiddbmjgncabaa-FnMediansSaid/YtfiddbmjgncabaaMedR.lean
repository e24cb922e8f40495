/-
  DERIVED. MedianRaster: contracts.
-/
import Derived.Test.YtfiddbmjgncabaaMedI
import Derived.Test.YtfiddbmjgncabaaLocS2
import Derived.Conc.MuLone
namespace Go.Proofs.Ytfiddbmjgncabaa
open Go.RowKit
set_option linter.unusedVariables false
def medV (zs : List Int) (R C i j : Nat) : Int := (sortZ (winL zs C (i - 1) (j - 1) (winN R i 1) (winN C j 1))).getD ((winN R i 1 * winN C j 1 - 1) / 2) 0
theorem cMedOf (b R C i j : Nat) (a : Option Addr) (n cp : Nat) (zs : List Int) (w : World) (hB : Box3 w b (.int .i64 (R : Int)) (.int .i64 (C : Int)) (.slice a n cp)) (h : Rd w a n zs) (hn : (n : Int) = (R : Int) * (C : Int)) (hR : R ≤ 400) (hC : C ≤ 400) (hi : i < R) (hj : j < C) :
    Calls Try.prog 88 #[.int .i64 (i : Int), .int .i64 (j : Int), .pointer (some ⟨b, 0, none⟩)] w fun e w' => e = .returned (.int .i64 (medV zs R C i j)) ∧ Below w.heap.size w w' := by
  obtain ⟨a1, a2, a3, a4, a5⟩ := winN_le (R := R) (rad := 1) hi (by omega)
  obtain ⟨c1, c2, c3, c4, c5⟩ := winN_le (R := C) (rad := 1) hj (by omega)
  exact cMed b R C i j (i - 1) (j - 1) (winN R i 1) (winN C j 1) a n cp zs w hB h hn hR hC hi hj (by omega) (by omega) (by omega) (by omega) a3 a4 a5 c3 c4 c5 a1 c1
set_option maxHeartbeats 2000000 in
theorem sMedianRaster_no (r c : Int) (a : Option Addr) (n cp : Nat) (zs : List Int) (w : World) (h : Rd w a n zs) (hn : n ≤ 1048576) (hr : rasterB r c n zs = false) :
    Calls Try.prog 41 #[.agg #[.int .i64 r, .int .i64 c, .slice a n cp]] w (ResG w 0 0 [] 1) := by
  have HH := Lib.hid h
  clear h
  have bO := Lib.hid (Out3.new (w.alloc (.cells #[.int .i64 r, .int .i64 c, .slice a n cp] 32)) 32)
  go_enter Try.func41, Try.ntmps41
  go_wp2_with fail
  refine (sIsRaster r c a n cp zs _ (HH.out.below (by repeat' (first | (with_reducible exact Below.refl _ _) | (with_reducible assumption) | (with_reducible refine Below.alloc ?_ ?_ _) | (with_reducible refine Below.setCell ?_ ?_ _) | (with_reducible refine Below.drew ?_) | (with_reducible refine below_drewN ?_ _) | (with_reducible refine below_via (by with_reducible assumption) ?_ ?_) | go_size))) hn).mono ?_
  rintro e w1 ⟨rfl, hb1⟩
  have hz1 := hb1.size; try simp at hz1
  have o1 := bO.out.keep (by repeat' (first | (with_reducible exact Below.refl _ _) | (with_reducible assumption) | (with_reducible refine Below.alloc ?_ ?_ _) | (with_reducible refine Below.setCell ?_ ?_ _) | (with_reducible refine Below.drew ?_) | (with_reducible refine below_drewN ?_ _) | (with_reducible refine below_via (by with_reducible assumption) ?_ ?_) | go_size) : Below _ _ w1)
  simp only [World.size_alloc] at o1
  obtain ⟨o2, o3, o4, o5, o6, o7, o8⟩ := o1
  rw [hr]
  go_wp2
  refine bodyPost_ret (v := .tuple #[.agg #[.int .i64 0, .int .i64 0, .slice none 0 0], .int .i64 1]) (by simp [results, Try.results41, go_sem, o3, o4, o5]) rfl ?_
  exact ⟨none, 0, rfl, World.ownsRow_nil _ _ _ _, by repeat' (first | (with_reducible exact Below.refl _ _) | (with_reducible assumption) | (with_reducible refine Below.alloc ?_ ?_ _) | (with_reducible refine Below.setCell ?_ ?_ _) | (with_reducible refine Below.drew ?_) | (with_reducible refine below_drewN ?_ _) | (with_reducible refine below_via (by with_reducible assumption) ?_ ?_) | go_size), by simp⟩
set_option maxHeartbeats 2000000 in
theorem iMedianRaster_no (r c : Int) (a : Option Addr) (n cp : Nat) (zs : List Int) (w : World) (h : Rd w a n zs) (hn : n ≤ 1048576) (hr : rasterB r c n zs = false) :
    Calls Try.prog 42 #[.agg #[.int .i64 r, .int .i64 c, .slice a n cp]] w (ResG w 0 0 [] 1) := by
  have HH := Lib.hid h
  clear h
  have bO := Lib.hid (Out3.new (w.alloc (.cells #[.int .i64 r, .int .i64 c, .slice a n cp] 32)) 32)
  go_enter Try.func42, Try.ntmps42
  go_wp2_with fail
  refine (iIsRaster r c a n cp zs _ (HH.out.below (by repeat' (first | (with_reducible exact Below.refl _ _) | (with_reducible assumption) | (with_reducible refine Below.alloc ?_ ?_ _) | (with_reducible refine Below.setCell ?_ ?_ _) | (with_reducible refine Below.drew ?_) | (with_reducible refine below_drewN ?_ _) | (with_reducible refine below_via (by with_reducible assumption) ?_ ?_) | go_size))) hn).mono ?_
  rintro e w1 ⟨rfl, hb1⟩
  have hz1 := hb1.size; try simp at hz1
  have o1 := bO.out.keep (by repeat' (first | (with_reducible exact Below.refl _ _) | (with_reducible assumption) | (with_reducible refine Below.alloc ?_ ?_ _) | (with_reducible refine Below.setCell ?_ ?_ _) | (with_reducible refine Below.drew ?_) | (with_reducible refine below_drewN ?_ _) | (with_reducible refine below_via (by with_reducible assumption) ?_ ?_) | go_size) : Below _ _ w1)
  simp only [World.size_alloc] at o1
  obtain ⟨o2, o3, o4, o5, o6, o7, o8⟩ := o1
  rw [hr]
  go_wp2
  refine bodyPost_ret (v := .tuple #[.agg #[.int .i64 0, .int .i64 0, .slice none 0 0], .int .i64 1]) (by simp [results, Try.results42, go_sem, o3, o4, o5]) rfl ?_
  exact ⟨none, 0, rfl, World.ownsRow_nil _ _ _ _, by repeat' (first | (with_reducible exact Below.refl _ _) | (with_reducible assumption) | (with_reducible refine Below.alloc ?_ ?_ _) | (with_reducible refine Below.setCell ?_ ?_ _) | (with_reducible refine Below.drew ?_) | (with_reducible refine below_drewN ?_ _) | (with_reducible refine below_via (by with_reducible assumption) ?_ ?_) | go_size), by simp⟩
set_option maxHeartbeats 4000000 in
theorem iMedianRaster_ok (rows cols : Nat) (a : Option Addr) (n cp : Nat) (zs : List Int) (w : World) (h : Rd w a n zs) (hn : n ≤ 1048576) (hr : rasterB (rows : Int) (cols : Int) n zs = true) :
    Calls Try.prog 42 #[.agg #[.int .i64 (rows : Int), .int .i64 (cols : Int), .slice a n cp]] w (ResG w (rows : Int) (cols : Int) (rastL cols (medV zs rows cols) (rows * cols)) 0) := by
  obtain ⟨r1, r2, r3, r4, r5, r6, r7, r8⟩ := rasterB_yes hr
  have hp : 0 < n := by omega
  have hnn : n = rows * cols := by
    have : ((rows : Int) * (cols : Int)) = ((rows * cols : Nat) : Int) := by simp
    omega
  have HN := Lib.hid hnn
  have HH := Lib.hid h
  have hl := Lib.hid h.1
  have H7 := Lib.hid r7
  have H8 := Lib.hid r8
  have HR := Lib.hid hr
  clear h r5 r6 r7 r8 hnn
  have bP := Lib.hid (Box3.new w 32 (.int .i64 (rows : Int)) (.int .i64 (cols : Int)) (.slice a n cp))
  have bO := Lib.hid (Out3.new (w.alloc (.cells #[.int .i64 (rows : Int), .int .i64 (cols : Int), .slice a n cp] 32)) 32)
  go_enter Try.func42, Try.ntmps42
  go_wp2_with fail
  refine (iIsRaster (rows : Int) (cols : Int) a n cp zs _ (HH.out.below (by repeat' (first | (with_reducible exact Below.refl _ _) | (with_reducible assumption) | (with_reducible refine Below.alloc ?_ ?_ _) | (with_reducible refine Below.setCell ?_ ?_ _) | (with_reducible refine Below.drew ?_) | (with_reducible refine below_drewN ?_ _) | (with_reducible refine below_via (by with_reducible assumption) ?_ ?_) | go_size))) hn).mono ?_
  rintro e w1 ⟨rfl, hb1⟩
  have hz1 := hb1.size; try simp at hz1
  obtain ⟨_, _, _, _⟩ := (bP.out.keep (by repeat' (first | (with_reducible exact Below.refl _ _) | (with_reducible assumption) | (with_reducible refine Below.alloc ?_ ?_ _) | (with_reducible refine Below.setCell ?_ ?_ _) | (with_reducible refine Below.drew ?_) | (with_reducible refine below_drewN ?_ _) | (with_reducible refine below_via (by with_reducible assumption) ?_ ?_) | go_size)) : Box3 w1 _ _ _ _)
  rw [hr]
  clear hr
  have HF : Hid (Tells 88 #[.pointer (some ⟨w.heap.size, 0, none⟩)] rows cols (medV zs rows cols) w1) := by
    intro i j W hi hj hW
    have hB3 : Box3 W w.heap.size (.int .i64 (rows : Int)) (.int .i64 (cols : Int)) (.slice a n cp) := bP.out.keep (by repeat' (first | (with_reducible exact Below.refl _ _) | (with_reducible assumption) | (with_reducible refine Below.alloc ?_ ?_ _) | (with_reducible refine Below.setCell ?_ ?_ _) | (with_reducible refine Below.drew ?_) | (with_reducible refine below_drewN ?_ _) | (with_reducible refine below_via (by with_reducible assumption) ?_ ?_) | go_size))
    have hR3 : Rd W a n zs := HH.out.below (by repeat' (first | (with_reducible exact Below.refl _ _) | (with_reducible assumption) | (with_reducible refine Below.alloc ?_ ?_ _) | (with_reducible refine Below.setCell ?_ ?_ _) | (with_reducible refine Below.drew ?_) | (with_reducible refine below_drewN ?_ _) | (with_reducible refine below_via (by with_reducible assumption) ?_ ?_) | go_size))
    exact cMedOf w.heap.size rows cols i j a n cp zs W hB3 hR3 H7.out (by omega) (by omega) hi hj
  have HE : Hid ((rastL cols (medV zs rows cols) (rows * cols)).length = n) := by unfold Hid; rw [rastL_length, HN.out]
  go_wp2_with fail
  refine (iRaster 88 #[.pointer (some ⟨w.heap.size, 0, none⟩)] rows cols (medV zs rows cols) _ entMed HF.out (by omega) (by omega) (by omega) (by omega)).mono ?_
  rintro e w2 h2
  obtain ⟨av, cv, rfl, ho, hb2⟩ := h2
  have hz2 := hb2.size
  have o1 := bO.out.keep (by repeat' (first | (with_reducible exact Below.refl _ _) | (with_reducible assumption) | (with_reducible refine Below.alloc ?_ ?_ _) | (with_reducible refine Below.setCell ?_ ?_ _) | (with_reducible refine Below.drew ?_) | (with_reducible refine below_drewN ?_ _) | (with_reducible refine below_via (by with_reducible assumption) ?_ ?_) | go_size) : Below _ _ w2)
  simp only [World.size_alloc] at o1
  obtain ⟨o2, o3, o4, o5, o6, o7, o8⟩ := o1
  go_wp2
  refine bodyPost_ret (v := .tuple #[.agg #[.int .i64 rows, .int .i64 cols, .slice av (rastL cols (medV zs rows cols) (rows * cols)).length cv], .int .i64 0]) (by simp [results, Try.results42, go_sem, o3, o4, o5]) rfl ?_
  have ho1 : w2.ownsRow (w.heap.size + 2) 2 1 (.slice av (rastL cols (medV zs rows cols) (rows * cols)).length cv) (rastL cols (medV zs rows cols) (rows * cols)).length ((rastL cols (medV zs rows cols) (rows * cols)).map (Value.int .i64)) := own_mono ho (by omega)
  exact ⟨av, cv, rfl, own_mono (own_far (own_far (own_far ho1 (by simp) _) (by simp) _) (by simp) _) (by omega), by repeat' (first | (with_reducible exact Below.refl _ _) | (with_reducible assumption) | (with_reducible refine Below.alloc ?_ ?_ _) | (with_reducible refine Below.setCell ?_ ?_ _) | (with_reducible refine Below.drew ?_) | (with_reducible refine below_drewN ?_ _) | (with_reducible refine below_via (by with_reducible assumption) ?_ ?_) | go_size), by rw [HE.out]; exact hn⟩
set_option maxRecDepth 20000 in
set_option maxHeartbeats 8000000 in
theorem sMedianRaster_ok (rows cols : Nat) (a : Option Addr) (n cp : Nat) (zs : List Int) (w : World) (h : Rd w a n zs) (hn : n ≤ 1048576) (hr : rasterB (rows : Int) (cols : Int) n zs = true) :
    Calls Try.prog 41 #[.agg #[.int .i64 (rows : Int), .int .i64 (cols : Int), .slice a n cp]] w (ResG w (rows : Int) (cols : Int) (rastL cols (medV zs rows cols) (rows * cols)) 0) := by
  obtain ⟨r1, r2, r3, r4, r5, r6, r7, r8⟩ := rasterB_yes hr
  have HH := Lib.hid h
  have HL := Lib.hid h.1
  have H7 := Lib.hid r7
  have H8 := Lib.hid r8
  clear h r5 r6 r7 r8
  have bP := Lib.hid (Box3.new w 32 (.int .i64 (rows : Int)) (.int .i64 (cols : Int)) (.slice a n cp))
  have bO := Lib.hid (Out3.new (w.alloc (.cells #[.int .i64 (rows : Int), .int .i64 (cols : Int), .slice a n cp] 32)) 32)
  obtain ⟨i0, hi, hz0, hz1', hz2⟩ := info_parts infoInt
  have hp2 : rows * cols ≤ 400 * 400 := Nat.mul_le_mul (by omega) (by omega)
  go_enter Try.func41, Try.ntmps41
  go_wp2_with fail
  refine (sIsRaster (rows : Int) (cols : Int) a n cp zs _ (HH.out.below (by repeat' (first | (with_reducible exact Below.refl _ _) | (with_reducible assumption) | (with_reducible refine Below.alloc ?_ ?_ _) | (with_reducible refine Below.setCell ?_ ?_ _) | (with_reducible refine Below.drew ?_) | (with_reducible refine below_drewN ?_ _) | (with_reducible refine below_via (by with_reducible assumption) ?_ ?_) | go_size))) hn).mono ?_
  rintro e w1 ⟨rfl, hb1⟩
  have hz1 := hb1.size; try simp at hz1
  rw [hr]
  obtain ⟨_, _, _, _⟩ := (bP.out.keep (by repeat' (first | (with_reducible exact Below.refl _ _) | (with_reducible assumption) | (with_reducible refine Below.alloc ?_ ?_ _) | (with_reducible refine Below.setCell ?_ ?_ _) | (with_reducible refine Below.drew ?_) | (with_reducible refine below_drewN ?_ _) | (with_reducible refine below_via (by with_reducible assumption) ?_ ?_) | go_size)) : Box3 w1 _ _ _ _)
  go_wp2
  obtain ⟨W, hW⟩ : ∃ W : World, W = w1.alloc (.cells #[] 2) := ⟨_, rfl⟩
  have hW1 : Below w1.heap.size w1 W := by rw [hW]; exact (Below.refl _ _).alloc (Nat.le_refl _) _
  have kP : Hid (Box3 w1 w.heap.size (.int .i64 (rows : Int)) (.int .i64 (cols : Int)) (.slice a n cp)) := bP.out.keep (by repeat' (first | (with_reducible exact Below.refl _ _) | (with_reducible assumption) | (with_reducible refine Below.alloc ?_ ?_ _) | (with_reducible refine Below.setCell ?_ ?_ _) | (with_reducible refine Below.drew ?_) | (with_reducible refine below_drewN ?_ _) | (with_reducible refine below_via (by with_reducible assumption) ?_ ?_) | go_size))
  have kO := bO.out.keep (by repeat' (first | (with_reducible exact Below.refl _ _) | (with_reducible assumption) | (with_reducible refine Below.alloc ?_ ?_ _) | (with_reducible refine Below.setCell ?_ ?_ _) | (with_reducible refine Below.drew ?_) | (with_reducible refine below_drewN ?_ _) | (with_reducible refine below_via (by with_reducible assumption) ?_ ?_) | go_size) : Below _ _ w1)
  simp only [World.size_alloc] at kO
  have KO := Lib.hid kO
  have hww : Below w.heap.size w w1 := by repeat' (first | (with_reducible exact Below.refl _ _) | (with_reducible assumption) | (with_reducible refine Below.alloc ?_ ?_ _) | (with_reducible refine Below.setCell ?_ ?_ _) | (with_reducible refine Below.drew ?_) | (with_reducible refine below_drewN ?_ _) | (with_reducible refine below_via (by with_reducible assumption) ?_ ?_) | go_size)
  have HP2 : Hid (∀ wr, Below w1.heap.size W wr → Below w.heap.size w wr ∧ Box3 wr w.heap.size (.int .i64 (rows : Int)) (.int .i64 (cols : Int)) (.slice a n cp) ∧ Out3 wr (w.heap.size + 1) ∧ Rd wr a n zs) := by
    intro wr hb
    have h1 : Below w1.heap.size w1 wr := hW1.trans hb
    have h2 : Below w.heap.size w wr := hww.trans (h1.mono hww.size)
    exact ⟨h2, kP.out.below h1 (by omega), KO.out.below h1 (by omega), HH.out.below h2⟩
  have HS : Hid (W.heap.size = w1.heap.size + 1) := by unfold Hid; rw [hW]; simp
  have HO0 : Hid (W.ownsRow w1.heap.size 2 1 (.slice (some ⟨w1.heap.size, 0, none⟩) 0 0) 0 []) := by
    have := World.ownsRow_lit (base := w1.heap.size) (e := 2) (size := 1) w1 #[] 0 (by simp) (by unfold maxLen; omega) (by simp)
    rw [hW]
    exact this
  rw [← hW]
  have hs1 : w.heap.size + 2 ≤ w1.heap.size := by omega
  clear hW hW1 hww kP kO KO bP bO hb1 hr
  go_loopw [4, 5] (fun v q wr => ∃ k : Nat, k ≤ rows ∧ q = .int .i64 k ∧ wr.ownsRow w1.heap.size 2 1 v (k * cols) ((rastL cols (medV zs rows cols) (k * cols)).map (Value.int .i64)) ∧ Below w1.heap.size W wr) (fun _ q _ => rows - (intOf q).toNat)
  case atStart => exact ⟨0, Nat.zero_le _, rfl, by simpa [rastL] using HO0.out, Below.refl _ _⟩
  case round =>
    obtain ⟨k, hkn, rfl, hown, hbel⟩ := hrel
    obtain ⟨d0, ⟨d1, d2, d3, d4⟩, d5, d6⟩ := HP2.out wr hbel
    by_cases hlt : k < rows
    · clear d0 d5 d6
      obtain ⟨wo, rfl⟩ : ∃ wo : World, wo = wr := ⟨_, rfl⟩
      go_wp2
      clear d1 d2 d3 d4
      go_loopw [4, 6] (fun v q wr => ∃ c : Nat, c ≤ cols ∧ q = .int .i64 c ∧ wr.ownsRow w1.heap.size 2 1 v (k * cols + c) ((rastL cols (medV zs rows cols) (k * cols + c)).map (Value.int .i64)) ∧ Below w1.heap.size W wr) (fun _ q _ => cols - (intOf q).toNat)
      case atStart => exact ⟨0, Nat.zero_le _, rfl, by simpa using hown, hbel⟩
      case round =>
        obtain ⟨c, hc, rfl, hown1, hbel1⟩ := hrel
        clear hown hbel
        obtain ⟨d0, ⟨d1, d2, d3, d4⟩, d5, d6⟩ := HP2.out wr hbel1
        clear d5
        by_cases hlc : c < cols
        · have hroom : k * cols + c + 1 ≤ rows * cols := by
            have : (k + 1) * cols ≤ rows * cols := Nat.mul_le_mul_right _ hlt
            rw [Nat.add_mul, Nat.one_mul] at this
            omega
          have hszr := hbel1.size
          have hs3 := HS.out
          have HD6 := Lib.hid d6
          clear d6 d0
          obtain ⟨n1, n2, -, -, -⟩ := winN_le (R := rows) (rad := 1) hlt (by omega)
          obtain ⟨m1, m2, -, -, -⟩ := winN_le (R := cols) (rad := 1) hlc (by omega)
          go_wp2_with fail
          refine (sWinOf rows cols k c 1 a n cp zs _ (HD6.out.below (by repeat' (first | (with_reducible exact Below.refl _ _) | (with_reducible assumption) | (with_reducible refine Below.alloc ?_ ?_ _) | (with_reducible refine Below.setCell ?_ ?_ _) | (with_reducible refine Below.drew ?_) | (with_reducible refine below_drewN ?_ _) | (with_reducible refine below_via (by with_reducible assumption) ?_ ?_) | go_size))) H7.out (by omega) (by omega) hlt hlc (by omega)).mono ?_
          rintro e w2 ⟨av, cv, rfl, ho2, hb2⟩
          have hzB := hb2.size
          have hm0 : 1 ≤ winN rows k 1 * winN cols c 1 := Nat.mul_pos n1 m1
          have hm1 : winN rows k 1 * winN cols c 1 ≤ 41 * 41 := Nat.mul_le_mul n2 m2
          have HLV : Hid (medV zs rows cols k c = (sortZ (winL zs cols (k - 1) (c - 1) (winN rows k 1) (winN cols c 1))).getD ((winN rows k 1 * winN cols c 1 - 1) / 2) 0) := rfl
          have HLN : Hid ((winL zs cols (k - 1) (c - 1) (winN rows k 1) (winN cols c 1)).length = winN rows k 1 * winN cols c 1) := winL_length _ _ _ _ _ _
          obtain ⟨L, hLL⟩ : ∃ L, winL zs cols (k - 1) (c - 1) (winN rows k 1) (winN cols c 1) = L := ⟨_, rfl⟩
          rw [hLL] at HLV HLN ho2
          obtain ⟨m, hm⟩ : ∃ m, winN rows k 1 * winN cols c 1 = m := ⟨_, rfl⟩
          rw [hm] at hm0 hm1 HLN HLV ho2 ⊢
          have HO2 := Lib.hid ho2
          have HOW := Lib.hid hown1
          have HBL := Lib.hid hbel1
          clear hLL hm n1 n2 m1 m2 ho2 hown1 hbel1
          go_wp2_with fail
          refine (sSortL av m cv L _ (own_rd HO2.out) (by omega) hm0).mono ?_
          rintro e w3 ⟨av2, cv2, rfl, ho3, hb3⟩
          have hzC := hb3.size
          have hbel3 : Below w1.heap.size W w3 := HBL.out.trans ((hb2.trans (hb3.mono hzB)).mono (by omega))
          have hown3 := own_below (own_below HOW.out hb2) hb3
          have HRW := own_rd ho3
          obtain ⟨b, o1, rfl, hbb, hcl⟩ := HRW.2 (by omega)
          have hx := hcl ((m - 1) / 2) (by omega)
          obtain ⟨x, hxv⟩ : ∃ x, (sortZ L).getD ((m - 1) / 2) 0 = x := ⟨_, rfl⟩
          rw [hxv] at hx HLV
          have e1 : Int.tdiv ((m : Int) - 1) 2 = (((m - 1) / 2 : Nat) : Int) := by
            rw [Int.tdiv_eq_ediv_of_nonneg (by omega)]
            omega
          obtain ⟨ix, hix⟩ : ∃ ix, (m - 1) / 2 = ix := ⟨_, rfl⟩
          have hix2 : ix < m := by omega
          rw [hix] at hx e1
          have g1 : IntKind.i64.wrap (ix : Int) = (ix : Int) := IntWalk.i64_in _ (by omega)
          have hix3 : (ix : Int) < (m : Int) := by omega
          have HO3 := Lib.hid hown3
          have HB3 := Lib.hid hbel3
          clear hxv hix hcl HRW ho3 hown3 hbel3 hb2 hb3 HO2 HOW HBL
          go_wp2_with (at_builtin; refine wpList_append_own _ rfl _ _ 22 rfl w1.heap.size 2 i0 (.int .i64 0) 1 8 Try.underlying22 hi hz0 hz1' hz2 rfl (by decide) _ _ _ rfl ((own_below HO3.out (by repeat' (first | (with_reducible exact Below.refl _ _) | (with_reducible assumption) | (with_reducible refine Below.alloc ?_ ?_ _) | (with_reducible refine Below.setCell ?_ ?_ _) | (with_reducible refine Below.drew ?_) | (with_reducible refine below_drewN ?_ _) | (with_reducible refine below_via (by with_reducible assumption) ?_ ?_) | go_size))).alloc _) ⟨w3.heap.size, 0, none⟩ 1 1 [.int .i64 x] rfl rfl (cell_one_new _ _ _) (by simp [Value.oneCell']) (by unfold maxLen; omega) (by omega) (by simp; omega) ?_; intro v' w5 hown' hgrow _)
          have HO : Hid (w5.ownsRow w1.heap.size 2 1 v' (k * cols + (c + 1)) ((rastL cols (medV zs rows cols) (k * cols + (c + 1))).map (Value.int .i64))) := by
            unfold Hid
            rw [← Nat.add_assoc, rastL_succ _ _ _ _ hlc, List.map_append, HLV.out]
            exact hown'
          have HB : Hid (Below w1.heap.size W w5) := (HB3.out.alloc (by omega) _).grown hgrow (by simp; omega) (fun j e => (HO3.out.lt j e).1)
          clear hown' hgrow
          go_wp2
          go_roundw
          case rel => exact ⟨c + 1, by omega, by go_num, HO.out, HB.out⟩
          case measure => simp [intOf]; omega
        · have hce : c = cols := by omega
          have e : k * cols + cols = (k + 1) * cols := by rw [Nat.add_mul, Nat.one_mul]
          rw [hce, e] at hown1
          have HO := Lib.hid hown1
          have HB := Lib.hid hbel1
          have HC := Lib.hid hce
          clear hce hown1 hbel1 e d0 d6
          go_wp2
          go_roundw
          case rel => exact ⟨k + 1, by omega, by go_num, HO.out, HB.out⟩
          case measure => simp [intOf]; omega
    · have hke : k = rows := by omega
      obtain ⟨o2, o3, o4, o5, o6, o7, o8⟩ := d5
      rw [hke] at hown
      obtain ⟨av, cv, rfl⟩ := own_shape hown
      have HO := Lib.hid hown
      have HK := Lib.hid hke
      have HB := Lib.hid d0
      clear hke hown hbel d0 d6
      go_wp2
      have hlen : (rastL cols (medV zs rows cols) (rows * cols)).length = rows * cols := rastL_length _ _ _
      refine bodyPost_ret (v := .tuple #[.agg #[.int .i64 rows, .int .i64 cols, .slice av (rows * cols) cv], .int .i64 0]) (by simp [results, Try.results41, go_sem, o3, o4, o5]) rfl ?_
      refine ⟨av, cv, by rw [hlen], ?_, (((HB.out.setCell (by simp) _).setCell (by simp) _).setCell (by simp) _), by rw [hlen]; omega⟩
      rw [hlen]
      exact own_mono (own_far (own_far (own_far HO.out (by simp; omega) _) (by simp; omega) _) (by simp; omega) _) (by omega)
end Go.Proofs.Ytfiddbmjgncabaa
