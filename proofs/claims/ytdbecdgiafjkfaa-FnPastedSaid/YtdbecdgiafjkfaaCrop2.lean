/-
  DERIVED. CropRaster: the contract of impl.
-/
import Derived.Test.YtdbecdgiafjkfaaCrop
import Derived.Conc.MuLone
namespace Go.Proofs.Ytdbecdgiafjkfaa
open Go.RowKit
set_option linter.unusedVariables false
theorem entCrop : ∀ (args : Array Value) (w : World), (callFunc 85 args).run Try.prog w = .ok (.enter 85 args) w := enters_of Try.func85 (by kernel_rfl) rfl
set_option maxHeartbeats 1000000 in
theorem cCrop (b b1 b2 : Nat) (r c ro co : Int) (a : Option Addr) (n cp : Nat) (zs : List Int) (i j : Int) (w : World) (hB : Box3 w b (.int .i64 r) (.int .i64 c) (.slice a n cp)) (hc1 : w.cell? ⟨b1, 0, none⟩ = some (.int .i64 ro)) (hc2 : w.cell? ⟨b2, 0, none⟩ = some (.int .i64 co)) (h : Rd w a n zs)
    (h1 : 0 ≤ i) (h2 : ro + i < r) (h3 : 0 ≤ j) (h4 : co + j < c) (h5 : 0 ≤ ro) (h6 : 0 ≤ co) (hr : r ≤ 400) (hc : c ≤ 400) (hn : (n : Int) = r * c) :
    Calls Try.prog 85 #[.int .i64 i, .int .i64 j, .pointer (some ⟨b, 0, none⟩), .pointer (some ⟨b1, 0, none⟩), .pointer (some ⟨b2, 0, none⟩)] w fun e w' => e = .returned (.int .i64 (pixV c zs (ro + i) (co + j))) ∧ Below w.heap.size w w' := by
  have HH := Lib.hid h
  have HN := Lib.hid hn
  obtain ⟨b1, b2, b3, b4⟩ := hB
  clear h hn
  go_enter Try.func85, Try.ntmps85
  go_wp2_with fail
  refine (iPix r c a n cp zs (ro + i) (co + j) _ (HH.out.below (by repeat' (first | (with_reducible exact Below.refl _ _) | (with_reducible assumption) | (with_reducible refine Below.alloc ?_ ?_ _) | (with_reducible refine Below.setCell ?_ ?_ _) | (with_reducible refine Below.drew ?_) | (with_reducible refine below_drewN ?_ _) | (with_reducible refine below_via (by with_reducible assumption) ?_ ?_) | go_size))) (by omega) (by omega) (by omega) (by omega) hr hc HN.out).mono ?_
  rintro e w1 ⟨rfl, hb1⟩
  have hz1 := hb1.size
  go_wp2
  go_returns
  exact ⟨rfl, by repeat' (first | (with_reducible exact Below.refl _ _) | (with_reducible assumption) | (with_reducible refine Below.alloc ?_ ?_ _) | (with_reducible refine Below.setCell ?_ ?_ _) | (with_reducible refine Below.drew ?_) | (with_reducible refine below_drewN ?_ _) | (with_reducible refine below_via (by with_reducible assumption) ?_ ?_) | go_size)⟩
set_option maxHeartbeats 4000000 in
theorem iCropRaster_ok (r c : Int) (a : Option Addr) (n cp : Nat) (zs : List Int) (ro co rs cs : Int) (w : World) (h : Rd w a n zs) (hn : n ≤ 1048576) (hr : rasterB r c n zs = true) (hw : withinB r c ro co rs cs = true) :
    Calls Try.prog 35 #[.agg #[.int .i64 r, .int .i64 c, .slice a n cp], .int .i64 ro, .int .i64 co, .int .i64 rs, .int .i64 cs] w (ResG w rs cs (rastL cs.toNat (fun (i j : Nat) => pixV c zs (ro + (i : Int)) (co + (j : Int))) (rs.toNat * cs.toNat)) 0) := by
  obtain ⟨r1, r2, r3, r4, r5, r6, r7, r8⟩ := rasterB_yes hr
  obtain ⟨q1, q2, q3, q4, q5, q6, q7, q8⟩ := withinB_iff.1 hw
  have H7 := Lib.hid r7
  clear r5 r6 r7 r8
  have HH := Lib.hid h
  clear h
  have bO := Lib.hid (Out3.new (((w.alloc (.cells #[.int .i64 r, .int .i64 c, .slice a n cp] 26)).alloc (.cells #[.int .i64 ro] 2)).alloc (.cells #[.int .i64 co] 2)) 26)
  go_enter Try.func35, Try.ntmps35
  go_wp2_with fail
  refine (iIsRaster r c a n cp zs _ (HH.out.below (by repeat' (first | (with_reducible exact Below.refl _ _) | (with_reducible assumption) | (with_reducible refine Below.alloc ?_ ?_ _) | (with_reducible refine Below.setCell ?_ ?_ _) | (with_reducible refine Below.drew ?_) | (with_reducible refine below_drewN ?_ _) | (with_reducible refine below_via (by with_reducible assumption) ?_ ?_) | go_size))) hn).mono ?_
  rintro e w1 ⟨rfl, hb1⟩
  have hz1 := hb1.size; try simp at hz1
  have hbP : Below (w.heap.size + 1) (w.alloc (.cells #[.int .i64 r, .int .i64 c, .slice a n cp] 26)) w1 := by repeat' (first | (with_reducible exact Below.refl _ _) | (with_reducible assumption) | (with_reducible refine Below.alloc ?_ ?_ _) | (with_reducible refine Below.setCell ?_ ?_ _) | (with_reducible refine Below.drew ?_) | (with_reducible refine below_drewN ?_ _) | (with_reducible refine below_via (by with_reducible assumption) ?_ ?_) | go_size)
  obtain ⟨_, _, _, _⟩ := ((Box3.new w 26 (.int .i64 r) (.int .i64 c) (.slice a n cp)).keep (by simpa using hbP) : Box3 w1 _ _ _ _)
  have hc1 : w1.cell? ⟨w.heap.size + 1, 0, none⟩ = some (.int .i64 ro) := (hb1.cell (p := ⟨_, _, none⟩) (by simp)).trans (by simp [go_sem])
  have hc2 : w1.cell? ⟨w.heap.size + 1 + 1, 0, none⟩ = some (.int .i64 co) := (hb1.cell (p := ⟨_, _, none⟩) (by simp)).trans (by simp [go_sem])
  have HB0 := Lib.hid (Box3.new w 26 (.int .i64 r) (.int .i64 c) (.slice a n cp))
  rw [hr]
  go_wp2_with fail
  refine (iContains r c ro co rs cs _ _ r1 r2 r3 r4).mono ?_
  rintro e w2 ⟨rfl, hb2⟩
  have hz2 := hb2.size
  rw [hw]
  clear hw hr
  obtain ⟨ra, rfl⟩ := Int.eq_ofNat_of_zero_le (show 0 ≤ rs by omega)
  obtain ⟨ca, rfl⟩ := Int.eq_ofNat_of_zero_le (show 0 ≤ cs by omega)
  have HF : Hid (Tells 85 #[.pointer (some ⟨w.heap.size, 0, none⟩), .pointer (some ⟨w.heap.size + 1, 0, none⟩), .pointer (some ⟨w.heap.size + 1 + 1, 0, none⟩)] ra ca (fun (i j : Nat) => pixV c zs (ro + (i : Int)) (co + (j : Int))) w2) := by
    intro i j W hi hj hW
    have hwB : Below (w.heap.size + 1) (w.alloc (.cells #[.int .i64 r, .int .i64 c, .slice a n cp] 26)) W := by repeat' (first | (with_reducible exact Below.refl _ _) | (with_reducible assumption) | (with_reducible refine Below.alloc ?_ ?_ _) | (with_reducible refine Below.setCell ?_ ?_ _) | (with_reducible refine Below.drew ?_) | (with_reducible refine below_drewN ?_ _) | (with_reducible refine below_via (by with_reducible assumption) ?_ ?_) | go_size)
    have hB3 : Box3 W w.heap.size (.int .i64 r) (.int .i64 c) (.slice a n cp) := HB0.out.keep (by simpa using hwB)
    clear hwB
    have hR3 : Rd W a n zs := HH.out.below (by repeat' (first | (with_reducible exact Below.refl _ _) | (with_reducible assumption) | (with_reducible refine Below.alloc ?_ ?_ _) | (with_reducible refine Below.setCell ?_ ?_ _) | (with_reducible refine Below.drew ?_) | (with_reducible refine below_drewN ?_ _) | (with_reducible refine below_via (by with_reducible assumption) ?_ ?_) | go_size))
    have hk : Below w1.heap.size w1 W := by repeat' (first | (with_reducible exact Below.refl _ _) | (with_reducible assumption) | (with_reducible refine Below.alloc ?_ ?_ _) | (with_reducible refine Below.setCell ?_ ?_ _) | (with_reducible refine Below.drew ?_) | (with_reducible refine below_drewN ?_ _) | (with_reducible refine below_via (by with_reducible assumption) ?_ ?_) | go_size)
    have k1 : W.cell? ⟨w.heap.size + 1, 0, none⟩ = some (.int .i64 ro) := (hk.cell (p := ⟨_, _, none⟩) (by simp; omega)).trans hc1
    have k2 : W.cell? ⟨w.heap.size + 1 + 1, 0, none⟩ = some (.int .i64 co) := (hk.cell (p := ⟨_, _, none⟩) (by simp; omega)).trans hc2
    exact cCrop w.heap.size (w.heap.size + 1) (w.heap.size + 1 + 1) r c ro co a n cp zs i j W hB3 k1 k2 hR3 (by omega) (by omega) (by omega) (by omega) (by omega) (by omega) (by omega) (by omega) H7.out
  have hlen : (rastL ca (fun (i j : Nat) => pixV c zs (ro + (i : Int)) (co + (j : Int))) (ra * ca)).length = ra * ca := rastL_length _ _ _
  have hm : ra * ca ≤ 400 * 400 := Nat.mul_le_mul (by omega) (by omega)
  have HL := Lib.hid hlen
  clear hlen
  obtain ⟨_, _, _, _⟩ := (HB0.out.keep (by have hwB : Below (w.heap.size + 1) (w.alloc (.cells #[.int .i64 r, .int .i64 c, .slice a n cp] 26)) w2 := by repeat' (first | (with_reducible exact Below.refl _ _) | (with_reducible assumption) | (with_reducible refine Below.alloc ?_ ?_ _) | (with_reducible refine Below.setCell ?_ ?_ _) | (with_reducible refine Below.drew ?_) | (with_reducible refine below_drewN ?_ _) | (with_reducible refine below_via (by with_reducible assumption) ?_ ?_) | go_size)
                                           simpa using hwB) : Box3 w2 _ _ _ _)
  go_wp2_with fail
  refine (iRaster 85 #[.pointer (some ⟨w.heap.size, 0, none⟩), .pointer (some ⟨w.heap.size + 1, 0, none⟩), .pointer (some ⟨w.heap.size + 1 + 1, 0, none⟩)] ra ca (fun (i j : Nat) => pixV c zs (ro + (i : Int)) (co + (j : Int))) _ entCrop HF.out (by omega) (by omega) (by omega) (by omega)).mono ?_
  rintro e w3 h2
  obtain ⟨av, cv, rfl, ho, hb3⟩ := h2
  have hz3 := hb3.size
  have o1 := bO.out.keep (by repeat' (first | (with_reducible exact Below.refl _ _) | (with_reducible assumption) | (with_reducible refine Below.alloc ?_ ?_ _) | (with_reducible refine Below.setCell ?_ ?_ _) | (with_reducible refine Below.drew ?_) | (with_reducible refine below_drewN ?_ _) | (with_reducible refine below_via (by with_reducible assumption) ?_ ?_) | go_size) : Below _ _ w3)
  simp only [World.size_alloc] at o1
  obtain ⟨o2, o3, o4, o5, o6, o7, o8⟩ := o1
  go_wp2
  refine bodyPost_ret (v := .tuple #[.agg #[.int .i64 ra, .int .i64 ca, .slice av (rastL ca (fun (i j : Nat) => pixV c zs (ro + (i : Int)) (co + (j : Int))) (ra * ca)).length cv], .int .i64 0]) (by simp [results, Try.results35, go_sem, o3, o4, o5]) rfl ?_
  have ho1 : w3.ownsRow (w.heap.size + 4) 2 1 (.slice av (rastL ca (fun (i j : Nat) => pixV c zs (ro + (i : Int)) (co + (j : Int))) (ra * ca)).length cv) (rastL ca (fun (i j : Nat) => pixV c zs (ro + (i : Int)) (co + (j : Int))) (ra * ca)).length ((rastL ca (fun (i j : Nat) => pixV c zs (ro + (i : Int)) (co + (j : Int))) (ra * ca)).map (Value.int .i64)) := own_mono ho (by omega)
  exact ⟨av, cv, rfl, own_mono (own_far (own_far (own_far ho1 (by simp) _) (by simp) _) (by simp) _) (by omega), by repeat' (first | (with_reducible exact Below.refl _ _) | (with_reducible assumption) | (with_reducible refine Below.alloc ?_ ?_ _) | (with_reducible refine Below.setCell ?_ ?_ _) | (with_reducible refine Below.drew ?_) | (with_reducible refine below_drewN ?_ _) | (with_reducible refine below_via (by with_reducible assumption) ?_ ?_) | go_size), by simp only [Int.toNat_natCast]; rw [HL.out]; omega⟩
end Go.Proofs.Ytdbecdgiafjkfaa
