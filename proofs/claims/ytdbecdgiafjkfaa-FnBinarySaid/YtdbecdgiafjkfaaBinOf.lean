/-
  DERIVED. BinaryOf: contracts.
-/
import Derived.Test.YtdbecdgiafjkfaaRes
import Derived.Test.YtdbecdgiafjkfaaBin2
namespace Go.Proofs.Ytdbecdgiafjkfaa
open Go.RowKit
set_option linter.unusedVariables false
theorem codeV_no {r c limit : Int} {n : Nat} {zs : List Int} (h : (rasterB r c n zs && inB limit 0 256) = false) : (codeV r c limit n zs != 0) = true := by
  unfold codeV selI
  cases h1 : rasterB r c n zs <;> cases h2 : inB limit 0 256 <;> simp_all
theorem codeV_ok {r c limit : Int} {n : Nat} {zs : List Int} (h : (rasterB r c n zs && inB limit 0 256) = true) : codeV r c limit n zs = 0 ∧ rasterB r c n zs = true ∧ inB limit 0 256 = true := by
  unfold codeV selI
  cases h1 : rasterB r c n zs <;> cases h2 : inB limit 0 256 <;> simp_all
set_option maxHeartbeats 2000000 in
theorem sBinaryOf_no (r c : Int) (a : Option Addr) (n cp : Nat) (zs : List Int) (limit : Int) (w : World) (h : Rd w a n zs) (hn : n ≤ 1048576) (hc : (rasterB r c n zs && inB limit 0 256) = false) :
    Calls Try.prog 50 #[.agg #[.int .i64 r, .int .i64 c, .slice a n cp], .int .i64 limit] w (ResG w 0 0 [] (codeV r c limit n zs)) := by
  have HH := Lib.hid h
  have hk := codeV_no hc
  clear h hc
  have bO := Lib.hid (Out3.new (w.alloc (.cells #[.int .i64 r, .int .i64 c, .slice a n cp] 26)) 66)
  go_enter Try.func50, Try.ntmps50
  go_wp2_with fail
  refine (sCode r c limit a n cp zs _ (HH.out.below (by repeat' (first | (with_reducible exact Below.refl _ _) | (with_reducible assumption) | (with_reducible refine Below.alloc ?_ ?_ _) | (with_reducible refine Below.setCell ?_ ?_ _) | (with_reducible refine Below.drew ?_) | (with_reducible refine below_drewN ?_ _) | (with_reducible refine below_via (by with_reducible assumption) ?_ ?_) | go_size))) hn).mono ?_
  rintro e w1 ⟨rfl, hb1⟩
  have hz1 := hb1.size; try simp at hz1
  have o1 := bO.out.keep (by repeat' (first | (with_reducible exact Below.refl _ _) | (with_reducible assumption) | (with_reducible refine Below.alloc ?_ ?_ _) | (with_reducible refine Below.setCell ?_ ?_ _) | (with_reducible refine Below.drew ?_) | (with_reducible refine below_drewN ?_ _) | (with_reducible refine below_via (by with_reducible assumption) ?_ ?_) | go_size) : Below _ _ w1)
  simp only [World.size_alloc] at o1
  obtain ⟨o2, o3, o4, o5, o6, o7, o8⟩ := o1
  go_wp2
  refine bodyPost_ret (v := .tuple #[.agg #[.int .i64 0, .int .i64 0, .slice none 0 0], .int .i64 (codeV r c limit n zs)]) (by simp [results, Try.results50, go_sem, o3, o4, o5]) rfl ?_
  exact ⟨none, 0, rfl, World.ownsRow_nil _ _ _ _, by repeat' (first | (with_reducible exact Below.refl _ _) | (with_reducible assumption) | (with_reducible refine Below.alloc ?_ ?_ _) | (with_reducible refine Below.setCell ?_ ?_ _) | (with_reducible refine Below.drew ?_) | (with_reducible refine below_drewN ?_ _) | (with_reducible refine below_via (by with_reducible assumption) ?_ ?_) | go_size), by simp⟩
set_option maxHeartbeats 2000000 in
theorem sBinaryOf_ok (r c : Int) (a : Option Addr) (n cp : Nat) (zs : List Int) (limit : Int) (w : World) (h : Rd w a n zs) (hn : n ≤ 1048576) (hc : (rasterB r c n zs && inB limit 0 256) = true) :
    Calls Try.prog 50 #[.agg #[.int .i64 r, .int .i64 c, .slice a n cp], .int .i64 limit] w (ResG w r c (binL limit zs) 0) := by
  obtain ⟨hk, hr, hi⟩ := codeV_ok hc
  obtain ⟨_, _, _, _, h5, _, h7, _⟩ := rasterB_yes hr
  have hp : 0 < n := by omega
  have HH := Lib.hid h
  have hl := Lib.hid h.1
  have HK := Lib.hid hk
  clear h hc hk hr hi h5 h7
  have bP := Lib.hid (Box3.new w 26 (.int .i64 r) (.int .i64 c) (.slice a n cp))
  have bO := Lib.hid (Out3.new (w.alloc (.cells #[.int .i64 r, .int .i64 c, .slice a n cp] 26)) 66)
  go_enter Try.func50, Try.ntmps50
  go_wp2_with fail
  refine (sCode r c limit a n cp zs _ (HH.out.below (by repeat' (first | (with_reducible exact Below.refl _ _) | (with_reducible assumption) | (with_reducible refine Below.alloc ?_ ?_ _) | (with_reducible refine Below.setCell ?_ ?_ _) | (with_reducible refine Below.drew ?_) | (with_reducible refine below_drewN ?_ _) | (with_reducible refine below_via (by with_reducible assumption) ?_ ?_) | go_size))) hn).mono ?_
  rintro e w1 ⟨rfl, hb1⟩
  have hz1 := hb1.size; try simp at hz1
  obtain ⟨_, _, _, _⟩ := (bP.out.keep (by repeat' (first | (with_reducible exact Below.refl _ _) | (with_reducible assumption) | (with_reducible refine Below.alloc ?_ ?_ _) | (with_reducible refine Below.setCell ?_ ?_ _) | (with_reducible refine Below.drew ?_) | (with_reducible refine below_drewN ?_ _) | (with_reducible refine below_via (by with_reducible assumption) ?_ ?_) | go_size)) : Box3 w1 _ _ _ _)
  rw [HK.out]
  go_wp2_with fail
  refine (sBinary r c limit a n cp zs _ (HH.out.below (by repeat' (first | (with_reducible exact Below.refl _ _) | (with_reducible assumption) | (with_reducible refine Below.alloc ?_ ?_ _) | (with_reducible refine Below.setCell ?_ ?_ _) | (with_reducible refine Below.drew ?_) | (with_reducible refine below_drewN ?_ _) | (with_reducible refine below_via (by with_reducible assumption) ?_ ?_) | go_size))) hn hp).mono ?_
  rintro e w2 ⟨av, cv, rfl, ho, hb2⟩
  have hz2 := hb2.size; try simp at hz2
  have hlt := own_block ho
  have HLT := Lib.hid hlt
  clear hlt
  have o1 := bO.out.keep (by repeat' (first | (with_reducible exact Below.refl _ _) | (with_reducible assumption) | (with_reducible refine Below.alloc ?_ ?_ _) | (with_reducible refine Below.setCell ?_ ?_ _) | (with_reducible refine Below.drew ?_) | (with_reducible refine below_drewN ?_ _) | (with_reducible refine below_via (by with_reducible assumption) ?_ ?_) | go_size) : Below _ _ w2)
  simp only [World.size_alloc] at o1
  obtain ⟨o2, o3, o4, o5, o6, o7, o8⟩ := o1
  go_wp2
  refine bodyPost_ret (v := .tuple #[.agg #[.int .i64 r, .int .i64 c, .slice av (binL limit zs).length cv], .int .i64 0]) (by simp [results, Try.results50, go_sem, o3, o4, o5]) rfl ?_
  have ho1 : w2.ownsRow (w.heap.size + 2) 2 1 (.slice av (binL limit zs).length cv) (binL limit zs).length ((binL limit zs).map (Value.int .i64)) := own_mono ho (by omega)
  exact ⟨av, cv, rfl, own_mono (own_far (own_far (own_far ho1 (by simp) _) (by simp) _) (by simp) _) (by omega), by repeat' (first | (with_reducible exact Below.refl _ _) | (with_reducible assumption) | (with_reducible refine Below.alloc ?_ ?_ _) | (with_reducible refine Below.setCell ?_ ?_ _) | (with_reducible refine Below.drew ?_) | (with_reducible refine below_drewN ?_ _) | (with_reducible refine below_via (by with_reducible assumption) ?_ ?_) | go_size), by simp [binL, hl.out]; exact hn⟩
set_option maxHeartbeats 2000000 in
theorem iBinaryOf_no (r c : Int) (a : Option Addr) (n cp : Nat) (zs : List Int) (limit : Int) (w : World) (h : Rd w a n zs) (hn : n ≤ 1048576) (hc : (rasterB r c n zs && inB limit 0 256) = false) :
    Calls Try.prog 49 #[.agg #[.int .i64 r, .int .i64 c, .slice a n cp], .int .i64 limit] w (ResG w 0 0 [] (codeV r c limit n zs)) := by
  have HH := Lib.hid h
  clear h
  have bO := Lib.hid (Out3.new (w.alloc (.cells #[.int .i64 r, .int .i64 c, .slice a n cp] 26)) 66)
  cases hr : rasterB r c n zs
  · have HV : Hid (codeV r c limit n zs = 1) := by unfold Hid; simp [codeV, selI, hr]
    rw [HV.out]
    go_enter Try.func49, Try.ntmps49
    go_wp2_with fail
    refine (iIsRaster r c a n cp zs _ (HH.out.below (by repeat' (first | (with_reducible exact Below.refl _ _) | (with_reducible assumption) | (with_reducible refine Below.alloc ?_ ?_ _) | (with_reducible refine Below.setCell ?_ ?_ _) | (with_reducible refine Below.drew ?_) | (with_reducible refine below_drewN ?_ _) | (with_reducible refine below_via (by with_reducible assumption) ?_ ?_) | go_size))) hn).mono ?_
    rintro e w1 ⟨rfl, hb1⟩
    have hz1 := hb1.size; try simp at hz1
    have o1 := bO.out.keep (by repeat' (first | (with_reducible exact Below.refl _ _) | (with_reducible assumption) | (with_reducible refine Below.alloc ?_ ?_ _) | (with_reducible refine Below.setCell ?_ ?_ _) | (with_reducible refine Below.drew ?_) | (with_reducible refine below_drewN ?_ _) | (with_reducible refine below_via (by with_reducible assumption) ?_ ?_) | go_size) : Below _ _ w1)
    simp only [World.size_alloc] at o1
    obtain ⟨o2, o3, o4, o5, o6, o7, o8⟩ := o1
    rw [hr]
    go_wp2
    refine bodyPost_ret (v := .tuple #[.agg #[.int .i64 0, .int .i64 0, .slice none 0 0], .int .i64 1]) (by simp [results, Try.results49, go_sem, o3, o4, o5]) rfl ?_
    exact ⟨none, 0, rfl, World.ownsRow_nil _ _ _ _, by repeat' (first | (with_reducible exact Below.refl _ _) | (with_reducible assumption) | (with_reducible refine Below.alloc ?_ ?_ _) | (with_reducible refine Below.setCell ?_ ?_ _) | (with_reducible refine Below.drew ?_) | (with_reducible refine below_drewN ?_ _) | (with_reducible refine below_via (by with_reducible assumption) ?_ ?_) | go_size), by simp⟩
  · have hi : inB limit 0 256 = false := by rw [hr] at hc; simpa using hc
    have HV : Hid (codeV r c limit n zs = 2) := by unfold Hid; simp [codeV, selI, hr, hi]
    rw [HV.out]
    clear hc
    go_enter Try.func49, Try.ntmps49
    go_wp2_with fail
    refine (iIsRaster r c a n cp zs _ (HH.out.below (by repeat' (first | (with_reducible exact Below.refl _ _) | (with_reducible assumption) | (with_reducible refine Below.alloc ?_ ?_ _) | (with_reducible refine Below.setCell ?_ ?_ _) | (with_reducible refine Below.drew ?_) | (with_reducible refine below_drewN ?_ _) | (with_reducible refine below_via (by with_reducible assumption) ?_ ?_) | go_size))) hn).mono ?_
    rintro e w1 ⟨rfl, hb1⟩
    have hz1 := hb1.size; try simp at hz1
    have o1 := bO.out.keep (by repeat' (first | (with_reducible exact Below.refl _ _) | (with_reducible assumption) | (with_reducible refine Below.alloc ?_ ?_ _) | (with_reducible refine Below.setCell ?_ ?_ _) | (with_reducible refine Below.drew ?_) | (with_reducible refine below_drewN ?_ _) | (with_reducible refine below_via (by with_reducible assumption) ?_ ?_) | go_size) : Below _ _ w1)
    simp only [World.size_alloc] at o1
    obtain ⟨o2, o3, o4, o5, o6, o7, o8⟩ := o1
    rw [hr]
    go_wp2_with (go_at_call 77; refine (iIn _ _ _ _).mono ?_; rintro e w' ⟨rfl, rfl⟩)
    refine bodyPost_ret (v := .tuple #[.agg #[.int .i64 0, .int .i64 0, .slice none 0 0], .int .i64 2]) (by simp [results, Try.results49, go_sem, o3, o4, o5]) rfl ?_
    exact ⟨none, 0, rfl, World.ownsRow_nil _ _ _ _, by repeat' (first | (with_reducible exact Below.refl _ _) | (with_reducible assumption) | (with_reducible refine Below.alloc ?_ ?_ _) | (with_reducible refine Below.setCell ?_ ?_ _) | (with_reducible refine Below.drew ?_) | (with_reducible refine below_drewN ?_ _) | (with_reducible refine below_via (by with_reducible assumption) ?_ ?_) | go_size), by simp⟩
set_option maxHeartbeats 2000000 in
theorem iBinaryOf_ok (r c : Int) (a : Option Addr) (n cp : Nat) (zs : List Int) (limit : Int) (w : World) (h : Rd w a n zs) (hn : n ≤ 1048576) (hc : (rasterB r c n zs && inB limit 0 256) = true) :
    Calls Try.prog 49 #[.agg #[.int .i64 r, .int .i64 c, .slice a n cp], .int .i64 limit] w (ResG w r c (binL limit zs) 0) := by
  obtain ⟨_, hr, hi⟩ := codeV_ok hc
  obtain ⟨_, _, _, _, h5, _, h7, _⟩ := rasterB_yes hr
  have hp : 0 < n := by omega
  have HH := Lib.hid h
  have hl := Lib.hid h.1
  have H7 := Lib.hid h7
  clear h hc h5 h7
  have bP := Lib.hid (Box3.new w 26 (.int .i64 r) (.int .i64 c) (.slice a n cp))
  have bO := Lib.hid (Out3.new (w.alloc (.cells #[.int .i64 r, .int .i64 c, .slice a n cp] 26)) 66)
  go_enter Try.func49, Try.ntmps49
  go_wp2_with fail
  refine (iIsRaster r c a n cp zs _ (HH.out.below (by repeat' (first | (with_reducible exact Below.refl _ _) | (with_reducible assumption) | (with_reducible refine Below.alloc ?_ ?_ _) | (with_reducible refine Below.setCell ?_ ?_ _) | (with_reducible refine Below.drew ?_) | (with_reducible refine below_drewN ?_ _) | (with_reducible refine below_via (by with_reducible assumption) ?_ ?_) | go_size))) hn).mono ?_
  rintro e w1 ⟨rfl, hb1⟩
  have hz1 := hb1.size; try simp at hz1
  obtain ⟨_, _, _, _⟩ := (bP.out.keep (by repeat' (first | (with_reducible exact Below.refl _ _) | (with_reducible assumption) | (with_reducible refine Below.alloc ?_ ?_ _) | (with_reducible refine Below.setCell ?_ ?_ _) | (with_reducible refine Below.drew ?_) | (with_reducible refine below_drewN ?_ _) | (with_reducible refine below_via (by with_reducible assumption) ?_ ?_) | go_size)) : Box3 w1 _ _ _ _)
  rw [hr]
  go_wp2_with (go_at_call 77; refine (iIn _ _ _ _).mono ?_; rintro e w' ⟨rfl, rfl⟩)
  refine (iBinary r c limit a n cp zs _ (HH.out.below (by repeat' (first | (with_reducible exact Below.refl _ _) | (with_reducible assumption) | (with_reducible refine Below.alloc ?_ ?_ _) | (with_reducible refine Below.setCell ?_ ?_ _) | (with_reducible refine Below.drew ?_) | (with_reducible refine below_drewN ?_ _) | (with_reducible refine below_via (by with_reducible assumption) ?_ ?_) | go_size))) hn hp H7.out).mono ?_
  rintro e w2 h2
  obtain ⟨av, cv, rfl, ho, hb2⟩ := h2.own (by simp [binL, hl.out]) hn
  clear h2
  have hz2 := hb2.size; try simp at hz2
  have o1 := bO.out.keep (by repeat' (first | (with_reducible exact Below.refl _ _) | (with_reducible assumption) | (with_reducible refine Below.alloc ?_ ?_ _) | (with_reducible refine Below.setCell ?_ ?_ _) | (with_reducible refine Below.drew ?_) | (with_reducible refine below_drewN ?_ _) | (with_reducible refine below_via (by with_reducible assumption) ?_ ?_) | go_size) : Below _ _ w2)
  simp only [World.size_alloc] at o1
  obtain ⟨o2, o3, o4, o5, o6, o7, o8⟩ := o1
  go_wp2
  refine bodyPost_ret (v := .tuple #[.agg #[.int .i64 r, .int .i64 c, .slice av (binL limit zs).length cv], .int .i64 0]) (by simp [results, Try.results49, go_sem, o3, o4, o5]) rfl ?_
  have ho1 : w2.ownsRow (w.heap.size + 2) 2 1 (.slice av (binL limit zs).length cv) (binL limit zs).length ((binL limit zs).map (Value.int .i64)) := own_mono ho (by omega)
  exact ⟨av, cv, rfl, own_mono (own_far (own_far (own_far ho1 (by simp) _) (by simp) _) (by simp) _) (by omega), by repeat' (first | (with_reducible exact Below.refl _ _) | (with_reducible assumption) | (with_reducible refine Below.alloc ?_ ?_ _) | (with_reducible refine Below.setCell ?_ ?_ _) | (with_reducible refine Below.drew ?_) | (with_reducible refine below_drewN ?_ _) | (with_reducible refine below_via (by with_reducible assumption) ?_ ?_) | go_size), by simp [binL, hl.out]; exact hn⟩
end Go.Proofs.Ytdbecdgiafjkfaa
