/-
  DERIVED. PasteRaster: contracts.
-/
import Derived.Test.YtdbecdgiafjkfaaPasteS
namespace Go.Proofs.Ytdbecdgiafjkfaa
open Go.RowKit
set_option linter.unusedVariables false
def PB (w : World) (r c r' c' : Int) (a a' : Option Addr) (n n' cp cp' : Nat) (wr : World) : Prop :=
  Box3 wr w.heap.size (.int .i64 r) (.int .i64 c) (.slice a n cp) ∧ Box3 wr (w.heap.size + 1) (.int .i64 r') (.int .i64 c') (.slice a' n' cp') ∧ Out3 wr (w.heap.size + 2) ∧ Below w.heap.size w wr ∧ w.heap.size + 3 ≤ wr.heap.size
theorem PB.keep {w wr wq : World} {r c r' c' : Int} {a a' : Option Addr} {n n' cp cp' : Nat} (h : PB w r c r' c' a a' n n' cp cp' wr) (hb : Below wr.heap.size wr wq) : PB w r c r' c' a a' n n' cp cp' wq := by
  obtain ⟨h1, h2, h3, h4, h5⟩ := h
  have hz := hb.size
  exact ⟨h1.keep hb, h2.keep hb, h3.keep hb, h4.trans (hb.mono (by omega)), by omega⟩
theorem PB.below {w wr wq : World} {B : Nat} {r c r' c' : Int} {a a' : Option Addr} {n n' cp cp' : Nat} (h : PB w r c r' c' a a' n n' cp cp' wr) (hb : Below B wr wq) (hB : w.heap.size + 3 ≤ B) : PB w r c r' c' a a' n n' cp cp' wq := by
  obtain ⟨h1, h2, h3, h4, h5⟩ := h
  have hz := hb.size
  exact ⟨h1.below hb (by omega), h2.below hb (by omega), h3.below hb (by omega), h4.trans (hb.mono (by omega)), by omega⟩
theorem pb_new (r c r' c' : Int) (a a' : Option Addr) (n n' cp cp' : Nat) (w : World) : ∀ wr, Below (w.heap.size + 3) (((w.alloc (.cells #[.int .i64 r, .int .i64 c, .slice a n cp] 26)).alloc (.cells #[.int .i64 r', .int .i64 c', .slice a' n' cp'] 26)).alloc (.cells #[.int .i64 0, .int .i64 0, .slice none 0 0] 26)) wr → PB w r c r' c' a a' n n' cp cp' wr := by
  intro wr hb
  have hz := hb.size
  simp at hz
  have b0 := Box3.new w 26 (.int .i64 r) (.int .i64 c) (.slice a n cp)
  have b1 := Box3.new (w.alloc (.cells #[.int .i64 r, .int .i64 c, .slice a n cp] 26)) 26 (.int .i64 r') (.int .i64 c') (.slice a' n' cp')
  have b2 := Out3.new ((w.alloc (.cells #[.int .i64 r, .int .i64 c, .slice a n cp] 26)).alloc (.cells #[.int .i64 r', .int .i64 c', .slice a' n' cp'] 26)) 26
  simp only [World.size_alloc] at b1 b2
  have e1 : Below (w.heap.size + 1) (w.alloc (.cells #[.int .i64 r, .int .i64 c, .slice a n cp] 26)) (((w.alloc (.cells #[.int .i64 r, .int .i64 c, .slice a n cp] 26)).alloc (.cells #[.int .i64 r', .int .i64 c', .slice a' n' cp'] 26)).alloc (.cells #[.int .i64 0, .int .i64 0, .slice none 0 0] 26)) := ((Below.refl _ _).alloc (by simp) _).alloc (by simp) _
  have e2 : Below (w.heap.size + 2) ((w.alloc (.cells #[.int .i64 r, .int .i64 c, .slice a n cp] 26)).alloc (.cells #[.int .i64 r', .int .i64 c', .slice a' n' cp'] 26)) (((w.alloc (.cells #[.int .i64 r, .int .i64 c, .slice a n cp] 26)).alloc (.cells #[.int .i64 r', .int .i64 c', .slice a' n' cp'] 26)).alloc (.cells #[.int .i64 0, .int .i64 0, .slice none 0 0] 26)) := (Below.refl _ _).alloc (by simp) _
  have e0 : Below w.heap.size w (((w.alloc (.cells #[.int .i64 r, .int .i64 c, .slice a n cp] 26)).alloc (.cells #[.int .i64 r', .int .i64 c', .slice a' n' cp'] 26)).alloc (.cells #[.int .i64 0, .int .i64 0, .slice none 0 0] 26)) := (((Below.refl _ _).alloc (Nat.le_refl _) _).alloc (by simp) _).alloc (by simp; omega) _
  exact ⟨b0.below (e1.trans (hb.mono (by omega))) (by omega), b1.below (e2.trans (hb.mono (by omega))) (by omega), b2.below hb (by omega), e0.trans (hb.mono (by omega)), by omega⟩
set_option maxRecDepth 20000 in
set_option maxHeartbeats 4000000 in
theorem sPasteRaster_no1 (r c r' c' : Int) (a a' : Option Addr) (n n' cp cp' : Nat) (zp zq : List Int) (y x : Int) (w : World) (h : Rd w a n zp) (h' : Rd w a' n' zq) (hn : n ≤ 1048576) (hn' : n' ≤ 1048576) (hr : rasterB r c n zp = false) :
    Calls Try.prog 13 #[.agg #[.int .i64 r, .int .i64 c, .slice a n cp], .agg #[.int .i64 r', .int .i64 c', .slice a' n' cp'], .int .i64 y, .int .i64 x] w (ResG w 0 0 [] 1) := by
  have HH := Lib.hid h
  have HH' := Lib.hid h'
  have HPB := Lib.hid (pb_new r c r' c' a a' n n' cp cp' w)
  clear h h'
  go_enter Try.func13, Try.ntmps13
  go_wp2_with fail
  refine (sIsRaster r c a n cp zp _ (HH.out.below (by repeat' (first | (with_reducible exact Below.refl _ _) | (with_reducible assumption) | (with_reducible refine Below.alloc ?_ ?_ _) | (with_reducible refine Below.setCell ?_ ?_ _) | (with_reducible refine Below.drew ?_) | (with_reducible refine below_drewN ?_ _) | (with_reducible refine below_via (by with_reducible assumption) ?_ ?_) | go_size))) hn).mono ?_
  rintro e w1 ⟨rfl, hb1⟩
  have hz1 := hb1.size; try simp at hz1
  have P1 := Lib.hid (HPB.out w1 (by repeat' (first | (with_reducible exact Below.refl _ _) | (with_reducible assumption) | (with_reducible refine Below.alloc ?_ ?_ _) | (with_reducible refine Below.setCell ?_ ?_ _) | (with_reducible refine Below.drew ?_) | (with_reducible refine below_drewN ?_ _) | (with_reducible refine below_via (by with_reducible assumption) ?_ ?_) | go_size)))
  rw [hr]
  obtain ⟨-, -, ⟨o2, o3, o4, o5, o6, o7, o8⟩, HB, -⟩ := P1.out
  go_wp2
  refine bodyPost_ret (v := .tuple #[.agg #[.int .i64 0, .int .i64 0, .slice none 0 0], .int .i64 1]) (by simp [results, Try.results13, go_sem, o3, o4, o5]) rfl ?_
  exact ⟨none, 0, rfl, World.ownsRow_nil _ _ _ _, by repeat' (first | (with_reducible exact Below.refl _ _) | (with_reducible assumption) | (with_reducible refine Below.alloc ?_ ?_ _) | (with_reducible refine Below.setCell ?_ ?_ _) | (with_reducible refine Below.drew ?_) | (with_reducible refine below_drewN ?_ _) | (with_reducible refine below_via (by with_reducible assumption) ?_ ?_) | go_size), by simp⟩
set_option maxRecDepth 20000 in
set_option maxHeartbeats 4000000 in
theorem sPasteRaster_no2 (r c r' c' : Int) (a a' : Option Addr) (n n' cp cp' : Nat) (zp zq : List Int) (y x : Int) (w : World) (h : Rd w a n zp) (h' : Rd w a' n' zq) (hn : n ≤ 1048576) (hn' : n' ≤ 1048576) (hr : rasterB r c n zp = true) (hq : rasterB r' c' n' zq = false) :
    Calls Try.prog 13 #[.agg #[.int .i64 r, .int .i64 c, .slice a n cp], .agg #[.int .i64 r', .int .i64 c', .slice a' n' cp'], .int .i64 y, .int .i64 x] w (ResG w 0 0 [] 1) := by
  have HH := Lib.hid h
  have HH' := Lib.hid h'
  have HPB := Lib.hid (pb_new r c r' c' a a' n n' cp cp' w)
  clear h h'
  go_enter Try.func13, Try.ntmps13
  go_wp2_with fail
  refine (sIsRaster r c a n cp zp _ (HH.out.below (by repeat' (first | (with_reducible exact Below.refl _ _) | (with_reducible assumption) | (with_reducible refine Below.alloc ?_ ?_ _) | (with_reducible refine Below.setCell ?_ ?_ _) | (with_reducible refine Below.drew ?_) | (with_reducible refine below_drewN ?_ _) | (with_reducible refine below_via (by with_reducible assumption) ?_ ?_) | go_size))) hn).mono ?_
  rintro e w1 ⟨rfl, hb1⟩
  have hz1 := hb1.size; try simp at hz1
  have P1 := Lib.hid (HPB.out w1 (by repeat' (first | (with_reducible exact Below.refl _ _) | (with_reducible assumption) | (with_reducible refine Below.alloc ?_ ?_ _) | (with_reducible refine Below.setCell ?_ ?_ _) | (with_reducible refine Below.drew ?_) | (with_reducible refine below_drewN ?_ _) | (with_reducible refine below_via (by with_reducible assumption) ?_ ?_) | go_size)))
  rw [hr]
  obtain ⟨⟨_, _, _, _⟩, ⟨_, _, _, _⟩, -, -, -⟩ := P1.out
  go_wp2_with fail
  refine (sIsRaster r' c' a' n' cp' zq _ (HH'.out.below (by repeat' (first | (with_reducible exact Below.refl _ _) | (with_reducible assumption) | (with_reducible refine Below.alloc ?_ ?_ _) | (with_reducible refine Below.setCell ?_ ?_ _) | (with_reducible refine Below.drew ?_) | (with_reducible refine below_drewN ?_ _) | (with_reducible refine below_via (by with_reducible assumption) ?_ ?_) | go_size))) hn').mono ?_
  rintro e w2 ⟨rfl, hb2⟩
  have hz2 := hb2.size; try simp at hz2
  have P2 := Lib.hid (P1.out.keep (by repeat' (first | (with_reducible exact Below.refl _ _) | (with_reducible assumption) | (with_reducible refine Below.alloc ?_ ?_ _) | (with_reducible refine Below.setCell ?_ ?_ _) | (with_reducible refine Below.drew ?_) | (with_reducible refine below_drewN ?_ _) | (with_reducible refine below_via (by with_reducible assumption) ?_ ?_) | go_size) : Below _ _ w2))
  rw [hq]
  obtain ⟨-, -, ⟨o2, o3, o4, o5, o6, o7, o8⟩, HB, -⟩ := P2.out
  go_wp2
  refine bodyPost_ret (v := .tuple #[.agg #[.int .i64 0, .int .i64 0, .slice none 0 0], .int .i64 1]) (by simp [results, Try.results13, go_sem, o3, o4, o5]) rfl ?_
  exact ⟨none, 0, rfl, World.ownsRow_nil _ _ _ _, by repeat' (first | (with_reducible exact Below.refl _ _) | (with_reducible assumption) | (with_reducible refine Below.alloc ?_ ?_ _) | (with_reducible refine Below.setCell ?_ ?_ _) | (with_reducible refine Below.drew ?_) | (with_reducible refine below_drewN ?_ _) | (with_reducible refine below_via (by with_reducible assumption) ?_ ?_) | go_size), by simp⟩
set_option maxRecDepth 20000 in
set_option maxHeartbeats 4000000 in
theorem sPasteRaster_rng (r c r' c' : Int) (a a' : Option Addr) (n n' cp cp' : Nat) (zp zq : List Int) (y x : Int) (w : World) (h : Rd w a n zp) (h' : Rd w a' n' zq) (hn : n ≤ 1048576) (hn' : n' ≤ 1048576) (hr : rasterB r c n zp = true) (hq : rasterB r' c' n' zq = true) (hw : withinB r c y x r' c' = false) :
    Calls Try.prog 13 #[.agg #[.int .i64 r, .int .i64 c, .slice a n cp], .agg #[.int .i64 r', .int .i64 c', .slice a' n' cp'], .int .i64 y, .int .i64 x] w (ResG w 0 0 [] 2) := by
  obtain ⟨r1, r2, r3, r4, r5, r6, r7, r8⟩ := rasterB_yes hr
  clear r5 r6 r7 r8
  have HH := Lib.hid h
  have HH' := Lib.hid h'
  have HPB := Lib.hid (pb_new r c r' c' a a' n n' cp cp' w)
  clear h h'
  go_enter Try.func13, Try.ntmps13
  go_wp2_with fail
  refine (sIsRaster r c a n cp zp _ (HH.out.below (by repeat' (first | (with_reducible exact Below.refl _ _) | (with_reducible assumption) | (with_reducible refine Below.alloc ?_ ?_ _) | (with_reducible refine Below.setCell ?_ ?_ _) | (with_reducible refine Below.drew ?_) | (with_reducible refine below_drewN ?_ _) | (with_reducible refine below_via (by with_reducible assumption) ?_ ?_) | go_size))) hn).mono ?_
  rintro e w1 ⟨rfl, hb1⟩
  have hz1 := hb1.size; try simp at hz1
  have P1 := Lib.hid (HPB.out w1 (by repeat' (first | (with_reducible exact Below.refl _ _) | (with_reducible assumption) | (with_reducible refine Below.alloc ?_ ?_ _) | (with_reducible refine Below.setCell ?_ ?_ _) | (with_reducible refine Below.drew ?_) | (with_reducible refine below_drewN ?_ _) | (with_reducible refine below_via (by with_reducible assumption) ?_ ?_) | go_size)))
  rw [hr]
  obtain ⟨⟨_, _, _, _⟩, ⟨_, _, _, _⟩, -, -, -⟩ := P1.out
  go_wp2_with fail
  refine (sIsRaster r' c' a' n' cp' zq _ (HH'.out.below (by repeat' (first | (with_reducible exact Below.refl _ _) | (with_reducible assumption) | (with_reducible refine Below.alloc ?_ ?_ _) | (with_reducible refine Below.setCell ?_ ?_ _) | (with_reducible refine Below.drew ?_) | (with_reducible refine below_drewN ?_ _) | (with_reducible refine below_via (by with_reducible assumption) ?_ ?_) | go_size))) hn').mono ?_
  rintro e w2 ⟨rfl, hb2⟩
  have hz2 := hb2.size; try simp at hz2
  have P2 := Lib.hid (P1.out.keep (by repeat' (first | (with_reducible exact Below.refl _ _) | (with_reducible assumption) | (with_reducible refine Below.alloc ?_ ?_ _) | (with_reducible refine Below.setCell ?_ ?_ _) | (with_reducible refine Below.drew ?_) | (with_reducible refine below_drewN ?_ _) | (with_reducible refine below_via (by with_reducible assumption) ?_ ?_) | go_size) : Below _ _ w2))
  rw [hq]
  obtain ⟨⟨_, _, _, _⟩, ⟨_, _, _, _⟩, -, -, -⟩ := P2.out
  go_wp2_with fail
  refine (sWithin r c y x r' c' _ _ r1 r2 r3 r4).mono ?_
  rintro e w3 ⟨rfl, hb3⟩
  have hz3 := hb3.size; try simp at hz3
  have P3 := Lib.hid (P2.out.keep (by repeat' (first | (with_reducible exact Below.refl _ _) | (with_reducible assumption) | (with_reducible refine Below.alloc ?_ ?_ _) | (with_reducible refine Below.setCell ?_ ?_ _) | (with_reducible refine Below.drew ?_) | (with_reducible refine below_drewN ?_ _) | (with_reducible refine below_via (by with_reducible assumption) ?_ ?_) | go_size) : Below _ _ w3))
  rw [hw]
  obtain ⟨-, -, ⟨o2, o3, o4, o5, o6, o7, o8⟩, HB, -⟩ := P3.out
  go_wp2
  refine bodyPost_ret (v := .tuple #[.agg #[.int .i64 0, .int .i64 0, .slice none 0 0], .int .i64 2]) (by simp [results, Try.results13, go_sem, o3, o4, o5]) rfl ?_
  exact ⟨none, 0, rfl, World.ownsRow_nil _ _ _ _, by repeat' (first | (with_reducible exact Below.refl _ _) | (with_reducible assumption) | (with_reducible refine Below.alloc ?_ ?_ _) | (with_reducible refine Below.setCell ?_ ?_ _) | (with_reducible refine Below.drew ?_) | (with_reducible refine below_drewN ?_ _) | (with_reducible refine below_via (by with_reducible assumption) ?_ ?_) | go_size), by simp⟩
set_option maxRecDepth 20000 in
set_option maxHeartbeats 4000000 in
theorem iPasteRaster_no1 (r c r' c' : Int) (a a' : Option Addr) (n n' cp cp' : Nat) (zp zq : List Int) (y x : Int) (w : World) (h : Rd w a n zp) (h' : Rd w a' n' zq) (hn : n ≤ 1048576) (hn' : n' ≤ 1048576) (hr : rasterB r c n zp = false) :
    Calls Try.prog 15 #[.agg #[.int .i64 r, .int .i64 c, .slice a n cp], .agg #[.int .i64 r', .int .i64 c', .slice a' n' cp'], .int .i64 y, .int .i64 x] w (ResG w 0 0 [] 1) := by
  have HH := Lib.hid h
  have HH' := Lib.hid h'
  have HPB := Lib.hid (pb_new r c r' c' a a' n n' cp cp' w)
  clear h h'
  go_enter Try.func15, Try.ntmps15
  go_wp2_with fail
  refine (iIsRaster r c a n cp zp _ (HH.out.below (by repeat' (first | (with_reducible exact Below.refl _ _) | (with_reducible assumption) | (with_reducible refine Below.alloc ?_ ?_ _) | (with_reducible refine Below.setCell ?_ ?_ _) | (with_reducible refine Below.drew ?_) | (with_reducible refine below_drewN ?_ _) | (with_reducible refine below_via (by with_reducible assumption) ?_ ?_) | go_size))) hn).mono ?_
  rintro e w1 ⟨rfl, hb1⟩
  have hz1 := hb1.size; try simp at hz1
  have P1 := Lib.hid (HPB.out w1 (by repeat' (first | (with_reducible exact Below.refl _ _) | (with_reducible assumption) | (with_reducible refine Below.alloc ?_ ?_ _) | (with_reducible refine Below.setCell ?_ ?_ _) | (with_reducible refine Below.drew ?_) | (with_reducible refine below_drewN ?_ _) | (with_reducible refine below_via (by with_reducible assumption) ?_ ?_) | go_size)))
  rw [hr]
  obtain ⟨-, -, ⟨o2, o3, o4, o5, o6, o7, o8⟩, HB, -⟩ := P1.out
  go_wp2
  refine bodyPost_ret (v := .tuple #[.agg #[.int .i64 0, .int .i64 0, .slice none 0 0], .int .i64 1]) (by simp [results, Try.results15, go_sem, o3, o4, o5]) rfl ?_
  exact ⟨none, 0, rfl, World.ownsRow_nil _ _ _ _, by repeat' (first | (with_reducible exact Below.refl _ _) | (with_reducible assumption) | (with_reducible refine Below.alloc ?_ ?_ _) | (with_reducible refine Below.setCell ?_ ?_ _) | (with_reducible refine Below.drew ?_) | (with_reducible refine below_drewN ?_ _) | (with_reducible refine below_via (by with_reducible assumption) ?_ ?_) | go_size), by simp⟩
set_option maxRecDepth 20000 in
set_option maxHeartbeats 4000000 in
theorem iPasteRaster_no2 (r c r' c' : Int) (a a' : Option Addr) (n n' cp cp' : Nat) (zp zq : List Int) (y x : Int) (w : World) (h : Rd w a n zp) (h' : Rd w a' n' zq) (hn : n ≤ 1048576) (hn' : n' ≤ 1048576) (hr : rasterB r c n zp = true) (hq : rasterB r' c' n' zq = false) :
    Calls Try.prog 15 #[.agg #[.int .i64 r, .int .i64 c, .slice a n cp], .agg #[.int .i64 r', .int .i64 c', .slice a' n' cp'], .int .i64 y, .int .i64 x] w (ResG w 0 0 [] 1) := by
  have HH := Lib.hid h
  have HH' := Lib.hid h'
  have HPB := Lib.hid (pb_new r c r' c' a a' n n' cp cp' w)
  clear h h'
  go_enter Try.func15, Try.ntmps15
  go_wp2_with fail
  refine (iIsRaster r c a n cp zp _ (HH.out.below (by repeat' (first | (with_reducible exact Below.refl _ _) | (with_reducible assumption) | (with_reducible refine Below.alloc ?_ ?_ _) | (with_reducible refine Below.setCell ?_ ?_ _) | (with_reducible refine Below.drew ?_) | (with_reducible refine below_drewN ?_ _) | (with_reducible refine below_via (by with_reducible assumption) ?_ ?_) | go_size))) hn).mono ?_
  rintro e w1 ⟨rfl, hb1⟩
  have hz1 := hb1.size; try simp at hz1
  have P1 := Lib.hid (HPB.out w1 (by repeat' (first | (with_reducible exact Below.refl _ _) | (with_reducible assumption) | (with_reducible refine Below.alloc ?_ ?_ _) | (with_reducible refine Below.setCell ?_ ?_ _) | (with_reducible refine Below.drew ?_) | (with_reducible refine below_drewN ?_ _) | (with_reducible refine below_via (by with_reducible assumption) ?_ ?_) | go_size)))
  rw [hr]
  obtain ⟨⟨_, _, _, _⟩, ⟨_, _, _, _⟩, -, -, -⟩ := P1.out
  go_wp2_with fail
  refine (iIsRaster r' c' a' n' cp' zq _ (HH'.out.below (by repeat' (first | (with_reducible exact Below.refl _ _) | (with_reducible assumption) | (with_reducible refine Below.alloc ?_ ?_ _) | (with_reducible refine Below.setCell ?_ ?_ _) | (with_reducible refine Below.drew ?_) | (with_reducible refine below_drewN ?_ _) | (with_reducible refine below_via (by with_reducible assumption) ?_ ?_) | go_size))) hn').mono ?_
  rintro e w2 ⟨rfl, hb2⟩
  have hz2 := hb2.size; try simp at hz2
  have P2 := Lib.hid (P1.out.keep (by repeat' (first | (with_reducible exact Below.refl _ _) | (with_reducible assumption) | (with_reducible refine Below.alloc ?_ ?_ _) | (with_reducible refine Below.setCell ?_ ?_ _) | (with_reducible refine Below.drew ?_) | (with_reducible refine below_drewN ?_ _) | (with_reducible refine below_via (by with_reducible assumption) ?_ ?_) | go_size) : Below _ _ w2))
  rw [hq]
  obtain ⟨-, -, ⟨o2, o3, o4, o5, o6, o7, o8⟩, HB, -⟩ := P2.out
  go_wp2
  refine bodyPost_ret (v := .tuple #[.agg #[.int .i64 0, .int .i64 0, .slice none 0 0], .int .i64 1]) (by simp [results, Try.results15, go_sem, o3, o4, o5]) rfl ?_
  exact ⟨none, 0, rfl, World.ownsRow_nil _ _ _ _, by repeat' (first | (with_reducible exact Below.refl _ _) | (with_reducible assumption) | (with_reducible refine Below.alloc ?_ ?_ _) | (with_reducible refine Below.setCell ?_ ?_ _) | (with_reducible refine Below.drew ?_) | (with_reducible refine below_drewN ?_ _) | (with_reducible refine below_via (by with_reducible assumption) ?_ ?_) | go_size), by simp⟩
set_option maxRecDepth 20000 in
set_option maxHeartbeats 4000000 in
theorem iPasteRaster_rng (r c r' c' : Int) (a a' : Option Addr) (n n' cp cp' : Nat) (zp zq : List Int) (y x : Int) (w : World) (h : Rd w a n zp) (h' : Rd w a' n' zq) (hn : n ≤ 1048576) (hn' : n' ≤ 1048576) (hr : rasterB r c n zp = true) (hq : rasterB r' c' n' zq = true) (hw : withinB r c y x r' c' = false) :
    Calls Try.prog 15 #[.agg #[.int .i64 r, .int .i64 c, .slice a n cp], .agg #[.int .i64 r', .int .i64 c', .slice a' n' cp'], .int .i64 y, .int .i64 x] w (ResG w 0 0 [] 2) := by
  obtain ⟨r1, r2, r3, r4, r5, r6, r7, r8⟩ := rasterB_yes hr
  clear r5 r6 r7 r8
  have HH := Lib.hid h
  have HH' := Lib.hid h'
  have HPB := Lib.hid (pb_new r c r' c' a a' n n' cp cp' w)
  clear h h'
  go_enter Try.func15, Try.ntmps15
  go_wp2_with fail
  refine (iIsRaster r c a n cp zp _ (HH.out.below (by repeat' (first | (with_reducible exact Below.refl _ _) | (with_reducible assumption) | (with_reducible refine Below.alloc ?_ ?_ _) | (with_reducible refine Below.setCell ?_ ?_ _) | (with_reducible refine Below.drew ?_) | (with_reducible refine below_drewN ?_ _) | (with_reducible refine below_via (by with_reducible assumption) ?_ ?_) | go_size))) hn).mono ?_
  rintro e w1 ⟨rfl, hb1⟩
  have hz1 := hb1.size; try simp at hz1
  have P1 := Lib.hid (HPB.out w1 (by repeat' (first | (with_reducible exact Below.refl _ _) | (with_reducible assumption) | (with_reducible refine Below.alloc ?_ ?_ _) | (with_reducible refine Below.setCell ?_ ?_ _) | (with_reducible refine Below.drew ?_) | (with_reducible refine below_drewN ?_ _) | (with_reducible refine below_via (by with_reducible assumption) ?_ ?_) | go_size)))
  rw [hr]
  obtain ⟨⟨_, _, _, _⟩, ⟨_, _, _, _⟩, -, -, -⟩ := P1.out
  go_wp2_with fail
  refine (iIsRaster r' c' a' n' cp' zq _ (HH'.out.below (by repeat' (first | (with_reducible exact Below.refl _ _) | (with_reducible assumption) | (with_reducible refine Below.alloc ?_ ?_ _) | (with_reducible refine Below.setCell ?_ ?_ _) | (with_reducible refine Below.drew ?_) | (with_reducible refine below_drewN ?_ _) | (with_reducible refine below_via (by with_reducible assumption) ?_ ?_) | go_size))) hn').mono ?_
  rintro e w2 ⟨rfl, hb2⟩
  have hz2 := hb2.size; try simp at hz2
  have P2 := Lib.hid (P1.out.keep (by repeat' (first | (with_reducible exact Below.refl _ _) | (with_reducible assumption) | (with_reducible refine Below.alloc ?_ ?_ _) | (with_reducible refine Below.setCell ?_ ?_ _) | (with_reducible refine Below.drew ?_) | (with_reducible refine below_drewN ?_ _) | (with_reducible refine below_via (by with_reducible assumption) ?_ ?_) | go_size) : Below _ _ w2))
  rw [hq]
  obtain ⟨⟨_, _, _, _⟩, ⟨_, _, _, _⟩, -, -, -⟩ := P2.out
  go_wp2_with fail
  refine (iContains r c y x r' c' _ _ r1 r2 r3 r4).mono ?_
  rintro e w3 ⟨rfl, hb3⟩
  have hz3 := hb3.size; try simp at hz3
  have P3 := Lib.hid (P2.out.keep (by repeat' (first | (with_reducible exact Below.refl _ _) | (with_reducible assumption) | (with_reducible refine Below.alloc ?_ ?_ _) | (with_reducible refine Below.setCell ?_ ?_ _) | (with_reducible refine Below.drew ?_) | (with_reducible refine below_drewN ?_ _) | (with_reducible refine below_via (by with_reducible assumption) ?_ ?_) | go_size) : Below _ _ w3))
  rw [hw]
  obtain ⟨-, -, ⟨o2, o3, o4, o5, o6, o7, o8⟩, HB, -⟩ := P3.out
  go_wp2
  refine bodyPost_ret (v := .tuple #[.agg #[.int .i64 0, .int .i64 0, .slice none 0 0], .int .i64 2]) (by simp [results, Try.results15, go_sem, o3, o4, o5]) rfl ?_
  exact ⟨none, 0, rfl, World.ownsRow_nil _ _ _ _, by repeat' (first | (with_reducible exact Below.refl _ _) | (with_reducible assumption) | (with_reducible refine Below.alloc ?_ ?_ _) | (with_reducible refine Below.setCell ?_ ?_ _) | (with_reducible refine Below.drew ?_) | (with_reducible refine below_drewN ?_ _) | (with_reducible refine below_via (by with_reducible assumption) ?_ ?_) | go_size), by simp⟩
set_option maxRecDepth 20000 in
set_option maxHeartbeats 4000000 in
theorem sPasteRaster_ok (r c r' c' : Int) (a a' : Option Addr) (n n' cp cp' : Nat) (zp zq : List Int) (y x : Int) (w : World) (h : Rd w a n zp) (h' : Rd w a' n' zq) (hn : n ≤ 1048576) (hn' : n' ≤ 1048576) (hr : rasterB r c n zp = true) (hq : rasterB r' c' n' zq = true) (hw : withinB r c y x r' c' = true) :
    Calls Try.prog 13 #[.agg #[.int .i64 r, .int .i64 c, .slice a n cp], .agg #[.int .i64 r', .int .i64 c', .slice a' n' cp'], .int .i64 y, .int .i64 x] w (ResG w r c (pasteL zp zq c'.toNat (atP y.toNat x.toNat c.toNat) r'.toNat) 0) := by
  obtain ⟨r1, r2, r3, r4, r5, r6, r7, r8⟩ := rasterB_yes hr
  obtain ⟨s1, s2, s3, s4, s5, s6, s7, s8⟩ := rasterB_yes hq
  obtain ⟨q1, q2, q3, q4, q5, q6, q7, q8⟩ := withinB_iff.1 hw
  obtain ⟨rows, rfl⟩ := Int.eq_ofNat_of_zero_le (show 0 ≤ r by omega)
  obtain ⟨cols, rfl⟩ := Int.eq_ofNat_of_zero_le (show 0 ≤ c by omega)
  obtain ⟨R, rfl⟩ := Int.eq_ofNat_of_zero_le (show 0 ≤ r' by omega)
  obtain ⟨q, rfl⟩ := Int.eq_ofNat_of_zero_le (show 0 ≤ c' by omega)
  obtain ⟨y, rfl⟩ := Int.eq_ofNat_of_zero_le (show 0 ≤ y by omega)
  obtain ⟨x, rfl⟩ := Int.eq_ofNat_of_zero_le (show 0 ≤ x by omega)
  have hnn : n = rows * cols := by
    have : ((rows : Int) * (cols : Int)) = ((rows * cols : Nat) : Int) := by simp
    omega
  have hnq : n' = R * q := by
    have : ((R : Int) * (q : Int)) = ((R * q : Nat) : Int) := by simp
    omega
  have HNN := Lib.hid hnn
  have HNQ := Lib.hid hnq
  have HNI := Lib.hid r7
  simp only [Int.toNat_natCast]
  have hlen : (pasteL zp zq q (atP y x cols) R).length = n := by
    rw [pasteL_length zp zq q (atP y x cols) R (h'.1.trans hnq) (fun k hk => by rw [h.1, hnn]; exact atP_bd (by omega) (by omega) hk) R (Nat.le_refl _), h.1]
  have HLEN := Lib.hid hlen
  clear r5 r6 r7 r8 s5 s6 s7 s8 hnn hnq hlen
  have HH := Lib.hid h
  have HH' := Lib.hid h'
  have HPB := Lib.hid (pb_new rows cols R q a a' n n' cp cp' w)
  clear h h'
  go_enter Try.func13, Try.ntmps13
  go_wp2_with fail
  refine (sIsRaster rows cols a n cp zp _ (HH.out.below (by repeat' (first | (with_reducible exact Below.refl _ _) | (with_reducible assumption) | (with_reducible refine Below.alloc ?_ ?_ _) | (with_reducible refine Below.setCell ?_ ?_ _) | (with_reducible refine Below.drew ?_) | (with_reducible refine below_drewN ?_ _) | (with_reducible refine below_via (by with_reducible assumption) ?_ ?_) | go_size))) hn).mono ?_
  rintro e w1 ⟨rfl, hb1⟩
  have hz1 := hb1.size; try simp at hz1
  have P1 := Lib.hid (HPB.out w1 (by repeat' (first | (with_reducible exact Below.refl _ _) | (with_reducible assumption) | (with_reducible refine Below.alloc ?_ ?_ _) | (with_reducible refine Below.setCell ?_ ?_ _) | (with_reducible refine Below.drew ?_) | (with_reducible refine below_drewN ?_ _) | (with_reducible refine below_via (by with_reducible assumption) ?_ ?_) | go_size)))
  rw [hr]
  obtain ⟨⟨_, _, _, _⟩, ⟨_, _, _, _⟩, -, -, -⟩ := P1.out
  go_wp2_with fail
  refine (sIsRaster R q a' n' cp' zq _ (HH'.out.below (by repeat' (first | (with_reducible exact Below.refl _ _) | (with_reducible assumption) | (with_reducible refine Below.alloc ?_ ?_ _) | (with_reducible refine Below.setCell ?_ ?_ _) | (with_reducible refine Below.drew ?_) | (with_reducible refine below_drewN ?_ _) | (with_reducible refine below_via (by with_reducible assumption) ?_ ?_) | go_size))) hn').mono ?_
  rintro e w2 ⟨rfl, hb2⟩
  have hz2 := hb2.size; try simp at hz2
  have P2 := Lib.hid (P1.out.keep (by repeat' (first | (with_reducible exact Below.refl _ _) | (with_reducible assumption) | (with_reducible refine Below.alloc ?_ ?_ _) | (with_reducible refine Below.setCell ?_ ?_ _) | (with_reducible refine Below.drew ?_) | (with_reducible refine below_drewN ?_ _) | (with_reducible refine below_via (by with_reducible assumption) ?_ ?_) | go_size) : Below _ _ w2))
  rw [hq]
  obtain ⟨⟨_, _, _, _⟩, ⟨_, _, _, _⟩, -, -, -⟩ := P2.out
  go_wp2_with fail
  refine (sWithin rows cols y x R q _ _ r1 r2 r3 r4).mono ?_
  rintro e w3 ⟨rfl, hb3⟩
  have hz3 := hb3.size; try simp at hz3
  have P3 := Lib.hid (P2.out.keep (by repeat' (first | (with_reducible exact Below.refl _ _) | (with_reducible assumption) | (with_reducible refine Below.alloc ?_ ?_ _) | (with_reducible refine Below.setCell ?_ ?_ _) | (with_reducible refine Below.drew ?_) | (with_reducible refine below_drewN ?_ _) | (with_reducible refine below_via (by with_reducible assumption) ?_ ?_) | go_size) : Below _ _ w3))
  rw [hw]
  obtain ⟨⟨_, _, _, _⟩, ⟨_, _, _, _⟩, -, -, -⟩ := P3.out
  clear hr hq hw
  go_wp2_with fail
  refine (sPaste rows cols R q y x a a' n n' cp cp' zp zq _ (HH.out.below (by repeat' (first | (with_reducible exact Below.refl _ _) | (with_reducible assumption) | (with_reducible refine Below.alloc ?_ ?_ _) | (with_reducible refine Below.setCell ?_ ?_ _) | (with_reducible refine Below.drew ?_) | (with_reducible refine below_drewN ?_ _) | (with_reducible refine below_via (by with_reducible assumption) ?_ ?_) | go_size))) (HH'.out.below (by repeat' (first | (with_reducible exact Below.refl _ _) | (with_reducible assumption) | (with_reducible refine Below.alloc ?_ ?_ _) | (with_reducible refine Below.setCell ?_ ?_ _) | (with_reducible refine Below.drew ?_) | (with_reducible refine below_drewN ?_ _) | (with_reducible refine below_via (by with_reducible assumption) ?_ ?_) | go_size))) hn (by omega) (by omega) (by omega) (by omega) HNN.out HNQ.out (by omega) (by omega) (by omega) (by omega)).mono ?_
  rintro e w4 ⟨av, cv, rfl, ho, hb4⟩
  have hz4 := hb4.size; try simp at hz4
  have HO := Lib.hid ho
  clear ho
  obtain ⟨-, -, ⟨o2, o3, o4, o5, o6, o7, o8⟩, HB, _⟩ := P3.out.keep (by repeat' (first | (with_reducible exact Below.refl _ _) | (with_reducible assumption) | (with_reducible refine Below.alloc ?_ ?_ _) | (with_reducible refine Below.setCell ?_ ?_ _) | (with_reducible refine Below.drew ?_) | (with_reducible refine below_drewN ?_ _) | (with_reducible refine below_via (by with_reducible assumption) ?_ ?_) | go_size) : Below _ _ w4)
  have hz5 := P3.out.2.2.2.2
  go_wp2
  refine bodyPost_ret (v := .tuple #[.agg #[.int .i64 rows, .int .i64 cols, .slice av (pasteL zp zq q (atP y x cols) R).length cv], .int .i64 0]) (by simp [results, Try.results13, go_sem, o3, o4, o5]) rfl ?_
  exact ⟨av, cv, rfl, own_mono (own_far (own_far (own_far HO.out (by simp; omega) _) (by simp; omega) _) (by simp; omega) _) (by omega), (((HB.setCell (by simp; omega) _).setCell (by simp; omega) _).setCell (by simp; omega) _), by rw [HLEN.out]; omega⟩
end Go.Proofs.Ytdbecdgiafjkfaa
