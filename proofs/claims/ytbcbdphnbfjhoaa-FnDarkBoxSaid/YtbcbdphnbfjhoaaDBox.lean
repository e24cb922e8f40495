/-
  DERIVED. DarkBox: the refusals.
-/
import Derived.Test.YtbcbdphnbfjhoaaDBox0
import Derived.Test.YtbcbdphnbfjhoaaDark
import Derived.Conc.MuLone
import Derived.BigQuiet
namespace Go.Proofs.Ytbcbdphnbfjhoaa
open Go.RowKit
set_option linter.unusedVariables false
def dbOut (r c : Int) (n : Nat) (zs : List Int) : Int × Int × Int × Int × Int × Int × Int × Int × Int :=
  if gridB r c n zs = true then
    let s := boxS zs r.toNat c.toNat n
    if s.2.1 < 0 then (0, 0, 0, 0, 0, 0, 0, 0, 4)
    else if 4000 < 2 * (s.2.2.2 + 1) ∨ 4000 < 2 * (s.2.1 + 1) then (0, 0, 0, 0, 0, 0, 0, 0, 3)
    else (2 * s.2.2.1, 2 * s.1, 2 * (s.2.2.2 + 1), 2 * s.1, 2 * (s.2.2.2 + 1), 2 * (s.2.1 + 1), 2 * s.2.2.1, 2 * (s.2.1 + 1), 0)
  else (0, 0, 0, 0, 0, 0, 0, 0, 1)
theorem dbOut_no {r c : Int} {n : Nat} {zs : List Int} (h : gridB r c n zs = false) : dbOut r c n zs = (0, 0, 0, 0, 0, 0, 0, 0, 1) := by simp [dbOut, h]
theorem dbOut_none {rows cols n : Nat} {zs : List Int} (h : gridB rows cols n zs = true) {t b l r : Int} (hs : boxS zs rows cols n = (t, b, l, r)) (hb : b < 0) : dbOut rows cols n zs = (0, 0, 0, 0, 0, 0, 0, 0, 4) := by simp [dbOut, h, hs, hb]
theorem dbOut_far {rows cols n : Nat} {zs : List Int} (h : gridB rows cols n zs = true) {t b l r : Int} (hs : boxS zs rows cols n = (t, b, l, r)) (hb : ¬ b < 0) (hf : 4000 < 2 * (r + 1) ∨ 4000 < 2 * (b + 1)) : dbOut rows cols n zs = (0, 0, 0, 0, 0, 0, 0, 0, 3) := by simp [dbOut, h, hs, hb, hf]
theorem dbOut_ok {rows cols n : Nat} {zs : List Int} (h : gridB rows cols n zs = true) {t b l r : Int} (hs : boxS zs rows cols n = (t, b, l, r)) (hb : ¬ b < 0) (hf : ¬ (4000 < 2 * (r + 1) ∨ 4000 < 2 * (b + 1))) :
    dbOut rows cols n zs = (2 * l, 2 * t, 2 * (r + 1), 2 * t, 2 * (r + 1), 2 * (b + 1), 2 * l, 2 * (b + 1), 0) := by simp [dbOut, h, hs, hb, hf]
/-- Eight cells of a result. -/
def Out8 (w : World) (b : Nat) : Prop := b < w.heap.size ∧ ∀ i, i < 8 → w.cell? ⟨b, i, none⟩ = some (.int .i64 0) ∧ w.frozen? ⟨b, i, none⟩ = false
theorem Out8.keep {w w' : World} {b : Nat} (h : Out8 w b) (hb : Below w.heap.size w w') : Out8 w' b :=
  ⟨Nat.lt_of_lt_of_le h.1 hb.size, fun i hi => ⟨(hb.cell (p := ⟨b, i, none⟩) h.1).trans (h.2 i hi).1, (hb.frozen (p := ⟨b, i, none⟩) h.1).trans (h.2 i hi).2⟩⟩
theorem Out8.new (w : World) (t : TypeId) : Out8 (w.alloc (.cells #[.int .i64 0, .int .i64 0, .int .i64 0, .int .i64 0, .int .i64 0, .int .i64 0, .int .i64 0, .int .i64 0] t)) w.heap.size := by
  refine ⟨by simp, fun i hi => ?_⟩
  have : i = 0 ∨ i = 1 ∨ i = 2 ∨ i = 3 ∨ i = 4 ∨ i = 5 ∨ i = 6 ∨ i = 7 := by omega
  rcases this with rfl | rfl | rfl | rfl | rfl | rfl | rfl | rfl <;> exact ⟨by simp, by simp [go_sem]⟩
theorem ret_quad {x1 x2 x3 x4 x5 x6 x7 x8 x9 y1 y2 y3 y4 y5 y6 y7 y8 y9 : Int} (h : ((x1, x2, x3, x4, x5, x6, x7, x8, x9) : Int × Int × Int × Int × Int × Int × Int × Int × Int) = (y1, y2, y3, y4, y5, y6, y7, y8, y9)) :
    Ending.returned (.tuple #[.agg #[.int .i64 x1, .int .i64 x2, .int .i64 x3, .int .i64 x4, .int .i64 x5, .int .i64 x6, .int .i64 x7, .int .i64 x8], .int .i64 x9]) = .returned (.tuple #[.agg #[.int .i64 y1, .int .i64 y2, .int .i64 y3, .int .i64 y4, .int .i64 y5, .int .i64 y6, .int .i64 y7, .int .i64 y8], .int .i64 y9]) := by
  simp only [Prod.mk.injEq] at h
  obtain ⟨rfl, rfl, rfl, rfl, rfl, rfl, rfl, rfl, rfl⟩ := h
  rfl
set_option maxHeartbeats 4000000 in
theorem sDarkBox_no (r c : Int) (a : Option Addr) (n cp : Nat) (zs : List Int) (w : World) (h : Rd w a n zs) (hn : n ≤ 1048576) (hr : gridB r c n zs = false) (a1 a2 a3 a4 a5 a6 a7 a8 code : Int) (hd : dbOut r c n zs = (a1, a2, a3, a4, a5, a6, a7, a8, code)) :
    Calls Try.prog 30 #[.agg #[.int .i64 r, .int .i64 c, .slice a n cp]] w fun e w' => e = .returned (.tuple #[.agg #[.int .i64 a1, .int .i64 a2, .int .i64 a3, .int .i64 a4, .int .i64 a5, .int .i64 a6, .int .i64 a7, .int .i64 a8], .int .i64 code]) ∧ Below w.heap.size w w' := by
  have HH := Lib.hid h
  have HL := Lib.hid h.1
  clear h
  have HD := Lib.hid hd
  clear hd
  have HE := Lib.hid (dbOut_no hr)
  have hB3 := Lib.hid (Box3.new w 28 (.int .i64 r) (.int .i64 c) (.slice a n cp))
  have bO := Lib.hid (Out8.new (w.alloc (.cells #[.int .i64 r, .int .i64 c, .slice a n cp] 28)) 44)
  go_enter Try.func30, Try.ntmps30
  go_wp2_with fail
  refine (sIsGrid r c a n cp zs _ (HH.out.below (by repeat' (first | (with_reducible exact Below.refl _ _) | (with_reducible assumption) | (with_reducible refine Below.alloc ?_ ?_ _) | (with_reducible refine Below.setCell ?_ ?_ _) | (with_reducible refine Below.drew ?_) | (with_reducible refine below_drewN ?_ _) | (with_reducible refine below_via (by with_reducible assumption) ?_ ?_) | go_size))) hn).mono ?_
  rintro e w1 ⟨rfl, hb1⟩
  have hz1 := hb1.size; try simp at hz1
  have o1 := bO.out.keep (by repeat' (first | (with_reducible exact Below.refl _ _) | (with_reducible assumption) | (with_reducible refine Below.alloc ?_ ?_ _) | (with_reducible refine Below.setCell ?_ ?_ _) | (with_reducible refine Below.drew ?_) | (with_reducible refine below_drewN ?_ _) | (with_reducible refine below_via (by with_reducible assumption) ?_ ?_) | go_size) : Below _ _ w1)
  simp only [World.size_alloc] at o1
  obtain ⟨o0, o8⟩ := o1
  obtain ⟨c0, f0⟩ := o8 0 (by decide)
  obtain ⟨c1, f1⟩ := o8 1 (by decide)
  obtain ⟨c2, f2⟩ := o8 2 (by decide)
  obtain ⟨c3, f3⟩ := o8 3 (by decide)
  obtain ⟨c4, f4⟩ := o8 4 (by decide)
  obtain ⟨c5, f5⟩ := o8 5 (by decide)
  obtain ⟨c6, f6⟩ := o8 6 (by decide)
  obtain ⟨c7, f7⟩ := o8 7 (by decide)
  clear o8
  rw [hr]
  go_wp2
  refine bodyPost_ret (v := .tuple #[.agg #[.int .i64 0, .int .i64 0, .int .i64 0, .int .i64 0, .int .i64 0, .int .i64 0, .int .i64 0, .int .i64 0], .int .i64 1]) (by simp [results, Try.results30, go_sem, c0, c1, c2, c3, c4, c5, c6, c7]) rfl ?_
  exact ⟨ret_quad (HE.out.symm.trans HD.out), by repeat' (first | (with_reducible exact Below.refl _ _) | (with_reducible assumption) | (with_reducible refine Below.alloc ?_ ?_ _) | (with_reducible refine Below.setCell ?_ ?_ _) | (with_reducible refine Below.drew ?_) | (with_reducible refine below_drewN ?_ _) | (with_reducible refine below_via (by with_reducible assumption) ?_ ?_) | go_size)⟩
set_option maxHeartbeats 4000000 in
theorem iDarkBox_no (r c : Int) (a : Option Addr) (n cp : Nat) (zs : List Int) (w : World) (h : Rd w a n zs) (hn : n ≤ 1048576) (hr : gridB r c n zs = false) (a1 a2 a3 a4 a5 a6 a7 a8 code : Int) (hd : dbOut r c n zs = (a1, a2, a3, a4, a5, a6, a7, a8, code)) :
    Calls Try.prog 31 #[.agg #[.int .i64 r, .int .i64 c, .slice a n cp]] w fun e w' => e = .returned (.tuple #[.agg #[.int .i64 a1, .int .i64 a2, .int .i64 a3, .int .i64 a4, .int .i64 a5, .int .i64 a6, .int .i64 a7, .int .i64 a8], .int .i64 code]) ∧ Below w.heap.size w w' := by
  have HH := Lib.hid h
  have HL := Lib.hid h.1
  clear h
  have HD := Lib.hid hd
  clear hd
  have HE := Lib.hid (dbOut_no hr)
  have hB3 := Lib.hid (Box3.new w 28 (.int .i64 r) (.int .i64 c) (.slice a n cp))
  have bO := Lib.hid (Out8.new (w.alloc (.cells #[.int .i64 r, .int .i64 c, .slice a n cp] 28)) 44)
  go_enter Try.func31, Try.ntmps31
  go_wp2_with fail
  refine (iIsGrid r c a n cp zs _ (HH.out.below (by repeat' (first | (with_reducible exact Below.refl _ _) | (with_reducible assumption) | (with_reducible refine Below.alloc ?_ ?_ _) | (with_reducible refine Below.setCell ?_ ?_ _) | (with_reducible refine Below.drew ?_) | (with_reducible refine below_drewN ?_ _) | (with_reducible refine below_via (by with_reducible assumption) ?_ ?_) | go_size))) hn).mono ?_
  rintro e w1 ⟨rfl, hb1⟩
  have hz1 := hb1.size; try simp at hz1
  have o1 := bO.out.keep (by repeat' (first | (with_reducible exact Below.refl _ _) | (with_reducible assumption) | (with_reducible refine Below.alloc ?_ ?_ _) | (with_reducible refine Below.setCell ?_ ?_ _) | (with_reducible refine Below.drew ?_) | (with_reducible refine below_drewN ?_ _) | (with_reducible refine below_via (by with_reducible assumption) ?_ ?_) | go_size) : Below _ _ w1)
  simp only [World.size_alloc] at o1
  obtain ⟨o0, o8⟩ := o1
  obtain ⟨c0, f0⟩ := o8 0 (by decide)
  obtain ⟨c1, f1⟩ := o8 1 (by decide)
  obtain ⟨c2, f2⟩ := o8 2 (by decide)
  obtain ⟨c3, f3⟩ := o8 3 (by decide)
  obtain ⟨c4, f4⟩ := o8 4 (by decide)
  obtain ⟨c5, f5⟩ := o8 5 (by decide)
  obtain ⟨c6, f6⟩ := o8 6 (by decide)
  obtain ⟨c7, f7⟩ := o8 7 (by decide)
  clear o8
  rw [hr]
  go_wp2
  refine bodyPost_ret (v := .tuple #[.agg #[.int .i64 0, .int .i64 0, .int .i64 0, .int .i64 0, .int .i64 0, .int .i64 0, .int .i64 0, .int .i64 0], .int .i64 1]) (by simp [results, Try.results31, go_sem, c0, c1, c2, c3, c4, c5, c6, c7]) rfl ?_
  exact ⟨ret_quad (HE.out.symm.trans HD.out), by repeat' (first | (with_reducible exact Below.refl _ _) | (with_reducible assumption) | (with_reducible refine Below.alloc ?_ ?_ _) | (with_reducible refine Below.setCell ?_ ?_ _) | (with_reducible refine Below.drew ?_) | (with_reducible refine below_drewN ?_ _) | (with_reducible refine below_via (by with_reducible assumption) ?_ ?_) | go_size)⟩
end Go.Proofs.Ytbcbdphnbfjhoaa
