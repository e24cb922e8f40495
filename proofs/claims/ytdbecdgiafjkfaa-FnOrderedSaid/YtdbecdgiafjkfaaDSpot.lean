/-
  DERIVED. A spot drawn.
-/
import Derived.Test.YtdbecdgiafjkfaaDraw1
import Derived.Test.YtdbecdgiafjkfaaSpot
import Derived.Conc.MuLone
namespace Go.Proofs.Ytdbecdgiafjkfaa
open Go.RowKit
set_option linter.unusedVariables false
theorem grown_far {w a b : World} {row : Option Nat} (h : w.grownBy a row) (hb : Below w.heap.size a b) : w.grownBy b row :=
  ⟨hb.os.trans h.os, hb.tape.trans h.tape, hb.output.trans h.output, Nat.le_trans h.size hb.size, fun i hi hne => (hb.block i hi).trans (h.block i hi hne)⟩
/-- A result's own cell of two numbers: it can be written. -/
def Out2 (w : World) (b : Nat) : Prop := b < w.heap.size ∧ w.cell? ⟨b, 0, none⟩ = some (.int .i64 0) ∧ w.cell? ⟨b, 1, none⟩ = some (.int .i64 0) ∧ w.frozen? ⟨b, 0, none⟩ = false ∧ w.frozen? ⟨b, 1, none⟩ = false
theorem Out2.keep {w w' : World} {b : Nat} (h : Out2 w b) (hb : Below w.heap.size w w') : Out2 w' b :=
  ⟨Nat.lt_of_lt_of_le h.1 hb.size, (hb.cell (p := ⟨b, 0, none⟩) h.1).trans h.2.1, (hb.cell (p := ⟨b, 1, none⟩) h.1).trans h.2.2.1, (hb.frozen (p := ⟨b, 0, none⟩) h.1).trans h.2.2.2.1, (hb.frozen (p := ⟨b, 1, none⟩) h.1).trans h.2.2.2.2⟩
theorem Out2.nxt {w w1 : World} {b g : Nat} (h : Out2 w b) (hg : w.grownBy w1 (some g)) (hb : b ≠ g) : Out2 w1 b :=
  ⟨Nat.lt_of_lt_of_le h.1 hg.size, cell_nxt h.2.1 hg hb, cell_nxt h.2.2.1 hg hb, frozen_nxt h.2.2.2.1 h.1 hg hb, frozen_nxt h.2.2.2.2 h.1 hg hb⟩
theorem Out2.new (w : World) (t : TypeId) : Out2 (w.alloc (.cells #[.int .i64 0, .int .i64 0] t)) w.heap.size := ⟨by simp, by simp, by simp, by simp [go_sem], by simp [go_sem]⟩
def DrawnSpot (w : World) (g : Nat) (e : Ending) (w' : World) : Prop := ∃ x y : Int, e = .returned (.agg #[.int .i64 x, .int .i64 y]) ∧ -4001 ≤ x ∧ x ≤ 4001 ∧ 0 ≤ y ∧ y ≤ 300 ∧ Src w' g ∧ w.grownBy w' (some g)
set_option maxRecDepth 100000 in
set_option maxHeartbeats 4000000 in
theorem dSpot (g : Nat) (w : World) (h : Src w g) : Calls Try.prog 80 #[.pointer (some ⟨g, 0, none⟩)] w (DrawnSpot w g) := by
  have hgb : g < w.heap.size := h.lt
  have hk0 : Below w.heap.size w (w.alloc (.cells #[.int .i64 0, .int .i64 0] 35)) := by repeat' (first | (with_reducible exact Below.refl _ _) | (with_reducible assumption) | (with_reducible refine Below.alloc ?_ ?_ _) | (with_reducible refine Below.setCell ?_ ?_ _) | (with_reducible refine Below.drew ?_) | (with_reducible refine below_drewN ?_ _) | (with_reducible refine below_via (by with_reducible assumption) ?_ ?_) | go_size)
  have HS := Lib.hid (h.keep hk0)
  have HO := Lib.hid (Out2.new w 35)
  have HG := Lib.hid (grown_far (World.grownBy.refl w (some g)) hk0)
  clear h
  go_enter Try.func80, Try.ntmps80
  go_wp2_with fail
  refine (sNext g 30 _ HS.out).mono ?_
  rintro e w1 ⟨x1, rfl, x1a, x1b, -, hs1, hg1⟩
  have HS1 := Lib.hid hs1
  have x1c := x1b (by omega)
  have HO1 := Lib.hid (HO.out.nxt hg1 (by omega))
  have HG1 := Lib.hid (grown_trans' HG.out hg1)
  have hz1 := HG1.out.size
  clear x1b hs1 hg1 HS HO HG hk0
  by_cases h0 : x1 = 0
  · subst h0
    have HOa := Lib.hid (HO1.out.keep ((Below.refl _ _).alloc (Nat.le_refl _) (.cells #[.int .i64 4000, .int .i64 4001, .int .i64 (-4001)] 2)))
    have HSa := Lib.hid (HS1.out.keep ((Below.refl _ _).alloc (Nat.le_refl _) (.cells #[.int .i64 4000, .int .i64 4001, .int .i64 (-4001)] 2)))
    have HGa := Lib.hid (grown_far HG1.out ((Below.refl _ _).alloc (by omega) (.cells #[.int .i64 4000, .int .i64 4001, .int .i64 (-4001)] 2)))
    have HL : Hid (Lits (w1.alloc (.cells #[.int .i64 4000, .int .i64 4001, .int .i64 (-4001)] 2)) w1.heap.size 3 (-4001) 4001) := Lits.new w1 2 [4000, 4001, -4001] (-4001) 4001 (by decide)
    go_wp2_with fail
    refine (sNext g 3 _ HSa.out).mono ?_
    rintro e w2 ⟨x2, rfl, x2a, x2b, -, hs2, hg2⟩
    have x2c := x2b (by omega)
    have HS2 := Lib.hid hs2
    have HL2 := Lib.hid (HL.out.nxt hg2 (by omega))
    have HO2 := Lib.hid (HOa.out.nxt hg2 (by omega))
    have HG2 := Lib.hid (grown_trans' HGa.out hg2)
    clear x2b hs2 hg2 HL HSa HOa HGa
    obtain ⟨q, hq⟩ := Int.eq_ofNat_of_zero_le x2a
    subst hq
    obtain ⟨y, y1, y2, hy⟩ := HL2.out.2 q (by omega)
    obtain ⟨o1, o2, o3, o4, o5⟩ := HO2.out
    have hB : Below (g + 1) w2 w2 := Below.refl _ _
    go_wp2
    (try simp only [Exit.inBlock, Exit.then])
    refine bodyPost_ret (v := .agg #[.int .i64 y, .int .i64 3]) (by simp [results, Try.results80, go_sem, o2, o3]) rfl ?_
    exact ⟨y, 3, rfl, y1, y2, by omega, by omega, HS2.out.kept (by simp) (fun b hb => by rw [Below.block (B := w.heap.size) (w := w2) (by repeat' (first | (with_reducible exact Below.refl _ _) | (with_reducible assumption) | (with_reducible refine Below.alloc ?_ ?_ _) | (with_reducible refine Below.setCell ?_ ?_ _) | (with_reducible refine Below.drew ?_) | (with_reducible refine below_drewN ?_ _) | (with_reducible refine below_via (by with_reducible assumption) ?_ ?_) | go_size)) b (by omega)]), grown_far HG2.out (by repeat' (first | (with_reducible exact Below.refl _ _) | (with_reducible assumption) | (with_reducible refine Below.alloc ?_ ?_ _) | (with_reducible refine Below.setCell ?_ ?_ _) | (with_reducible refine Below.drew ?_) | (with_reducible refine below_drewN ?_ _) | (with_reducible refine below_via (by with_reducible assumption) ?_ ?_) | go_size))⟩
  · have t0 : (x1 == 0) = false := by simpa using h0
    go_wp2_with fail
    refine (sNext g 300 _ HS1.out).mono ?_
    rintro e w2 ⟨x2, rfl, x2a, x2b, -, hs2, hg2⟩
    have x2c := x2b (by omega)
    have HS2 := Lib.hid hs2
    have HO2 := Lib.hid (HO1.out.nxt hg2 (by omega))
    have HG2 := Lib.hid (grown_trans' HG1.out hg2)
    clear x2b hs2 hg2 HS1 HO1 HG1
    go_wp2_with fail
    refine (sNext g 300 _ HS2.out).mono ?_
    rintro e w3 ⟨x3, rfl, x3a, x3b, -, hs3, hg3⟩
    have x3c := x3b (by omega)
    have HS3 := Lib.hid hs3
    have HO3 := Lib.hid (HO2.out.nxt hg3 (by omega))
    have HG3 := Lib.hid (grown_trans' HG2.out hg3)
    clear x3b hs3 hg3 HS2 HO2 HG2
    obtain ⟨o1, o2, o3, o4, o5⟩ := HO3.out
    go_wp2
    (try simp only [Exit.inBlock, Exit.then])
    refine bodyPost_ret (v := .agg #[.int .i64 x2, .int .i64 x3]) (by simp [results, Try.results80, go_sem, o2, o3]) rfl ?_
    exact ⟨x2, x3, rfl, by omega, by omega, by omega, by omega, HS3.out.kept (by simp) (fun b hb => by rw [Below.block (B := w.heap.size) (w := w3) (by repeat' (first | (with_reducible exact Below.refl _ _) | (with_reducible assumption) | (with_reducible refine Below.alloc ?_ ?_ _) | (with_reducible refine Below.setCell ?_ ?_ _) | (with_reducible refine Below.drew ?_) | (with_reducible refine below_drewN ?_ _) | (with_reducible refine below_via (by with_reducible assumption) ?_ ?_) | go_size)) b (by omega)]), grown_far HG3.out (by repeat' (first | (with_reducible exact Below.refl _ _) | (with_reducible assumption) | (with_reducible refine Below.alloc ?_ ?_ _) | (with_reducible refine Below.setCell ?_ ?_ _) | (with_reducible refine Below.drew ?_) | (with_reducible refine below_drewN ?_ _) | (with_reducible refine below_via (by with_reducible assumption) ?_ ?_) | go_size))⟩
end Go.Proofs.Ytdbecdgiafjkfaa
