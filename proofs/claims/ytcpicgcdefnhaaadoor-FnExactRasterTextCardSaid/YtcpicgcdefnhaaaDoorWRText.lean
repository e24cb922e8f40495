/-
  DERIVED. The walk of FnExactRasterText.
-/
import Derived.Test.YtcpicgcdefnhaaaDoorRTi
namespace Go.Proofs.YtcpicgcdefnhaaaDoor
open Go.RowKit
set_option linter.unusedVariables false
set_option maxRecDepth 10000 in
set_option maxHeartbeats 4000000 in
theorem walk_FnExactRasterText (aP_Rows : Int) (aP_Cols : Int) (aP_Pixels_a : Option Addr) (aP_Pixels_n aP_Pixels_c : Nat) (aP_Pixels_z : List Int) (w : World) (f_aP_Rows : (Lit.int .i64 aP_Rows).wf = true) (f_aP_Cols : (Lit.int .i64 aP_Cols).wf = true) (h_aP_Pixels : Ints .i64 w aP_Pixels_a aP_Pixels_n aP_Pixels_c aP_Pixels_z) (h_pow : PowB w.heap.size w) :
    Calls Tryd.prog 4 #[.agg #[.int .i64 aP_Rows, .int .i64 aP_Cols, .slice aP_Pixels_a aP_Pixels_n aP_Pixels_c]] w fun e w' => e = .returned (.bool true) ∧ Below w.heap.size w w' := by
  have hm := h_aP_Pixels.max
  have HR := Lib.hid h_aP_Pixels.rd
  have hl := Lib.hid h_aP_Pixels.1
  have HPw := Lib.hid h_pow
  clear h_aP_Pixels h_pow
  rcases Int.lt_or_le (1048576 : Int) aP_Pixels_n with hbig | hsm
  · have HS := szV_no hbig
    go_enter Tryd.func4, Tryd.ntmps4
    go_wp2_with fail
    refine (szRast _ _ _ _ _ _ hm).mono ?_
    rintro e w1 ⟨rfl, hb1⟩
    have hz1 := hb1.size; try simp at hz1
    rw [HS]
    go_wp2
    go_returns
    exact ⟨rfl, by repeat' (first | (with_reducible exact Below.refl _ _) | (with_reducible assumption) | (with_reducible refine Below.alloc ?_ ?_ _) | (with_reducible refine Below.setCell ?_ ?_ _) | (with_reducible refine Below.drew ?_) | (with_reducible refine below_drewN ?_ _) | (with_reducible refine below_via (by with_reducible assumption) ?_ ?_) | go_size)⟩
  · have HS := szV_yes hsm
    have hn : aP_Pixels_n ≤ 1048576 := by omega
    have bP := Lib.hid (Box3.new w 30 (.int .i64 aP_Rows) (.int .i64 aP_Cols) (.slice aP_Pixels_a aP_Pixels_n aP_Pixels_c))
    go_enter Tryd.func4, Tryd.ntmps4
    go_wp2_with fail
    refine (szRast _ _ _ _ _ _ hm).mono ?_
    rintro e w1 ⟨rfl, hb1⟩
    have hz1 := hb1.size; try simp at hz1
    obtain ⟨_, _, _, _⟩ := (bP.out.keep (by repeat' (first | (with_reducible exact Below.refl _ _) | (with_reducible assumption) | (with_reducible refine Below.alloc ?_ ?_ _) | (with_reducible refine Below.setCell ?_ ?_ _) | (with_reducible refine Below.drew ?_) | (with_reducible refine below_drewN ?_ _) | (with_reducible refine below_via (by with_reducible assumption) ?_ ?_) | go_size)) : Box3 w1 _ _ _ _)
    rw [HS]
    clear HS
    go_wp2_with fail
    refine (toRast aP_Rows aP_Cols aP_Pixels_a aP_Pixels_n aP_Pixels_c aP_Pixels_z _ (HR.out.below (by repeat' (first | (with_reducible exact Below.refl _ _) | (with_reducible assumption) | (with_reducible refine Below.alloc ?_ ?_ _) | (with_reducible refine Below.setCell ?_ ?_ _) | (with_reducible refine Below.drew ?_) | (with_reducible refine below_drewN ?_ _) | (with_reducible refine below_via (by with_reducible assumption) ?_ ?_) | go_size))) hn).mono ?_
    rintro e w2 ⟨g2, rfl, hg2, hk2, hb2⟩
    have hz2 := hb2.size; try simp at hz2
    obtain ⟨_, _, _, _⟩ := (bP.out.keep (by repeat' (first | (with_reducible exact Below.refl _ _) | (with_reducible assumption) | (with_reducible refine Below.alloc ?_ ?_ _) | (with_reducible refine Below.setCell ?_ ?_ _) | (with_reducible refine Below.drew ?_) | (with_reducible refine below_drewN ?_ _) | (with_reducible refine below_via (by with_reducible assumption) ?_ ?_) | go_size)) : Box3 w2 _ _ _ _)
    try simp at hg2
    go_wp2_with fail
    refine (sRText aP_Rows aP_Cols _ aP_Pixels_n aP_Pixels_n aP_Pixels_z  _ (hk2.rd hl.out) hn).mono ?_
    rintro e w3 ⟨rfl, hb3⟩
    have hz3 := hb3.size; try simp at hz3
    obtain ⟨_, _, _, _⟩ := (bP.out.keep (by repeat' (first | (with_reducible exact Below.refl _ _) | (with_reducible assumption) | (with_reducible refine Below.alloc ?_ ?_ _) | (with_reducible refine Below.setCell ?_ ?_ _) | (with_reducible refine Below.drew ?_) | (with_reducible refine below_drewN ?_ _) | (with_reducible refine below_via (by with_reducible assumption) ?_ ?_) | go_size)) : Box3 w3 _ _ _ _)
    go_wp2_with fail
    refine (toRast aP_Rows aP_Cols aP_Pixels_a aP_Pixels_n aP_Pixels_c aP_Pixels_z _ (HR.out.below (by repeat' (first | (with_reducible exact Below.refl _ _) | (with_reducible assumption) | (with_reducible refine Below.alloc ?_ ?_ _) | (with_reducible refine Below.setCell ?_ ?_ _) | (with_reducible refine Below.drew ?_) | (with_reducible refine below_drewN ?_ _) | (with_reducible refine below_via (by with_reducible assumption) ?_ ?_) | go_size))) hn).mono ?_
    rintro e w4 ⟨g4, rfl, hg4, hk4, hb4⟩
    have hz4 := hb4.size; try simp at hz4
    obtain ⟨_, _, _, _⟩ := (bP.out.keep (by repeat' (first | (with_reducible exact Below.refl _ _) | (with_reducible assumption) | (with_reducible refine Below.alloc ?_ ?_ _) | (with_reducible refine Below.setCell ?_ ?_ _) | (with_reducible refine Below.drew ?_) | (with_reducible refine below_drewN ?_ _) | (with_reducible refine below_via (by with_reducible assumption) ?_ ?_) | go_size)) : Box3 w4 _ _ _ _)
    try simp at hg4
    go_wp2_with fail
    have bX := Lib.hid (Box3.new w4 24 (.int .i64 aP_Rows) (.int .i64 aP_Cols) (.slice (some ⟨g4, 0, none⟩) aP_Pixels_n aP_Pixels_n))
    refine (iRText aP_Rows aP_Cols _ aP_Pixels_n aP_Pixels_n aP_Pixels_z  _ ((hk4.keep (by repeat' (first | (with_reducible exact Below.refl _ _) | (with_reducible assumption) | (with_reducible refine Below.alloc ?_ ?_ _) | (with_reducible refine Below.setCell ?_ ?_ _) | (with_reducible refine Below.drew ?_) | (with_reducible refine below_drewN ?_ _) | (with_reducible refine below_via (by with_reducible assumption) ?_ ?_) | go_size))).rd hl.out) hn (HPw.out.on (by repeat' (first | (with_reducible exact Below.refl _ _) | (with_reducible assumption) | (with_reducible refine Below.alloc ?_ ?_ _) | (with_reducible refine Below.setCell ?_ ?_ _) | (with_reducible refine Below.drew ?_) | (with_reducible refine below_drewN ?_ _) | (with_reducible refine below_via (by with_reducible assumption) ?_ ?_) | go_size)) (by simp; omega))).mono ?_
    rintro e w5 ⟨rfl, hb5⟩
    have hz5 := hb5.size; try simp at hz5
    obtain ⟨_, _, _, _⟩ := (bP.out.keep (by repeat' (first | (with_reducible exact Below.refl _ _) | (with_reducible assumption) | (with_reducible refine Below.alloc ?_ ?_ _) | (with_reducible refine Below.setCell ?_ ?_ _) | (with_reducible refine Below.drew ?_) | (with_reducible refine below_drewN ?_ _) | (with_reducible refine below_via (by with_reducible assumption) ?_ ?_) | go_size)) : Box3 w5 _ _ _ _)
    obtain ⟨_, _, _, _⟩ := (bX.out.keep (by repeat' (first | (with_reducible exact Below.refl _ _) | (with_reducible assumption) | (with_reducible refine Below.alloc ?_ ?_ _) | (with_reducible refine Below.setCell ?_ ?_ _) | (with_reducible refine Below.drew ?_) | (with_reducible refine below_drewN ?_ _) | (with_reducible refine below_via (by with_reducible assumption) ?_ ?_) | go_size)) : Box3 w5 _ _ _ _)
    have HS5 : Hid (∀ w', Below w5.heap.size w5 w' → Below w5.heap.size w5 w' ∧ w5.heap.size ≤ w'.heap.size ∧ w.heap.size < w'.heap.size ∧ w4.heap.size < w'.heap.size ∧ w'.cell? ⟨w.heap.size, 0, none⟩ = some (.int .i64 aP_Rows) ∧ w'.cell? ⟨w.heap.size, 1, none⟩ = some (.int .i64 aP_Cols) ∧ w'.cell? ⟨w.heap.size, 2, none⟩ = some (.slice aP_Pixels_a aP_Pixels_n aP_Pixels_c) ∧ w'.cell? ⟨w4.heap.size, 0, none⟩ = some (.int .i64 aP_Rows) ∧ w'.cell? ⟨w4.heap.size, 1, none⟩ = some (.int .i64 aP_Cols) ∧ w'.cell? ⟨w4.heap.size, 2, none⟩ = some (.slice (some ⟨g4, 0, none⟩) aP_Pixels_n aP_Pixels_n)) := fun w' h => ⟨h, h.size, Nat.lt_of_lt_of_le (by assumption) h.size, Nat.lt_of_lt_of_le (by assumption) h.size, (h.cell (p := ⟨_, _, none⟩) (by assumption)).trans (by assumption), (h.cell (p := ⟨_, _, none⟩) (by assumption)).trans (by assumption), (h.cell (p := ⟨_, _, none⟩) (by assumption)).trans (by assumption), (h.cell (p := ⟨_, _, none⟩) (by assumption)).trans (by assumption), (h.cell (p := ⟨_, _, none⟩) (by assumption)).trans (by assumption), (h.cell (p := ⟨_, _, none⟩) (by assumption)).trans (by assumption)⟩
    go_wp2_with fail
    go_region_held3 (fun w' => Below w5.heap.size w5 w' ∧ w5.heap.size ≤ w'.heap.size ∧ w.heap.size < w'.heap.size ∧ w4.heap.size < w'.heap.size ∧ w'.cell? ⟨w.heap.size, 0, none⟩ = some (.int .i64 aP_Rows) ∧ w'.cell? ⟨w.heap.size, 1, none⟩ = some (.int .i64 aP_Cols) ∧ w'.cell? ⟨w.heap.size, 2, none⟩ = some (.slice aP_Pixels_a aP_Pixels_n aP_Pixels_c) ∧ w'.cell? ⟨w4.heap.size, 0, none⟩ = some (.int .i64 aP_Rows) ∧ w'.cell? ⟨w4.heap.size, 1, none⟩ = some (.int .i64 aP_Cols) ∧ w'.cell? ⟨w4.heap.size, 2, none⟩ = some (.slice (some ⟨g4, 0, none⟩) aP_Pixels_n aP_Pixels_n)) (exact HS5.out _ (by repeat' (first | (with_reducible exact Below.refl _ _) | (with_reducible assumption) | (with_reducible refine Below.alloc ?_ ?_ _) | (with_reducible refine Below.setCell ?_ ?_ _) | (with_reducible refine Below.drew ?_) | (with_reducible refine below_drewN ?_ _) | (with_reducible refine below_via (by with_reducible assumption) ?_ ?_) | go_size))) (first | (go_at_call 13; refine (toRast aP_Rows aP_Cols aP_Pixels_a aP_Pixels_n aP_Pixels_c aP_Pixels_z _ (HR.out.below (by repeat' (first | (with_reducible exact Below.refl _ _) | (with_reducible assumption) | (with_reducible refine Below.alloc ?_ ?_ _) | (with_reducible refine Below.setCell ?_ ?_ _) | (with_reducible refine Below.drew ?_) | (with_reducible refine below_drewN ?_ _) | (with_reducible refine below_via (by with_reducible assumption) ?_ ?_) | go_size))) hn).mono ?_; rintro e w' ⟨gq, rfl, hgq, hkq, hbq⟩; have hzq := hbq.size; (try simp at hzq)) | (go_at_call 8; refine (eqRastS aP_Rows aP_Cols _ _ _ _ _ _ aP_Pixels_z _ ((hk4.keep (by repeat' (first | (with_reducible exact Below.refl _ _) | (with_reducible assumption) | (with_reducible refine Below.alloc ?_ ?_ _) | (with_reducible refine Below.setCell ?_ ?_ _) | (with_reducible refine Below.drew ?_) | (with_reducible refine below_drewN ?_ _) | (with_reducible refine below_via (by with_reducible assumption) ?_ ?_) | go_size))).rd hl.out) (Blk.rd (by assumption) hl.out) hn hn).mono ?_; rintro e w' ⟨rfl, hbr⟩; have hzr := hbr.size; (try simp at hzr)))
    go_wp2
    go_returns
    exact ⟨rfl, by repeat' (first | (with_reducible exact Below.refl _ _) | (with_reducible assumption) | (with_reducible refine Below.alloc ?_ ?_ _) | (with_reducible refine Below.setCell ?_ ?_ _) | (with_reducible refine Below.drew ?_) | (with_reducible refine below_drewN ?_ _) | (with_reducible refine below_via (by with_reducible assumption) ?_ ?_) | go_size)⟩
end Go.Proofs.YtcpicgcdefnhaaaDoor
