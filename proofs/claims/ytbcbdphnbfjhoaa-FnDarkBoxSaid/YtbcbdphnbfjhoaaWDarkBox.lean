/-
  DERIVED. The walk of FnExactDarkBox.
-/
import Derived.Test.YtbcbdphnbfjhoaaDBoxI2
import Derived.Test.YtbcbdphnbfjhoaaDBoxS
import Derived.Test.YtbcbdphnbfjhoaaQEq
import Derived.Conc.MuLone
import Derived.BigQuiet
namespace Go.Proofs.Ytbcbdphnbfjhoaa
open Go.RowKit
set_option linter.unusedVariables false
theorem sDarkBox (r c : Int) (a : Option Addr) (n cp : Nat) (zs : List Int) (w : World) (h : Rd w a n zs) (hn : n ≤ 1048576) (a1 a2 a3 a4 a5 a6 a7 a8 code : Int) (hd : dbOut r c n zs = (a1, a2, a3, a4, a5, a6, a7, a8, code)) :
    Calls Try.prog 30 #[.agg #[.int .i64 r, .int .i64 c, .slice a n cp]] w fun e w' => e = .returned (.tuple #[.agg #[.int .i64 a1, .int .i64 a2, .int .i64 a3, .int .i64 a4, .int .i64 a5, .int .i64 a6, .int .i64 a7, .int .i64 a8], .int .i64 code]) ∧ Below w.heap.size w w' := by
  cases hr : gridB r c n zs
  · exact sDarkBox_no r c a n cp zs w h hn hr a1 a2 a3 a4 a5 a6 a7 a8 code hd
  · exact sDarkBox_ok r c a n cp zs w h hn hr a1 a2 a3 a4 a5 a6 a7 a8 code hd
theorem iDarkBox (r c : Int) (a : Option Addr) (n cp : Nat) (zs : List Int) (w : World) (h : Rd w a n zs) (hn : n ≤ 1048576) (a1 a2 a3 a4 a5 a6 a7 a8 code : Int) (hd : dbOut r c n zs = (a1, a2, a3, a4, a5, a6, a7, a8, code)) :
    Calls Try.prog 31 #[.agg #[.int .i64 r, .int .i64 c, .slice a n cp]] w fun e w' => e = .returned (.tuple #[.agg #[.int .i64 a1, .int .i64 a2, .int .i64 a3, .int .i64 a4, .int .i64 a5, .int .i64 a6, .int .i64 a7, .int .i64 a8], .int .i64 code]) ∧ Below w.heap.size w w' := by
  cases hr : gridB r c n zs
  · exact iDarkBox_no r c a n cp zs w h hn hr a1 a2 a3 a4 a5 a6 a7 a8 code hd
  · obtain ⟨t, b, l, q, hs⟩ : ∃ t b l q, boxS zs r.toNat c.toNat n = (t, b, l, q) := ⟨_, _, _, _, rfl⟩
    by_cases hb : b < 0
    · exact iDarkBox_none r c a n cp zs w h hn hr t b l q hs hb a1 a2 a3 a4 a5 a6 a7 a8 code hd
    · by_cases hf : 4000 < 2 * (q + 1) ∨ 4000 < 2 * (b + 1)
      · exact iDarkBox_far r c a n cp zs w h hn hr t b l q hs hb hf a1 a2 a3 a4 a5 a6 a7 a8 code hd
      · exact iDarkBox_ok r c a n cp zs w h hn hr t b l q hs hb hf a1 a2 a3 a4 a5 a6 a7 a8 code hd
set_option maxRecDepth 10000 in
set_option maxHeartbeats 4000000 in
theorem walk_FnExactDarkBox (aG_Rows : Int) (aG_Cols : Int) (aG_Cells_a : Option Addr) (aG_Cells_n aG_Cells_c : Nat) (aG_Cells_z : List Int) (w : World) (f_aG_Rows : (Lit.int .i64 aG_Rows).wf = true) (f_aG_Cols : (Lit.int .i64 aG_Cols).wf = true) (h_aG_Cells : Ints .i64 w aG_Cells_a aG_Cells_n aG_Cells_c aG_Cells_z) :
    Calls Try.prog 6 #[.agg #[.int .i64 aG_Rows, .int .i64 aG_Cols, .slice aG_Cells_a aG_Cells_n aG_Cells_c]] w fun e w' => e = .returned (.bool true) ∧ Below w.heap.size w w' := by
  have hm := h_aG_Cells.max
  have HR := Lib.hid h_aG_Cells.rd
  obtain ⟨a1, a2, a3, a4, a5, a6, a7, a8, code, hd⟩ : ∃ a1 a2 a3 a4 a5 a6 a7 a8 code, dbOut aG_Rows aG_Cols aG_Cells_n aG_Cells_z = (a1, a2, a3, a4, a5, a6, a7, a8, code) := ⟨_, _, _, _, _, _, _, _, _, rfl⟩
  have HD := Lib.hid hd
  clear hd
  have hl := Lib.hid h_aG_Cells.1
  clear h_aG_Cells
  rcases Int.lt_or_le (1048576 : Int) aG_Cells_n with hbig | hsm
  · have HS := szV_no hbig
    go_enter Try.func6, Try.ntmps6
    go_wp2_with fail
    refine (szGrd _ _ _ _ _ _ hm).mono ?_
    rintro e w1 ⟨rfl, hb1⟩
    have hz1 := hb1.size; try simp at hz1
    rw [HS]
    go_wp2
    go_returns
    exact ⟨rfl, by repeat' (first | (with_reducible exact Below.refl _ _) | (with_reducible assumption) | (with_reducible refine Below.alloc ?_ ?_ _) | (with_reducible refine Below.setCell ?_ ?_ _) | (with_reducible refine Below.drew ?_) | (with_reducible refine below_drewN ?_ _) | (with_reducible refine below_via (by with_reducible assumption) ?_ ?_) | go_size)⟩
  · have HS := szV_yes hsm
    have hn : aG_Cells_n ≤ 1048576 := by omega
    have bP := Lib.hid (Box3.new w 24 (.int .i64 aG_Rows) (.int .i64 aG_Cols) (.slice aG_Cells_a aG_Cells_n aG_Cells_c))
    go_enter Try.func6, Try.ntmps6
    go_wp2_with fail
    refine (szGrd _ _ _ _ _ _ hm).mono ?_
    rintro e w1 ⟨rfl, hb1⟩
    have hz1 := hb1.size; try simp at hz1
    obtain ⟨_, _, _, _⟩ := (bP.out.keep (by repeat' (first | (with_reducible exact Below.refl _ _) | (with_reducible assumption) | (with_reducible refine Below.alloc ?_ ?_ _) | (with_reducible refine Below.setCell ?_ ?_ _) | (with_reducible refine Below.drew ?_) | (with_reducible refine below_drewN ?_ _) | (with_reducible refine below_via (by with_reducible assumption) ?_ ?_) | go_size)) : Box3 w1 _ _ _ _)
    rw [HS]
    clear HS
    go_wp2_with fail
    refine (toGrd aG_Rows aG_Cols aG_Cells_a aG_Cells_n aG_Cells_c aG_Cells_z _ (HR.out.below (by repeat' (first | (with_reducible exact Below.refl _ _) | (with_reducible assumption) | (with_reducible refine Below.alloc ?_ ?_ _) | (with_reducible refine Below.setCell ?_ ?_ _) | (with_reducible refine Below.drew ?_) | (with_reducible refine below_drewN ?_ _) | (with_reducible refine below_via (by with_reducible assumption) ?_ ?_) | go_size))) hn).mono ?_
    rintro e w2 ⟨g2, rfl, hg2, hk2, hb2⟩
    have hz2 := hb2.size; try simp at hz2
    obtain ⟨_, _, _, _⟩ := (bP.out.keep (by repeat' (first | (with_reducible exact Below.refl _ _) | (with_reducible assumption) | (with_reducible refine Below.alloc ?_ ?_ _) | (with_reducible refine Below.setCell ?_ ?_ _) | (with_reducible refine Below.drew ?_) | (with_reducible refine below_drewN ?_ _) | (with_reducible refine below_via (by with_reducible assumption) ?_ ?_) | go_size)) : Box3 w2 _ _ _ _)
    try simp at hg2
    go_wp2_with fail
    refine (sDarkBox aG_Rows aG_Cols _ aG_Cells_n aG_Cells_n aG_Cells_z _ (hk2.rd hl.out) hn a1 a2 a3 a4 a5 a6 a7 a8 code HD.out).mono ?_
    rintro e w3 ⟨rfl, hb3⟩
    have hz3 := hb3.size; try simp at hz3
    obtain ⟨_, _, _, _⟩ := (bP.out.keep (by repeat' (first | (with_reducible exact Below.refl _ _) | (with_reducible assumption) | (with_reducible refine Below.alloc ?_ ?_ _) | (with_reducible refine Below.setCell ?_ ?_ _) | (with_reducible refine Below.drew ?_) | (with_reducible refine below_drewN ?_ _) | (with_reducible refine below_via (by with_reducible assumption) ?_ ?_) | go_size)) : Box3 w3 _ _ _ _)
    have bW := Lib.hid (Q8.new w3 44 a1 a2 a3 a4 a5 a6 a7 a8)
    go_wp2_with fail
    refine (toGrd aG_Rows aG_Cols aG_Cells_a aG_Cells_n aG_Cells_c aG_Cells_z _ (HR.out.below (by repeat' (first | (with_reducible exact Below.refl _ _) | (with_reducible assumption) | (with_reducible refine Below.alloc ?_ ?_ _) | (with_reducible refine Below.setCell ?_ ?_ _) | (with_reducible refine Below.drew ?_) | (with_reducible refine below_drewN ?_ _) | (with_reducible refine below_via (by with_reducible assumption) ?_ ?_) | go_size))) hn).mono ?_
    rintro e w4 ⟨g4, rfl, hg4, hk4, hb4⟩
    have hz4 := hb4.size; try simp at hz4
    obtain ⟨_, _, _, _⟩ := (bP.out.keep (by repeat' (first | (with_reducible exact Below.refl _ _) | (with_reducible assumption) | (with_reducible refine Below.alloc ?_ ?_ _) | (with_reducible refine Below.setCell ?_ ?_ _) | (with_reducible refine Below.drew ?_) | (with_reducible refine below_drewN ?_ _) | (with_reducible refine below_via (by with_reducible assumption) ?_ ?_) | go_size)) : Box3 w4 _ _ _ _)
    try simp at hg4
    go_wp2_with fail
    have bX := Lib.hid (Box3.new w4 28 (.int .i64 aG_Rows) (.int .i64 aG_Cols) (.slice (some ⟨g4, 0, none⟩) aG_Cells_n aG_Cells_n))
    refine (iDarkBox aG_Rows aG_Cols _ aG_Cells_n aG_Cells_n aG_Cells_z _ ((hk4.keep (by repeat' (first | (with_reducible exact Below.refl _ _) | (with_reducible assumption) | (with_reducible refine Below.alloc ?_ ?_ _) | (with_reducible refine Below.setCell ?_ ?_ _) | (with_reducible refine Below.drew ?_) | (with_reducible refine below_drewN ?_ _) | (with_reducible refine below_via (by with_reducible assumption) ?_ ?_) | go_size))).rd hl.out) hn a1 a2 a3 a4 a5 a6 a7 a8 code HD.out).mono ?_
    rintro e w5 ⟨rfl, hb5⟩
    have hz5 := hb5.size; try simp at hz5
    obtain ⟨_, _, _, _⟩ := (bP.out.keep (by repeat' (first | (with_reducible exact Below.refl _ _) | (with_reducible assumption) | (with_reducible refine Below.alloc ?_ ?_ _) | (with_reducible refine Below.setCell ?_ ?_ _) | (with_reducible refine Below.drew ?_) | (with_reducible refine below_drewN ?_ _) | (with_reducible refine below_via (by with_reducible assumption) ?_ ?_) | go_size)) : Box3 w5 _ _ _ _)
    obtain ⟨_, _, _, _⟩ := (bX.out.keep (by repeat' (first | (with_reducible exact Below.refl _ _) | (with_reducible assumption) | (with_reducible refine Below.alloc ?_ ?_ _) | (with_reducible refine Below.setCell ?_ ?_ _) | (with_reducible refine Below.drew ?_) | (with_reducible refine below_drewN ?_ _) | (with_reducible refine below_via (by with_reducible assumption) ?_ ?_) | go_size)) : Box3 w5 _ _ _ _)
    have bG := Lib.hid (Q8.new w5 44 a1 a2 a3 a4 a5 a6 a7 a8)
    go_wp2_with (first | ((with_reducible refine ld_quad ?_ (.tmp 7) ?_ w5.heap.size ?_ [.int .i64 a1, .int .i64 a2, .int .i64 a3, .int .i64 a4, .int .i64 a5, .int .i64 a6, .int .i64 a7, .int .i64 a8] ?_ ?_ ?_); exact rfl; exact rfl; exact rfl; exact rfl; exact (bG.out.keep (by repeat' (first | (with_reducible exact Below.refl _ _) | (with_reducible assumption) | (with_reducible refine Below.alloc ?_ ?_ _) | (with_reducible refine Below.setCell ?_ ?_ _) | (with_reducible refine Below.drew ?_) | (with_reducible refine below_drewN ?_ _) | (with_reducible refine below_via (by with_reducible assumption) ?_ ?_) | go_size))).2) | ((with_reducible refine ld_quad ?_ (.tmp 4) ?_ w3.heap.size ?_ [.int .i64 a1, .int .i64 a2, .int .i64 a3, .int .i64 a4, .int .i64 a5, .int .i64 a6, .int .i64 a7, .int .i64 a8] ?_ ?_ ?_); exact rfl; exact rfl; exact rfl; exact rfl; exact (bW.out.keep (by repeat' (first | (with_reducible exact Below.refl _ _) | (with_reducible assumption) | (with_reducible refine Below.alloc ?_ ?_ _) | (with_reducible refine Below.setCell ?_ ?_ _) | (with_reducible refine Below.drew ?_) | (with_reducible refine below_drewN ?_ _) | (with_reducible refine below_via (by with_reducible assumption) ?_ ?_) | go_size))).2) | fail)
    refine (eqQuadT a1 a2 a3 a4 a5 a6 a7 a8 _).mono ?_
    rintro e w6 ⟨rfl, hb6⟩
    have hz6 := hb6.size; try simp at hz6
    obtain ⟨_, _, _, _⟩ := (bP.out.keep (by repeat' (first | (with_reducible exact Below.refl _ _) | (with_reducible assumption) | (with_reducible refine Below.alloc ?_ ?_ _) | (with_reducible refine Below.setCell ?_ ?_ _) | (with_reducible refine Below.drew ?_) | (with_reducible refine below_drewN ?_ _) | (with_reducible refine below_via (by with_reducible assumption) ?_ ?_) | go_size)) : Box3 w6 _ _ _ _)
    obtain ⟨_, _, _, _⟩ := (bX.out.keep (by repeat' (first | (with_reducible exact Below.refl _ _) | (with_reducible assumption) | (with_reducible refine Below.alloc ?_ ?_ _) | (with_reducible refine Below.setCell ?_ ?_ _) | (with_reducible refine Below.drew ?_) | (with_reducible refine below_drewN ?_ _) | (with_reducible refine below_via (by with_reducible assumption) ?_ ?_) | go_size)) : Box3 w6 _ _ _ _)
    have HS6 : Hid (∀ w', Below w6.heap.size w6 w' → Below w6.heap.size w6 w' ∧ w6.heap.size ≤ w'.heap.size ∧ w.heap.size < w'.heap.size ∧ w4.heap.size < w'.heap.size ∧ w'.cell? ⟨w.heap.size, 0, none⟩ = some (.int .i64 aG_Rows) ∧ w'.cell? ⟨w.heap.size, 1, none⟩ = some (.int .i64 aG_Cols) ∧ w'.cell? ⟨w.heap.size, 2, none⟩ = some (.slice aG_Cells_a aG_Cells_n aG_Cells_c) ∧ w'.cell? ⟨w4.heap.size, 0, none⟩ = some (.int .i64 aG_Rows) ∧ w'.cell? ⟨w4.heap.size, 1, none⟩ = some (.int .i64 aG_Cols) ∧ w'.cell? ⟨w4.heap.size, 2, none⟩ = some (.slice (some ⟨g4, 0, none⟩) aG_Cells_n aG_Cells_n)) := fun w' h => ⟨h, h.size, Nat.lt_of_lt_of_le (by assumption) h.size, Nat.lt_of_lt_of_le (by assumption) h.size, (h.cell (p := ⟨_, _, none⟩) (by assumption)).trans (by assumption), (h.cell (p := ⟨_, _, none⟩) (by assumption)).trans (by assumption), (h.cell (p := ⟨_, _, none⟩) (by assumption)).trans (by assumption), (h.cell (p := ⟨_, _, none⟩) (by assumption)).trans (by assumption), (h.cell (p := ⟨_, _, none⟩) (by assumption)).trans (by assumption), (h.cell (p := ⟨_, _, none⟩) (by assumption)).trans (by assumption)⟩
    go_wp2_with fail
    go_region_held3 (fun w' => Below w6.heap.size w6 w' ∧ w6.heap.size ≤ w'.heap.size ∧ w.heap.size < w'.heap.size ∧ w4.heap.size < w'.heap.size ∧ w'.cell? ⟨w.heap.size, 0, none⟩ = some (.int .i64 aG_Rows) ∧ w'.cell? ⟨w.heap.size, 1, none⟩ = some (.int .i64 aG_Cols) ∧ w'.cell? ⟨w.heap.size, 2, none⟩ = some (.slice aG_Cells_a aG_Cells_n aG_Cells_c) ∧ w'.cell? ⟨w4.heap.size, 0, none⟩ = some (.int .i64 aG_Rows) ∧ w'.cell? ⟨w4.heap.size, 1, none⟩ = some (.int .i64 aG_Cols) ∧ w'.cell? ⟨w4.heap.size, 2, none⟩ = some (.slice (some ⟨g4, 0, none⟩) aG_Cells_n aG_Cells_n)) (exact HS6.out _ (by repeat' (first | (with_reducible exact Below.refl _ _) | (with_reducible assumption) | (with_reducible refine Below.alloc ?_ ?_ _) | (with_reducible refine Below.setCell ?_ ?_ _) | (with_reducible refine Below.drew ?_) | (with_reducible refine below_drewN ?_ _) | (with_reducible refine below_via (by with_reducible assumption) ?_ ?_) | go_size))) (first | (go_at_call 17; refine (toGrd aG_Rows aG_Cols aG_Cells_a aG_Cells_n aG_Cells_c aG_Cells_z _ (HR.out.below (by repeat' (first | (with_reducible exact Below.refl _ _) | (with_reducible assumption) | (with_reducible refine Below.alloc ?_ ?_ _) | (with_reducible refine Below.setCell ?_ ?_ _) | (with_reducible refine Below.drew ?_) | (with_reducible refine below_drewN ?_ _) | (with_reducible refine below_via (by with_reducible assumption) ?_ ?_) | go_size))) hn).mono ?_; rintro e w' ⟨gq, rfl, hgq, hkq, hbq⟩; have hzq := hbq.size; (try simp at hzq)) | (go_at_call 19; refine (eqGrdS aG_Rows aG_Cols _ _ _ _ _ _ aG_Cells_z _ ((hk4.keep (by repeat' (first | (with_reducible exact Below.refl _ _) | (with_reducible assumption) | (with_reducible refine Below.alloc ?_ ?_ _) | (with_reducible refine Below.setCell ?_ ?_ _) | (with_reducible refine Below.drew ?_) | (with_reducible refine below_drewN ?_ _) | (with_reducible refine below_via (by with_reducible assumption) ?_ ?_) | go_size))).rd hl.out) (Blk.rd (by assumption) hl.out) hn hn).mono ?_; rintro e w' ⟨rfl, hbr⟩; have hzr := hbr.size; (try simp at hzr)))
    go_wp2
    go_returns
    exact ⟨rfl, by repeat' (first | (with_reducible exact Below.refl _ _) | (with_reducible assumption) | (with_reducible refine Below.alloc ?_ ?_ _) | (with_reducible refine Below.setCell ?_ ?_ _) | (with_reducible refine Below.drew ?_) | (with_reducible refine below_drewN ?_ _) | (with_reducible refine below_via (by with_reducible assumption) ?_ ?_) | go_size)⟩
end Go.Proofs.Ytbcbdphnbfjhoaa
