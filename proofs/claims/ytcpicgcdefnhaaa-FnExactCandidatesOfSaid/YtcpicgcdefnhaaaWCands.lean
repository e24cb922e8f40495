/-
  DERIVED. The walk of FnExactCandidatesOf.
-/
import Derived.Test.YtcpicgcdefnhaaaCCands
import Derived.Test.YtcpicgcdefnhaaaCndI
import Derived.Test.YtcpicgcdefnhaaaGridB
namespace Go.Proofs.Ytcpicgcdefnhaaa
open Go.RowKit
set_option linter.unusedVariables false
set_option maxHeartbeats 2000000 in
theorem sCandsOf_no (r c : Int) (a : Option Addr) (n cp : Nat) (zs : List Int) (w : World) (h : Rd w a n zs) (hn : n ≤ 1048576) (hl : gridB r c n zs = false) :
    Calls Try.prog 6 #[.agg #[.int .i64 r, .int .i64 c, .slice a n cp]] w (ResFin w [] 1) := by
  have HH := Lib.hid h
  clear h
  go_enter Try.func6, Try.ntmps6
  go_wp2_with fail
  refine (sIsGrid r c a n cp zs _ (HH.out.below (by repeat' (first | (with_reducible exact Below.refl _ _) | (with_reducible assumption) | (with_reducible refine Below.alloc ?_ ?_ _) | (with_reducible refine Below.setCell ?_ ?_ _) | (with_reducible refine Below.drew ?_) | (with_reducible refine below_drewN ?_ _) | (with_reducible refine below_via (by with_reducible assumption) ?_ ?_) | go_size))) hn).mono ?_
  rintro e w1 ⟨rfl, hb1⟩
  rw [hl]
  go_wp2
  go_returns
  exact ⟨none, 0, rfl, World.ownsRow_nil _ _ _ _, by repeat' (first | (with_reducible exact Below.refl _ _) | (with_reducible assumption) | (with_reducible refine Below.alloc ?_ ?_ _) | (with_reducible refine Below.setCell ?_ ?_ _) | (with_reducible refine Below.drew ?_) | (with_reducible refine below_drewN ?_ _) | (with_reducible refine below_via (by with_reducible assumption) ?_ ?_) | go_size), by simp⟩
set_option maxHeartbeats 2000000 in
theorem sCandsOf_ok (R C : Nat) (a : Option Addr) (n cp : Nat) (zs : List Int) (w : World) (h : Rd w a n zs) (hn : n ≤ 40000) (hcp : n ≤ cp) (hnn : n = R * C) (hR : 1 ≤ R) (hC : 1 ≤ C) (hl : gridB (R : Int) (C : Int) n zs = true) :
    Calls Try.prog 6 #[.agg #[.int .i64 (R : Int), .int .i64 (C : Int), .slice a n cp]] w (ResFin w (cand zs C R R) 0) := by
  have HH := Lib.hid h
  have HN := Lib.hid hnn
  have HL : Hid ((cand zs C R R).length ≤ 1048576) := by unfold Hid; have := cand_len zs C R R; omega
  clear h hnn
  go_enter Try.func6, Try.ntmps6
  go_wp2_with fail
  refine (sIsGrid (R : Int) (C : Int) a n cp zs _ (HH.out.below (by repeat' (first | (with_reducible exact Below.refl _ _) | (with_reducible assumption) | (with_reducible refine Below.alloc ?_ ?_ _) | (with_reducible refine Below.setCell ?_ ?_ _) | (with_reducible refine Below.drew ?_) | (with_reducible refine below_drewN ?_ _) | (with_reducible refine below_via (by with_reducible assumption) ?_ ?_) | go_size))) (by omega)).mono ?_
  rintro e w1 ⟨rfl, hb1⟩
  have hz1 := hb1.size
  simp at hz1
  obtain ⟨hc_, hf_⟩ := bcell hb1
  rw [hl]
  go_wp2_with fail
  refine (sCands R C a n cp zs w1 (HH.out.below (by repeat' (first | (with_reducible exact Below.refl _ _) | (with_reducible assumption) | (with_reducible refine Below.alloc ?_ ?_ _) | (with_reducible refine Below.setCell ?_ ?_ _) | (with_reducible refine Below.drew ?_) | (with_reducible refine below_drewN ?_ _) | (with_reducible refine below_via (by with_reducible assumption) ?_ ?_) | go_size))) HN.out hn hcp hR hC).mono ?_
  rintro e w2 ⟨av, cv, rfl, ho, hb2⟩
  have hz2 := hb2.size
  have HO := Lib.hid ho
  have HB : Hid (Below w.heap.size w w2) := by unfold Hid; repeat' (first | (with_reducible exact Below.refl _ _) | (with_reducible assumption) | (with_reducible refine Below.alloc ?_ ?_ _) | (with_reducible refine Below.setCell ?_ ?_ _) | (with_reducible refine Below.drew ?_) | (with_reducible refine below_drewN ?_ _) | (with_reducible refine below_via (by with_reducible assumption) ?_ ?_) | go_size)
  clear ho
  obtain ⟨hc2_, hf2_⟩ := bcell hb2
  go_wp2
  go_returns
  exact ⟨av, cv, rfl, ownN_mono HO.out (by omega), HB.out, HL.out⟩
set_option maxHeartbeats 2000000 in
theorem iCandsOf_no (r c : Int) (a : Option Addr) (n cp : Nat) (zs : List Int) (w : World) (h : Rd w a n zs) (hn : n ≤ 1048576) (hl : gridB r c n zs = false) :
    Calls Try.prog 8 #[.agg #[.int .i64 r, .int .i64 c, .slice a n cp]] w (ResFin w [] 1) := by
  have HH := Lib.hid h
  clear h
  go_enter Try.func8, Try.ntmps8
  go_wp2_with fail
  refine (iIsGrid r c a n cp zs _ (HH.out.below (by repeat' (first | (with_reducible exact Below.refl _ _) | (with_reducible assumption) | (with_reducible refine Below.alloc ?_ ?_ _) | (with_reducible refine Below.setCell ?_ ?_ _) | (with_reducible refine Below.drew ?_) | (with_reducible refine below_drewN ?_ _) | (with_reducible refine below_via (by with_reducible assumption) ?_ ?_) | go_size))) hn).mono ?_
  rintro e w1 ⟨rfl, hb1⟩
  rw [hl]
  go_wp2
  go_returns
  exact ⟨none, 0, rfl, World.ownsRow_nil _ _ _ _, by repeat' (first | (with_reducible exact Below.refl _ _) | (with_reducible assumption) | (with_reducible refine Below.alloc ?_ ?_ _) | (with_reducible refine Below.setCell ?_ ?_ _) | (with_reducible refine Below.drew ?_) | (with_reducible refine below_drewN ?_ _) | (with_reducible refine below_via (by with_reducible assumption) ?_ ?_) | go_size), by simp⟩
set_option maxHeartbeats 2000000 in
theorem iCandsOf_ok (R C : Nat) (a : Option Addr) (n cp : Nat) (zs : List Int) (w : World) (h : Rd w a n zs) (hn : n ≤ 40000) (hcp : n ≤ cp) (hnn : n = R * C) (hR : 1 ≤ R) (hC : 1 ≤ C) (hl : gridB (R : Int) (C : Int) n zs = true) :
    Calls Try.prog 8 #[.agg #[.int .i64 (R : Int), .int .i64 (C : Int), .slice a n cp]] w (ResFin w (cand zs C R R) 0) := by
  have HH := Lib.hid h
  have HN := Lib.hid hnn
  have HL : Hid ((cand zs C R R).length ≤ 1048576) := by unfold Hid; have := cand_len zs C R R; omega
  clear h hnn
  go_enter Try.func8, Try.ntmps8
  go_wp2_with fail
  refine (iIsGrid (R : Int) (C : Int) a n cp zs _ (HH.out.below (by repeat' (first | (with_reducible exact Below.refl _ _) | (with_reducible assumption) | (with_reducible refine Below.alloc ?_ ?_ _) | (with_reducible refine Below.setCell ?_ ?_ _) | (with_reducible refine Below.drew ?_) | (with_reducible refine below_drewN ?_ _) | (with_reducible refine below_via (by with_reducible assumption) ?_ ?_) | go_size))) (by omega)).mono ?_
  rintro e w1 ⟨rfl, hb1⟩
  have hz1 := hb1.size
  simp at hz1
  obtain ⟨hc_, hf_⟩ := bcell hb1
  rw [hl]
  go_wp2_with fail
  refine (iCands R C a n cp zs w1 (HH.out.below (by repeat' (first | (with_reducible exact Below.refl _ _) | (with_reducible assumption) | (with_reducible refine Below.alloc ?_ ?_ _) | (with_reducible refine Below.setCell ?_ ?_ _) | (with_reducible refine Below.drew ?_) | (with_reducible refine below_drewN ?_ _) | (with_reducible refine below_via (by with_reducible assumption) ?_ ?_) | go_size))) HN.out hn hcp hR hC).mono ?_
  rintro e w2 ⟨av, cv, rfl, ho, hb2⟩
  have hz2 := hb2.size
  have HO := Lib.hid ho
  have HB : Hid (Below w.heap.size w w2) := by unfold Hid; repeat' (first | (with_reducible exact Below.refl _ _) | (with_reducible assumption) | (with_reducible refine Below.alloc ?_ ?_ _) | (with_reducible refine Below.setCell ?_ ?_ _) | (with_reducible refine Below.drew ?_) | (with_reducible refine below_drewN ?_ _) | (with_reducible refine below_via (by with_reducible assumption) ?_ ?_) | go_size)
  clear ho
  obtain ⟨hc2_, hf2_⟩ := bcell hb2
  go_wp2
  go_returns
  exact ⟨av, cv, rfl, ownN_mono HO.out (by omega), HB.out, HL.out⟩
theorem walk_FnExactCandidatesOf (aG_Rows : Int) (aG_Cols : Int) (aG_Cells_a : Option Addr) (aG_Cells_n aG_Cells_c : Nat) (aG_Cells_z : List Int) (w : World) (f_aG_Rows : (Lit.int .i64 aG_Rows).wf = true) (f_aG_Cols : (Lit.int .i64 aG_Cols).wf = true) (h_aG_Cells : Ints .i64 w aG_Cells_a aG_Cells_n aG_Cells_c aG_Cells_z) :
    Calls Try.prog 3 #[.agg #[.int .i64 aG_Rows, .int .i64 aG_Cols, .slice aG_Cells_a aG_Cells_n aG_Cells_c]] w fun e w' => e = .returned (.bool true) ∧ Below w.heap.size w w' := by
  rcases Int.lt_or_le (1048576 : Int) aG_Cells_n with hbig | hsm
  · exact big_FnExactCandidatesOf aG_Rows aG_Cols aG_Cells_a aG_Cells_n aG_Cells_c w h_aG_Cells.max hbig
  · have hn : aG_Cells_n ≤ 1048576 := by omega
    rcases hc : gridB aG_Rows aG_Cols aG_Cells_n aG_Cells_z with _ | _
    · exact core_FnExactCandidatesOf aG_Rows aG_Cols aG_Cells_a aG_Cells_n aG_Cells_c aG_Cells_z w h_aG_Cells.rd hn [] _ (fun a cp W _ h => sCandsOf_no _ _ a _ cp _ W h hn hc) (fun a cp W _ h => iCandsOf_no _ _ a _ cp _ W h hn hc)
    · obtain ⟨g1, g2, g3, g4, g5, g6, g7, _⟩ := gridB_yes hc
      obtain ⟨R, rfl⟩ := Int.eq_ofNat_of_zero_le (show 0 ≤ aG_Rows by omega)
      obtain ⟨C, rfl⟩ := Int.eq_ofNat_of_zero_le (show 0 ≤ aG_Cols by omega)
      have e7 : aG_Cells_n = R * C := by
        have h2 : ((R * C : Nat) : Int) = (R : Int) * (C : Int) := by simp
        omega
      have h4 : aG_Cells_n ≤ 40000 := by omega
      exact core_FnExactCandidatesOf _ _ aG_Cells_a aG_Cells_n aG_Cells_c aG_Cells_z w h_aG_Cells.rd hn _ _ (fun a cp W hcp h => sCandsOf_ok R C a _ cp _ W h h4 hcp e7 (by omega) (by omega) hc) (fun a cp W hcp h => iCandsOf_ok R C a _ cp _ W h h4 hcp e7 (by omega) (by omega) hc)
end Go.Proofs.Ytcpicgcdefnhaaa
