/-
  DERIVED. The walk of FnExactFindersOf.
-/
import Derived.Test.YtcpicgcdefnhaaaCFinds
import Derived.Test.YtcpicgcdefnhaaaFndS
import Derived.Test.YtcpicgcdefnhaaaFndI
import Derived.Test.YtcpicgcdefnhaaaGridB
namespace Go.Proofs.Ytcpicgcdefnhaaa
open Go.RowKit
set_option linter.unusedVariables false
def FoundR (w : World) (L : List F4) (e : Ending) (w' : World) : Prop := (L.length ≤ 60 ∧ ResFin w L 0 e w') ∨ (60 < L.length ∧ ResFin w [] 3 e w')
theorem FoundR.few {w : World} {L : List F4} (h : L.length ≤ 60) {e : Ending} {w' : World} (f : FoundR w L e w') : ResFin w L 0 e w' := by
  rcases f with f | f
  · exact f.2
  · exact absurd f.1 (by omega)
theorem FoundR.many {w : World} {L : List F4} (h : 60 < L.length) {e : Ending} {w' : World} (f : FoundR w L e w') : ResFin w [] 3 e w' := by
  rcases f with f | f
  · exact absurd f.1 (by omega)
  · exact f.2
set_option maxHeartbeats 2000000 in
theorem sFindsOf_no (r c : Int) (a : Option Addr) (n cp : Nat) (zs : List Int) (w : World) (h : Rd w a n zs) (hn : n ≤ 1048576) (hl : gridB r c n zs = false) :
    Calls Try.prog 14 #[.agg #[.int .i64 r, .int .i64 c, .slice a n cp]] w (ResFin w [] 1) := by
  have HH := Lib.hid h
  clear h
  go_enter Try.func14, Try.ntmps14
  go_wp2_with fail
  refine (sIsGrid r c a n cp zs _ (HH.out.below (by repeat' (first | (with_reducible exact Below.refl _ _) | (with_reducible assumption) | (with_reducible refine Below.alloc ?_ ?_ _) | (with_reducible refine Below.setCell ?_ ?_ _) | (with_reducible refine Below.drew ?_) | (with_reducible refine below_drewN ?_ _) | (with_reducible refine below_via (by with_reducible assumption) ?_ ?_) | go_size))) hn).mono ?_
  rintro e w1 ⟨rfl, hb1⟩
  rw [hl]
  go_wp2
  go_returns
  exact ⟨none, 0, rfl, World.ownsRow_nil _ _ _ _, by repeat' (first | (with_reducible exact Below.refl _ _) | (with_reducible assumption) | (with_reducible refine Below.alloc ?_ ?_ _) | (with_reducible refine Below.setCell ?_ ?_ _) | (with_reducible refine Below.drew ?_) | (with_reducible refine below_drewN ?_ _) | (with_reducible refine below_via (by with_reducible assumption) ?_ ?_) | go_size), by simp⟩
set_option maxHeartbeats 2000000 in
theorem iFindsOf_no (r c : Int) (a : Option Addr) (n cp : Nat) (zs : List Int) (w : World) (h : Rd w a n zs) (hn : n ≤ 1048576) (hl : gridB r c n zs = false) :
    Calls Try.prog 15 #[.agg #[.int .i64 r, .int .i64 c, .slice a n cp]] w (ResFin w [] 1) := by
  have HH := Lib.hid h
  clear h
  go_enter Try.func15, Try.ntmps15
  go_wp2_with fail
  refine (iIsGrid r c a n cp zs _ (HH.out.below (by repeat' (first | (with_reducible exact Below.refl _ _) | (with_reducible assumption) | (with_reducible refine Below.alloc ?_ ?_ _) | (with_reducible refine Below.setCell ?_ ?_ _) | (with_reducible refine Below.drew ?_) | (with_reducible refine below_drewN ?_ _) | (with_reducible refine below_via (by with_reducible assumption) ?_ ?_) | go_size))) hn).mono ?_
  rintro e w1 ⟨rfl, hb1⟩
  rw [hl]
  go_wp2
  go_returns
  exact ⟨none, 0, rfl, World.ownsRow_nil _ _ _ _, by repeat' (first | (with_reducible exact Below.refl _ _) | (with_reducible assumption) | (with_reducible refine Below.alloc ?_ ?_ _) | (with_reducible refine Below.setCell ?_ ?_ _) | (with_reducible refine Below.drew ?_) | (with_reducible refine below_drewN ?_ _) | (with_reducible refine below_via (by with_reducible assumption) ?_ ?_) | go_size), by simp⟩
set_option maxHeartbeats 2000000 in
theorem sFindsOf_ok (R C : Nat) (a : Option Addr) (n cp : Nat) (zs : List Int) (w : World) (h : Rd w a n zs) (hn : n ≤ 40000) (hcp : n ≤ cp) (hnn : n = R * C) (hR : 1 ≤ R) (hC : 1 ≤ C) (hl : gridB (R : Int) (C : Int) n zs = true) :
    Calls Try.prog 14 #[.agg #[.int .i64 (R : Int), .int .i64 (C : Int), .slice a n cp]] w (FoundR w (fnd (cand zs C R R) (cand zs C R R).length)) := by
  have HH := Lib.hid h
  have HN := Lib.hid hnn
  have HL : Hid ((fnd (cand zs C R R) (cand zs C R R).length).length ≤ 40000) := by unfold Hid; have := cand_len zs C R R; have := fnd_len (cand zs C R R) (cand zs C R R).length; omega
  clear h hnn
  go_enter Try.func14, Try.ntmps14
  go_wp2_with fail
  refine (sIsGrid (R : Int) (C : Int) a n cp zs _ (HH.out.below (by repeat' (first | (with_reducible exact Below.refl _ _) | (with_reducible assumption) | (with_reducible refine Below.alloc ?_ ?_ _) | (with_reducible refine Below.setCell ?_ ?_ _) | (with_reducible refine Below.drew ?_) | (with_reducible refine below_drewN ?_ _) | (with_reducible refine below_via (by with_reducible assumption) ?_ ?_) | go_size))) (by omega)).mono ?_
  rintro e w1 ⟨rfl, hb1⟩
  have hz1 := hb1.size
  simp at hz1
  obtain ⟨hc_, hf_⟩ := bcell hb1
  rw [hl]
  go_wp2_with fail
  refine (sFinders R C a n cp zs w1 (HH.out.below (by repeat' (first | (with_reducible exact Below.refl _ _) | (with_reducible assumption) | (with_reducible refine Below.alloc ?_ ?_ _) | (with_reducible refine Below.setCell ?_ ?_ _) | (with_reducible refine Below.drew ?_) | (with_reducible refine below_drewN ?_ _) | (with_reducible refine below_via (by with_reducible assumption) ?_ ?_) | go_size))) HN.out hn hcp hR hC).mono ?_
  have HB1 : Hid (Below w.heap.size w w1) := by unfold Hid; repeat' (first | (with_reducible exact Below.refl _ _) | (with_reducible assumption) | (with_reducible refine Below.alloc ?_ ?_ _) | (with_reducible refine Below.setCell ?_ ?_ _) | (with_reducible refine Below.drew ?_) | (with_reducible refine below_drewN ?_ _) | (with_reducible refine below_via (by with_reducible assumption) ?_ ?_) | go_size)
  have HLd : Hid ((fnd (cand zs C R R) (cand zs C R R).length) = (fnd (cand zs C R R) (cand zs C R R).length)) := rfl
  have hl0 : ∃ q, (fnd (cand zs C R R) (cand zs C R R).length).length = q := ⟨_, rfl⟩
  obtain ⟨q, hq⟩ := hl0
  have HQ := Lib.hid hq
  rw [hq] at HL
  have hq4 : q ≤ 40000 := HL.out
  clear hq hb1 hc_ hf_
  rintro e w2 ⟨av, cv, rfl, ho, hb2⟩
  rw [HQ.out] at ho ⊢
  have hz2 := hb2.size
  have HO := Lib.hid ho
  have HB : Hid (Below w.heap.size w w2) := HB1.out.trans (hb2.mono (by omega))
  clear ho hb2
  rcases Nat.lt_or_ge 60 q with h6 | h6
  · have h6I : (60 : Int) < (q : Int) := by omega
    go_wp2
    go_returns
    exact .inr ⟨by rw [HQ.out]; exact h6, none, 0, rfl, World.ownsRow_nil _ _ _ _, HB.out, by simp⟩
  · have h6I : (q : Int) ≤ 60 := by omega
    go_wp2
    go_returns
    have HO2 := HO.out
    rw [← HQ.out] at HO2
    exact .inl ⟨by rw [HQ.out]; exact h6, av, cv, by rw [HQ.out]; rfl, ownN_mono HO2 (by omega), HB.out, by rw [HQ.out]; omega⟩
set_option maxHeartbeats 2000000 in
theorem iFindsOf_ok (R C : Nat) (a : Option Addr) (n cp : Nat) (zs : List Int) (w : World) (h : Rd w a n zs) (hn : n ≤ 40000) (hcp : n ≤ cp) (hnn : n = R * C) (hR : 1 ≤ R) (hC : 1 ≤ C) (hl : gridB (R : Int) (C : Int) n zs = true) :
    Calls Try.prog 15 #[.agg #[.int .i64 (R : Int), .int .i64 (C : Int), .slice a n cp]] w (FoundR w (fnd (cand zs C R R) (cand zs C R R).length)) := by
  have HH := Lib.hid h
  have HN := Lib.hid hnn
  have HL : Hid ((fnd (cand zs C R R) (cand zs C R R).length).length ≤ 40000) := by unfold Hid; have := cand_len zs C R R; have := fnd_len (cand zs C R R) (cand zs C R R).length; omega
  clear h hnn
  go_enter Try.func15, Try.ntmps15
  go_wp2_with fail
  refine (iIsGrid (R : Int) (C : Int) a n cp zs _ (HH.out.below (by repeat' (first | (with_reducible exact Below.refl _ _) | (with_reducible assumption) | (with_reducible refine Below.alloc ?_ ?_ _) | (with_reducible refine Below.setCell ?_ ?_ _) | (with_reducible refine Below.drew ?_) | (with_reducible refine below_drewN ?_ _) | (with_reducible refine below_via (by with_reducible assumption) ?_ ?_) | go_size))) (by omega)).mono ?_
  rintro e w1 ⟨rfl, hb1⟩
  have hz1 := hb1.size
  simp at hz1
  obtain ⟨hc_, hf_⟩ := bcell hb1
  rw [hl]
  go_wp2_with fail
  refine (iFinders R C a n cp zs w1 (HH.out.below (by repeat' (first | (with_reducible exact Below.refl _ _) | (with_reducible assumption) | (with_reducible refine Below.alloc ?_ ?_ _) | (with_reducible refine Below.setCell ?_ ?_ _) | (with_reducible refine Below.drew ?_) | (with_reducible refine below_drewN ?_ _) | (with_reducible refine below_via (by with_reducible assumption) ?_ ?_) | go_size))) HN.out hn hcp hR hC).mono ?_
  have HB1 : Hid (Below w.heap.size w w1) := by unfold Hid; repeat' (first | (with_reducible exact Below.refl _ _) | (with_reducible assumption) | (with_reducible refine Below.alloc ?_ ?_ _) | (with_reducible refine Below.setCell ?_ ?_ _) | (with_reducible refine Below.drew ?_) | (with_reducible refine below_drewN ?_ _) | (with_reducible refine below_via (by with_reducible assumption) ?_ ?_) | go_size)
  have HLd : Hid ((fnd (cand zs C R R) (cand zs C R R).length) = (fnd (cand zs C R R) (cand zs C R R).length)) := rfl
  have hl0 : ∃ q, (fnd (cand zs C R R) (cand zs C R R).length).length = q := ⟨_, rfl⟩
  obtain ⟨q, hq⟩ := hl0
  have HQ := Lib.hid hq
  rw [hq] at HL
  have hq4 : q ≤ 40000 := HL.out
  clear hq hb1 hc_ hf_
  rintro e w2 (⟨h6, av, cv, rfl, ho, hb2⟩ | ⟨h6, rfl, hb2⟩)
  · rw [HQ.out] at ho h6 ⊢
    have hz2 := hb2.size
    have HO := Lib.hid ho
    have HB : Hid (Below w.heap.size w w2) := HB1.out.trans (hb2.mono (by omega))
    clear ho hb2
    go_wp2
    go_returns
    have HO2 := HO.out
    rw [← HQ.out] at HO2
    exact .inl ⟨by rw [HQ.out]; exact h6, av, cv, by rw [HQ.out]; rfl, ownN_mono HO2 (by omega), HB.out, by rw [HQ.out]; omega⟩
  · have HB : Hid (Below w.heap.size w w2) := HB1.out.trans (hb2.mono (by omega))
    clear hb2
    go_wp2
    go_returns
    exact .inr ⟨h6, none, 0, rfl, World.ownsRow_nil _ _ _ _, HB.out, by simp⟩
theorem walk_FnExactFindersOf (aG_Rows : Int) (aG_Cols : Int) (aG_Cells_a : Option Addr) (aG_Cells_n aG_Cells_c : Nat) (aG_Cells_z : List Int) (w : World) (f_aG_Rows : (Lit.int .i64 aG_Rows).wf = true) (f_aG_Cols : (Lit.int .i64 aG_Cols).wf = true) (h_aG_Cells : Ints .i64 w aG_Cells_a aG_Cells_n aG_Cells_c aG_Cells_z) :
    Calls Try.prog 4 #[.agg #[.int .i64 aG_Rows, .int .i64 aG_Cols, .slice aG_Cells_a aG_Cells_n aG_Cells_c]] w fun e w' => e = .returned (.bool true) ∧ Below w.heap.size w w' := by
  rcases Int.lt_or_le (1048576 : Int) aG_Cells_n with hbig | hsm
  · exact big_FnExactFindersOf aG_Rows aG_Cols aG_Cells_a aG_Cells_n aG_Cells_c w h_aG_Cells.max hbig
  · have hn : aG_Cells_n ≤ 1048576 := by omega
    rcases hc : gridB aG_Rows aG_Cols aG_Cells_n aG_Cells_z with _ | _
    · exact core_FnExactFindersOf aG_Rows aG_Cols aG_Cells_a aG_Cells_n aG_Cells_c aG_Cells_z w h_aG_Cells.rd hn [] _ (fun a cp W _ h => sFindsOf_no _ _ a _ cp _ W h hn hc) (fun a cp W _ h => iFindsOf_no _ _ a _ cp _ W h hn hc)
    · obtain ⟨g1, g2, g3, g4, g5, g6, g7, _⟩ := gridB_yes hc
      obtain ⟨R, rfl⟩ := Int.eq_ofNat_of_zero_le (show 0 ≤ aG_Rows by omega)
      obtain ⟨C, rfl⟩ := Int.eq_ofNat_of_zero_le (show 0 ≤ aG_Cols by omega)
      have e7 : aG_Cells_n = R * C := by
        have h2 : ((R * C : Nat) : Int) = (R : Int) * (C : Int) := by simp
        omega
      have h4 : aG_Cells_n ≤ 40000 := by omega
      rcases Nat.lt_or_ge 60 (fnd (cand aG_Cells_z C R R) (cand aG_Cells_z C R R).length).length with h6 | h6
      · exact core_FnExactFindersOf _ _ aG_Cells_a aG_Cells_n aG_Cells_c aG_Cells_z w h_aG_Cells.rd hn [] _ (fun a cp W hcp h => (sFindsOf_ok R C a _ cp _ W h h4 hcp e7 (by omega) (by omega) hc).mono fun _ _ f => f.many h6) (fun a cp W hcp h => (iFindsOf_ok R C a _ cp _ W h h4 hcp e7 (by omega) (by omega) hc).mono fun _ _ f => f.many h6)
      · exact core_FnExactFindersOf _ _ aG_Cells_a aG_Cells_n aG_Cells_c aG_Cells_z w h_aG_Cells.rd hn _ _ (fun a cp W hcp h => (sFindsOf_ok R C a _ cp _ W h h4 hcp e7 (by omega) (by omega) hc).mono fun _ _ f => f.few h6) (fun a cp W hcp h => (iFindsOf_ok R C a _ cp _ W h h4 hcp e7 (by omega) (by omega) hc).mono fun _ _ f => f.few h6)
end Go.Proofs.Ytcpicgcdefnhaaa
