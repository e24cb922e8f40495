/-
  DERIVED. The walk of FnExactStackLevel.
-/
import Derived.Test.YtdpifddmhbeklaaStkT
import Derived.Test.YtdpifddmhbeklaaFamZ
import Derived.Deep.Cut
namespace Go.Proofs.Ytdpifddmhbeklaa
open Go.RowKit
set_option linter.unusedVariables false
set_option maxRecDepth 20000 in
set_option maxHeartbeats 8000000 in
theorem core_StkL (aF_Name : ByteArray) (aF_Kind aF_Field_Prime aF_Field_Power aF_Field_Poly : Int) (aF_Sizes_a : Option Addr) (aF_Sizes_n aF_Sizes_c : Nat) (aF_Columns : Int) (aF_Levels_a : Option Addr) (aF_Levels_n aF_Levels_c : Nat) (aF_Sizes_z aF_Levels_z : List Int) (aG_Rows aG_Cols : Int) (aG_Cells_a : Option Addr) (aG_Cells_n aG_Cells_c : Nat) (aG_Cells_z : List Int) (w : World)
    (f_aF_Name : aF_Name.size ≤ maxLen) (hF1 : Rd w aF_Sizes_a aF_Sizes_n aF_Sizes_z) (hF2 : Rd w aF_Levels_a aF_Levels_n aF_Levels_z) (hG1 : Rd w aG_Cells_a aG_Cells_n aG_Cells_z) (m_aF_Sizes : aF_Sizes_n ≤ maxLen) (m_aF_Levels : aF_Levels_n ≤ maxLen) (m_aG_Cells : aG_Cells_n ≤ maxLen) (o1 o2 : Int)
    (hSP : aF_Sizes_n ≤ 1048576 → aF_Levels_n ≤ 1048576 → aG_Cells_n ≤ 1048576 → ∀ (a1 a2 a3 : Option Addr) (c1 c2 : Nat) (W' : World), Rd W' a1 aF_Sizes_n aF_Sizes_z → Rd W' a2 aF_Levels_n aF_Levels_z → Rd W' a3 aG_Cells_n aG_Cells_z → Calls Try.prog 47 #[.agg #[.string aF_Name, .int .i64 aF_Kind, .int .i64 aF_Field_Prime, .int .i64 aF_Field_Power, .int .i64 aF_Field_Poly, .slice a1 aF_Sizes_n c1, .int .i64 aF_Columns, .slice a2 aF_Levels_n c2], .agg #[.int .i64 aG_Rows, .int .i64 aG_Cols, .slice a3 aG_Cells_n aG_Cells_n]] W' fun e w' => e = .returned (.tuple #[.int .i64 o1, .int .i64 o2]) ∧ Below W'.heap.size W' w')
    (hIM : aF_Sizes_n ≤ 1048576 → aF_Levels_n ≤ 1048576 → aG_Cells_n ≤ 1048576 → ∀ (a1 a2 a3 : Option Addr) (c1 c2 : Nat) (W' : World), Rd W' a1 aF_Sizes_n aF_Sizes_z → Rd W' a2 aF_Levels_n aF_Levels_z → Rd W' a3 aG_Cells_n aG_Cells_z → Calls Try.prog 48 #[.agg #[.string aF_Name, .int .i64 aF_Kind, .int .i64 aF_Field_Prime, .int .i64 aF_Field_Power, .int .i64 aF_Field_Poly, .slice a1 aF_Sizes_n c1, .int .i64 aF_Columns, .slice a2 aF_Levels_n c2], .agg #[.int .i64 aG_Rows, .int .i64 aG_Cols, .slice a3 aG_Cells_n aG_Cells_n]] W' fun e w' => e = .returned (.tuple #[.int .i64 o1, .int .i64 o2]) ∧ Below W'.heap.size W' w')
    : Calls Try.prog 10 #[.agg #[.string aF_Name, .int .i64 aF_Kind, .int .i64 aF_Field_Prime, .int .i64 aF_Field_Power, .int .i64 aF_Field_Poly, .slice aF_Sizes_a aF_Sizes_n aF_Sizes_c, .int .i64 aF_Columns, .slice aF_Levels_a aF_Levels_n aF_Levels_c], .agg #[.int .i64 aG_Rows, .int .i64 aG_Cols, .slice aG_Cells_a aG_Cells_n aG_Cells_c]] w fun e w' => e = .returned (.bool true) ∧ Below w.heap.size w w' := by
  have HF1 := Lib.hid hF1
  have HF2 := Lib.hid hF2
  have HG1 := Lib.hid hG1
  have HSP0 := Lib.hid hSP
  have HIM0 := Lib.hid hIM
  clear hF1 hF2 hG1 hSP hIM
  go_enter Try.func10, Try.ntmps10
  go_wp2_with fail
  obtain ⟨W, hW⟩ : ∃ W : World, W = (w.alloc (.cells #[.string aF_Name, .int .i64 aF_Kind, .int .i64 aF_Field_Prime, .int .i64 aF_Field_Power, .int .i64 aF_Field_Poly, .slice aF_Sizes_a aF_Sizes_n aF_Sizes_c, .int .i64 aF_Columns, .slice aF_Levels_a aF_Levels_n aF_Levels_c] 53)).alloc (.cells #[.int .i64 aG_Rows, .int .i64 aG_Cols, .slice aG_Cells_a aG_Cells_n aG_Cells_c] 55) := ⟨_, rfl⟩
  have hz0 : W.heap.size = w.heap.size + 2 := by rw [hW]; simp
  have R1 : Hid (RowL W w.heap.size [.string aF_Name, .int .i64 aF_Kind, .int .i64 aF_Field_Prime, .int .i64 aF_Field_Power, .int .i64 aF_Field_Poly, .slice aF_Sizes_a aF_Sizes_n aF_Sizes_c, .int .i64 aF_Columns, .slice aF_Levels_a aF_Levels_n aF_Levels_c]) := by rw [hW]; exact (RowL.new8 w _ _ _ _ _ _ _ _ _).keep ((Below.refl _ _).alloc (Nat.le_refl _) _)
  have R2 : Hid (Box3 W (w.heap.size + 1) (.int .i64 aG_Rows) (.int .i64 aG_Cols) (.slice aG_Cells_a aG_Cells_n aG_Cells_c)) := by
    have h := Box3.new (w.alloc (.cells #[.string aF_Name, .int .i64 aF_Kind, .int .i64 aF_Field_Prime, .int .i64 aF_Field_Power, .int .i64 aF_Field_Poly, .slice aF_Sizes_a aF_Sizes_n aF_Sizes_c, .int .i64 aF_Columns, .slice aF_Levels_a aF_Levels_n aF_Levels_c] 53)) 55 (.int .i64 aG_Rows) (.int .i64 aG_Cols) (.slice aG_Cells_a aG_Cells_n aG_Cells_c)
    simp only [World.size_alloc] at h
    rw [hW]; exact h
  have HB0 : Hid (Below w.heap.size w W) := by rw [hW]; unfold Hid; repeat' (first | (with_reducible exact Below.refl _ _) | (with_reducible assumption) | (with_reducible refine Below.alloc ?_ ?_ _) | (with_reducible refine Below.setCell ?_ ?_ _) | (with_reducible refine Below.drew ?_) | (with_reducible refine below_drewN ?_ _) | (with_reducible refine below_via (by with_reducible assumption) ?_ ?_) | go_size)
  rw [← hW]
  clear hW
  refine (szFam _ _ _ _ _ _ _ _ _ _ _ _ _ f_aF_Name m_aF_Sizes m_aF_Levels).mono ?_
  rintro e w1 ⟨z, rfl, hz, hb1⟩
  have hz1 := hb1.size
  have P1 := Lib.hid (R1.out.keep hb1)
  have P2 := Lib.hid (R2.out.keep hb1)
  have HB1 : Hid (Below w.heap.size w w1) := HB0.out.trans (hb1.mono (by omega))
  clear R1 R2 HB0 hb1
  obtain ⟨_, q0, q1, q2⟩ := P2.out
  rcases hz with hz | ⟨za, zb, hsn, hln⟩
  · go_wp2_with fail
    go_returns
    exact ⟨rfl, HB1.out⟩
  have hzn : ¬ z < 0 := by omega
  go_wp2_with fail
  refine (szGrdL _ _ _ _ _ z _ m_aG_Cells za zb).mono ?_
  rintro e w2 ⟨y, rfl, hy, hb2⟩
  have hz2 := hb2.size
  have Q1 := Lib.hid (P1.out.keep hb2)
  have Q2 := Lib.hid (P2.out.keep hb2)
  have HB2 : Hid (Below w.heap.size w w2) := HB1.out.trans (hb2.mono (by omega))
  clear P1 P2 HB1 hb2 q0 q1 q2
  rcases hy with hy | ⟨ya, hgn⟩
  · go_wp2_with fail
    go_returns
    exact ⟨rfl, HB2.out⟩
  have hyn : ¬ y < 0 := by omega
  have HSP := Lib.hid (HSP0.out hsn hln hgn)
  have HIM := Lib.hid (HIM0.out hsn hln hgn)
  clear HSP0 HIM0
  have HTF : Hid (∀ W' : World, Below w.heap.size w W' → Calls Try.prog 37 #[.agg #[.string aF_Name, .int .i64 aF_Kind, .int .i64 aF_Field_Prime, .int .i64 aF_Field_Power, .int .i64 aF_Field_Poly, .slice aF_Sizes_a aF_Sizes_n aF_Sizes_c, .int .i64 aF_Columns, .slice aF_Levels_a aF_Levels_n aF_Levels_c]] W' (NewFam W' aF_Name aF_Kind aF_Field_Prime aF_Field_Power aF_Field_Poly aF_Sizes_n aF_Sizes_z aF_Columns aF_Levels_n aF_Levels_z)) := fun W' hW => toFam aF_Name aF_Kind aF_Field_Prime aF_Field_Power aF_Field_Poly aF_Sizes_a aF_Sizes_n aF_Sizes_c aF_Columns aF_Levels_a aF_Levels_n aF_Levels_c aF_Sizes_z aF_Levels_z W' (HF1.out.below hW) hsn (HF2.out.below hW) hln
  have HTG : Hid (∀ W' : World, Below w.heap.size w W' → Calls Try.prog 38 #[.agg #[.int .i64 aG_Rows, .int .i64 aG_Cols, .slice aG_Cells_a aG_Cells_n aG_Cells_c]] W' (NewRast W' aG_Rows aG_Cols aG_Cells_n aG_Cells_z)) := fun W' hW => toGrd aG_Rows aG_Cols aG_Cells_a aG_Cells_n aG_Cells_c aG_Cells_z W' (HG1.out.below hW) hgn
  have HLZ := Lib.hid (And.intro HF1.out.1 (And.intro HF2.out.1 HG1.out.1))
  obtain ⟨_, hr_⟩ := Q1.out
  have c0_ := (hr_ 0 _ rfl).1
  have c1_ := (hr_ 1 _ rfl).1
  have c2_ := (hr_ 2 _ rfl).1
  have c3_ := (hr_ 3 _ rfl).1
  have c4_ := (hr_ 4 _ rfl).1
  have c5_ := (hr_ 5 _ rfl).1
  have c6_ := (hr_ 6 _ rfl).1
  have c7_ := (hr_ 7 _ rfl).1
  clear hr_
  obtain ⟨_, q0, q1, q2⟩ := Q2.out
  have HS2 : Hid (∀ w', Below w2.heap.size w2 w' → Below w2.heap.size w2 w' ∧ w.heap.size < w'.heap.size ∧ w'.cell? ⟨w.heap.size, 0, none⟩ = some (.string aF_Name) ∧ w'.cell? ⟨w.heap.size, 1, none⟩ = some (.int .i64 aF_Kind) ∧ w'.cell? ⟨w.heap.size, 2, none⟩ = some (.int .i64 aF_Field_Prime) ∧ w'.cell? ⟨w.heap.size, 3, none⟩ = some (.int .i64 aF_Field_Power) ∧ w'.cell? ⟨w.heap.size, 4, none⟩ = some (.int .i64 aF_Field_Poly) ∧ w'.cell? ⟨w.heap.size, 5, none⟩ = some (.slice aF_Sizes_a aF_Sizes_n aF_Sizes_c) ∧ w'.cell? ⟨w.heap.size, 6, none⟩ = some (.int .i64 aF_Columns) ∧ w'.cell? ⟨w.heap.size, 7, none⟩ = some (.slice aF_Levels_a aF_Levels_n aF_Levels_c) ∧ w.heap.size + 1 < w'.heap.size ∧ w'.cell? ⟨w.heap.size + 1, 0, none⟩ = some (.int .i64 aG_Rows) ∧ w'.cell? ⟨w.heap.size + 1, 1, none⟩ = some (.int .i64 aG_Cols) ∧ w'.cell? ⟨w.heap.size + 1, 2, none⟩ = some (.slice aG_Cells_a aG_Cells_n aG_Cells_c)) := fun w' h => ⟨h, Nat.lt_of_lt_of_le (by assumption) h.size, (h.cell (p := ⟨_, _, none⟩) (by assumption)).trans (by assumption), (h.cell (p := ⟨_, _, none⟩) (by assumption)).trans (by assumption), (h.cell (p := ⟨_, _, none⟩) (by assumption)).trans (by assumption), (h.cell (p := ⟨_, _, none⟩) (by assumption)).trans (by assumption), (h.cell (p := ⟨_, _, none⟩) (by assumption)).trans (by assumption), (h.cell (p := ⟨_, _, none⟩) (by assumption)).trans (by assumption), (h.cell (p := ⟨_, _, none⟩) (by assumption)).trans (by assumption), (h.cell (p := ⟨_, _, none⟩) (by assumption)).trans (by assumption), Nat.lt_of_lt_of_le (by assumption) h.size, (h.cell (p := ⟨_, _, none⟩) (by assumption)).trans (by assumption), (h.cell (p := ⟨_, _, none⟩) (by assumption)).trans (by assumption), (h.cell (p := ⟨_, _, none⟩) (by assumption)).trans (by assumption)⟩
  go_wp2_with fail
  go_cut [6, 7] from 12 (fun x y wx => x = .int .i64 o1 ∧ y = .int .i64 o2 ∧ Hid (Below w2.heap.size w2 wx))
  case first =>
    go_region_held3 (fun w' => Below w2.heap.size w2 w' ∧ w.heap.size < w'.heap.size ∧ w'.cell? ⟨w.heap.size, 0, none⟩ = some (.string aF_Name) ∧ w'.cell? ⟨w.heap.size, 1, none⟩ = some (.int .i64 aF_Kind) ∧ w'.cell? ⟨w.heap.size, 2, none⟩ = some (.int .i64 aF_Field_Prime) ∧ w'.cell? ⟨w.heap.size, 3, none⟩ = some (.int .i64 aF_Field_Power) ∧ w'.cell? ⟨w.heap.size, 4, none⟩ = some (.int .i64 aF_Field_Poly) ∧ w'.cell? ⟨w.heap.size, 5, none⟩ = some (.slice aF_Sizes_a aF_Sizes_n aF_Sizes_c) ∧ w'.cell? ⟨w.heap.size, 6, none⟩ = some (.int .i64 aF_Columns) ∧ w'.cell? ⟨w.heap.size, 7, none⟩ = some (.slice aF_Levels_a aF_Levels_n aF_Levels_c) ∧ w.heap.size + 1 < w'.heap.size ∧ w'.cell? ⟨w.heap.size + 1, 0, none⟩ = some (.int .i64 aG_Rows) ∧ w'.cell? ⟨w.heap.size + 1, 1, none⟩ = some (.int .i64 aG_Cols) ∧ w'.cell? ⟨w.heap.size + 1, 2, none⟩ = some (.slice aG_Cells_a aG_Cells_n aG_Cells_c)) (exact HS2.out _ (by repeat' (first | (with_reducible exact Below.refl _ _) | (with_reducible assumption) | (with_reducible refine Below.alloc ?_ ?_ _) | (with_reducible refine Below.setCell ?_ ?_ _) | (with_reducible refine Below.drew ?_) | (with_reducible refine below_drewN ?_ _) | (with_reducible refine below_via (by with_reducible assumption) ?_ ?_) | go_size))) (first | (go_at_call 37; refine (HTF.out _ (HB2.out.trans (Below.mono (show Below w2.heap.size w2 _ by repeat' (first | (with_reducible exact Below.refl _ _) | (with_reducible assumption) | (with_reducible refine Below.alloc ?_ ?_ _) | (with_reducible refine Below.setCell ?_ ?_ _) | (with_reducible refine Below.drew ?_) | (with_reducible refine below_drewN ?_ _) | (with_reducible refine below_via (by with_reducible assumption) ?_ ?_) | go_size)) (by omega)))).mono ?_; rintro e w' ⟨g1, g2, rfl, hg1, hg2, hk1, hk2, hb⟩; (try simp at hg1 hg2); obtain ⟨hc, hf⟩ := bcell hb; have hz := hb.size; (try simp at hz)) | (go_at_call 38; refine (HTG.out _ (HB2.out.trans (Below.mono (show Below w2.heap.size w2 _ by repeat' (first | (with_reducible exact Below.refl _ _) | (with_reducible assumption) | (with_reducible refine Below.alloc ?_ ?_ _) | (with_reducible refine Below.setCell ?_ ?_ _) | (with_reducible refine Below.drew ?_) | (with_reducible refine below_drewN ?_ _) | (with_reducible refine below_via (by with_reducible assumption) ?_ ?_) | go_size)) (by omega)))).mono ?_; rintro e w' ⟨g3, rfl, hg3, hk3, hb⟩; (try simp at hg3); obtain ⟨hc, hf⟩ := bcell hb; have hz := hb.size; (try simp at hz)) | (go_at_call 47; refine (HSP.out _ _ _ _ _ _ ((hk1.keep (by repeat' (first | (with_reducible exact Below.refl _ _) | (with_reducible assumption) | (with_reducible refine Below.alloc ?_ ?_ _) | (with_reducible refine Below.setCell ?_ ?_ _) | (with_reducible refine Below.drew ?_) | (with_reducible refine below_drewN ?_ _) | (with_reducible refine below_via (by with_reducible assumption) ?_ ?_) | go_size))).rd HLZ.out.1) ((hk2.keep (by repeat' (first | (with_reducible exact Below.refl _ _) | (with_reducible assumption) | (with_reducible refine Below.alloc ?_ ?_ _) | (with_reducible refine Below.setCell ?_ ?_ _) | (with_reducible refine Below.drew ?_) | (with_reducible refine below_drewN ?_ _) | (with_reducible refine below_via (by with_reducible assumption) ?_ ?_) | go_size))).rd HLZ.out.2.1) ((hk3.keep (by repeat' (first | (with_reducible exact Below.refl _ _) | (with_reducible assumption) | (with_reducible refine Below.alloc ?_ ?_ _) | (with_reducible refine Below.setCell ?_ ?_ _) | (with_reducible refine Below.drew ?_) | (with_reducible refine below_drewN ?_ _) | (with_reducible refine below_via (by with_reducible assumption) ?_ ?_) | go_size))).rd HLZ.out.2.2)).mono ?_; rintro e w' ⟨rfl, hb⟩; obtain ⟨hc, hf⟩ := bcell hb; have hz := hb.size; (try simp at hz)))
    all_goals
      go_wp2_with fail
      go_meet
      case rel => exact ⟨rfl, rfl, by unfold Hid; repeat' (first | (with_reducible exact Below.refl _ _) | (with_reducible assumption) | (with_reducible refine Below.alloc ?_ ?_ _) | (with_reducible refine Below.setCell ?_ ?_ _) | (with_reducible refine Below.drew ?_) | (with_reducible refine below_drewN ?_ _) | (with_reducible refine below_via (by with_reducible assumption) ?_ ?_) | go_size)⟩
  obtain ⟨rfl, rfl, hcb⟩ := hcut
  obtain ⟨w3, rfl⟩ : ∃ w3 : World, w3 = wc := ⟨_, rfl⟩
  have hb3 := hcb.out
  have hz3 := hb3.size
  have T1 := Lib.hid (Q1.out.keep hb3)
  have T2 := Lib.hid (Q2.out.keep hb3)
  have HB3 : Hid (Below w.heap.size w w3) := HB2.out.trans (hb3.mono (by have := HB2.out.size; omega))
  clear Q1 Q2 HB2 hcb hb3 HS2 q0 q1 q2 c0_ c1_ c2_ c3_ c4_ c5_ c6_ c7_
  obtain ⟨_, hr_⟩ := T1.out
  have c0_ := (hr_ 0 _ rfl).1
  have c1_ := (hr_ 1 _ rfl).1
  have c2_ := (hr_ 2 _ rfl).1
  have c3_ := (hr_ 3 _ rfl).1
  have c4_ := (hr_ 4 _ rfl).1
  have c5_ := (hr_ 5 _ rfl).1
  have c6_ := (hr_ 6 _ rfl).1
  have c7_ := (hr_ 7 _ rfl).1
  clear hr_
  obtain ⟨_, q0, q1, q2⟩ := T2.out
  go_wp2_with fail
  refine (HTF.out _ HB3.out).mono ?_
  rintro e w4 ⟨g1, g2, rfl, hg1, hg2, hk1, hk2, hb4⟩
  have hz4 := hb4.size
  have V1 := Lib.hid (T1.out.keep hb4)
  have V2 := Lib.hid (T2.out.keep hb4)
  have HB4 : Hid (Below w.heap.size w w4) := HB3.out.trans (hb4.mono (by have := HB3.out.size; omega))
  have K1 := Lib.hid hk1
  have K2 := Lib.hid hk2
  clear T1 T2 HB3 hb4 hk1 hk2 q0 q1 q2 c0_ c1_ c2_ c3_ c4_ c5_ c6_ c7_
  obtain ⟨_, q0, q1, q2⟩ := V2.out
  go_wp2_with fail
  obtain ⟨v4, hv4⟩ : ∃ v4 : World, v4 = w4.alloc (.cells #[.string aF_Name, .int .i64 aF_Kind, .int .i64 aF_Field_Prime, .int .i64 aF_Field_Power, .int .i64 aF_Field_Poly, .slice (some ⟨g1, 0, none⟩) aF_Sizes_n aF_Sizes_n, .int .i64 aF_Columns, .slice (some ⟨g2, 0, none⟩) aF_Levels_n aF_Levels_n] 60) := ⟨_, rfl⟩
  have hbv : Below w4.heap.size w4 v4 := by rw [hv4]; exact (Below.refl _ _).alloc (Nat.le_refl _) _
  have hzv : v4.heap.size = w4.heap.size + 1 := by rw [hv4]; simp
  have X1 : Hid (RowL v4 w4.heap.size [.string aF_Name, .int .i64 aF_Kind, .int .i64 aF_Field_Prime, .int .i64 aF_Field_Power, .int .i64 aF_Field_Poly, .slice (some ⟨g1, 0, none⟩) aF_Sizes_n aF_Sizes_n, .int .i64 aF_Columns, .slice (some ⟨g2, 0, none⟩) aF_Levels_n aF_Levels_n]) := by rw [hv4]; exact RowL.new8 w4 _ _ _ _ _ _ _ _ _
  rw [← hv4]
  clear hv4
  have HBv : Hid (Below w.heap.size w v4) := HB4.out.trans (hbv.mono (by have := HB4.out.size; omega))
  refine (HTG.out _ HBv.out).mono ?_
  rintro e w5 ⟨g3, rfl, hg3, hk3, hb5⟩
  have hz5 := hb5.size
  have hb45 : Below w4.heap.size w4 w5 := hbv.trans (hb5.mono (by omega))
  have V15 := Lib.hid (V1.out.keep hb45)
  have V25 := Lib.hid (V2.out.keep hb45)
  have X15 := Lib.hid (X1.out.keep hb5)
  have K15 := Lib.hid (K1.out.keep hb45)
  have K25 := Lib.hid (K2.out.keep hb45)
  have K35 := Lib.hid hk3
  have HB5 : Hid (Below w.heap.size w w5) := HB4.out.trans (hb45.mono (by have := HB4.out.size; omega))
  clear V1 V2 X1 K1 K2 HB4 HBv hb45 hbv hb5 hk3 q0 q1 q2
  obtain ⟨_, hr_⟩ := X15.out
  have x0_ := (hr_ 0 _ rfl).1
  have x1_ := (hr_ 1 _ rfl).1
  have x2_ := (hr_ 2 _ rfl).1
  have x3_ := (hr_ 3 _ rfl).1
  have x4_ := (hr_ 4 _ rfl).1
  have x5_ := (hr_ 5 _ rfl).1
  have x6_ := (hr_ 6 _ rfl).1
  have x7_ := (hr_ 7 _ rfl).1
  clear hr_
  go_wp2_with fail
  obtain ⟨v5, hv5⟩ : ∃ v5 : World, v5 = w5.alloc (.cells #[.int .i64 aG_Rows, .int .i64 aG_Cols, .slice (some ⟨g3, 0, none⟩) aG_Cells_n aG_Cells_n] 62) := ⟨_, rfl⟩
  have hbv : Below w5.heap.size w5 v5 := by rw [hv5]; exact (Below.refl _ _).alloc (Nat.le_refl _) _
  have hzv5 : v5.heap.size = w5.heap.size + 1 := by rw [hv5]; simp
  have Y1 : Hid (Box3 v5 w5.heap.size (.int .i64 aG_Rows) (.int .i64 aG_Cols) (.slice (some ⟨g3, 0, none⟩) aG_Cells_n aG_Cells_n)) := by rw [hv5]; exact Box3.new w5 _ _ _ _
  rw [← hv5]
  clear hv5
  have V16 := Lib.hid (V15.out.keep hbv)
  have V26 := Lib.hid (V25.out.keep hbv)
  have X16 := Lib.hid (X15.out.keep hbv)
  have K16 := Lib.hid (K15.out.keep hbv)
  have K26 := Lib.hid (K25.out.keep hbv)
  have K36 := Lib.hid (K35.out.keep hbv)
  have HB6 : Hid (Below w.heap.size w v5) := HB5.out.trans (hbv.mono (by have := HB5.out.size; omega))
  clear V15 V25 X15 K15 K25 K35 HB5 hbv x0_ x1_ x2_ x3_ x4_ x5_ x6_ x7_
  refine (HIM.out _ _ _ _ _ _ (K16.out.rd HLZ.out.1) (K26.out.rd HLZ.out.2.1) (K36.out.rd HLZ.out.2.2)).mono ?_
  rintro e w7 ⟨rfl, hb7⟩
  have hz7 := hb7.size
  have V17 := Lib.hid (V16.out.keep hb7)
  have V27 := Lib.hid (V26.out.keep hb7)
  have X17 := Lib.hid (X16.out.keep hb7)
  have Y17 := Lib.hid (Y1.out.keep hb7)
  have K17 := Lib.hid (K16.out.keep hb7)
  have K27 := Lib.hid (K26.out.keep hb7)
  have K37 := Lib.hid (K36.out.keep hb7)
  have HB7 : Hid (Below w.heap.size w w7) := HB6.out.trans (hb7.mono (by have := HB6.out.size; omega))
  clear V16 V26 X16 Y1 K16 K26 K36 HB6 hb7 HSP HIM
  obtain ⟨_, hr_⟩ := V17.out
  have c0_ := (hr_ 0 _ rfl).1
  have c1_ := (hr_ 1 _ rfl).1
  have c2_ := (hr_ 2 _ rfl).1
  have c3_ := (hr_ 3 _ rfl).1
  have c4_ := (hr_ 4 _ rfl).1
  have c5_ := (hr_ 5 _ rfl).1
  have c6_ := (hr_ 6 _ rfl).1
  have c7_ := (hr_ 7 _ rfl).1
  clear hr_
  obtain ⟨_, hr_⟩ := X17.out
  have x0_ := (hr_ 0 _ rfl).1
  have x1_ := (hr_ 1 _ rfl).1
  have x2_ := (hr_ 2 _ rfl).1
  have x3_ := (hr_ 3 _ rfl).1
  have x4_ := (hr_ 4 _ rfl).1
  have x5_ := (hr_ 5 _ rfl).1
  have x6_ := (hr_ 6 _ rfl).1
  have x7_ := (hr_ 7 _ rfl).1
  clear hr_
  have HS7 : Hid (∀ w', Below w7.heap.size w7 w' → Below w7.heap.size w7 w' ∧ w.heap.size < w'.heap.size ∧ w'.cell? ⟨w.heap.size, 0, none⟩ = some (.string aF_Name) ∧ w'.cell? ⟨w.heap.size, 1, none⟩ = some (.int .i64 aF_Kind) ∧ w'.cell? ⟨w.heap.size, 2, none⟩ = some (.int .i64 aF_Field_Prime) ∧ w'.cell? ⟨w.heap.size, 3, none⟩ = some (.int .i64 aF_Field_Power) ∧ w'.cell? ⟨w.heap.size, 4, none⟩ = some (.int .i64 aF_Field_Poly) ∧ w'.cell? ⟨w.heap.size, 5, none⟩ = some (.slice aF_Sizes_a aF_Sizes_n aF_Sizes_c) ∧ w'.cell? ⟨w.heap.size, 6, none⟩ = some (.int .i64 aF_Columns) ∧ w'.cell? ⟨w.heap.size, 7, none⟩ = some (.slice aF_Levels_a aF_Levels_n aF_Levels_c) ∧ w4.heap.size < w'.heap.size ∧ w'.cell? ⟨w4.heap.size, 0, none⟩ = some (.string aF_Name) ∧ w'.cell? ⟨w4.heap.size, 1, none⟩ = some (.int .i64 aF_Kind) ∧ w'.cell? ⟨w4.heap.size, 2, none⟩ = some (.int .i64 aF_Field_Prime) ∧ w'.cell? ⟨w4.heap.size, 3, none⟩ = some (.int .i64 aF_Field_Power) ∧ w'.cell? ⟨w4.heap.size, 4, none⟩ = some (.int .i64 aF_Field_Poly) ∧ w'.cell? ⟨w4.heap.size, 5, none⟩ = some (.slice (some ⟨g1, 0, none⟩) aF_Sizes_n aF_Sizes_n) ∧ w'.cell? ⟨w4.heap.size, 6, none⟩ = some (.int .i64 aF_Columns) ∧ w'.cell? ⟨w4.heap.size, 7, none⟩ = some (.slice (some ⟨g2, 0, none⟩) aF_Levels_n aF_Levels_n)) := fun w' h => ⟨h, Nat.lt_of_lt_of_le (by assumption) h.size, (h.cell (p := ⟨_, _, none⟩) (by assumption)).trans (by assumption), (h.cell (p := ⟨_, _, none⟩) (by assumption)).trans (by assumption), (h.cell (p := ⟨_, _, none⟩) (by assumption)).trans (by assumption), (h.cell (p := ⟨_, _, none⟩) (by assumption)).trans (by assumption), (h.cell (p := ⟨_, _, none⟩) (by assumption)).trans (by assumption), (h.cell (p := ⟨_, _, none⟩) (by assumption)).trans (by assumption), (h.cell (p := ⟨_, _, none⟩) (by assumption)).trans (by assumption), (h.cell (p := ⟨_, _, none⟩) (by assumption)).trans (by assumption), Nat.lt_of_lt_of_le (by assumption) h.size, (h.cell (p := ⟨_, _, none⟩) (by assumption)).trans (by assumption), (h.cell (p := ⟨_, _, none⟩) (by assumption)).trans (by assumption), (h.cell (p := ⟨_, _, none⟩) (by assumption)).trans (by assumption), (h.cell (p := ⟨_, _, none⟩) (by assumption)).trans (by assumption), (h.cell (p := ⟨_, _, none⟩) (by assumption)).trans (by assumption), (h.cell (p := ⟨_, _, none⟩) (by assumption)).trans (by assumption), (h.cell (p := ⟨_, _, none⟩) (by assumption)).trans (by assumption), (h.cell (p := ⟨_, _, none⟩) (by assumption)).trans (by assumption)⟩
  go_wp2_with fail
  go_region_held3 (fun w' => Below w7.heap.size w7 w' ∧ w.heap.size < w'.heap.size ∧ w'.cell? ⟨w.heap.size, 0, none⟩ = some (.string aF_Name) ∧ w'.cell? ⟨w.heap.size, 1, none⟩ = some (.int .i64 aF_Kind) ∧ w'.cell? ⟨w.heap.size, 2, none⟩ = some (.int .i64 aF_Field_Prime) ∧ w'.cell? ⟨w.heap.size, 3, none⟩ = some (.int .i64 aF_Field_Power) ∧ w'.cell? ⟨w.heap.size, 4, none⟩ = some (.int .i64 aF_Field_Poly) ∧ w'.cell? ⟨w.heap.size, 5, none⟩ = some (.slice aF_Sizes_a aF_Sizes_n aF_Sizes_c) ∧ w'.cell? ⟨w.heap.size, 6, none⟩ = some (.int .i64 aF_Columns) ∧ w'.cell? ⟨w.heap.size, 7, none⟩ = some (.slice aF_Levels_a aF_Levels_n aF_Levels_c) ∧ w4.heap.size < w'.heap.size ∧ w'.cell? ⟨w4.heap.size, 0, none⟩ = some (.string aF_Name) ∧ w'.cell? ⟨w4.heap.size, 1, none⟩ = some (.int .i64 aF_Kind) ∧ w'.cell? ⟨w4.heap.size, 2, none⟩ = some (.int .i64 aF_Field_Prime) ∧ w'.cell? ⟨w4.heap.size, 3, none⟩ = some (.int .i64 aF_Field_Power) ∧ w'.cell? ⟨w4.heap.size, 4, none⟩ = some (.int .i64 aF_Field_Poly) ∧ w'.cell? ⟨w4.heap.size, 5, none⟩ = some (.slice (some ⟨g1, 0, none⟩) aF_Sizes_n aF_Sizes_n) ∧ w'.cell? ⟨w4.heap.size, 6, none⟩ = some (.int .i64 aF_Columns) ∧ w'.cell? ⟨w4.heap.size, 7, none⟩ = some (.slice (some ⟨g2, 0, none⟩) aF_Levels_n aF_Levels_n)) (exact HS7.out _ (by repeat' (first | (with_reducible exact Below.refl _ _) | (with_reducible assumption) | (with_reducible refine Below.alloc ?_ ?_ _) | (with_reducible refine Below.setCell ?_ ?_ _) | (with_reducible refine Below.drew ?_) | (with_reducible refine below_drewN ?_ _) | (with_reducible refine below_via (by with_reducible assumption) ?_ ?_) | go_size))) (first | (go_at_call 37; refine (HTF.out _ (HB7.out.trans (Below.mono (show Below w7.heap.size w7 _ by repeat' (first | (with_reducible exact Below.refl _ _) | (with_reducible assumption) | (with_reducible refine Below.alloc ?_ ?_ _) | (with_reducible refine Below.setCell ?_ ?_ _) | (with_reducible refine Below.drew ?_) | (with_reducible refine below_drewN ?_ _) | (with_reducible refine below_via (by with_reducible assumption) ?_ ?_) | go_size)) (by omega)))).mono ?_; rintro e w' ⟨h1, h2, rfl, hh1, hh2, kk1, kk2, hb⟩; (try simp at hh1 hh2); obtain ⟨hc, hf⟩ := bcell hb; have hz := hb.size; (try simp at hz)) | (go_at_call 40; refine (eqFam aF_Name aF_Kind aF_Field_Prime aF_Field_Power aF_Field_Poly _ aF_Sizes_n aF_Sizes_n aF_Columns _ aF_Levels_n aF_Levels_n _ aF_Sizes_n _ aF_Levels_n aF_Sizes_z aF_Levels_z _ ((K17.out.keep (show Below w7.heap.size w7 _ by repeat' (first | (with_reducible exact Below.refl _ _) | (with_reducible assumption) | (with_reducible refine Below.alloc ?_ ?_ _) | (with_reducible refine Below.setCell ?_ ?_ _) | (with_reducible refine Below.drew ?_) | (with_reducible refine below_drewN ?_ _) | (with_reducible refine below_via (by with_reducible assumption) ?_ ?_) | go_size))).rd HLZ.out.1) (kk1.rd HLZ.out.1) hsn ((K27.out.keep (show Below w7.heap.size w7 _ by repeat' (first | (with_reducible exact Below.refl _ _) | (with_reducible assumption) | (with_reducible refine Below.alloc ?_ ?_ _) | (with_reducible refine Below.setCell ?_ ?_ _) | (with_reducible refine Below.drew ?_) | (with_reducible refine below_drewN ?_ _) | (with_reducible refine below_via (by with_reducible assumption) ?_ ?_) | go_size))).rd HLZ.out.2.1) (kk2.rd HLZ.out.2.1) hln).mono ?_; rintro e w' ⟨rfl, hb⟩; obtain ⟨hc, hf⟩ := bcell hb; have hz := hb.size; (try simp at hz)))
  have hb8 : Below w7.heap.size w7 w' := by repeat' (first | (with_reducible exact Below.refl _ _) | (with_reducible assumption) | (with_reducible refine Below.alloc ?_ ?_ _) | (with_reducible refine Below.setCell ?_ ?_ _) | (with_reducible refine Below.drew ?_) | (with_reducible refine below_drewN ?_ _) | (with_reducible refine below_via (by with_reducible assumption) ?_ ?_) | go_size)
  obtain ⟨w8, rfl⟩ : ∃ w8 : World, w8 = w' := ⟨_, rfl⟩
  have hz8 := hb8.size
  have V28 := Lib.hid (V27.out.keep hb8)
  have Y18 := Lib.hid (Y17.out.keep hb8)
  have K38 := Lib.hid (K37.out.keep hb8)
  have HB8 : Hid (Below w.heap.size w w8) := HB7.out.trans (hb8.mono (by have := HB7.out.size; omega))
  clear V17 V27 X17 Y17 K17 K27 K37 HB7 hb8 HS7 c0_ c1_ c2_ c3_ c4_ c5_ c6_ c7_ x0_ x1_ x2_ x3_ x4_ x5_ x6_ x7_
  obtain ⟨_, q0, q1, q2⟩ := V28.out
  obtain ⟨_, p0, p1, p2⟩ := Y18.out
  have HS8 : Hid (∀ w', Below w8.heap.size w8 w' → Below w8.heap.size w8 w' ∧ w.heap.size + 1 < w'.heap.size ∧ w'.cell? ⟨w.heap.size + 1, 0, none⟩ = some (.int .i64 aG_Rows) ∧ w'.cell? ⟨w.heap.size + 1, 1, none⟩ = some (.int .i64 aG_Cols) ∧ w'.cell? ⟨w.heap.size + 1, 2, none⟩ = some (.slice aG_Cells_a aG_Cells_n aG_Cells_c) ∧ w5.heap.size < w'.heap.size ∧ w'.cell? ⟨w5.heap.size, 0, none⟩ = some (.int .i64 aG_Rows) ∧ w'.cell? ⟨w5.heap.size, 1, none⟩ = some (.int .i64 aG_Cols) ∧ w'.cell? ⟨w5.heap.size, 2, none⟩ = some (.slice (some ⟨g3, 0, none⟩) aG_Cells_n aG_Cells_n)) := fun w' h => ⟨h, Nat.lt_of_lt_of_le (by assumption) h.size, (h.cell (p := ⟨_, _, none⟩) (by assumption)).trans (by assumption), (h.cell (p := ⟨_, _, none⟩) (by assumption)).trans (by assumption), (h.cell (p := ⟨_, _, none⟩) (by assumption)).trans (by assumption), Nat.lt_of_lt_of_le (by assumption) h.size, (h.cell (p := ⟨_, _, none⟩) (by assumption)).trans (by assumption), (h.cell (p := ⟨_, _, none⟩) (by assumption)).trans (by assumption), (h.cell (p := ⟨_, _, none⟩) (by assumption)).trans (by assumption)⟩
  go_wp2_with fail
  go_region_held3 (fun w' => Below w8.heap.size w8 w' ∧ w.heap.size + 1 < w'.heap.size ∧ w'.cell? ⟨w.heap.size + 1, 0, none⟩ = some (.int .i64 aG_Rows) ∧ w'.cell? ⟨w.heap.size + 1, 1, none⟩ = some (.int .i64 aG_Cols) ∧ w'.cell? ⟨w.heap.size + 1, 2, none⟩ = some (.slice aG_Cells_a aG_Cells_n aG_Cells_c) ∧ w5.heap.size < w'.heap.size ∧ w'.cell? ⟨w5.heap.size, 0, none⟩ = some (.int .i64 aG_Rows) ∧ w'.cell? ⟨w5.heap.size, 1, none⟩ = some (.int .i64 aG_Cols) ∧ w'.cell? ⟨w5.heap.size, 2, none⟩ = some (.slice (some ⟨g3, 0, none⟩) aG_Cells_n aG_Cells_n)) (exact HS8.out _ (by repeat' (first | (with_reducible exact Below.refl _ _) | (with_reducible assumption) | (with_reducible refine Below.alloc ?_ ?_ _) | (with_reducible refine Below.setCell ?_ ?_ _) | (with_reducible refine Below.drew ?_) | (with_reducible refine below_drewN ?_ _) | (with_reducible refine below_via (by with_reducible assumption) ?_ ?_) | go_size))) (first | (go_at_call 38; refine (HTG.out _ (HB8.out.trans (Below.mono (show Below w8.heap.size w8 _ by repeat' (first | (with_reducible exact Below.refl _ _) | (with_reducible assumption) | (with_reducible refine Below.alloc ?_ ?_ _) | (with_reducible refine Below.setCell ?_ ?_ _) | (with_reducible refine Below.drew ?_) | (with_reducible refine below_drewN ?_ _) | (with_reducible refine below_via (by with_reducible assumption) ?_ ?_) | go_size)) (by omega)))).mono ?_; rintro e w' ⟨h3, rfl, hh3, kk3, hb⟩; (try simp at hh3); obtain ⟨hc, hf⟩ := bcell hb; have hz := hb.size; (try simp at hz)) | (go_at_call 41; refine (eqGrdS aG_Rows aG_Cols _ _ aG_Cells_n aG_Cells_n aG_Cells_n aG_Cells_n aG_Cells_z _ ((K38.out.keep (show Below w8.heap.size w8 _ by repeat' (first | (with_reducible exact Below.refl _ _) | (with_reducible assumption) | (with_reducible refine Below.alloc ?_ ?_ _) | (with_reducible refine Below.setCell ?_ ?_ _) | (with_reducible refine Below.drew ?_) | (with_reducible refine below_drewN ?_ _) | (with_reducible refine below_via (by with_reducible assumption) ?_ ?_) | go_size))).rd HLZ.out.2.2) (kk3.rd HLZ.out.2.2) hgn hgn).mono ?_; rintro e w' ⟨rfl, hb⟩; obtain ⟨hc, hf⟩ := bcell hb; have hz := hb.size; (try simp at hz)))
  have hb9 : Below w8.heap.size w8 w' := by repeat' (first | (with_reducible exact Below.refl _ _) | (with_reducible assumption) | (with_reducible refine Below.alloc ?_ ?_ _) | (with_reducible refine Below.setCell ?_ ?_ _) | (with_reducible refine Below.drew ?_) | (with_reducible refine below_drewN ?_ _) | (with_reducible refine below_via (by with_reducible assumption) ?_ ?_) | go_size)
  go_wp2_with fail
  go_returns
  exact ⟨rfl, HB8.out.trans (hb9.mono (by have := HB8.out.size; omega))⟩
set_option maxRecDepth 20000 in
set_option maxHeartbeats 4000000 in
theorem walk_FnExactStackLevel (aF_Name : ByteArray) (aF_Kind : Int) (aF_Field_Prime : Int) (aF_Field_Power : Int) (aF_Field_Poly : Int) (aF_Sizes_a : Option Addr) (aF_Sizes_n aF_Sizes_c : Nat) (aF_Sizes_z : List Int) (aF_Columns : Int) (aF_Levels_a : Option Addr) (aF_Levels_n aF_Levels_c : Nat) (aF_Levels_z : List Int) (aG_Rows : Int) (aG_Cols : Int) (aG_Cells_a : Option Addr) (aG_Cells_n aG_Cells_c : Nat) (aG_Cells_z : List Int) (w : World) (f_aF_Name : aF_Name.size ≤ maxLen) (f_aF_Kind : (Lit.int .i64 aF_Kind).wf = true) (f_aF_Field_Prime : (Lit.int .i64 aF_Field_Prime).wf = true) (f_aF_Field_Power : (Lit.int .i64 aF_Field_Power).wf = true) (f_aF_Field_Poly : (Lit.int .i64 aF_Field_Poly).wf = true) (h_aF_Sizes : Ints .i64 w aF_Sizes_a aF_Sizes_n aF_Sizes_c aF_Sizes_z) (f_aF_Columns : (Lit.int .i64 aF_Columns).wf = true) (h_aF_Levels : Ints .i64 w aF_Levels_a aF_Levels_n aF_Levels_c aF_Levels_z) (f_aG_Rows : (Lit.int .i64 aG_Rows).wf = true) (f_aG_Cols : (Lit.int .i64 aG_Cols).wf = true) (h_aG_Cells : Ints .i64 w aG_Cells_a aG_Cells_n aG_Cells_c aG_Cells_z) :
    Calls Try.prog 10 #[.agg #[.string aF_Name, .int .i64 aF_Kind, .int .i64 aF_Field_Prime, .int .i64 aF_Field_Power, .int .i64 aF_Field_Poly, .slice aF_Sizes_a aF_Sizes_n aF_Sizes_c, .int .i64 aF_Columns, .slice aF_Levels_a aF_Levels_n aF_Levels_c], .agg #[.int .i64 aG_Rows, .int .i64 aG_Cols, .slice aG_Cells_a aG_Cells_n aG_Cells_c]] w fun e w' => e = .returned (.bool true) ∧ Below w.heap.size w w' := by
  obtain ⟨o, hO⟩ : ∃ o, stkO aF_Name aF_Kind aF_Field_Prime aF_Field_Power aF_Field_Poly aF_Sizes_n aF_Sizes_z aF_Columns aF_Levels_n aF_Levels_z aG_Rows aG_Cols aG_Cells_n aG_Cells_z = o := ⟨_, rfl⟩
  by_cases h0 : o = 0
  · subst h0
    obtain ⟨k1, k2, k3⟩ := stkO_zero hO
    obtain ⟨_, c1, c8⟩ := stk_col k1
    obtain ⟨l1, l4⟩ := stk_lv k1
    obtain ⟨r1, r2, q1, q2, _, p2, pn, hbd⟩ := gridB_yes k2
    obtain ⟨co, rfl⟩ := Int.eq_ofNat_of_zero_le (show 0 ≤ aF_Columns by omega)
    obtain ⟨R, rfl⟩ := Int.eq_ofNat_of_zero_le (show 0 ≤ aG_Rows by omega)
    obtain ⟨C, rfl⟩ := Int.eq_ofNat_of_zero_le (show 0 ≤ aG_Cols by omega)
    have hn4 : aG_Cells_n ≤ 40000 := by omega
    have hnr : aG_Cells_n = R * C := by
      have : (aG_Cells_n : Int) = ((R * C : Nat) : Int) := by rw [pn]; simp
      omega
    have hC : C = 15 + 11 * (co + 2) := by omega
    have hco : co ≤ 8 := by omega
    have hm : aG_Cells_n ≤ maxLen := by unfold maxLen; omega
    obtain ⟨o1, o2, hd⟩ : ∃ o1 o2, lvO aG_Cells_z C co aF_Levels_n R = (o1, o2) := ⟨_, _, rfl⟩
    exact core_StkL aF_Name aF_Kind aF_Field_Prime aF_Field_Power aF_Field_Poly aF_Sizes_a aF_Sizes_n aF_Sizes_c (co : Int) aF_Levels_a aF_Levels_n aF_Levels_c aF_Sizes_z aF_Levels_z (R : Int) (C : Int) aG_Cells_a aG_Cells_n aG_Cells_c aG_Cells_z w f_aF_Name h_aF_Sizes.rd h_aF_Levels.rd h_aG_Cells.rd h_aF_Sizes.max h_aF_Levels.max h_aG_Cells.max o1 o2
      (fun hsn hln hgn a1 a2 a3 c1 c2 W h1 h2 h3 => sSL_ok aF_Name aF_Kind aF_Field_Prime aF_Field_Power aF_Field_Poly a1 aF_Sizes_n c1 co a2 aF_Levels_n c2 aF_Sizes_z aF_Levels_z R C a3 aG_Cells_n aG_Cells_n aG_Cells_z W f_aF_Name h1 hsn h2 hln h3 hgn (Nat.le_refl _) hm hO hC hco hn4 hnr hbd o1 o2 hd l1 l4)
      (fun hsn hln hgn a1 a2 a3 c1 c2 W h1 h2 h3 => iSL_ok aF_Name aF_Kind aF_Field_Prime aF_Field_Power aF_Field_Poly a1 aF_Sizes_n c1 co a2 aF_Levels_n c2 aF_Sizes_z aF_Levels_z R C a3 aG_Cells_n aG_Cells_n aG_Cells_z W f_aF_Name h1 hsn h2 hln h3 hgn (Nat.le_refl _) hm hO hC hco hn4 hnr hbd o1 o2 hd l1 l4)
  · exact core_StkL aF_Name aF_Kind aF_Field_Prime aF_Field_Power aF_Field_Poly aF_Sizes_a aF_Sizes_n aF_Sizes_c aF_Columns aF_Levels_a aF_Levels_n aF_Levels_c aF_Sizes_z aF_Levels_z aG_Rows aG_Cols aG_Cells_a aG_Cells_n aG_Cells_c aG_Cells_z w f_aF_Name h_aF_Sizes.rd h_aF_Levels.rd h_aG_Cells.rd h_aF_Sizes.max h_aF_Levels.max h_aG_Cells.max 0 o
      (fun hsn hln hgn a1 a2 a3 c1 c2 W h1 h2 h3 => sSL_no aF_Name aF_Kind aF_Field_Prime aF_Field_Power aF_Field_Poly a1 aF_Sizes_n c1 aF_Columns a2 aF_Levels_n c2 aF_Sizes_z aF_Levels_z aG_Rows aG_Cols a3 aG_Cells_n aG_Cells_n aG_Cells_z W f_aF_Name h1 hsn h2 hln h3 hgn o hO h0)
      (fun hsn hln hgn a1 a2 a3 c1 c2 W h1 h2 h3 => iSL_no aF_Name aF_Kind aF_Field_Prime aF_Field_Power aF_Field_Poly a1 aF_Sizes_n c1 aF_Columns a2 aF_Levels_n c2 aF_Sizes_z aF_Levels_z aG_Rows aG_Cols a3 aG_Cells_n aG_Cells_n aG_Cells_z W f_aF_Name h1 hsn h2 hln h3 hgn o hO h0)
end Go.Proofs.Ytdpifddmhbeklaa
