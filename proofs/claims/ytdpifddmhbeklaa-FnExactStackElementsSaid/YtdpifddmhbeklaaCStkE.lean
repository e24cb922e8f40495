/-
  DERIVED. The core of FnExactStackElements.
-/
import Derived.Test.YtdpifddmhbeklaaStkR
import Derived.Test.YtdpifddmhbeklaaFamQ
import Derived.Test.YtdpifddmhbeklaaFamZ
import Derived.Test.YtdpifddmhbeklaaResQ
import Derived.Deep.Cut
namespace Go.Proofs.Ytdpifddmhbeklaa
open Go.RowKit
set_option linter.unusedVariables false
/-- Two slices of the call's own, and a code. -/
def ResQ (w : World) (n m : Nat) (E N : List Int) (code : Int) (e : Ending) (w' : World) : Prop :=
  ∃ v u, e = .returned (.tuple #[v, u, .int .i64 code]) ∧ Duo w' w' w.heap.size 0 0 v n (E.map (Value.int .i64)) u m (N.map (Value.int .i64)) ∧ Below w.heap.size w w'
theorem Off.box3 {p : Nat → Prop} {w w' : World} {b : Nat} {x y z : Value} (h : Off p w w') (hr : Box3 w b x y z) (hp : p b) : Box3 w' b x y z := by
  have hb := h.block b hr.1 hp
  exact ⟨Nat.lt_of_lt_of_le hr.1 h.size, (World.cell?_of_block (a := ⟨b, 0, none⟩) hb).trans hr.2.1, (World.cell?_of_block (a := ⟨b, 1, none⟩) hb).trans hr.2.2.1, (World.cell?_of_block (a := ⟨b, 2, none⟩) hb).trans hr.2.2.2⟩
theorem ResE.q {w w' : World} {X : List Int} {code : Int} {e : Ending} (h : ResE w X code e w') : ResQ w X.length (negs X).length (elV X) (negs X) code e w' := by
  obtain ⟨v, u, h1, h2, h3, _⟩ := h
  exact ⟨v, u, h1, h2, h3⟩
set_option maxRecDepth 20000 in
set_option maxHeartbeats 16000000 in
theorem core_StkE (aF_Name : ByteArray) (aF_Kind aF_Field_Prime aF_Field_Power aF_Field_Poly : Int) (aF_Sizes_a : Option Addr) (aF_Sizes_n aF_Sizes_c : Nat) (aF_Columns : Int) (aF_Levels_a : Option Addr) (aF_Levels_n aF_Levels_c : Nat) (aF_Sizes_z aF_Levels_z : List Int) (aG_Rows aG_Cols : Int) (aG_Cells_a : Option Addr) (aG_Cells_n aG_Cells_c : Nat) (aG_Cells_z : List Int) (w : World)
    (f_aF_Name : aF_Name.size ≤ maxLen) (hF1 : Rd w aF_Sizes_a aF_Sizes_n aF_Sizes_z) (hF2 : Rd w aF_Levels_a aF_Levels_n aF_Levels_z) (hG1 : Rd w aG_Cells_a aG_Cells_n aG_Cells_z) (m_aF_Sizes : aF_Sizes_n ≤ maxLen) (m_aF_Levels : aF_Levels_n ≤ maxLen) (m_aG_Cells : aG_Cells_n ≤ maxLen)
    (n m : Nat) (E N : List Int) (o : Int) (hn4 : n ≤ 40000) (hm4 : m ≤ 40000)
    (hSP : aF_Sizes_n ≤ 1048576 → aF_Levels_n ≤ 1048576 → aG_Cells_n ≤ 1048576 → ∀ (a1 a2 a3 : Option Addr) (c1 c2 : Nat) (W' : World), Rd W' a1 aF_Sizes_n aF_Sizes_z → Rd W' a2 aF_Levels_n aF_Levels_z → Rd W' a3 aG_Cells_n aG_Cells_z → Calls Try.prog 49 #[.agg #[.string aF_Name, .int .i64 aF_Kind, .int .i64 aF_Field_Prime, .int .i64 aF_Field_Power, .int .i64 aF_Field_Poly, .slice a1 aF_Sizes_n c1, .int .i64 aF_Columns, .slice a2 aF_Levels_n c2], .agg #[.int .i64 aG_Rows, .int .i64 aG_Cols, .slice a3 aG_Cells_n aG_Cells_n]] W' (ResQ W' n m E N o))
    (hIM : aF_Sizes_n ≤ 1048576 → aF_Levels_n ≤ 1048576 → aG_Cells_n ≤ 1048576 → ∀ (a1 a2 a3 : Option Addr) (c1 c2 : Nat) (W' : World), Rd W' a1 aF_Sizes_n aF_Sizes_z → Rd W' a2 aF_Levels_n aF_Levels_z → Rd W' a3 aG_Cells_n aG_Cells_z → Calls Try.prog 50 #[.agg #[.string aF_Name, .int .i64 aF_Kind, .int .i64 aF_Field_Prime, .int .i64 aF_Field_Power, .int .i64 aF_Field_Poly, .slice a1 aF_Sizes_n c1, .int .i64 aF_Columns, .slice a2 aF_Levels_n c2], .agg #[.int .i64 aG_Rows, .int .i64 aG_Cols, .slice a3 aG_Cells_n aG_Cells_n]] W' (ResQ W' n m E N o)) :
    Calls Try.prog 11 #[.agg #[.string aF_Name, .int .i64 aF_Kind, .int .i64 aF_Field_Prime, .int .i64 aF_Field_Power, .int .i64 aF_Field_Poly, .slice aF_Sizes_a aF_Sizes_n aF_Sizes_c, .int .i64 aF_Columns, .slice aF_Levels_a aF_Levels_n aF_Levels_c], .agg #[.int .i64 aG_Rows, .int .i64 aG_Cols, .slice aG_Cells_a aG_Cells_n aG_Cells_c]] w fun e w' => e = .returned (.bool true) ∧ Below w.heap.size w w' := by
  have HF1 := Lib.hid hF1
  have HF2 := Lib.hid hF2
  have HG1 := Lib.hid hG1
  have HSP0 := Lib.hid hSP
  have HIM0 := Lib.hid hIM
  clear hF1 hF2 hG1 hSP hIM
  go_enter Try.func11, Try.ntmps11
  go_wp2_with fail
  obtain ⟨W, hW⟩ : ∃ W : World, W = (w.alloc (.cells #[.string aF_Name, .int .i64 aF_Kind, .int .i64 aF_Field_Prime, .int .i64 aF_Field_Power, .int .i64 aF_Field_Poly, .slice aF_Sizes_a aF_Sizes_n aF_Sizes_c, .int .i64 aF_Columns, .slice aF_Levels_a aF_Levels_n aF_Levels_c] 53)).alloc (.cells #[.int .i64 aG_Rows, .int .i64 aG_Cols, .slice aG_Cells_a aG_Cells_n aG_Cells_c] 55) := ⟨_, rfl⟩
  have hz0 : W.heap.size = w.heap.size + 2 := by rw [hW]; simp
  have R1 : Hid (RowL W w.heap.size [.string aF_Name, .int .i64 aF_Kind, .int .i64 aF_Field_Prime, .int .i64 aF_Field_Power, .int .i64 aF_Field_Poly, .slice aF_Sizes_a aF_Sizes_n aF_Sizes_c, .int .i64 aF_Columns, .slice aF_Levels_a aF_Levels_n aF_Levels_c]) := by rw [hW]; exact (RowL.new8 w _ _ _ _ _ _ _ _ _).keep ((Below.refl _ _).alloc (Nat.le_refl _) _)
  have R2 : Hid (Box3 W (w.heap.size + 1) (.int .i64 aG_Rows) (.int .i64 aG_Cols) (.slice aG_Cells_a aG_Cells_n aG_Cells_c)) := by
    have h := Box3.new (w.alloc (.cells #[.string aF_Name, .int .i64 aF_Kind, .int .i64 aF_Field_Prime, .int .i64 aF_Field_Power, .int .i64 aF_Field_Poly, .slice aF_Sizes_a aF_Sizes_n aF_Sizes_c, .int .i64 aF_Columns, .slice aF_Levels_a aF_Levels_n aF_Levels_c] 53)) 55 (.int .i64 aG_Rows) (.int .i64 aG_Cols) (.slice aG_Cells_a aG_Cells_n aG_Cells_c)
    simp only [World.size_alloc] at h
    rw [hW]; exact h
  have HB0 : Hid (Below w.heap.size w W) := by rw [hW]; unfold Hid; repeat' (first | (with_reducible exact Below.refl _ _) | (with_reducible assumption) | (with_reducible refine Below.alloc ?_ ?_ _) | (with_reducible refine Below.setCell ?_ ?_ _) | (with_reducible refine Below.drew ?_) | (with_reducible refine below_drewN ?_ _) | (with_reducible refine below_via (by with_reducible assumption) ?_ ?_) | go_size)
  rw [← hW]
  clear hW
  refine (szFam _ _ _ _ _ _ _ _ _ _ _ _ _ f_aF_Name m_aF_Sizes m_aF_Levels).mono ?_
  rintro e w1 ⟨z, rfl, hz, hb1⟩
  have hz1 := hb1.size
  have P1 := Lib.hid (R1.out.keep hb1)
  have P2 := Lib.hid (R2.out.keep hb1)
  have HB1 : Hid (Below w.heap.size w w1) := HB0.out.trans (hb1.mono (by omega))
  clear R1 R2 HB0 hb1
  obtain ⟨_, q0, q1, q2⟩ := P2.out
  rcases hz with hz | ⟨za, zb, hsn, hln⟩
  · go_wp2_with fail
    go_returns
    exact ⟨rfl, HB1.out⟩
  have hzn : ¬ z < 0 := by omega
  go_wp2_with fail
  refine (szGrdL _ _ _ _ _ z _ m_aG_Cells za zb).mono ?_
  rintro e w2 ⟨y, rfl, hy, hb2⟩
  have hz2 := hb2.size
  have Q1 := Lib.hid (P1.out.keep hb2)
  have Q2 := Lib.hid (P2.out.keep hb2)
  have HB2 : Hid (Below w.heap.size w w2) := HB1.out.trans (hb2.mono (by omega))
  clear P1 P2 HB1 hb2 q0 q1 q2
  rcases hy with hy | ⟨ya, hgn⟩
  · go_wp2_with fail
    go_returns
    exact ⟨rfl, HB2.out⟩
  have hyn : ¬ y < 0 := by omega
  have HSP := Lib.hid (HSP0.out hsn hln hgn)
  have HIM := Lib.hid (HIM0.out hsn hln hgn)
  clear HSP0 HIM0
  have HTF : Hid (∀ W' : World, Below w.heap.size w W' → Calls Try.prog 37 #[.agg #[.string aF_Name, .int .i64 aF_Kind, .int .i64 aF_Field_Prime, .int .i64 aF_Field_Power, .int .i64 aF_Field_Poly, .slice aF_Sizes_a aF_Sizes_n aF_Sizes_c, .int .i64 aF_Columns, .slice aF_Levels_a aF_Levels_n aF_Levels_c]] W' (NewFam W' aF_Name aF_Kind aF_Field_Prime aF_Field_Power aF_Field_Poly aF_Sizes_n aF_Sizes_z aF_Columns aF_Levels_n aF_Levels_z)) := fun W' hW => toFam aF_Name aF_Kind aF_Field_Prime aF_Field_Power aF_Field_Poly aF_Sizes_a aF_Sizes_n aF_Sizes_c aF_Columns aF_Levels_a aF_Levels_n aF_Levels_c aF_Sizes_z aF_Levels_z W' (HF1.out.below hW) hsn (HF2.out.below hW) hln
  have HTG : Hid (∀ W' : World, Below w.heap.size w W' → Calls Try.prog 38 #[.agg #[.int .i64 aG_Rows, .int .i64 aG_Cols, .slice aG_Cells_a aG_Cells_n aG_Cells_c]] W' (NewRast W' aG_Rows aG_Cols aG_Cells_n aG_Cells_z)) := fun W' hW => toGrd aG_Rows aG_Cols aG_Cells_a aG_Cells_n aG_Cells_c aG_Cells_z W' (HG1.out.below hW) hgn
  have HLZ := Lib.hid (And.intro HF1.out.1 (And.intro HF2.out.1 HG1.out.1))
  obtain ⟨_, hr_⟩ := Q1.out
  have c0_ := (hr_ 0 _ rfl).1
  have c1_ := (hr_ 1 _ rfl).1
  have c2_ := (hr_ 2 _ rfl).1
  have c3_ := (hr_ 3 _ rfl).1
  have c4_ := (hr_ 4 _ rfl).1
  have c5_ := (hr_ 5 _ rfl).1
  have c6_ := (hr_ 6 _ rfl).1
  have c7_ := (hr_ 7 _ rfl).1
  clear hr_
  obtain ⟨_, q0, q1, q2⟩ := Q2.out
  have HS_w2 : Hid (∀ w', Below w2.heap.size w2 w' → Below w2.heap.size w2 w' ∧ w.heap.size < w'.heap.size ∧ w'.cell? ⟨w.heap.size, 0, none⟩ = some (.string aF_Name) ∧ w'.cell? ⟨w.heap.size, 1, none⟩ = some (.int .i64 aF_Kind) ∧ w'.cell? ⟨w.heap.size, 2, none⟩ = some (.int .i64 aF_Field_Prime) ∧ w'.cell? ⟨w.heap.size, 3, none⟩ = some (.int .i64 aF_Field_Power) ∧ w'.cell? ⟨w.heap.size, 4, none⟩ = some (.int .i64 aF_Field_Poly) ∧ w'.cell? ⟨w.heap.size, 5, none⟩ = some (.slice aF_Sizes_a aF_Sizes_n aF_Sizes_c) ∧ w'.cell? ⟨w.heap.size, 6, none⟩ = some (.int .i64 aF_Columns) ∧ w'.cell? ⟨w.heap.size, 7, none⟩ = some (.slice aF_Levels_a aF_Levels_n aF_Levels_c) ∧ w.heap.size + 1 < w'.heap.size ∧ w'.cell? ⟨w.heap.size + 1, 0, none⟩ = some (.int .i64 aG_Rows) ∧ w'.cell? ⟨w.heap.size + 1, 1, none⟩ = some (.int .i64 aG_Cols) ∧ w'.cell? ⟨w.heap.size + 1, 2, none⟩ = some (.slice aG_Cells_a aG_Cells_n aG_Cells_c)) := fun w' h => ⟨h, Nat.lt_of_lt_of_le (by assumption) h.size, (h.cell (p := ⟨_, _, none⟩) (by assumption)).trans (by assumption), (h.cell (p := ⟨_, _, none⟩) (by assumption)).trans (by assumption), (h.cell (p := ⟨_, _, none⟩) (by assumption)).trans (by assumption), (h.cell (p := ⟨_, _, none⟩) (by assumption)).trans (by assumption), (h.cell (p := ⟨_, _, none⟩) (by assumption)).trans (by assumption), (h.cell (p := ⟨_, _, none⟩) (by assumption)).trans (by assumption), (h.cell (p := ⟨_, _, none⟩) (by assumption)).trans (by assumption), (h.cell (p := ⟨_, _, none⟩) (by assumption)).trans (by assumption), Nat.lt_of_lt_of_le (by assumption) h.size, (h.cell (p := ⟨_, _, none⟩) (by assumption)).trans (by assumption), (h.cell (p := ⟨_, _, none⟩) (by assumption)).trans (by assumption), (h.cell (p := ⟨_, _, none⟩) (by assumption)).trans (by assumption)⟩
  go_wp2_with fail
  go_cut [6, 7, 8] from 20 (fun x y z wx => z = .int .i64 o ∧ Hid (Duo wx wx w2.heap.size 0 0 x n (E.map (Value.int .i64)) y m (N.map (Value.int .i64))) ∧ Hid (Below w2.heap.size w2 wx))
  case first =>
    go_region_held3 (fun w' => Below w2.heap.size w2 w' ∧ w.heap.size < w'.heap.size ∧ w'.cell? ⟨w.heap.size, 0, none⟩ = some (.string aF_Name) ∧ w'.cell? ⟨w.heap.size, 1, none⟩ = some (.int .i64 aF_Kind) ∧ w'.cell? ⟨w.heap.size, 2, none⟩ = some (.int .i64 aF_Field_Prime) ∧ w'.cell? ⟨w.heap.size, 3, none⟩ = some (.int .i64 aF_Field_Power) ∧ w'.cell? ⟨w.heap.size, 4, none⟩ = some (.int .i64 aF_Field_Poly) ∧ w'.cell? ⟨w.heap.size, 5, none⟩ = some (.slice aF_Sizes_a aF_Sizes_n aF_Sizes_c) ∧ w'.cell? ⟨w.heap.size, 6, none⟩ = some (.int .i64 aF_Columns) ∧ w'.cell? ⟨w.heap.size, 7, none⟩ = some (.slice aF_Levels_a aF_Levels_n aF_Levels_c) ∧ w.heap.size + 1 < w'.heap.size ∧ w'.cell? ⟨w.heap.size + 1, 0, none⟩ = some (.int .i64 aG_Rows) ∧ w'.cell? ⟨w.heap.size + 1, 1, none⟩ = some (.int .i64 aG_Cols) ∧ w'.cell? ⟨w.heap.size + 1, 2, none⟩ = some (.slice aG_Cells_a aG_Cells_n aG_Cells_c)) (exact HS_w2.out _ (by repeat' (first | (with_reducible exact Below.refl _ _) | (with_reducible assumption) | (with_reducible refine Below.alloc ?_ ?_ _) | (with_reducible refine Below.setCell ?_ ?_ _) | (with_reducible refine Below.drew ?_) | (with_reducible refine below_drewN ?_ _) | (with_reducible refine below_via (by with_reducible assumption) ?_ ?_) | go_size))) (first | (go_at_call 37; refine (HTF.out _ (HB2.out.trans (Below.mono (show Below w2.heap.size w2 _ by repeat' (first | (with_reducible exact Below.refl _ _) | (with_reducible assumption) | (with_reducible refine Below.alloc ?_ ?_ _) | (with_reducible refine Below.setCell ?_ ?_ _) | (with_reducible refine Below.drew ?_) | (with_reducible refine below_drewN ?_ _) | (with_reducible refine below_via (by with_reducible assumption) ?_ ?_) | go_size)) (by omega)))).mono ?_; rintro e w' ⟨g1, g2, rfl, hg1, hg2, hk1, hk2, hb⟩; (try simp at hg1 hg2); obtain ⟨hc, hf⟩ := bcell hb; have hz := hb.size; (try simp at hz)) | (go_at_call 38; refine (HTG.out _ (HB2.out.trans (Below.mono (show Below w2.heap.size w2 _ by repeat' (first | (with_reducible exact Below.refl _ _) | (with_reducible assumption) | (with_reducible refine Below.alloc ?_ ?_ _) | (with_reducible refine Below.setCell ?_ ?_ _) | (with_reducible refine Below.drew ?_) | (with_reducible refine below_drewN ?_ _) | (with_reducible refine below_via (by with_reducible assumption) ?_ ?_) | go_size)) (by omega)))).mono ?_; rintro e w' ⟨g3, rfl, hg3, hk3, hb⟩; (try simp at hg3); obtain ⟨hc, hf⟩ := bcell hb; have hz := hb.size; (try simp at hz)) | (go_at_call 49; have hq : Below w2.heap.size w2 _ := (show Below w2.heap.size w2 _ by repeat' (first | (with_reducible exact Below.refl _ _) | (with_reducible assumption) | (with_reducible refine Below.alloc ?_ ?_ _) | (with_reducible refine Below.setCell ?_ ?_ _) | (with_reducible refine Below.drew ?_) | (with_reducible refine below_drewN ?_ _) | (with_reducible refine below_via (by with_reducible assumption) ?_ ?_) | go_size)); have hqs := hq.size; refine (HSP.out _ _ _ _ _ _ ((hk1.keep (by repeat' (first | (with_reducible exact Below.refl _ _) | (with_reducible assumption) | (with_reducible refine Below.alloc ?_ ?_ _) | (with_reducible refine Below.setCell ?_ ?_ _) | (with_reducible refine Below.drew ?_) | (with_reducible refine below_drewN ?_ _) | (with_reducible refine below_via (by with_reducible assumption) ?_ ?_) | go_size))).rd HLZ.out.1) ((hk2.keep (by repeat' (first | (with_reducible exact Below.refl _ _) | (with_reducible assumption) | (with_reducible refine Below.alloc ?_ ?_ _) | (with_reducible refine Below.setCell ?_ ?_ _) | (with_reducible refine Below.drew ?_) | (with_reducible refine below_drewN ?_ _) | (with_reducible refine below_via (by with_reducible assumption) ?_ ?_) | go_size))).rd HLZ.out.2.1) ((hk3.keep (by repeat' (first | (with_reducible exact Below.refl _ _) | (with_reducible assumption) | (with_reducible refine Below.alloc ?_ ?_ _) | (with_reducible refine Below.setCell ?_ ?_ _) | (with_reducible refine Below.drew ?_) | (with_reducible refine below_drewN ?_ _) | (with_reducible refine below_via (by with_reducible assumption) ?_ ?_) | go_size))).rd HLZ.out.2.2)).mono ?_; rintro e w' ⟨v0, u0, rfl, hd, hb⟩; obtain ⟨hc, hf⟩ := bcell hb; have hz := hb.size; (try simp at hz); have hd2 := Lib.hid (hd.plain (B' := w2.heap.size) (by simp at hqs ⊢; omega))))
    all_goals
      go_wp2_with fail
      go_meet
      case rel => exact ⟨rfl, hd2, by unfold Hid; repeat' (first | (with_reducible exact Below.refl _ _) | (with_reducible assumption) | (with_reducible refine Below.alloc ?_ ?_ _) | (with_reducible refine Below.setCell ?_ ?_ _) | (with_reducible refine Below.drew ?_) | (with_reducible refine below_drewN ?_ _) | (with_reducible refine below_via (by with_reducible assumption) ?_ ?_) | go_size)⟩
  obtain ⟨rfl, hcd, hcb⟩ := hcut
  obtain ⟨w3, rfl⟩ : ∃ w3 : World, w3 = wc := ⟨_, rfl⟩
  have hb3 := hcb.out
  have hz3 := hb3.size
  obtain ⟨wa, wc, rfl⟩ := ownN_shape hcd.out.rowV
  obtain ⟨wb, wd, rfl⟩ := ownN_shape hcd.out.rowU
  have SV3 := Lib.hid hcd.out.rowV
  have SU3 := Lib.hid hcd.out.rowU
  have HWv := Lib.hid hcd.out.rowV.lt
  have HWu := Lib.hid hcd.out.rowU.lt
  have F3 := Lib.hid (Q1.out.keep hb3)
  have G3 := Lib.hid (Q2.out.keep hb3)
  have HB3 : Hid (Below w.heap.size w w3) := HB2.out.trans (hb3.mono (by have := HB2.out.size; omega))
  clear Q1 Q2 HB2 hcb hcd hb3 HS_w2 q0 q1 q2 c0_ c1_ c2_ c3_ c4_ c5_ c6_ c7_
  obtain ⟨_, hr_⟩ := F3.out
  have c0_ := (hr_ 0 _ rfl).1
  have c1_ := (hr_ 1 _ rfl).1
  have c2_ := (hr_ 2 _ rfl).1
  have c3_ := (hr_ 3 _ rfl).1
  have c4_ := (hr_ 4 _ rfl).1
  have c5_ := (hr_ 5 _ rfl).1
  have c6_ := (hr_ 6 _ rfl).1
  have c7_ := (hr_ 7 _ rfl).1
  clear hr_
  obtain ⟨_, q0, q1, q2⟩ := G3.out
  go_wp2_with fail
  refine (HTF.out _ HB3.out).mono ?_
  rintro e w4 ⟨g1, g2, rfl, hg1, hg2, hk1, hk2, hb4⟩
  have hz4 := hb4.size
  have F4 := Lib.hid (F3.out.keep hb4)
  have G4 := Lib.hid (G3.out.keep hb4)
  have SV4 := Lib.hid (ownN_below SV3.out hb4)
  have SU4 := Lib.hid (ownN_below SU3.out hb4)
  have HB4 : Hid (Below w.heap.size w w4) := HB3.out.trans (hb4.mono (by have := HB3.out.size; omega))
  have K1 := Lib.hid hk1
  have K2 := Lib.hid hk2
  have HGl : Hid (g1 < w4.heap.size ∧ g2 < w4.heap.size) := ⟨hk1.lt, hk2.lt⟩
  clear F3 G3 SV3 SU3 HB3 hb4 hk1 hk2 q0 q1 q2 c0_ c1_ c2_ c3_ c4_ c5_ c6_ c7_
  obtain ⟨_, q0, q1, q2⟩ := G4.out
  go_wp2_with fail
  obtain ⟨v4, hv4⟩ : ∃ v4 : World, v4 = w4.alloc (.cells #[.string aF_Name, .int .i64 aF_Kind, .int .i64 aF_Field_Prime, .int .i64 aF_Field_Power, .int .i64 aF_Field_Poly, .slice (some ⟨g1, 0, none⟩) aF_Sizes_n aF_Sizes_n, .int .i64 aF_Columns, .slice (some ⟨g2, 0, none⟩) aF_Levels_n aF_Levels_n] 60) := ⟨_, rfl⟩
  have hbv : Below w4.heap.size w4 v4 := by rw [hv4]; exact (Below.refl _ _).alloc (Nat.le_refl _) _
  have hzv : v4.heap.size = w4.heap.size + 1 := by rw [hv4]; simp
  have X4 : Hid (RowL v4 w4.heap.size [.string aF_Name, .int .i64 aF_Kind, .int .i64 aF_Field_Prime, .int .i64 aF_Field_Power, .int .i64 aF_Field_Poly, .slice (some ⟨g1, 0, none⟩) aF_Sizes_n aF_Sizes_n, .int .i64 aF_Columns, .slice (some ⟨g2, 0, none⟩) aF_Levels_n aF_Levels_n]) := by rw [hv4]; exact RowL.new8 w4 _ _ _ _ _ _ _ _ _
  rw [← hv4]
  clear hv4
  have HBv : Hid (Below w.heap.size w v4) := HB4.out.trans (hbv.mono (by have := HB4.out.size; omega))
  refine (HTG.out _ HBv.out).mono ?_
  rintro e w5 ⟨g3, rfl, hg3, hk3, hb5⟩
  have hz5 := hb5.size
  have hb45 : Below w4.heap.size w4 w5 := hbv.trans (hb5.mono (by omega))
  have F5 := Lib.hid (F4.out.keep hb45)
  have G5 := Lib.hid (G4.out.keep hb45)
  have SV5 := Lib.hid (ownN_below SV4.out hb45)
  have SU5 := Lib.hid (ownN_below SU4.out hb45)
  have K15 := Lib.hid (K1.out.keep hb45)
  have K25 := Lib.hid (K2.out.keep hb45)
  have X5 := Lib.hid (X4.out.keep hb5)
  have K35 := Lib.hid hk3
  have HG3 : Hid (g3 < w5.heap.size) := hk3.lt
  have HB5 : Hid (Below w.heap.size w w5) := HB4.out.trans (hb45.mono (by have := HB4.out.size; omega))
  clear F4 G4 SV4 SU4 X4 K1 K2 HB4 HBv hb45 hbv hb5 hk3 q0 q1 q2
  obtain ⟨_, hr_⟩ := X5.out
  have x0_ := (hr_ 0 _ rfl).1
  have x1_ := (hr_ 1 _ rfl).1
  have x2_ := (hr_ 2 _ rfl).1
  have x3_ := (hr_ 3 _ rfl).1
  have x4_ := (hr_ 4 _ rfl).1
  have x5_ := (hr_ 5 _ rfl).1
  have x6_ := (hr_ 6 _ rfl).1
  have x7_ := (hr_ 7 _ rfl).1
  clear hr_
  go_wp2_with fail
  obtain ⟨v5, hv5⟩ : ∃ v5 : World, v5 = w5.alloc (.cells #[.int .i64 aG_Rows, .int .i64 aG_Cols, .slice (some ⟨g3, 0, none⟩) aG_Cells_n aG_Cells_n] 62) := ⟨_, rfl⟩
  have hbv : Below w5.heap.size w5 v5 := by rw [hv5]; exact (Below.refl _ _).alloc (Nat.le_refl _) _
  have hzv5 : v5.heap.size = w5.heap.size + 1 := by rw [hv5]; simp
  have Y6 : Hid (Box3 v5 w5.heap.size (.int .i64 aG_Rows) (.int .i64 aG_Cols) (.slice (some ⟨g3, 0, none⟩) aG_Cells_n aG_Cells_n)) := by rw [hv5]; exact Box3.new w5 _ _ _ _
  rw [← hv5]
  clear hv5
  have F6 := Lib.hid (F5.out.keep hbv)
  have G6 := Lib.hid (G5.out.keep hbv)
  have SV6 := Lib.hid (ownN_below SV5.out hbv)
  have SU6 := Lib.hid (ownN_below SU5.out hbv)
  have X6 := Lib.hid (X5.out.keep hbv)
  have K16 := Lib.hid (K15.out.keep hbv)
  have K26 := Lib.hid (K25.out.keep hbv)
  have K36 := Lib.hid (K35.out.keep hbv)
  have HB6 : Hid (Below w.heap.size w v5) := HB5.out.trans (hbv.mono (by have := HB5.out.size; omega))
  clear F5 G5 SV5 SU5 X5 K15 K25 K35 HB5 hbv x0_ x1_ x2_ x3_ x4_ x5_ x6_ x7_
  refine (HIM.out _ _ _ _ _ _ (K16.out.rd HLZ.out.1) (K26.out.rd HLZ.out.2.1) (K36.out.rd HLZ.out.2.2)).mono ?_
  rintro e w7 ⟨gv, gu, rfl, hd7, hb7⟩
  have hz7 := hb7.size
  obtain ⟨ga, gc, rfl⟩ := ownN_shape hd7.rowV
  obtain ⟨gb, gd, rfl⟩ := ownN_shape hd7.rowU
  have IV7 := Lib.hid hd7.rowV
  have IU7 := Lib.hid hd7.rowU
  have HAp := Lib.hid hd7.apart
  have HIv := Lib.hid hd7.rowV.lt
  have HIu := Lib.hid hd7.rowU.lt
  have F7 := Lib.hid (F6.out.keep hb7)
  have G7 := Lib.hid (G6.out.keep hb7)
  have X7 := Lib.hid (X6.out.keep hb7)
  have Y7 := Lib.hid (Y6.out.keep hb7)
  have K17 := Lib.hid (K16.out.keep hb7)
  have K27 := Lib.hid (K26.out.keep hb7)
  have K37 := Lib.hid (K36.out.keep hb7)
  have SV7 := Lib.hid (ownN_below SV6.out hb7)
  have SU7 := Lib.hid (ownN_below SU6.out hb7)
  have HB7 : Hid (Below w.heap.size w w7) := HB6.out.trans (hb7.mono (by have := HB6.out.size; omega))
  clear F6 G6 X6 Y6 K16 K26 K36 SV6 SU6 HB6 hb7 hd7 HSP
  go_wp2_with fail
  refine (eqIntsT _ _ _ _ _ _ E _ (own_rd IV7.out) (own_rd SV7.out) (by omega) (by omega)).mono ?_
  rintro e w8 ⟨rfl, hb8⟩
  have hz8 := hb8.size
  have F8 := Lib.hid (F7.out.keep hb8)
  have G8 := Lib.hid (G7.out.keep hb8)
  have X8 := Lib.hid (X7.out.keep hb8)
  have Y8 := Lib.hid (Y7.out.keep hb8)
  have K18 := Lib.hid (K17.out.keep hb8)
  have K28 := Lib.hid (K27.out.keep hb8)
  have K38 := Lib.hid (K37.out.keep hb8)
  have SV8 := Lib.hid (ownN_below SV7.out hb8)
  have SU8 := Lib.hid (ownN_below SU7.out hb8)
  have IV8 := Lib.hid (ownN_below IV7.out hb8)
  have IU8 := Lib.hid (ownN_below IU7.out hb8)
  have HB8 : Hid (Below w.heap.size w w8) := HB7.out.trans (hb8.mono (by have := HB7.out.size; omega))
  clear F7 G7 X7 Y7 K17 K27 K37 SV7 SU7 IV7 IU7 HB7 hb8
  go_wp2_with fail
  refine (eqIntsT _ _ _ _ _ _ N _ (own_rd IU8.out) (own_rd SU8.out) (by omega) (by omega)).mono ?_
  rintro e w9 ⟨rfl, hb9⟩
  have hz9 := hb9.size
  have F9 := Lib.hid (F8.out.keep hb9)
  have G9 := Lib.hid (G8.out.keep hb9)
  have X9 := Lib.hid (X8.out.keep hb9)
  have Y9 := Lib.hid (Y8.out.keep hb9)
  have K19 := Lib.hid (K18.out.keep hb9)
  have K29 := Lib.hid (K28.out.keep hb9)
  have K39 := Lib.hid (K38.out.keep hb9)
  have SV9 := Lib.hid (ownN_below SV8.out hb9)
  have SU9 := Lib.hid (ownN_below SU8.out hb9)
  have IV9 := Lib.hid (ownN_below IV8.out hb9)
  have IU9 := Lib.hid (ownN_below IU8.out hb9)
  have HB9 : Hid (Below w.heap.size w w9) := HB8.out.trans (hb9.mono (by have := HB8.out.size; omega))
  clear F8 G8 X8 Y8 K18 K28 K38 SV8 SU8 IV8 IU8 HB8 hb9
  obtain ⟨_, hr_⟩ := F9.out
  have c0_ := (hr_ 0 _ rfl).1
  have c1_ := (hr_ 1 _ rfl).1
  have c2_ := (hr_ 2 _ rfl).1
  have c3_ := (hr_ 3 _ rfl).1
  have c4_ := (hr_ 4 _ rfl).1
  have c5_ := (hr_ 5 _ rfl).1
  have c6_ := (hr_ 6 _ rfl).1
  have c7_ := (hr_ 7 _ rfl).1
  clear hr_
  obtain ⟨_, hr_⟩ := X9.out
  have x0_ := (hr_ 0 _ rfl).1
  have x1_ := (hr_ 1 _ rfl).1
  have x2_ := (hr_ 2 _ rfl).1
  have x3_ := (hr_ 3 _ rfl).1
  have x4_ := (hr_ 4 _ rfl).1
  have x5_ := (hr_ 5 _ rfl).1
  have x6_ := (hr_ 6 _ rfl).1
  have x7_ := (hr_ 7 _ rfl).1
  clear hr_
  have HS_w9 : Hid (∀ w', Below w9.heap.size w9 w' → Below w9.heap.size w9 w' ∧ w.heap.size < w'.heap.size ∧ w'.cell? ⟨w.heap.size, 0, none⟩ = some (.string aF_Name) ∧ w'.cell? ⟨w.heap.size, 1, none⟩ = some (.int .i64 aF_Kind) ∧ w'.cell? ⟨w.heap.size, 2, none⟩ = some (.int .i64 aF_Field_Prime) ∧ w'.cell? ⟨w.heap.size, 3, none⟩ = some (.int .i64 aF_Field_Power) ∧ w'.cell? ⟨w.heap.size, 4, none⟩ = some (.int .i64 aF_Field_Poly) ∧ w'.cell? ⟨w.heap.size, 5, none⟩ = some (.slice aF_Sizes_a aF_Sizes_n aF_Sizes_c) ∧ w'.cell? ⟨w.heap.size, 6, none⟩ = some (.int .i64 aF_Columns) ∧ w'.cell? ⟨w.heap.size, 7, none⟩ = some (.slice aF_Levels_a aF_Levels_n aF_Levels_c) ∧ w4.heap.size < w'.heap.size ∧ w'.cell? ⟨w4.heap.size, 0, none⟩ = some (.string aF_Name) ∧ w'.cell? ⟨w4.heap.size, 1, none⟩ = some (.int .i64 aF_Kind) ∧ w'.cell? ⟨w4.heap.size, 2, none⟩ = some (.int .i64 aF_Field_Prime) ∧ w'.cell? ⟨w4.heap.size, 3, none⟩ = some (.int .i64 aF_Field_Power) ∧ w'.cell? ⟨w4.heap.size, 4, none⟩ = some (.int .i64 aF_Field_Poly) ∧ w'.cell? ⟨w4.heap.size, 5, none⟩ = some (.slice (some ⟨g1, 0, none⟩) aF_Sizes_n aF_Sizes_n) ∧ w'.cell? ⟨w4.heap.size, 6, none⟩ = some (.int .i64 aF_Columns) ∧ w'.cell? ⟨w4.heap.size, 7, none⟩ = some (.slice (some ⟨g2, 0, none⟩) aF_Levels_n aF_Levels_n)) := fun w' h => ⟨h, Nat.lt_of_lt_of_le (by assumption) h.size, (h.cell (p := ⟨_, _, none⟩) (by assumption)).trans (by assumption), (h.cell (p := ⟨_, _, none⟩) (by assumption)).trans (by assumption), (h.cell (p := ⟨_, _, none⟩) (by assumption)).trans (by assumption), (h.cell (p := ⟨_, _, none⟩) (by assumption)).trans (by assumption), (h.cell (p := ⟨_, _, none⟩) (by assumption)).trans (by assumption), (h.cell (p := ⟨_, _, none⟩) (by assumption)).trans (by assumption), (h.cell (p := ⟨_, _, none⟩) (by assumption)).trans (by assumption), (h.cell (p := ⟨_, _, none⟩) (by assumption)).trans (by assumption), Nat.lt_of_lt_of_le (by assumption) h.size, (h.cell (p := ⟨_, _, none⟩) (by assumption)).trans (by assumption), (h.cell (p := ⟨_, _, none⟩) (by assumption)).trans (by assumption), (h.cell (p := ⟨_, _, none⟩) (by assumption)).trans (by assumption), (h.cell (p := ⟨_, _, none⟩) (by assumption)).trans (by assumption), (h.cell (p := ⟨_, _, none⟩) (by assumption)).trans (by assumption), (h.cell (p := ⟨_, _, none⟩) (by assumption)).trans (by assumption), (h.cell (p := ⟨_, _, none⟩) (by assumption)).trans (by assumption), (h.cell (p := ⟨_, _, none⟩) (by assumption)).trans (by assumption)⟩
  go_wp2_with fail
  go_region_held3 (fun w' => Below w9.heap.size w9 w' ∧ w.heap.size < w'.heap.size ∧ w'.cell? ⟨w.heap.size, 0, none⟩ = some (.string aF_Name) ∧ w'.cell? ⟨w.heap.size, 1, none⟩ = some (.int .i64 aF_Kind) ∧ w'.cell? ⟨w.heap.size, 2, none⟩ = some (.int .i64 aF_Field_Prime) ∧ w'.cell? ⟨w.heap.size, 3, none⟩ = some (.int .i64 aF_Field_Power) ∧ w'.cell? ⟨w.heap.size, 4, none⟩ = some (.int .i64 aF_Field_Poly) ∧ w'.cell? ⟨w.heap.size, 5, none⟩ = some (.slice aF_Sizes_a aF_Sizes_n aF_Sizes_c) ∧ w'.cell? ⟨w.heap.size, 6, none⟩ = some (.int .i64 aF_Columns) ∧ w'.cell? ⟨w.heap.size, 7, none⟩ = some (.slice aF_Levels_a aF_Levels_n aF_Levels_c) ∧ w4.heap.size < w'.heap.size ∧ w'.cell? ⟨w4.heap.size, 0, none⟩ = some (.string aF_Name) ∧ w'.cell? ⟨w4.heap.size, 1, none⟩ = some (.int .i64 aF_Kind) ∧ w'.cell? ⟨w4.heap.size, 2, none⟩ = some (.int .i64 aF_Field_Prime) ∧ w'.cell? ⟨w4.heap.size, 3, none⟩ = some (.int .i64 aF_Field_Power) ∧ w'.cell? ⟨w4.heap.size, 4, none⟩ = some (.int .i64 aF_Field_Poly) ∧ w'.cell? ⟨w4.heap.size, 5, none⟩ = some (.slice (some ⟨g1, 0, none⟩) aF_Sizes_n aF_Sizes_n) ∧ w'.cell? ⟨w4.heap.size, 6, none⟩ = some (.int .i64 aF_Columns) ∧ w'.cell? ⟨w4.heap.size, 7, none⟩ = some (.slice (some ⟨g2, 0, none⟩) aF_Levels_n aF_Levels_n)) (exact HS_w9.out _ (by repeat' (first | (with_reducible exact Below.refl _ _) | (with_reducible assumption) | (with_reducible refine Below.alloc ?_ ?_ _) | (with_reducible refine Below.setCell ?_ ?_ _) | (with_reducible refine Below.drew ?_) | (with_reducible refine below_drewN ?_ _) | (with_reducible refine below_via (by with_reducible assumption) ?_ ?_) | go_size))) (first | (go_at_call 37; refine (HTF.out _ (HB9.out.trans (Below.mono (show Below w9.heap.size w9 _ by repeat' (first | (with_reducible exact Below.refl _ _) | (with_reducible assumption) | (with_reducible refine Below.alloc ?_ ?_ _) | (with_reducible refine Below.setCell ?_ ?_ _) | (with_reducible refine Below.drew ?_) | (with_reducible refine below_drewN ?_ _) | (with_reducible refine below_via (by with_reducible assumption) ?_ ?_) | go_size)) (by omega)))).mono ?_; rintro e w' ⟨h1, h2, rfl, hh1, hh2, kk1, kk2, hb⟩; (try simp at hh1 hh2); obtain ⟨hc, hf⟩ := bcell hb; have hz := hb.size; (try simp at hz)) | (go_at_call 40; refine (eqFam aF_Name aF_Kind aF_Field_Prime aF_Field_Power aF_Field_Poly _ aF_Sizes_n aF_Sizes_n aF_Columns _ aF_Levels_n aF_Levels_n _ aF_Sizes_n _ aF_Levels_n aF_Sizes_z aF_Levels_z _ ((K19.out.keep (show Below w9.heap.size w9 _ by repeat' (first | (with_reducible exact Below.refl _ _) | (with_reducible assumption) | (with_reducible refine Below.alloc ?_ ?_ _) | (with_reducible refine Below.setCell ?_ ?_ _) | (with_reducible refine Below.drew ?_) | (with_reducible refine below_drewN ?_ _) | (with_reducible refine below_via (by with_reducible assumption) ?_ ?_) | go_size))).rd HLZ.out.1) (kk1.rd HLZ.out.1) hsn ((K29.out.keep (show Below w9.heap.size w9 _ by repeat' (first | (with_reducible exact Below.refl _ _) | (with_reducible assumption) | (with_reducible refine Below.alloc ?_ ?_ _) | (with_reducible refine Below.setCell ?_ ?_ _) | (with_reducible refine Below.drew ?_) | (with_reducible refine below_drewN ?_ _) | (with_reducible refine below_via (by with_reducible assumption) ?_ ?_) | go_size))).rd HLZ.out.2.1) (kk2.rd HLZ.out.2.1) hln).mono ?_; rintro e w' ⟨rfl, hb⟩; obtain ⟨hc, hf⟩ := bcell hb; have hz := hb.size; (try simp at hz)))
  have hb10 : Below w9.heap.size w9 w' := by repeat' (first | (with_reducible exact Below.refl _ _) | (with_reducible assumption) | (with_reducible refine Below.alloc ?_ ?_ _) | (with_reducible refine Below.setCell ?_ ?_ _) | (with_reducible refine Below.drew ?_) | (with_reducible refine below_drewN ?_ _) | (with_reducible refine below_via (by with_reducible assumption) ?_ ?_) | go_size)
  obtain ⟨w10, rfl⟩ : ∃ w10 : World, w10 = w' := ⟨_, rfl⟩
  have hz10 := hb10.size
  have F10 := Lib.hid (F9.out.keep hb10)
  have G10 := Lib.hid (G9.out.keep hb10)
  have X10 := Lib.hid (X9.out.keep hb10)
  have Y10 := Lib.hid (Y9.out.keep hb10)
  have K110 := Lib.hid (K19.out.keep hb10)
  have K210 := Lib.hid (K29.out.keep hb10)
  have K310 := Lib.hid (K39.out.keep hb10)
  have SV10 := Lib.hid (ownN_below SV9.out hb10)
  have SU10 := Lib.hid (ownN_below SU9.out hb10)
  have IV10 := Lib.hid (ownN_below IV9.out hb10)
  have IU10 := Lib.hid (ownN_below IU9.out hb10)
  have HB10 : Hid (Below w.heap.size w w10) := HB9.out.trans (hb10.mono (by have := HB9.out.size; omega))
  clear F9 G9 X9 Y9 K19 K29 K39 SV9 SU9 IV9 IU9 HB9 hb10
  clear HS_w9 c0_ c1_ c2_ c3_ c4_ c5_ c6_ c7_ x0_ x1_ x2_ x3_ x4_ x5_ x6_ x7_
  obtain ⟨_, q0, q1, q2⟩ := G10.out
  obtain ⟨_, p0, p1, p2⟩ := Y10.out
  have HS_w10 : Hid (∀ w', Below w10.heap.size w10 w' → Below w10.heap.size w10 w' ∧ w.heap.size + 1 < w'.heap.size ∧ w'.cell? ⟨w.heap.size + 1, 0, none⟩ = some (.int .i64 aG_Rows) ∧ w'.cell? ⟨w.heap.size + 1, 1, none⟩ = some (.int .i64 aG_Cols) ∧ w'.cell? ⟨w.heap.size + 1, 2, none⟩ = some (.slice aG_Cells_a aG_Cells_n aG_Cells_c) ∧ w5.heap.size < w'.heap.size ∧ w'.cell? ⟨w5.heap.size, 0, none⟩ = some (.int .i64 aG_Rows) ∧ w'.cell? ⟨w5.heap.size, 1, none⟩ = some (.int .i64 aG_Cols) ∧ w'.cell? ⟨w5.heap.size, 2, none⟩ = some (.slice (some ⟨g3, 0, none⟩) aG_Cells_n aG_Cells_n)) := fun w' h => ⟨h, Nat.lt_of_lt_of_le (by assumption) h.size, (h.cell (p := ⟨_, _, none⟩) (by assumption)).trans (by assumption), (h.cell (p := ⟨_, _, none⟩) (by assumption)).trans (by assumption), (h.cell (p := ⟨_, _, none⟩) (by assumption)).trans (by assumption), Nat.lt_of_lt_of_le (by assumption) h.size, (h.cell (p := ⟨_, _, none⟩) (by assumption)).trans (by assumption), (h.cell (p := ⟨_, _, none⟩) (by assumption)).trans (by assumption), (h.cell (p := ⟨_, _, none⟩) (by assumption)).trans (by assumption)⟩
  go_wp2_with fail
  go_region_held3 (fun w' => Below w10.heap.size w10 w' ∧ w.heap.size + 1 < w'.heap.size ∧ w'.cell? ⟨w.heap.size + 1, 0, none⟩ = some (.int .i64 aG_Rows) ∧ w'.cell? ⟨w.heap.size + 1, 1, none⟩ = some (.int .i64 aG_Cols) ∧ w'.cell? ⟨w.heap.size + 1, 2, none⟩ = some (.slice aG_Cells_a aG_Cells_n aG_Cells_c) ∧ w5.heap.size < w'.heap.size ∧ w'.cell? ⟨w5.heap.size, 0, none⟩ = some (.int .i64 aG_Rows) ∧ w'.cell? ⟨w5.heap.size, 1, none⟩ = some (.int .i64 aG_Cols) ∧ w'.cell? ⟨w5.heap.size, 2, none⟩ = some (.slice (some ⟨g3, 0, none⟩) aG_Cells_n aG_Cells_n)) (exact HS_w10.out _ (by repeat' (first | (with_reducible exact Below.refl _ _) | (with_reducible assumption) | (with_reducible refine Below.alloc ?_ ?_ _) | (with_reducible refine Below.setCell ?_ ?_ _) | (with_reducible refine Below.drew ?_) | (with_reducible refine below_drewN ?_ _) | (with_reducible refine below_via (by with_reducible assumption) ?_ ?_) | go_size))) (first | (go_at_call 38; refine (HTG.out _ (HB10.out.trans (Below.mono (show Below w10.heap.size w10 _ by repeat' (first | (with_reducible exact Below.refl _ _) | (with_reducible assumption) | (with_reducible refine Below.alloc ?_ ?_ _) | (with_reducible refine Below.setCell ?_ ?_ _) | (with_reducible refine Below.drew ?_) | (with_reducible refine below_drewN ?_ _) | (with_reducible refine below_via (by with_reducible assumption) ?_ ?_) | go_size)) (by omega)))).mono ?_; rintro e w' ⟨h3, rfl, hh3, kk3, hb⟩; (try simp at hh3); obtain ⟨hc, hf⟩ := bcell hb; have hz := hb.size; (try simp at hz)) | (go_at_call 41; refine (eqGrdS aG_Rows aG_Cols _ _ aG_Cells_n aG_Cells_n aG_Cells_n aG_Cells_n aG_Cells_z _ ((K310.out.keep (show Below w10.heap.size w10 _ by repeat' (first | (with_reducible exact Below.refl _ _) | (with_reducible assumption) | (with_reducible refine Below.alloc ?_ ?_ _) | (with_reducible refine Below.setCell ?_ ?_ _) | (with_reducible refine Below.drew ?_) | (with_reducible refine below_drewN ?_ _) | (with_reducible refine below_via (by with_reducible assumption) ?_ ?_) | go_size))).rd HLZ.out.2.2) (kk3.rd HLZ.out.2.2) hgn hgn).mono ?_; rintro e w' ⟨rfl, hb⟩; obtain ⟨hc, hf⟩ := bcell hb; have hz := hb.size; (try simp at hz)))
  have hb11 : Below w10.heap.size w10 w' := by repeat' (first | (with_reducible exact Below.refl _ _) | (with_reducible assumption) | (with_reducible refine Below.alloc ?_ ?_ _) | (with_reducible refine Below.setCell ?_ ?_ _) | (with_reducible refine Below.drew ?_) | (with_reducible refine below_drewN ?_ _) | (with_reducible refine below_via (by with_reducible assumption) ?_ ?_) | go_size)
  obtain ⟨w11, rfl⟩ : ∃ w11 : World, w11 = w' := ⟨_, rfl⟩
  have hz11 := hb11.size
  have F11 := Lib.hid (F10.out.keep hb11)
  have G11 := Lib.hid (G10.out.keep hb11)
  have X11 := Lib.hid (X10.out.keep hb11)
  have Y11 := Lib.hid (Y10.out.keep hb11)
  have K111 := Lib.hid (K110.out.keep hb11)
  have K211 := Lib.hid (K210.out.keep hb11)
  have K311 := Lib.hid (K310.out.keep hb11)
  have SV11 := Lib.hid (ownN_below SV10.out hb11)
  have SU11 := Lib.hid (ownN_below SU10.out hb11)
  have IV11 := Lib.hid (ownN_below IV10.out hb11)
  have IU11 := Lib.hid (ownN_below IU10.out hb11)
  have HB11 : Hid (Below w.heap.size w w11) := HB10.out.trans (hb11.mono (by have := HB10.out.size; omega))
  clear F10 G10 X10 Y10 K110 K210 K310 SV10 SU10 IV10 IU10 HB10 hb11
  clear HS_w10 q0 q1 q2 p0 p1 p2
  obtain ⟨_, hr_⟩ := X11.out
  have x0_ := (hr_ 0 _ rfl).1
  have x1_ := (hr_ 1 _ rfl).1
  have x2_ := (hr_ 2 _ rfl).1
  have x3_ := (hr_ 3 _ rfl).1
  have x4_ := (hr_ 4 _ rfl).1
  have x5_ := (hr_ 5 _ rfl).1
  have x6_ := (hr_ 6 _ rfl).1
  have x7_ := (hr_ 7 _ rfl).1
  clear hr_
  go_wp2_with fail
  refine (markFam aF_Name aF_Kind aF_Field_Prime aF_Field_Power aF_Field_Poly g1 g2 aF_Sizes_n aF_Columns aF_Levels_n aF_Sizes_z aF_Levels_z w11 K111.out K211.out HLZ.out.1 HLZ.out.2.1 hsn hln).mono ?_
  rintro e w12 ⟨rfl, hoff⟩
  have hz12 := hoff.size
  have HGl2 := HGl.out
  have HG32 := HG3.out
  have F12 := Lib.hid (hoff.rowL F11.out (by omega))
  have G12 := Lib.hid (hoff.box3 G11.out (by omega))
  have Y12 := Lib.hid (hoff.box3 Y11.out (by omega))
  have K312 := Lib.hid (hoff.blk K311.out (by omega))
  have SV12 := Lib.hid (hoff.own SV11.out (fun b hb => by have := HWv.out b hb; omega))
  have SU12 := Lib.hid (hoff.own SU11.out (fun b hb => by have := HWu.out b hb; omega))
  have IV12 := Lib.hid (hoff.own IV11.out (fun b hb => by have := HIv.out b hb; omega))
  have IU12 := Lib.hid (hoff.own IU11.out (fun b hb => by have := HIu.out b hb; omega))
  have HB12 : Hid (Below w.heap.size w w12) := HB11.out.trans (hoff.below (by have := HB11.out.size; omega) (fun b hb => by omega))
  clear F11 G11 X11 Y11 K111 K211 K311 SV11 SU11 IV11 IU11 HB11 hoff x0_ x1_ x2_ x3_ x4_ x5_ x6_ x7_
  obtain ⟨_, p0, p1, p2⟩ := Y12.out
  go_wp2_with fail
  refine (markGrd2 aG_Rows aG_Cols (some ⟨g3, 0, none⟩) aG_Cells_n aG_Cells_n g3 aG_Cells_z (1 + aF_Sizes_n + aF_Levels_n) w12 (Blk.own K312.out (Nat.le_refl _) HLZ.out.2.2 m_aG_Cells) hgn (by omega) (by omega)).mono ?_
  rintro e w13 ⟨rfl, hoff⟩
  have hz13 := hoff.size
  have hoff2 : Off (fun b => b ≠ g3) w12 w13 := ⟨hoff.os, hoff.tape, hoff.output, hoff.size, fun b hb hp => hoff.block b hb (by simp [Value.ownBlock]; omega)⟩
  have F13 := Lib.hid (hoff2.rowL F12.out (by omega))
  have G13 := Lib.hid (hoff2.box3 G12.out (by omega))
  have SV13 := Lib.hid (hoff2.own SV12.out (fun b hb => by have := HWv.out b hb; omega))
  have SU13 := Lib.hid (hoff2.own SU12.out (fun b hb => by have := HWu.out b hb; omega))
  have IV13 := Lib.hid (hoff2.own IV12.out (fun b hb => by have := HIv.out b hb; omega))
  have IU13 := Lib.hid (hoff2.own IU12.out (fun b hb => by have := HIu.out b hb; omega))
  have HB13 : Hid (Below w.heap.size w w13) := HB12.out.trans (hoff2.below (by have := HB12.out.size; omega) (fun b hb => by omega))
  clear F12 G12 Y12 K312 SV12 SU12 IV12 IU12 HB12 hoff hoff2 p0 p1 p2
  have hk0 : ¬ (1 + (aF_Sizes_n : Int) + (aF_Levels_n : Int) + (aG_Cells_n : Int) < 0) := by omega
  go_wp2_with fail
  refine (eqIntsT _ _ _ _ _ _ E _ (own_rd IV13.out) (own_rd SV13.out) (by omega) (by omega)).mono ?_
  rintro e w14 ⟨rfl, hb14⟩
  have hz14 := hb14.size
  have F14 := Lib.hid (F13.out.keep hb14)
  have G14 := Lib.hid (G13.out.keep hb14)
  have SV14 := Lib.hid (ownN_below SV13.out hb14)
  have SU14 := Lib.hid (ownN_below SU13.out hb14)
  have IV14 := Lib.hid (ownN_below IV13.out hb14)
  have IU14 := Lib.hid (ownN_below IU13.out hb14)
  have HB14 : Hid (Below w.heap.size w w14) := HB13.out.trans (hb14.mono (by have := HB13.out.size; omega))
  clear F13 G13 SV13 SU13 IV13 IU13 HB13 hb14
  go_wp2_with fail
  refine (eqIntsT _ _ _ _ _ _ N _ (own_rd IU14.out) (own_rd SU14.out) (by omega) (by omega)).mono ?_
  rintro e w15 ⟨rfl, hb15⟩
  have hz15 := hb15.size
  have F15 := Lib.hid (F14.out.keep hb15)
  have G15 := Lib.hid (G14.out.keep hb15)
  have SV15 := Lib.hid (ownN_below SV14.out hb15)
  have SU15 := Lib.hid (ownN_below SU14.out hb15)
  have IV15 := Lib.hid (ownN_below IV14.out hb15)
  have IU15 := Lib.hid (ownN_below IU14.out hb15)
  have HB15 : Hid (Below w.heap.size w w15) := HB14.out.trans (hb15.mono (by have := HB14.out.size; omega))
  clear F14 G14 SV14 SU14 IV14 IU14 HB14 hb15
  go_wp2_with fail
  refine (markInts2 ga n gc _ E 1 w15 IV15.out (by omega) (by omega) (by omega)).mono ?_
  rintro e w16 ⟨rfl, hm16, hg16⟩
  have hz16 := hg16.size
  have hoff : Off (fun b => (Value.slice ga n gc).ownBlock ≠ some b) w15 w16 := Off.of_grown hg16 (fun b h => h)
  have F16 := Lib.hid (hoff.rowL F15.out (fun h => by have := HIv.out _ h; omega))
  have G16 := Lib.hid (hoff.box3 G15.out (fun h => by have := HIv.out _ h; omega))
  have SV16 := Lib.hid (hoff.own SV15.out (fun b hb h => by have := HWv.out b hb; have := HIv.out b h; omega))
  have SU16 := Lib.hid (hoff.own SU15.out (fun b hb h => by have := HWu.out b hb; have := HIv.out b h; omega))
  have HB16 : Hid (Below w.heap.size w w16) := HB15.out.trans (hoff.below (by have := HB15.out.size; omega) (fun b hb h => by have := HIv.out b h; omega))
  have IU16 := Lib.hid (hoff.own IU15.out (fun b hb h => HAp.out b h hb))
  have MV16 := Lib.hid hm16
  clear F15 G15 SV15 SU15 IV15 IU15 HB15 hoff hm16 hg16
  go_wp2_with fail
  refine (markInts2 gb m gd _ N (1 + n) w16 IU16.out (by omega) (by omega) (by omega)).mono ?_
  rintro e w17 ⟨rfl, hm17, hg17⟩
  have hz17 := hg17.size
  have hoff : Off (fun b => (Value.slice gb m gd).ownBlock ≠ some b) w16 w17 := Off.of_grown hg17 (fun b h => h)
  have F17 := Lib.hid (hoff.rowL F16.out (fun h => by have := HIu.out _ h; omega))
  have G17 := Lib.hid (hoff.box3 G16.out (fun h => by have := HIu.out _ h; omega))
  have SV17 := Lib.hid (hoff.own SV16.out (fun b hb h => by have := HWv.out b hb; have := HIu.out b h; omega))
  have SU17 := Lib.hid (hoff.own SU16.out (fun b hb h => by have := HWu.out b hb; have := HIu.out b h; omega))
  have HB17 : Hid (Below w.heap.size w w17) := HB16.out.trans (hoff.below (by have := HB16.out.size; omega) (fun b hb h => by have := HIu.out b h; omega))
  have MV17 := Lib.hid (hoff.own MV16.out (fun b hb h => HAp.out b hb h))
  have MU17 := Lib.hid hm17
  clear F16 G16 SV16 SU16 IU16 MV16 HB16 hoff hm17 hg17
  go_wp2_with fail
  refine (heldInts ga n gc 1 w17 (own_rd MV17.out) (by omega) (by omega) (by omega)).mono ?_
  rintro e w18 ⟨rfl, hb18⟩
  have hz18 := hb18.size
  have F18 := Lib.hid (F17.out.keep hb18)
  have G18 := Lib.hid (G17.out.keep hb18)
  have SV18 := Lib.hid (ownN_below SV17.out hb18)
  have SU18 := Lib.hid (ownN_below SU17.out hb18)
  have MV18 := Lib.hid (ownN_below MV17.out hb18)
  have MU18 := Lib.hid (ownN_below MU17.out hb18)
  have HB18 : Hid (Below w.heap.size w w18) := HB17.out.trans (hb18.mono (by have := HB17.out.size; omega))
  clear F17 G17 SV17 SU17 MV17 MU17 HB17 hb18
  have hk1 : ¬ (1 + (n : Int) < 0) := by omega
  go_wp2_with fail
  refine (heldInts gb m gd (1 + n) w18 (own_rd MU18.out) (by omega) (by omega) (by omega)).mono ?_
  rintro e w19 ⟨rfl, hb19⟩
  have hz19 := hb19.size
  have F19 := Lib.hid (F18.out.keep hb19)
  have G19 := Lib.hid (G18.out.keep hb19)
  have SV19 := Lib.hid (ownN_below SV18.out hb19)
  have SU19 := Lib.hid (ownN_below SU18.out hb19)
  have MV19 := Lib.hid (ownN_below MV18.out hb19)
  have MU19 := Lib.hid (ownN_below MU18.out hb19)
  have HB19 : Hid (Below w.heap.size w w19) := HB18.out.trans (hb19.mono (by have := HB18.out.size; omega))
  clear F18 G18 SV18 SU18 MV18 MU18 HB18 hb19
  have hk2 : ¬ (1 + (n : Int) + (m : Int) < 0) := by omega
  obtain ⟨_, hr_⟩ := F19.out
  have c0_ := (hr_ 0 _ rfl).1
  have c1_ := (hr_ 1 _ rfl).1
  have c2_ := (hr_ 2 _ rfl).1
  have c3_ := (hr_ 3 _ rfl).1
  have c4_ := (hr_ 4 _ rfl).1
  have c5_ := (hr_ 5 _ rfl).1
  have c6_ := (hr_ 6 _ rfl).1
  have c7_ := (hr_ 7 _ rfl).1
  clear hr_
  obtain ⟨_, q0, q1, q2⟩ := G19.out
  have HS_w19 : Hid (∀ w', Below w19.heap.size w19 w' → Below w19.heap.size w19 w' ∧ w.heap.size < w'.heap.size ∧ w'.cell? ⟨w.heap.size, 0, none⟩ = some (.string aF_Name) ∧ w'.cell? ⟨w.heap.size, 1, none⟩ = some (.int .i64 aF_Kind) ∧ w'.cell? ⟨w.heap.size, 2, none⟩ = some (.int .i64 aF_Field_Prime) ∧ w'.cell? ⟨w.heap.size, 3, none⟩ = some (.int .i64 aF_Field_Power) ∧ w'.cell? ⟨w.heap.size, 4, none⟩ = some (.int .i64 aF_Field_Poly) ∧ w'.cell? ⟨w.heap.size, 5, none⟩ = some (.slice aF_Sizes_a aF_Sizes_n aF_Sizes_c) ∧ w'.cell? ⟨w.heap.size, 6, none⟩ = some (.int .i64 aF_Columns) ∧ w'.cell? ⟨w.heap.size, 7, none⟩ = some (.slice aF_Levels_a aF_Levels_n aF_Levels_c) ∧ w.heap.size + 1 < w'.heap.size ∧ w'.cell? ⟨w.heap.size + 1, 0, none⟩ = some (.int .i64 aG_Rows) ∧ w'.cell? ⟨w.heap.size + 1, 1, none⟩ = some (.int .i64 aG_Cols) ∧ w'.cell? ⟨w.heap.size + 1, 2, none⟩ = some (.slice aG_Cells_a aG_Cells_n aG_Cells_c)) := fun w' h => ⟨h, Nat.lt_of_lt_of_le (by assumption) h.size, (h.cell (p := ⟨_, _, none⟩) (by assumption)).trans (by assumption), (h.cell (p := ⟨_, _, none⟩) (by assumption)).trans (by assumption), (h.cell (p := ⟨_, _, none⟩) (by assumption)).trans (by assumption), (h.cell (p := ⟨_, _, none⟩) (by assumption)).trans (by assumption), (h.cell (p := ⟨_, _, none⟩) (by assumption)).trans (by assumption), (h.cell (p := ⟨_, _, none⟩) (by assumption)).trans (by assumption), (h.cell (p := ⟨_, _, none⟩) (by assumption)).trans (by assumption), (h.cell (p := ⟨_, _, none⟩) (by assumption)).trans (by assumption), Nat.lt_of_lt_of_le (by assumption) h.size, (h.cell (p := ⟨_, _, none⟩) (by assumption)).trans (by assumption), (h.cell (p := ⟨_, _, none⟩) (by assumption)).trans (by assumption), (h.cell (p := ⟨_, _, none⟩) (by assumption)).trans (by assumption)⟩
  go_wp2_with fail
  go_cut [17, 18, 19] from 20 (fun x y z wx => z = .int .i64 o ∧ Hid (Duo wx wx w19.heap.size 0 0 x n (E.map (Value.int .i64)) y m (N.map (Value.int .i64))) ∧ Hid (Below w19.heap.size w19 wx))
  case first =>
    go_region_held3 (fun w' => Below w19.heap.size w19 w' ∧ w.heap.size < w'.heap.size ∧ w'.cell? ⟨w.heap.size, 0, none⟩ = some (.string aF_Name) ∧ w'.cell? ⟨w.heap.size, 1, none⟩ = some (.int .i64 aF_Kind) ∧ w'.cell? ⟨w.heap.size, 2, none⟩ = some (.int .i64 aF_Field_Prime) ∧ w'.cell? ⟨w.heap.size, 3, none⟩ = some (.int .i64 aF_Field_Power) ∧ w'.cell? ⟨w.heap.size, 4, none⟩ = some (.int .i64 aF_Field_Poly) ∧ w'.cell? ⟨w.heap.size, 5, none⟩ = some (.slice aF_Sizes_a aF_Sizes_n aF_Sizes_c) ∧ w'.cell? ⟨w.heap.size, 6, none⟩ = some (.int .i64 aF_Columns) ∧ w'.cell? ⟨w.heap.size, 7, none⟩ = some (.slice aF_Levels_a aF_Levels_n aF_Levels_c) ∧ w.heap.size + 1 < w'.heap.size ∧ w'.cell? ⟨w.heap.size + 1, 0, none⟩ = some (.int .i64 aG_Rows) ∧ w'.cell? ⟨w.heap.size + 1, 1, none⟩ = some (.int .i64 aG_Cols) ∧ w'.cell? ⟨w.heap.size + 1, 2, none⟩ = some (.slice aG_Cells_a aG_Cells_n aG_Cells_c)) (exact HS_w19.out _ (by repeat' (first | (with_reducible exact Below.refl _ _) | (with_reducible assumption) | (with_reducible refine Below.alloc ?_ ?_ _) | (with_reducible refine Below.setCell ?_ ?_ _) | (with_reducible refine Below.drew ?_) | (with_reducible refine below_drewN ?_ _) | (with_reducible refine below_via (by with_reducible assumption) ?_ ?_) | go_size))) (first | (go_at_call 37; refine (HTF.out _ (HB19.out.trans (Below.mono (show Below w19.heap.size w19 _ by repeat' (first | (with_reducible exact Below.refl _ _) | (with_reducible assumption) | (with_reducible refine Below.alloc ?_ ?_ _) | (with_reducible refine Below.setCell ?_ ?_ _) | (with_reducible refine Below.drew ?_) | (with_reducible refine below_drewN ?_ _) | (with_reducible refine below_via (by with_reducible assumption) ?_ ?_) | go_size)) (by omega)))).mono ?_; rintro e w' ⟨g1, g2, rfl, hg1, hg2, hk1, hk2, hb⟩; (try simp at hg1 hg2); obtain ⟨hc, hf⟩ := bcell hb; have hz := hb.size; (try simp at hz)) | (go_at_call 38; refine (HTG.out _ (HB19.out.trans (Below.mono (show Below w19.heap.size w19 _ by repeat' (first | (with_reducible exact Below.refl _ _) | (with_reducible assumption) | (with_reducible refine Below.alloc ?_ ?_ _) | (with_reducible refine Below.setCell ?_ ?_ _) | (with_reducible refine Below.drew ?_) | (with_reducible refine below_drewN ?_ _) | (with_reducible refine below_via (by with_reducible assumption) ?_ ?_) | go_size)) (by omega)))).mono ?_; rintro e w' ⟨g3, rfl, hg3, hk3, hb⟩; (try simp at hg3); obtain ⟨hc, hf⟩ := bcell hb; have hz := hb.size; (try simp at hz)) | (go_at_call 50; have hq : Below w19.heap.size w19 _ := (show Below w19.heap.size w19 _ by repeat' (first | (with_reducible exact Below.refl _ _) | (with_reducible assumption) | (with_reducible refine Below.alloc ?_ ?_ _) | (with_reducible refine Below.setCell ?_ ?_ _) | (with_reducible refine Below.drew ?_) | (with_reducible refine below_drewN ?_ _) | (with_reducible refine below_via (by with_reducible assumption) ?_ ?_) | go_size)); have hqs := hq.size; refine (HIM.out _ _ _ _ _ _ ((hk1.keep (by repeat' (first | (with_reducible exact Below.refl _ _) | (with_reducible assumption) | (with_reducible refine Below.alloc ?_ ?_ _) | (with_reducible refine Below.setCell ?_ ?_ _) | (with_reducible refine Below.drew ?_) | (with_reducible refine below_drewN ?_ _) | (with_reducible refine below_via (by with_reducible assumption) ?_ ?_) | go_size))).rd HLZ.out.1) ((hk2.keep (by repeat' (first | (with_reducible exact Below.refl _ _) | (with_reducible assumption) | (with_reducible refine Below.alloc ?_ ?_ _) | (with_reducible refine Below.setCell ?_ ?_ _) | (with_reducible refine Below.drew ?_) | (with_reducible refine below_drewN ?_ _) | (with_reducible refine below_via (by with_reducible assumption) ?_ ?_) | go_size))).rd HLZ.out.2.1) ((hk3.keep (by repeat' (first | (with_reducible exact Below.refl _ _) | (with_reducible assumption) | (with_reducible refine Below.alloc ?_ ?_ _) | (with_reducible refine Below.setCell ?_ ?_ _) | (with_reducible refine Below.drew ?_) | (with_reducible refine below_drewN ?_ _) | (with_reducible refine below_via (by with_reducible assumption) ?_ ?_) | go_size))).rd HLZ.out.2.2)).mono ?_; rintro e w' ⟨v0, u0, rfl, hd, hb⟩; obtain ⟨hc, hf⟩ := bcell hb; have hz := hb.size; (try simp at hz); have hd2 := Lib.hid (hd.plain (B' := w19.heap.size) (by simp at hqs ⊢; omega))))
    all_goals
      go_wp2_with fail
      go_meet
      case rel => exact ⟨rfl, hd2, by unfold Hid; repeat' (first | (with_reducible exact Below.refl _ _) | (with_reducible assumption) | (with_reducible refine Below.alloc ?_ ?_ _) | (with_reducible refine Below.setCell ?_ ?_ _) | (with_reducible refine Below.drew ?_) | (with_reducible refine below_drewN ?_ _) | (with_reducible refine below_via (by with_reducible assumption) ?_ ?_) | go_size)⟩
  obtain ⟨rfl, hcd, hcb⟩ := hcut
  obtain ⟨w20, rfl⟩ : ∃ w20 : World, w20 = wc := ⟨_, rfl⟩
  have hb20 := hcb.out
  have hz20 := hb20.size
  obtain ⟨ha, hc, rfl⟩ := ownN_shape hcd.out.rowV
  obtain ⟨hb, hd, rfl⟩ := ownN_shape hcd.out.rowU
  have IV20 := Lib.hid hcd.out.rowV
  have IU20 := Lib.hid hcd.out.rowU
  have F20 := Lib.hid (F19.out.keep hb20)
  have G20 := Lib.hid (G19.out.keep hb20)
  have SV20 := Lib.hid (ownN_below SV19.out hb20)
  have SU20 := Lib.hid (ownN_below SU19.out hb20)
  have MV20 := Lib.hid (ownN_below MV19.out hb20)
  have MU20 := Lib.hid (ownN_below MU19.out hb20)
  have HB20 : Hid (Below w.heap.size w w20) := HB19.out.trans (hb20.mono (by have := HB19.out.size; omega))
  clear F19 G19 SV19 SU19 MV19 MU19 HB19 hb20
  clear HS_w19 hcb hcd q0 q1 q2 c0_ c1_ c2_ c3_ c4_ c5_ c6_ c7_
  go_wp2_with fail
  refine (eqIntsT _ _ _ _ _ _ E _ (own_rd IV20.out) (own_rd SV20.out) (by omega) (by omega)).mono ?_
  rintro e w21 ⟨rfl, hb21⟩
  have hz21 := hb21.size
  have F21 := Lib.hid (F20.out.keep hb21)
  have G21 := Lib.hid (G20.out.keep hb21)
  have SV21 := Lib.hid (ownN_below SV20.out hb21)
  have SU21 := Lib.hid (ownN_below SU20.out hb21)
  have MV21 := Lib.hid (ownN_below MV20.out hb21)
  have MU21 := Lib.hid (ownN_below MU20.out hb21)
  have IV21 := Lib.hid (ownN_below IV20.out hb21)
  have IU21 := Lib.hid (ownN_below IU20.out hb21)
  have HB21 : Hid (Below w.heap.size w w21) := HB20.out.trans (hb21.mono (by have := HB20.out.size; omega))
  clear F20 G20 SV20 SU20 MV20 MU20 IV20 IU20 HB20 hb21
  go_wp2_with fail
  refine (eqIntsT _ _ _ _ _ _ N _ (own_rd IU21.out) (own_rd SU21.out) (by omega) (by omega)).mono ?_
  rintro e w22 ⟨rfl, hb22⟩
  have hz22 := hb22.size
  have F22 := Lib.hid (F21.out.keep hb22)
  have G22 := Lib.hid (G21.out.keep hb22)
  have SV22 := Lib.hid (ownN_below SV21.out hb22)
  have SU22 := Lib.hid (ownN_below SU21.out hb22)
  have MV22 := Lib.hid (ownN_below MV21.out hb22)
  have MU22 := Lib.hid (ownN_below MU21.out hb22)
  have IV22 := Lib.hid (ownN_below IV21.out hb22)
  have IU22 := Lib.hid (ownN_below IU21.out hb22)
  have HB22 : Hid (Below w.heap.size w w22) := HB21.out.trans (hb22.mono (by have := HB21.out.size; omega))
  clear F21 G21 SV21 SU21 MV21 MU21 IV21 IU21 HB21 hb22
  go_wp2_with fail
  refine (heldInts ga n gc 1 w22 (own_rd MV22.out) (by omega) (by omega) (by omega)).mono ?_
  rintro e w23 ⟨rfl, hb23⟩
  have hz23 := hb23.size
  have F23 := Lib.hid (F22.out.keep hb23)
  have G23 := Lib.hid (G22.out.keep hb23)
  have SV23 := Lib.hid (ownN_below SV22.out hb23)
  have SU23 := Lib.hid (ownN_below SU22.out hb23)
  have MV23 := Lib.hid (ownN_below MV22.out hb23)
  have MU23 := Lib.hid (ownN_below MU22.out hb23)
  have HB23 : Hid (Below w.heap.size w w23) := HB22.out.trans (hb23.mono (by have := HB22.out.size; omega))
  clear F22 G22 SV22 SU22 MV22 MU22 HB22 hb23
  go_wp2_with fail
  refine (heldInts gb m gd (1 + n) w23 (own_rd MU23.out) (by omega) (by omega) (by omega)).mono ?_
  rintro e w24 ⟨rfl, hb24⟩
  have hz24 := hb24.size
  have F24 := Lib.hid (F23.out.keep hb24)
  have G24 := Lib.hid (G23.out.keep hb24)
  have SV24 := Lib.hid (ownN_below SV23.out hb24)
  have SU24 := Lib.hid (ownN_below SU23.out hb24)
  have MV24 := Lib.hid (ownN_below MV23.out hb24)
  have MU24 := Lib.hid (ownN_below MU23.out hb24)
  have HB24 : Hid (Below w.heap.size w w24) := HB23.out.trans (hb24.mono (by have := HB23.out.size; omega))
  clear F23 G23 SV23 SU23 MV23 MU23 HB23 hb24
  go_wp2_with fail
  go_returns
  exact ⟨rfl, HB24.out⟩
end Go.Proofs.Ytdpifddmhbeklaa
