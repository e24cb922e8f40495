/-
  DERIVED. The core of FnExactStackGrid.
-/
import Derived.Test.YtenelpollcabnaaFamQ
import Derived.Test.YtenelpollcabnaaFamZ
import Derived.Test.YtenelpollcabnaaResQ
namespace Go.Proofs.Ytenelpollcabnaa
open Go.RowKit
set_option linter.unusedVariables false
theorem Off.box3g {p : Nat → Prop} {w w' : World} {b : Nat} {x y z : Value} (h : Off p w w') (hr : Box3 w b x y z) (hp : p b) : Box3 w' b x y z := by
  have hb := h.block b hr.1 hp
  exact ⟨Nat.lt_of_lt_of_le hr.1 h.size, (World.cell?_of_block (a := ⟨b, 0, none⟩) hb).trans hr.2.1, (World.cell?_of_block (a := ⟨b, 1, none⟩) hb).trans hr.2.2.1, (World.cell?_of_block (a := ⟨b, 2, none⟩) hb).trans hr.2.2.2⟩
set_option maxRecDepth 20000 in
set_option maxHeartbeats 16000000 in
theorem core_StkG (aF_Name : ByteArray) (aF_Kind aF_Field_Prime aF_Field_Power aF_Field_Poly : Int) (aF_Sizes_a : Option Addr) (aF_Sizes_n aF_Sizes_c : Nat) (aF_Columns : Int) (aF_Levels_a : Option Addr) (aF_Levels_n aF_Levels_c : Nat) (aF_Sizes_z aF_Levels_z : List Int) (aSize aLevel : Int) (aElements_a : Option Addr) (aElements_n aElements_c : Nat) (aElements_z : List Int) (w : World)
    (f_aF_Name : aF_Name.size ≤ maxLen) (hF1 : Rd w aF_Sizes_a aF_Sizes_n aF_Sizes_z) (hF2 : Rd w aF_Levels_a aF_Levels_n aF_Levels_z) (hE1 : Rd w aElements_a aElements_n aElements_z) (m_aF_Sizes : aF_Sizes_n ≤ maxLen) (m_aF_Levels : aF_Levels_n ≤ maxLen) (m_aE : aElements_n ≤ maxLen)
    (R C : Int) (L : List Int) (o : Int)
    (hSP : aF_Sizes_n ≤ 1048576 → aF_Levels_n ≤ 1048576 → aElements_n ≤ 1048576 → ∀ (a1 a2 a3 : Option Addr) (c1 c2 : Nat) (W' : World), Rd W' a1 aF_Sizes_n aF_Sizes_z → Rd W' a2 aF_Levels_n aF_Levels_z → Rd W' a3 aElements_n aElements_z → Calls Try.prog 7 #[.agg #[.string aF_Name, .int .i64 aF_Kind, .int .i64 aF_Field_Prime, .int .i64 aF_Field_Power, .int .i64 aF_Field_Poly, .slice a1 aF_Sizes_n c1, .int .i64 aF_Columns, .slice a2 aF_Levels_n c2], .int .i64 aSize, .int .i64 aLevel, .slice a3 aElements_n aElements_n] W' (ResG W' R C L o))
    (hIM : aF_Sizes_n ≤ 1048576 → aF_Levels_n ≤ 1048576 → aElements_n ≤ 1048576 → ∀ (a1 a2 a3 : Option Addr) (c1 c2 : Nat) (W' : World), Rd W' a1 aF_Sizes_n aF_Sizes_z → Rd W' a2 aF_Levels_n aF_Levels_z → Rd W' a3 aElements_n aElements_z → Calls Try.prog 10 #[.agg #[.string aF_Name, .int .i64 aF_Kind, .int .i64 aF_Field_Prime, .int .i64 aF_Field_Power, .int .i64 aF_Field_Poly, .slice a1 aF_Sizes_n c1, .int .i64 aF_Columns, .slice a2 aF_Levels_n c2], .int .i64 aSize, .int .i64 aLevel, .slice a3 aElements_n aElements_n] W' (ResG W' R C L o))
    : Calls Try.prog 3 #[.agg #[.string aF_Name, .int .i64 aF_Kind, .int .i64 aF_Field_Prime, .int .i64 aF_Field_Power, .int .i64 aF_Field_Poly, .slice aF_Sizes_a aF_Sizes_n aF_Sizes_c, .int .i64 aF_Columns, .slice aF_Levels_a aF_Levels_n aF_Levels_c], .int .i64 aSize, .int .i64 aLevel, .slice aElements_a aElements_n aElements_c] w fun e w' => e = .returned (.bool true) ∧ Below w.heap.size w w' := by
  have HF1 := Lib.hid hF1
  have HF2 := Lib.hid hF2
  have HE1 := Lib.hid hE1
  have HSP0 := Lib.hid hSP
  have HIM0 := Lib.hid hIM
  clear hF1 hF2 hE1 hSP hIM
  by_cases hen : aElements_n ≤ 1048576
  case neg =>
    have hen2 : (1048576 : Int) < (aElements_n : Int) := by omega
    go_enter Try.func3, Try.ntmps3
    go_wp2_with fail
    go_returns
    exact ⟨rfl, by repeat' (first | (with_reducible exact Below.refl _ _) | (with_reducible assumption) | (with_reducible refine Below.alloc ?_ ?_ _) | (with_reducible refine Below.setCell ?_ ?_ _) | (with_reducible refine Below.drew ?_) | (with_reducible refine below_drewN ?_ _) | (with_reducible refine below_via (by with_reducible assumption) ?_ ?_) | go_size)⟩
  have hen2 : (aElements_n : Int) ≤ 1048576 := by omega
  go_enter Try.func3, Try.ntmps3
  go_wp2_with fail
  obtain ⟨W, hW⟩ : ∃ W : World, W = w.alloc (.cells #[.string aF_Name, .int .i64 aF_Kind, .int .i64 aF_Field_Prime, .int .i64 aF_Field_Power, .int .i64 aF_Field_Poly, .slice aF_Sizes_a aF_Sizes_n aF_Sizes_c, .int .i64 aF_Columns, .slice aF_Levels_a aF_Levels_n aF_Levels_c] 26) := ⟨_, rfl⟩
  have hz0 : w.heap.size + 1 ≤ W.heap.size := by rw [hW]; simp
  have F0 : Hid (RowL W w.heap.size [.string aF_Name, .int .i64 aF_Kind, .int .i64 aF_Field_Prime, .int .i64 aF_Field_Power, .int .i64 aF_Field_Poly, .slice aF_Sizes_a aF_Sizes_n aF_Sizes_c, .int .i64 aF_Columns, .slice aF_Levels_a aF_Levels_n aF_Levels_c]) := by rw [hW]; exact RowL.new8 w _ _ _ _ _ _ _ _ _
  have HB0 : Hid (Below w.heap.size w W) := by rw [hW]; unfold Hid; repeat' (first | (with_reducible exact Below.refl _ _) | (with_reducible assumption) | (with_reducible refine Below.alloc ?_ ?_ _) | (with_reducible refine Below.setCell ?_ ?_ _) | (with_reducible refine Below.drew ?_) | (with_reducible refine below_drewN ?_ _) | (with_reducible refine below_via (by with_reducible assumption) ?_ ?_) | go_size)
  rw [← hW]
  clear hW
  refine (szFam _ _ _ _ _ _ _ _ _ _ _ _ _ f_aF_Name m_aF_Sizes m_aF_Levels).mono ?_
  rintro e w1 ⟨z, rfl, hz, hb1⟩
  have hz1 := hb1.size
  have F1 := Lib.hid (F0.out.keep hb1)
  have HB1 : Hid (Below w.heap.size w w1) := HB0.out.trans (hb1.mono (by omega))
  clear F0 HB0 hb1
  rcases hz with hz | ⟨za, zb, hsn, hln⟩
  · go_wp2_with fail
    go_returns
    exact ⟨rfl, HB1.out⟩
  have hzn : ¬ z < 0 := by omega
  have HSP := Lib.hid (HSP0.out hsn hln hen)
  have HIM := Lib.hid (HIM0.out hsn hln hen)
  clear HSP0 HIM0
  have HTF : Hid (∀ W' : World, Below w.heap.size w W' → Calls Try.prog 8 #[.agg #[.string aF_Name, .int .i64 aF_Kind, .int .i64 aF_Field_Prime, .int .i64 aF_Field_Power, .int .i64 aF_Field_Poly, .slice aF_Sizes_a aF_Sizes_n aF_Sizes_c, .int .i64 aF_Columns, .slice aF_Levels_a aF_Levels_n aF_Levels_c]] W' (NewFam W' aF_Name aF_Kind aF_Field_Prime aF_Field_Power aF_Field_Poly aF_Sizes_n aF_Sizes_z aF_Columns aF_Levels_n aF_Levels_z)) := fun W' hW => toFam aF_Name aF_Kind aF_Field_Prime aF_Field_Power aF_Field_Poly aF_Sizes_a aF_Sizes_n aF_Sizes_c aF_Columns aF_Levels_a aF_Levels_n aF_Levels_c aF_Sizes_z aF_Levels_z W' (HF1.out.below hW) hsn (HF2.out.below hW) hln
  have HTE : Hid (∀ W' : World, Below w.heap.size w W' → Calls Try.prog 9 #[.slice aElements_a aElements_n aElements_c] W' (NewInts W' aElements_n aElements_z)) := fun W' hW => toInts aElements_a aElements_n aElements_c aElements_z W' (HE1.out.below hW) hen
  have HLZ := Lib.hid (And.intro HF1.out.1 (And.intro HF2.out.1 HE1.out.1))
  obtain ⟨_, hr_⟩ := F1.out
  have c0_ := (hr_ 0 _ rfl).1
  have c1_ := (hr_ 1 _ rfl).1
  have c2_ := (hr_ 2 _ rfl).1
  have c3_ := (hr_ 3 _ rfl).1
  have c4_ := (hr_ 4 _ rfl).1
  have c5_ := (hr_ 5 _ rfl).1
  have c6_ := (hr_ 6 _ rfl).1
  have c7_ := (hr_ 7 _ rfl).1
  clear hr_
  (try go_wp2_with fail)
  refine (HTF.out _ HB1.out).mono ?_
  rintro e w2 ⟨g1, g2, rfl, hg1, hg2, kg1, kg2, hb2⟩
  have hz2 := hb2.size
  clear c0_ c1_ c2_ c3_ c4_ c5_ c6_ c7_
  have hg1l := kg1.lt
  have hg2l := kg2.lt
  have F2 := Lib.hid (F1.out.keep hb2)
  have HB2 : Hid (Below w.heap.size w w2) := HB1.out.trans (hb2.mono (by have := HB1.out.size; omega))
  clear F1 HB1 hb2
  have Kg12 := Lib.hid kg1
  have Kg22 := Lib.hid kg2
  clear kg1 kg2
  (try go_wp2_with fail)
  refine (HTE.out _ HB2.out).mono ?_
  rintro e w3 ⟨g3, rfl, hg3, kg3, hb3⟩
  have hz3 := hb3.size
  have hg3l := kg3.lt
  have F3 := Lib.hid (F2.out.keep hb3)
  have Kg13 := Lib.hid (Kg12.out.keep hb3)
  have Kg23 := Lib.hid (Kg22.out.keep hb3)
  have HB3 : Hid (Below w.heap.size w w3) := HB2.out.trans (hb3.mono (by have := HB2.out.size; omega))
  clear F2 Kg12 Kg22 HB2 hb3
  have Kg33 := Lib.hid kg3
  clear kg3
  go_wp2_with fail
  refine (HSP.out _ _ _ _ _ _ (Kg13.out.rd HLZ.out.1) (Kg23.out.rd HLZ.out.2.1) (Kg33.out.rd HLZ.out.2.2)).mono ?_
  rintro e w4 ⟨ras, rcs, rfl, hos, hb4, hLn⟩
  have hz4 := hb4.size
  have HWs : Hid (∀ k, (Value.slice ras L.length rcs).ownBlock = some k → w3.heap.size ≤ k ∧ k < w4.heap.size) := hos.lt
  have Os4 := Lib.hid hos
  clear hos
  have F4 := Lib.hid (F3.out.keep hb4)
  have Kg14 := Lib.hid (Kg13.out.keep hb4)
  have Kg24 := Lib.hid (Kg23.out.keep hb4)
  have Kg34 := Lib.hid (Kg33.out.keep hb4)
  have HB4 : Hid (Below w.heap.size w w4) := HB3.out.trans (hb4.mono (by have := HB3.out.size; omega))
  clear F3 Kg13 Kg23 Kg33 HB3 hb4
  obtain ⟨_, hr_⟩ := F4.out
  have c0_ := (hr_ 0 _ rfl).1
  have c1_ := (hr_ 1 _ rfl).1
  have c2_ := (hr_ 2 _ rfl).1
  have c3_ := (hr_ 3 _ rfl).1
  have c4_ := (hr_ 4 _ rfl).1
  have c5_ := (hr_ 5 _ rfl).1
  have c6_ := (hr_ 6 _ rfl).1
  have c7_ := (hr_ 7 _ rfl).1
  clear hr_
  have hs_ : w.heap.size < w4.heap.size := F4.out.1
  go_wp2_with fail
  obtain ⟨w5, hv⟩ : ∃ W : World, W = w4.alloc (.cells #[.int .i64 R, .int .i64 C, .slice ras L.length rcs] 29) := ⟨_, rfl⟩
  have hbv : Below w4.heap.size w4 w5 := by rw [hv]; exact (Below.refl _ _).alloc (Nat.le_refl _) _
  have hz5 : w4.heap.size < w5.heap.size := by rw [hv]; simp
  have Bs5 : Hid (Box3 w5 (w4.heap.size) (.int .i64 R) (.int .i64 C) (.slice ras L.length rcs)) := by rw [hv]; exact Box3.new w4 _ _ _ _
  rw [← hv]
  clear hv
  have F5 := Lib.hid (F4.out.keep hbv)
  have Kg15 := Lib.hid (Kg14.out.keep hbv)
  have Kg25 := Lib.hid (Kg24.out.keep hbv)
  have Kg35 := Lib.hid (Kg34.out.keep hbv)
  have Os5 := Lib.hid (ownN_below Os4.out hbv)
  have HB5 : Hid (Below w.heap.size w w5) := HB4.out.trans (hbv.mono (by have := HB4.out.size; omega))
  clear F4 Kg14 Kg24 Kg34 Os4 HB4 hbv
  clear hs_ c0_ c1_ c2_ c3_ c4_ c5_ c6_ c7_
  clear Kg15 Kg25 Kg35
  clear HSP
  obtain ⟨_, hr_⟩ := F5.out
  have c0_ := (hr_ 0 _ rfl).1
  have c1_ := (hr_ 1 _ rfl).1
  have c2_ := (hr_ 2 _ rfl).1
  have c3_ := (hr_ 3 _ rfl).1
  have c4_ := (hr_ 4 _ rfl).1
  have c5_ := (hr_ 5 _ rfl).1
  have c6_ := (hr_ 6 _ rfl).1
  have c7_ := (hr_ 7 _ rfl).1
  clear hr_
  (try go_wp2_with fail)
  refine (HTF.out _ HB5.out).mono ?_
  rintro e w6 ⟨x1, x2, rfl, hx1, hx2, kx1, kx2, hb6⟩
  have hz6 := hb6.size
  clear c0_ c1_ c2_ c3_ c4_ c5_ c6_ c7_
  have hx1l := kx1.lt
  have hx2l := kx2.lt
  have F6 := Lib.hid (F5.out.keep hb6)
  have Os6 := Lib.hid (ownN_below Os5.out hb6)
  have Bs6 := Lib.hid (Bs5.out.keep hb6)
  have HB6 : Hid (Below w.heap.size w w6) := HB5.out.trans (hb6.mono (by have := HB5.out.size; omega))
  clear F5 Os5 Bs5 HB5 hb6
  have Kx16 := Lib.hid kx1
  have Kx26 := Lib.hid kx2
  clear kx1 kx2
  go_wp2_with fail
  obtain ⟨w7, hv⟩ : ∃ W : World, W = w6.alloc (.cells #[.string aF_Name, .int .i64 aF_Kind, .int .i64 aF_Field_Prime, .int .i64 aF_Field_Power, .int .i64 aF_Field_Poly, .slice (some ⟨x1, 0, none⟩) aF_Sizes_n aF_Sizes_n, .int .i64 aF_Columns, .slice (some ⟨x2, 0, none⟩) aF_Levels_n aF_Levels_n] 34) := ⟨_, rfl⟩
  have hbv : Below w6.heap.size w6 w7 := by rw [hv]; exact (Below.refl _ _).alloc (Nat.le_refl _) _
  have hz7 : w6.heap.size < w7.heap.size := by rw [hv]; simp
  have X7 : Hid (RowL w7 (w6.heap.size) [.string aF_Name, .int .i64 aF_Kind, .int .i64 aF_Field_Prime, .int .i64 aF_Field_Power, .int .i64 aF_Field_Poly, .slice (some ⟨x1, 0, none⟩) aF_Sizes_n aF_Sizes_n, .int .i64 aF_Columns, .slice (some ⟨x2, 0, none⟩) aF_Levels_n aF_Levels_n]) := by rw [hv]; exact RowL.new8 w6 _ _ _ _ _ _ _ _ _
  rw [← hv]
  clear hv
  have F7 := Lib.hid (F6.out.keep hbv)
  have Os7 := Lib.hid (ownN_below Os6.out hbv)
  have Bs7 := Lib.hid (Bs6.out.keep hbv)
  have Kx17 := Lib.hid (Kx16.out.keep hbv)
  have Kx27 := Lib.hid (Kx26.out.keep hbv)
  have HB7 : Hid (Below w.heap.size w w7) := HB6.out.trans (hbv.mono (by have := HB6.out.size; omega))
  clear F6 Os6 Bs6 Kx16 Kx26 HB6 hbv
  (try go_wp2_with fail)
  refine (HTE.out _ HB7.out).mono ?_
  rintro e w8 ⟨x3, rfl, hx3, kx3, hb8⟩
  have hz8 := hb8.size
  have hx3l := kx3.lt
  have F8 := Lib.hid (F7.out.keep hb8)
  have Os8 := Lib.hid (ownN_below Os7.out hb8)
  have Bs8 := Lib.hid (Bs7.out.keep hb8)
  have Kx18 := Lib.hid (Kx17.out.keep hb8)
  have Kx28 := Lib.hid (Kx27.out.keep hb8)
  have X8 := Lib.hid (X7.out.keep hb8)
  have HB8 : Hid (Below w.heap.size w w8) := HB7.out.trans (hb8.mono (by have := HB7.out.size; omega))
  clear F7 Os7 Bs7 Kx17 Kx27 X7 HB7 hb8
  have Kx38 := Lib.hid kx3
  clear kx3
  obtain ⟨_, hr_⟩ := X8.out
  have x0_ := (hr_ 0 _ rfl).1
  have x1_ := (hr_ 1 _ rfl).1
  have x2_ := (hr_ 2 _ rfl).1
  have x3_ := (hr_ 3 _ rfl).1
  have x4_ := (hr_ 4 _ rfl).1
  have x5_ := (hr_ 5 _ rfl).1
  have x6_ := (hr_ 6 _ rfl).1
  have x7_ := (hr_ 7 _ rfl).1
  clear hr_
  go_wp2_with fail
  refine (HIM.out _ _ _ _ _ _ (Kx18.out.rd HLZ.out.1) (Kx28.out.rd HLZ.out.2.1) (Kx38.out.rd HLZ.out.2.2)).mono ?_
  rintro e w9 ⟨rai, rci, rfl, hoi, hb9, hLn⟩
  have hz9 := hb9.size
  have HWi : Hid (∀ k, (Value.slice rai L.length rci).ownBlock = some k → w8.heap.size ≤ k ∧ k < w9.heap.size) := hoi.lt
  have Oi9 := Lib.hid hoi
  clear hoi
  have F9 := Lib.hid (F8.out.keep hb9)
  have Os9 := Lib.hid (ownN_below Os8.out hb9)
  have Bs9 := Lib.hid (Bs8.out.keep hb9)
  have Kx19 := Lib.hid (Kx18.out.keep hb9)
  have Kx29 := Lib.hid (Kx28.out.keep hb9)
  have X9 := Lib.hid (X8.out.keep hb9)
  have Kx39 := Lib.hid (Kx38.out.keep hb9)
  have HB9 : Hid (Below w.heap.size w w9) := HB8.out.trans (hb9.mono (by have := HB8.out.size; omega))
  clear F8 Os8 Bs8 Kx18 Kx28 X8 Kx38 HB8 hb9
  obtain ⟨hs_, p0, p1, p2⟩ := Bs9.out
  go_wp2_with fail
  obtain ⟨w10, hv⟩ : ∃ W : World, W = w9.alloc (.cells #[.int .i64 R, .int .i64 C, .slice rai L.length rci] 29) := ⟨_, rfl⟩
  have hbv : Below w9.heap.size w9 w10 := by rw [hv]; exact (Below.refl _ _).alloc (Nat.le_refl _) _
  have hz10 : w9.heap.size < w10.heap.size := by rw [hv]; simp
  have Bi10 : Hid (Box3 w10 (w9.heap.size) (.int .i64 R) (.int .i64 C) (.slice rai L.length rci)) := by rw [hv]; exact Box3.new w9 _ _ _ _
  rw [← hv]
  clear hv
  have F10 := Lib.hid (F9.out.keep hbv)
  have Os10 := Lib.hid (ownN_below Os9.out hbv)
  have Bs10 := Lib.hid (Bs9.out.keep hbv)
  have Kx110 := Lib.hid (Kx19.out.keep hbv)
  have Kx210 := Lib.hid (Kx29.out.keep hbv)
  have X10 := Lib.hid (X9.out.keep hbv)
  have Kx310 := Lib.hid (Kx39.out.keep hbv)
  have Oi10 := Lib.hid (ownN_below Oi9.out hbv)
  have HB10 : Hid (Below w.heap.size w w10) := HB9.out.trans (hbv.mono (by have := HB9.out.size; omega))
  clear F9 Os9 Bs9 Kx19 Kx29 X9 Kx39 Oi9 HB9 hbv
  clear hs_ p0 p1 p2
  clear x0_ x1_ x2_ x3_ x4_ x5_ x6_ x7_
  obtain ⟨_, p0, p1, p2⟩ := Bi10.out
  obtain ⟨_, q0, q1, q2⟩ := Bs10.out
  (try go_wp2_with fail)
  refine (eqGrdS R C _ _ _ _ _ _ L _ (own_rd Oi10.out) (own_rd Os10.out) hLn hLn).mono ?_
  rintro e w11 ⟨rfl, hb11⟩
  have hz11 := hb11.size
  clear p0 p1 p2 q0 q1 q2
  have F11 := Lib.hid (F10.out.keep hb11)
  have Os11 := Lib.hid (ownN_below Os10.out hb11)
  have Bs11 := Lib.hid (Bs10.out.keep hb11)
  have Kx111 := Lib.hid (Kx110.out.keep hb11)
  have Kx211 := Lib.hid (Kx210.out.keep hb11)
  have X11 := Lib.hid (X10.out.keep hb11)
  have Kx311 := Lib.hid (Kx310.out.keep hb11)
  have Oi11 := Lib.hid (ownN_below Oi10.out hb11)
  have Bi11 := Lib.hid (Bi10.out.keep hb11)
  have HB11 : Hid (Below w.heap.size w w11) := HB10.out.trans (hb11.mono (by have := HB10.out.size; omega))
  clear F10 Os10 Bs10 Kx110 Kx210 X10 Kx310 Oi10 Bi10 HB10 hb11
  obtain ⟨_, hr_⟩ := F11.out
  have c0_ := (hr_ 0 _ rfl).1
  have c1_ := (hr_ 1 _ rfl).1
  have c2_ := (hr_ 2 _ rfl).1
  have c3_ := (hr_ 3 _ rfl).1
  have c4_ := (hr_ 4 _ rfl).1
  have c5_ := (hr_ 5 _ rfl).1
  have c6_ := (hr_ 6 _ rfl).1
  have c7_ := (hr_ 7 _ rfl).1
  clear hr_
  obtain ⟨_, hr_⟩ := X11.out
  have x0_ := (hr_ 0 _ rfl).1
  have x1_ := (hr_ 1 _ rfl).1
  have x2_ := (hr_ 2 _ rfl).1
  have x3_ := (hr_ 3 _ rfl).1
  have x4_ := (hr_ 4 _ rfl).1
  have x5_ := (hr_ 5 _ rfl).1
  have x6_ := (hr_ 6 _ rfl).1
  have x7_ := (hr_ 7 _ rfl).1
  clear hr_
  have HS_ : Hid (∀ w', Below w11.heap.size w11 w' → Below w11.heap.size w11 w' ∧ w.heap.size < w'.heap.size ∧ w'.cell? ⟨w.heap.size, 0, none⟩ = some (.string aF_Name) ∧ w'.cell? ⟨w.heap.size, 1, none⟩ = some (.int .i64 aF_Kind) ∧ w'.cell? ⟨w.heap.size, 2, none⟩ = some (.int .i64 aF_Field_Prime) ∧ w'.cell? ⟨w.heap.size, 3, none⟩ = some (.int .i64 aF_Field_Power) ∧ w'.cell? ⟨w.heap.size, 4, none⟩ = some (.int .i64 aF_Field_Poly) ∧ w'.cell? ⟨w.heap.size, 5, none⟩ = some (.slice aF_Sizes_a aF_Sizes_n aF_Sizes_c) ∧ w'.cell? ⟨w.heap.size, 6, none⟩ = some (.int .i64 aF_Columns) ∧ w'.cell? ⟨w.heap.size, 7, none⟩ = some (.slice aF_Levels_a aF_Levels_n aF_Levels_c) ∧ w6.heap.size < w'.heap.size ∧ w'.cell? ⟨w6.heap.size, 0, none⟩ = some (.string aF_Name) ∧ w'.cell? ⟨w6.heap.size, 1, none⟩ = some (.int .i64 aF_Kind) ∧ w'.cell? ⟨w6.heap.size, 2, none⟩ = some (.int .i64 aF_Field_Prime) ∧ w'.cell? ⟨w6.heap.size, 3, none⟩ = some (.int .i64 aF_Field_Power) ∧ w'.cell? ⟨w6.heap.size, 4, none⟩ = some (.int .i64 aF_Field_Poly) ∧ w'.cell? ⟨w6.heap.size, 5, none⟩ = some (.slice (some ⟨x1, 0, none⟩) aF_Sizes_n aF_Sizes_n) ∧ w'.cell? ⟨w6.heap.size, 6, none⟩ = some (.int .i64 aF_Columns) ∧ w'.cell? ⟨w6.heap.size, 7, none⟩ = some (.slice (some ⟨x2, 0, none⟩) aF_Levels_n aF_Levels_n)) := fun w' h => ⟨h, Nat.lt_of_lt_of_le (by assumption) h.size, (h.cell (p := ⟨_, _, none⟩) (by assumption)).trans (by assumption), (h.cell (p := ⟨_, _, none⟩) (by assumption)).trans (by assumption), (h.cell (p := ⟨_, _, none⟩) (by assumption)).trans (by assumption), (h.cell (p := ⟨_, _, none⟩) (by assumption)).trans (by assumption), (h.cell (p := ⟨_, _, none⟩) (by assumption)).trans (by assumption), (h.cell (p := ⟨_, _, none⟩) (by assumption)).trans (by assumption), (h.cell (p := ⟨_, _, none⟩) (by assumption)).trans (by assumption), (h.cell (p := ⟨_, _, none⟩) (by assumption)).trans (by assumption), Nat.lt_of_lt_of_le (by assumption) h.size, (h.cell (p := ⟨_, _, none⟩) (by assumption)).trans (by assumption), (h.cell (p := ⟨_, _, none⟩) (by assumption)).trans (by assumption), (h.cell (p := ⟨_, _, none⟩) (by assumption)).trans (by assumption), (h.cell (p := ⟨_, _, none⟩) (by assumption)).trans (by assumption), (h.cell (p := ⟨_, _, none⟩) (by assumption)).trans (by assumption), (h.cell (p := ⟨_, _, none⟩) (by assumption)).trans (by assumption), (h.cell (p := ⟨_, _, none⟩) (by assumption)).trans (by assumption), (h.cell (p := ⟨_, _, none⟩) (by assumption)).trans (by assumption)⟩
  go_wp2_with fail
  go_region_held3 (fun w' => Below w11.heap.size w11 w' ∧ w.heap.size < w'.heap.size ∧ w'.cell? ⟨w.heap.size, 0, none⟩ = some (.string aF_Name) ∧ w'.cell? ⟨w.heap.size, 1, none⟩ = some (.int .i64 aF_Kind) ∧ w'.cell? ⟨w.heap.size, 2, none⟩ = some (.int .i64 aF_Field_Prime) ∧ w'.cell? ⟨w.heap.size, 3, none⟩ = some (.int .i64 aF_Field_Power) ∧ w'.cell? ⟨w.heap.size, 4, none⟩ = some (.int .i64 aF_Field_Poly) ∧ w'.cell? ⟨w.heap.size, 5, none⟩ = some (.slice aF_Sizes_a aF_Sizes_n aF_Sizes_c) ∧ w'.cell? ⟨w.heap.size, 6, none⟩ = some (.int .i64 aF_Columns) ∧ w'.cell? ⟨w.heap.size, 7, none⟩ = some (.slice aF_Levels_a aF_Levels_n aF_Levels_c) ∧ w6.heap.size < w'.heap.size ∧ w'.cell? ⟨w6.heap.size, 0, none⟩ = some (.string aF_Name) ∧ w'.cell? ⟨w6.heap.size, 1, none⟩ = some (.int .i64 aF_Kind) ∧ w'.cell? ⟨w6.heap.size, 2, none⟩ = some (.int .i64 aF_Field_Prime) ∧ w'.cell? ⟨w6.heap.size, 3, none⟩ = some (.int .i64 aF_Field_Power) ∧ w'.cell? ⟨w6.heap.size, 4, none⟩ = some (.int .i64 aF_Field_Poly) ∧ w'.cell? ⟨w6.heap.size, 5, none⟩ = some (.slice (some ⟨x1, 0, none⟩) aF_Sizes_n aF_Sizes_n) ∧ w'.cell? ⟨w6.heap.size, 6, none⟩ = some (.int .i64 aF_Columns) ∧ w'.cell? ⟨w6.heap.size, 7, none⟩ = some (.slice (some ⟨x2, 0, none⟩) aF_Levels_n aF_Levels_n)) (exact HS_.out _ (by repeat' (first | (with_reducible exact Below.refl _ _) | (with_reducible assumption) | (with_reducible refine Below.alloc ?_ ?_ _) | (with_reducible refine Below.setCell ?_ ?_ _) | (with_reducible refine Below.drew ?_) | (with_reducible refine below_drewN ?_ _) | (with_reducible refine below_via (by with_reducible assumption) ?_ ?_) | go_size))) (first | (go_at_call 8; refine (HTF.out _ (HB11.out.trans (Below.mono (show Below w11.heap.size w11 _ by repeat' (first | (with_reducible exact Below.refl _ _) | (with_reducible assumption) | (with_reducible refine Below.alloc ?_ ?_ _) | (with_reducible refine Below.setCell ?_ ?_ _) | (with_reducible refine Below.drew ?_) | (with_reducible refine below_drewN ?_ _) | (with_reducible refine below_via (by with_reducible assumption) ?_ ?_) | go_size)) (by omega)))).mono ?_; rintro e w' ⟨h1, h2, rfl, hh1, hh2, kk1, kk2, hb⟩; (try simp at hh1 hh2); obtain ⟨hc, hf⟩ := bcell hb; have hz := hb.size; (try simp at hz)) | (go_at_call 12; refine (eqFam aF_Name aF_Kind aF_Field_Prime aF_Field_Power aF_Field_Poly _ aF_Sizes_n aF_Sizes_n aF_Columns _ aF_Levels_n aF_Levels_n _ aF_Sizes_n _ aF_Levels_n aF_Sizes_z aF_Levels_z _ ((Kx111.out.keep (show Below w11.heap.size w11 _ by repeat' (first | (with_reducible exact Below.refl _ _) | (with_reducible assumption) | (with_reducible refine Below.alloc ?_ ?_ _) | (with_reducible refine Below.setCell ?_ ?_ _) | (with_reducible refine Below.drew ?_) | (with_reducible refine below_drewN ?_ _) | (with_reducible refine below_via (by with_reducible assumption) ?_ ?_) | go_size))).rd HLZ.out.1) (kk1.rd HLZ.out.1) hsn ((Kx211.out.keep (show Below w11.heap.size w11 _ by repeat' (first | (with_reducible exact Below.refl _ _) | (with_reducible assumption) | (with_reducible refine Below.alloc ?_ ?_ _) | (with_reducible refine Below.setCell ?_ ?_ _) | (with_reducible refine Below.drew ?_) | (with_reducible refine below_drewN ?_ _) | (with_reducible refine below_via (by with_reducible assumption) ?_ ?_) | go_size))).rd HLZ.out.2.1) (kk2.rd HLZ.out.2.1) hln).mono ?_; rintro e w' ⟨rfl, hb⟩; obtain ⟨hc, hf⟩ := bcell hb; have hz := hb.size; (try simp at hz)))
  have hb12 : Below w11.heap.size w11 w' := by repeat' (first | (with_reducible exact Below.refl _ _) | (with_reducible assumption) | (with_reducible refine Below.alloc ?_ ?_ _) | (with_reducible refine Below.setCell ?_ ?_ _) | (with_reducible refine Below.drew ?_) | (with_reducible refine below_drewN ?_ _) | (with_reducible refine below_via (by with_reducible assumption) ?_ ?_) | go_size)
  obtain ⟨w12, rfl⟩ : ∃ W : World, W = w' := ⟨_, rfl⟩
  have hz12 := hb12.size
  clear HS_ c0_ c1_ c2_ c3_ c4_ c5_ c6_ c7_ x0_ x1_ x2_ x3_ x4_ x5_ x6_ x7_
  have F12 := Lib.hid (F11.out.keep hb12)
  have Os12 := Lib.hid (ownN_below Os11.out hb12)
  have Bs12 := Lib.hid (Bs11.out.keep hb12)
  have Kx112 := Lib.hid (Kx111.out.keep hb12)
  have Kx212 := Lib.hid (Kx211.out.keep hb12)
  have X12 := Lib.hid (X11.out.keep hb12)
  have Kx312 := Lib.hid (Kx311.out.keep hb12)
  have Oi12 := Lib.hid (ownN_below Oi11.out hb12)
  have Bi12 := Lib.hid (Bi11.out.keep hb12)
  have HB12 : Hid (Below w.heap.size w w12) := HB11.out.trans (hb12.mono (by have := HB11.out.size; omega))
  clear F11 Os11 Bs11 Kx111 Kx211 X11 Kx311 Oi11 Bi11 HB11 hb12
  (try go_wp2_with fail)
  refine (HTE.out _ HB12.out).mono ?_
  rintro e w13 ⟨y3, rfl, hy3, ky3, hb13⟩
  have hz13 := hb13.size
  have hy3l := ky3.lt
  have F13 := Lib.hid (F12.out.keep hb13)
  have Os13 := Lib.hid (ownN_below Os12.out hb13)
  have Bs13 := Lib.hid (Bs12.out.keep hb13)
  have Kx113 := Lib.hid (Kx112.out.keep hb13)
  have Kx213 := Lib.hid (Kx212.out.keep hb13)
  have X13 := Lib.hid (X12.out.keep hb13)
  have Kx313 := Lib.hid (Kx312.out.keep hb13)
  have Oi13 := Lib.hid (ownN_below Oi12.out hb13)
  have Bi13 := Lib.hid (Bi12.out.keep hb13)
  have HB13 : Hid (Below w.heap.size w w13) := HB12.out.trans (hb13.mono (by have := HB12.out.size; omega))
  clear F12 Os12 Bs12 Kx112 Kx212 X12 Kx312 Oi12 Bi12 HB12 hb13
  have Ky313 := Lib.hid ky3
  clear ky3
  (try go_wp2_with fail)
  refine (eqIntsT _ _ _ _ _ _ aElements_z _ (Kx313.out.rd HLZ.out.2.2) (Ky313.out.rd HLZ.out.2.2) hen hen).mono ?_
  rintro e w14 ⟨rfl, hb14⟩
  have hz14 := hb14.size
  have F14 := Lib.hid (F13.out.keep hb14)
  have Os14 := Lib.hid (ownN_below Os13.out hb14)
  have Bs14 := Lib.hid (Bs13.out.keep hb14)
  have Kx114 := Lib.hid (Kx113.out.keep hb14)
  have Kx214 := Lib.hid (Kx213.out.keep hb14)
  have X14 := Lib.hid (X13.out.keep hb14)
  have Kx314 := Lib.hid (Kx313.out.keep hb14)
  have Oi14 := Lib.hid (ownN_below Oi13.out hb14)
  have Bi14 := Lib.hid (Bi13.out.keep hb14)
  have Ky314 := Lib.hid (Ky313.out.keep hb14)
  have HB14 : Hid (Below w.heap.size w w14) := HB13.out.trans (hb14.mono (by have := HB13.out.size; omega))
  clear F13 Os13 Bs13 Kx113 Kx213 X13 Kx313 Oi13 Bi13 Ky313 HB13 hb14
  clear Ky314
  obtain ⟨_, hr_⟩ := X14.out
  have x0_ := (hr_ 0 _ rfl).1
  have x1_ := (hr_ 1 _ rfl).1
  have x2_ := (hr_ 2 _ rfl).1
  have x3_ := (hr_ 3 _ rfl).1
  have x4_ := (hr_ 4 _ rfl).1
  have x5_ := (hr_ 5 _ rfl).1
  have x6_ := (hr_ 6 _ rfl).1
  have x7_ := (hr_ 7 _ rfl).1
  clear hr_
  go_wp2_with fail
  refine (markFam aF_Name aF_Kind aF_Field_Prime aF_Field_Power aF_Field_Poly x1 x2 aF_Sizes_n aF_Columns aF_Levels_n aF_Sizes_z aF_Levels_z w14 Kx114.out Kx214.out HLZ.out.1 HLZ.out.2.1 hsn hln).mono ?_
  rintro e w15 ⟨rfl, hoff⟩
  have hz15 := hoff.size
  have F15 := Lib.hid (hoff.rowL F14.out (by omega))
  have Bs15 := Lib.hid (hoff.box3g Bs14.out (by omega))
  have Bi15 := Lib.hid (hoff.box3g Bi14.out (by omega))
  have Kx315 := Lib.hid (hoff.blk Kx314.out (by omega))
  have Os15 := Lib.hid (hoff.own Os14.out (fun b hb => by have := HWs.out b hb; omega))
  have Oi15 := Lib.hid (hoff.own Oi14.out (fun b hb => by have := HWi.out b hb; omega))
  have HB15 : Hid (Below w.heap.size w w15) := HB14.out.trans (hoff.below (by have := HB14.out.size; omega) (fun b hb => by omega))
  clear F14 Os14 Bs14 Kx114 Kx214 X14 Kx314 Oi14 Bi14 HB14 hoff x0_ x1_ x2_ x3_ x4_ x5_ x6_ x7_
  go_wp2_with fail
  refine (markInts2 (some ⟨x3, 0, none⟩) aElements_n aElements_n x3 aElements_z (1 + aF_Sizes_n + aF_Levels_n) w15 (Blk.own Kx315.out (Nat.le_refl _) HLZ.out.2.2 m_aE) hen (by omega) (by omega)).mono ?_
  rintro e w16 ⟨rfl, -, hgr⟩
  have hz16 := hgr.size
  have hoff : Off (fun b => b ≠ x3) w15 w16 := Off.of_grown hgr (fun b hb h => hb (Option.some.inj h).symm)
  have F16 := Lib.hid (hoff.rowL F15.out (by omega))
  have Bs16 := Lib.hid (hoff.box3g Bs15.out (by omega))
  have Bi16 := Lib.hid (hoff.box3g Bi15.out (by omega))
  have Os16 := Lib.hid (hoff.own Os15.out (fun b hb => by have := HWs.out b hb; omega))
  have Oi16 := Lib.hid (hoff.own Oi15.out (fun b hb => by have := HWi.out b hb; omega))
  have HB16 : Hid (Below w.heap.size w w16) := HB15.out.trans (hoff.below (by have := HB15.out.size; omega) (fun b hb => by omega))
  clear F15 Bs15 Bi15 Kx315 Os15 Oi15 HB15 hoff hgr
  have hk0 : ¬ (1 + (aF_Sizes_n : Int) + (aF_Levels_n : Int) + (aElements_n : Int) < 0) := by omega
  obtain ⟨_, p0, p1, p2⟩ := Bi16.out
  obtain ⟨_, q0, q1, q2⟩ := Bs16.out
  (try go_wp2_with fail)
  refine (eqGrdS R C _ _ _ _ _ _ L _ (own_rd Oi16.out) (own_rd Os16.out) hLn hLn).mono ?_
  rintro e w17 ⟨rfl, hb17⟩
  have hz17 := hb17.size
  clear p0 p1 p2 q0 q1 q2
  have F17 := Lib.hid (F16.out.keep hb17)
  have Bs17 := Lib.hid (Bs16.out.keep hb17)
  have Bi17 := Lib.hid (Bi16.out.keep hb17)
  have Os17 := Lib.hid (ownN_below Os16.out hb17)
  have Oi17 := Lib.hid (ownN_below Oi16.out hb17)
  have HB17 : Hid (Below w.heap.size w w17) := HB16.out.trans (hb17.mono (by have := HB16.out.size; omega))
  clear F16 Bs16 Bi16 Os16 Oi16 HB16 hb17
  obtain ⟨_, p0, p1, p2⟩ := Bi17.out
  go_wp2_with fail
  refine (markGrd R C rai L.length rci _ L w17 Oi17.out hLn).mono ?_
  rintro e w18 ⟨rfl, hom, hgr⟩
  have hz18 := hgr.size
  clear p0 p1 p2
  have hoff : Off (fun b => (Value.slice rai L.length rci).ownBlock ≠ some b) w17 w18 := Off.of_grown hgr (fun b hb h => hb h)
  have F18 := Lib.hid (hoff.rowL F17.out (fun h => by have := HWi.out _ h; omega))
  have Bs18 := Lib.hid (hoff.box3g Bs17.out (fun h => by have := HWi.out _ h; omega))
  have Bi18 := Lib.hid (hoff.box3g Bi17.out (fun h => by have := HWi.out _ h; omega))
  have Os18 := Lib.hid (hoff.own Os17.out (fun b hb h => by have := HWs.out b hb; have := HWi.out b h; omega))
  have Oi18 := Lib.hid hom
  have HB18 : Hid (Below w.heap.size w w18) := HB17.out.trans (hoff.below (by have := HB17.out.size; omega) (fun b hb h => by have := HWi.out b h; omega))
  clear F17 Bs17 Bi17 Os17 Oi17 HB17 hoff hgr hom
  obtain ⟨_, p0, p1, p2⟩ := Bi18.out
  (try go_wp2_with fail)
  refine (heldGrd R C rai L.length rci _ (own_rd Oi18.out) hLn).mono ?_
  rintro e w19 ⟨rfl, hb19⟩
  have hz19 := hb19.size
  clear p0 p1 p2
  have F19 := Lib.hid (F18.out.keep hb19)
  have Bs19 := Lib.hid (Bs18.out.keep hb19)
  have Bi19 := Lib.hid (Bi18.out.keep hb19)
  have Os19 := Lib.hid (ownN_below Os18.out hb19)
  have Oi19 := Lib.hid (ownN_below Oi18.out hb19)
  have HB19 : Hid (Below w.heap.size w w19) := HB18.out.trans (hb19.mono (by have := HB18.out.size; omega))
  clear F18 Bs18 Bi18 Os18 Oi18 HB18 hb19
  obtain ⟨_, hr_⟩ := F19.out
  have c0_ := (hr_ 0 _ rfl).1
  have c1_ := (hr_ 1 _ rfl).1
  have c2_ := (hr_ 2 _ rfl).1
  have c3_ := (hr_ 3 _ rfl).1
  have c4_ := (hr_ 4 _ rfl).1
  have c5_ := (hr_ 5 _ rfl).1
  have c6_ := (hr_ 6 _ rfl).1
  have c7_ := (hr_ 7 _ rfl).1
  clear hr_
  (try go_wp2_with fail)
  refine (HTF.out _ HB19.out).mono ?_
  rintro e w20 ⟨y1, y2, rfl, hy1, hy2, ky1, ky2, hb20⟩
  have hz20 := hb20.size
  clear c0_ c1_ c2_ c3_ c4_ c5_ c6_ c7_
  have hy1l := ky1.lt
  have hy2l := ky2.lt
  have F20 := Lib.hid (F19.out.keep hb20)
  have Bs20 := Lib.hid (Bs19.out.keep hb20)
  have Bi20 := Lib.hid (Bi19.out.keep hb20)
  have Os20 := Lib.hid (ownN_below Os19.out hb20)
  have Oi20 := Lib.hid (ownN_below Oi19.out hb20)
  have HB20 : Hid (Below w.heap.size w w20) := HB19.out.trans (hb20.mono (by have := HB19.out.size; omega))
  clear F19 Bs19 Bi19 Os19 Oi19 HB19 hb20
  have Ky120 := Lib.hid ky1
  have Ky220 := Lib.hid ky2
  clear ky1 ky2
  (try go_wp2_with fail)
  refine (HTE.out _ HB20.out).mono ?_
  rintro e w21 ⟨y4, rfl, hy4, ky4, hb21⟩
  have hz21 := hb21.size
  have hy4l := ky4.lt
  have F21 := Lib.hid (F20.out.keep hb21)
  have Bs21 := Lib.hid (Bs20.out.keep hb21)
  have Bi21 := Lib.hid (Bi20.out.keep hb21)
  have Os21 := Lib.hid (ownN_below Os20.out hb21)
  have Oi21 := Lib.hid (ownN_below Oi20.out hb21)
  have Ky121 := Lib.hid (Ky120.out.keep hb21)
  have Ky221 := Lib.hid (Ky220.out.keep hb21)
  have HB21 : Hid (Below w.heap.size w w21) := HB20.out.trans (hb21.mono (by have := HB20.out.size; omega))
  clear F20 Bs20 Bi20 Os20 Oi20 Ky120 Ky220 HB20 hb21
  have Ky421 := Lib.hid ky4
  clear ky4
  go_wp2_with fail
  refine (HIM.out _ _ _ _ _ _ (Ky121.out.rd HLZ.out.1) (Ky221.out.rd HLZ.out.2.1) (Ky421.out.rd HLZ.out.2.2)).mono ?_
  rintro e w22 ⟨rah, rch, rfl, hoh, hb22, hLn⟩
  have hz22 := hb22.size
  have HWh : Hid (∀ k, (Value.slice rah L.length rch).ownBlock = some k → w21.heap.size ≤ k ∧ k < w22.heap.size) := hoh.lt
  have Oh22 := Lib.hid hoh
  clear hoh
  have F22 := Lib.hid (F21.out.keep hb22)
  have Bs22 := Lib.hid (Bs21.out.keep hb22)
  have Bi22 := Lib.hid (Bi21.out.keep hb22)
  have Os22 := Lib.hid (ownN_below Os21.out hb22)
  have Oi22 := Lib.hid (ownN_below Oi21.out hb22)
  have Ky122 := Lib.hid (Ky121.out.keep hb22)
  have Ky222 := Lib.hid (Ky221.out.keep hb22)
  have Ky422 := Lib.hid (Ky421.out.keep hb22)
  have HB22 : Hid (Below w.heap.size w w22) := HB21.out.trans (hb22.mono (by have := HB21.out.size; omega))
  clear F21 Bs21 Bi21 Os21 Oi21 Ky121 Ky221 Ky421 HB21 hb22
  obtain ⟨hs_, p0, p1, p2⟩ := Bs22.out
  go_wp2_with fail
  obtain ⟨w23, hv⟩ : ∃ W : World, W = w22.alloc (.cells #[.int .i64 R, .int .i64 C, .slice rah L.length rch] 29) := ⟨_, rfl⟩
  have hbv : Below w22.heap.size w22 w23 := by rw [hv]; exact (Below.refl _ _).alloc (Nat.le_refl _) _
  have hz23 : w22.heap.size < w23.heap.size := by rw [hv]; simp
  have Bh23 : Hid (Box3 w23 (w22.heap.size) (.int .i64 R) (.int .i64 C) (.slice rah L.length rch)) := by rw [hv]; exact Box3.new w22 _ _ _ _
  rw [← hv]
  clear hv
  have F23 := Lib.hid (F22.out.keep hbv)
  have Bs23 := Lib.hid (Bs22.out.keep hbv)
  have Bi23 := Lib.hid (Bi22.out.keep hbv)
  have Os23 := Lib.hid (ownN_below Os22.out hbv)
  have Oi23 := Lib.hid (ownN_below Oi22.out hbv)
  have Ky123 := Lib.hid (Ky122.out.keep hbv)
  have Ky223 := Lib.hid (Ky222.out.keep hbv)
  have Ky423 := Lib.hid (Ky422.out.keep hbv)
  have Oh23 := Lib.hid (ownN_below Oh22.out hbv)
  have HB23 : Hid (Below w.heap.size w w23) := HB22.out.trans (hbv.mono (by have := HB22.out.size; omega))
  clear F22 Bs22 Bi22 Os22 Oi22 Ky122 Ky222 Ky422 Oh22 HB22 hbv
  clear hs_ p0 p1 p2
  clear Ky123 Ky223 Ky423
  obtain ⟨_, p0, p1, p2⟩ := Bh23.out
  obtain ⟨_, q0, q1, q2⟩ := Bs23.out
  (try go_wp2_with fail)
  refine (eqGrdS R C _ _ _ _ _ _ L _ (own_rd Oh23.out) (own_rd Os23.out) hLn hLn).mono ?_
  rintro e w24 ⟨rfl, hb24⟩
  have hz24 := hb24.size
  clear p0 p1 p2 q0 q1 q2
  have F24 := Lib.hid (F23.out.keep hb24)
  have Bs24 := Lib.hid (Bs23.out.keep hb24)
  have Bi24 := Lib.hid (Bi23.out.keep hb24)
  have Os24 := Lib.hid (ownN_below Os23.out hb24)
  have Oi24 := Lib.hid (ownN_below Oi23.out hb24)
  have Oh24 := Lib.hid (ownN_below Oh23.out hb24)
  have Bh24 := Lib.hid (Bh23.out.keep hb24)
  have HB24 : Hid (Below w.heap.size w w24) := HB23.out.trans (hb24.mono (by have := HB23.out.size; omega))
  clear F23 Bs23 Bi23 Os23 Oi23 Oh23 Bh23 HB23 hb24
  obtain ⟨_, p0, p1, p2⟩ := Bi24.out
  (try go_wp2_with fail)
  refine (heldGrd R C rai L.length rci _ (own_rd Oi24.out) hLn).mono ?_
  rintro e w25 ⟨rfl, hb25⟩
  have hz25 := hb25.size
  clear p0 p1 p2
  have F25 := Lib.hid (F24.out.keep hb25)
  have Bs25 := Lib.hid (Bs24.out.keep hb25)
  have Bi25 := Lib.hid (Bi24.out.keep hb25)
  have Os25 := Lib.hid (ownN_below Os24.out hb25)
  have Oi25 := Lib.hid (ownN_below Oi24.out hb25)
  have Oh25 := Lib.hid (ownN_below Oh24.out hb25)
  have Bh25 := Lib.hid (Bh24.out.keep hb25)
  have HB25 : Hid (Below w.heap.size w w25) := HB24.out.trans (hb25.mono (by have := HB24.out.size; omega))
  clear F24 Bs24 Bi24 Os24 Oi24 Oh24 Bh24 HB24 hb25
  go_wp2_with fail
  go_returns
  exact ⟨rfl, HB25.out⟩
end Go.Proofs.Ytenelpollcabnaa
