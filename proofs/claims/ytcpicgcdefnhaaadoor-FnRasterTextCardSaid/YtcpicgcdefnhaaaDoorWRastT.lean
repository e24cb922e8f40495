/-
  DERIVED. The walk of FnRasterText.
-/
import Derived.Test.YtcpicgcdefnhaaaDoorTxP
import Derived.Test.YtcpicgcdefnhaaaDoorDBlk
import Derived.Test.YtcpicgcdefnhaaaDoorRDz
import Derived.Test.YtcpicgcdefnhaaaDoorLikQ
import Derived.Deep.Cut
import Derived.Deep.DeepFit
import Derived.Deep.RegionHeld3
namespace Go.Proofs.YtcpicgcdefnhaaaDoor
open Go.RowKit
set_option linter.unusedVariables false
set_option maxRecDepth 100000 in
set_option maxHeartbeats 8000000 in
theorem walk_FnRasterText (code_a : Option Addr) (code_n code_c : Nat) (code_z : List Int) (w : World) (h_code : Ints .u8 w code_a code_n code_c code_z) (h_pe : PowB w.heap.size w ∧ ErrB w.heap.size w) :
    Calls Tryd.prog 5 #[.slice code_a code_n code_c] w fun e w' => e = .returned (.bool true) ∧ Below w.heap.size w w' := by
  have hmx := h_code.max
  have HBY := Lib.hid h_code.bytes
  have HPW := Lib.hid h_pe.1
  have HER := Lib.hid h_pe.2
  clear h_code h_pe
  by_cases hbig : 4096 < code_n
  · have tb : decide ((4096 : Int) < (code_n : Int)) = true := by simp; omega
    go_enter Tryd.func5, Tryd.ntmps5
    go_wp2_with fail
    refine (lBig _ _ _ _ hmx).mono ?_
    rintro e w' ⟨rfl, rfl⟩
    rw [tb]
    go_wp2
    go_returns
    exact ⟨rfl, by repeat' (first | (with_reducible exact Below.refl _ _) | (with_reducible assumption) | (with_reducible refine Below.alloc ?_ ?_ _) | (with_reducible refine Below.setCell ?_ ?_ _) | (with_reducible refine Below.drew ?_) | (with_reducible refine below_drewN ?_ _) | (with_reducible refine below_via (by with_reducible assumption) ?_ ?_) | go_size)⟩
  have tb : decide ((4096 : Int) < (code_n : Int)) = false := by simp; omega
  go_enter Tryd.func5, Tryd.ntmps5
  go_wp2_with fail
  refine (lBig _ _ _ _ hmx).mono ?_
  rintro e w' ⟨rfl, rfl⟩
  rw [tb]
  go_wp2_with fail
  refine (dRText _ _ _ _ HBY.out (by omega)).mono ?_
  rintro e w1 ⟨r, c, a, n, cp, zs, rfl, hnw, hcw, hrd, hb1, hfr⟩
  have hz1 := hb1.size
  have HLn := Lib.hid hrd.1
  have hn : n ≤ 1048576 := by omega
  have HRd := Lib.hid hrd
  clear hrd tb hfr
  have b1 := Lib.hid (Box3.new w1 24 (.int .i64 r) (.int .i64 c) (.slice a n cp))
  go_wp2_with fail
  refine (iRText _ _ _ _ _ zs _ (HRd.out.below (by repeat' (first | (with_reducible exact Below.refl _ _) | (with_reducible assumption) | (with_reducible refine Below.alloc ?_ ?_ _) | (with_reducible refine Below.setCell ?_ ?_ _) | (with_reducible refine Below.drew ?_) | (with_reducible refine below_drewN ?_ _) | (with_reducible refine below_via (by with_reducible assumption) ?_ ?_) | go_size))) hn (HPW.out.on (by repeat' (first | (with_reducible exact Below.refl _ _) | (with_reducible assumption) | (with_reducible refine Below.alloc ?_ ?_ _) | (with_reducible refine Below.setCell ?_ ?_ _) | (with_reducible refine Below.drew ?_) | (with_reducible refine below_drewN ?_ _) | (with_reducible refine below_via (by with_reducible assumption) ?_ ?_) | go_size)) (by simp; omega))).mono ?_
  rintro e w2 ⟨rfl, hb2⟩
  have hz2 := hb2.size; try simp at hz2
  have HTs : Hid ((rText r c n zs).size ≤ 1048576) := text_size HLn.out
  have HTr : Hid (∀ R C L ok, RVC (rText r c n zs).data.toList R C L ok → (rasterB r c n zs = true ∧ ok = true ∧ R = r ∧ C = c ∧ L = zs) ∨ (rasterB r c n zs = false ∧ ok = false ∧ R = 0 ∧ C = 0 ∧ L = [])) := fun R C L ok h => text_rvc HLn.out h
  have HsT : Hid (∀ W, Below w1.heap.size w1 W → Calls Tryd.prog 12 #[.agg #[.int .i64 r, .int .i64 c, .slice a n cp]] W fun e w' => e = .returned (.string (rText r c n zs)) ∧ Below W.heap.size W w') := fun W hW => sRText r c a n cp zs W (HRd.out.below hW) hn
  generalize rText r c n zs = T at HTs HTr HsT ⊢
  obtain ⟨_, _, _, _⟩ := (b1.out.keep (by repeat' (first | (with_reducible exact Below.refl _ _) | (with_reducible assumption) | (with_reducible refine Below.alloc ?_ ?_ _) | (with_reducible refine Below.setCell ?_ ?_ _) | (with_reducible refine Below.drew ?_) | (with_reducible refine below_drewN ?_ _) | (with_reducible refine below_via (by with_reducible assumption) ?_ ?_) | go_size)) : Box3 w2 _ _ _ _)
  go_wp2_with fail
  refine (HsT.out _ (by repeat' (first | (with_reducible exact Below.refl _ _) | (with_reducible assumption) | (with_reducible refine Below.alloc ?_ ?_ _) | (with_reducible refine Below.setCell ?_ ?_ _) | (with_reducible refine Below.drew ?_) | (with_reducible refine below_drewN ?_ _) | (with_reducible refine below_via (by with_reducible assumption) ?_ ?_) | go_size))).mono ?_
  rintro e w3 ⟨rfl, hb3⟩
  have hz3 := hb3.size; try simp at hz3
  obtain ⟨_, _, _, _⟩ := (b1.out.keep (by repeat' (first | (with_reducible exact Below.refl _ _) | (with_reducible assumption) | (with_reducible refine Below.alloc ?_ ?_ _) | (with_reducible refine Below.setCell ?_ ?_ _) | (with_reducible refine Below.drew ?_) | (with_reducible refine below_drewN ?_ _) | (with_reducible refine below_via (by with_reducible assumption) ?_ ?_) | go_size)) : Box3 w3 _ _ _ _)
  go_wp2_with fail
  refine (iReadR T _ HTs.out (HER.out.on (by repeat' (first | (with_reducible exact Below.refl _ _) | (with_reducible assumption) | (with_reducible refine Below.alloc ?_ ?_ _) | (with_reducible refine Below.setCell ?_ ?_ _) | (with_reducible refine Below.drew ?_) | (with_reducible refine below_drewN ?_ _) | (with_reducible refine below_via (by with_reducible assumption) ?_ ?_) | go_size)) (by omega) (Nat.le_refl _))).mono ?_
  rintro e w4 ⟨R, C, L, ok, hv, a4, c4, rfl, ho4, hb4, hn4⟩
  have hz4 := hb4.size; try simp at hz4
  have HO4 := Lib.hid ho4.rd
  have HR4 := Lib.hid (HTr.out _ _ _ _ hv)
  clear hv ho4 HTr HTs
  obtain ⟨_, _, _, _⟩ := (b1.out.keep (by repeat' (first | (with_reducible exact Below.refl _ _) | (with_reducible assumption) | (with_reducible refine Below.alloc ?_ ?_ _) | (with_reducible refine Below.setCell ?_ ?_ _) | (with_reducible refine Below.drew ?_) | (with_reducible refine below_drewN ?_ _) | (with_reducible refine below_via (by with_reducible assumption) ?_ ?_) | go_size)) : Box3 w4 _ _ _ _)
  have b4 := Lib.hid (Box3.new w4 24 (.int .i64 R) (.int .i64 C) (.slice a4 L.length c4))
  rcases HR4.out with ⟨hr, h1, h2, h3, h4⟩ | ⟨hr, h1, h2, h3, h4⟩
  · subst h1 h2 h3 h4
    have HRB := Lib.hid hr
    clear hr HR4 HsT
    go_wp2_with fail
    refine (sIsRaster R C a n cp L _ (HRd.out.below (by repeat' (first | (with_reducible exact Below.refl _ _) | (with_reducible assumption) | (with_reducible refine Below.alloc ?_ ?_ _) | (with_reducible refine Below.setCell ?_ ?_ _) | (with_reducible refine Below.drew ?_) | (with_reducible refine below_drewN ?_ _) | (with_reducible refine below_via (by with_reducible assumption) ?_ ?_) | go_size))) hn).mono ?_
    rintro e w5 ⟨rfl, hb5⟩
    rw [HRB.out]
    have hz5 := hb5.size; try simp at hz5
    obtain ⟨_, _, _, _⟩ := (b1.out.keep (by repeat' (first | (with_reducible exact Below.refl _ _) | (with_reducible assumption) | (with_reducible refine Below.alloc ?_ ?_ _) | (with_reducible refine Below.setCell ?_ ?_ _) | (with_reducible refine Below.drew ?_) | (with_reducible refine below_drewN ?_ _) | (with_reducible refine below_via (by with_reducible assumption) ?_ ?_) | go_size)) : Box3 w5 _ _ _ _)
    obtain ⟨_, _, _, _⟩ := (b4.out.keep (by repeat' (first | (with_reducible exact Below.refl _ _) | (with_reducible assumption) | (with_reducible refine Below.alloc ?_ ?_ _) | (with_reducible refine Below.setCell ?_ ?_ _) | (with_reducible refine Below.drew ?_) | (with_reducible refine below_drewN ?_ _) | (with_reducible refine below_via (by with_reducible assumption) ?_ ?_) | go_size)) : Box3 w5 _ _ _ _)
    go_wp2_with fail
    refine (lLikeR R C a4 a _ _ c4 cp L _ (HO4.out.below (by repeat' (first | (with_reducible exact Below.refl _ _) | (with_reducible assumption) | (with_reducible refine Below.alloc ?_ ?_ _) | (with_reducible refine Below.setCell ?_ ?_ _) | (with_reducible refine Below.drew ?_) | (with_reducible refine below_drewN ?_ _) | (with_reducible refine below_via (by with_reducible assumption) ?_ ?_) | go_size))) (HRd.out.below (by repeat' (first | (with_reducible exact Below.refl _ _) | (with_reducible assumption) | (with_reducible refine Below.alloc ?_ ?_ _) | (with_reducible refine Below.setCell ?_ ?_ _) | (with_reducible refine Below.drew ?_) | (with_reducible refine below_drewN ?_ _) | (with_reducible refine below_via (by with_reducible assumption) ?_ ?_) | go_size))) hn4).mono ?_
    rintro e w6 ⟨rfl, hb6⟩
    have hz6 := hb6.size; try simp at hz6
    have HBq : Hid (Below w.heap.size w w6) := by unfold Hid; repeat' (first | (with_reducible exact Below.refl _ _) | (with_reducible assumption) | (with_reducible refine Below.alloc ?_ ?_ _) | (with_reducible refine Below.setCell ?_ ?_ _) | (with_reducible refine Below.drew ?_) | (with_reducible refine below_drewN ?_ _) | (with_reducible refine below_via (by with_reducible assumption) ?_ ?_) | go_size)
    have HYq : Hid (BytesIn w6 code_a code_n w6.heap.size) := bytes_up (HBY.out.kept (fun b hb => HBq.out.block b hb)) HBq.out.size
    go_wp2_with fail
    refine (dBlank _ _ _ _ HYq.out (by omega)).mono ?_
    rintro e v1 ⟨ro, co, gr, rfl, hv1⟩
    have hy1 := hv1.size
    cases hbl : blankB ro co gr
    · go_wp2_with fail
      refine (iBlankRaster_no _ _ _ _ hbl).mono ?_
      rintro e v2 ⟨a7, c7, rfl, ho7, hv2, hn7⟩
      have hy2 := hv2.size; try simp at hy2
      have HO7 := Lib.hid (own_rd ho7)
      clear ho7
      have b7 := Lib.hid (Box3.new v2 24 (.int .i64 0) (.int .i64 0) (.slice a7 0 c7))
      go_wp2_with fail
      refine (sBlankRaster_no _ _ _ _ hbl).mono ?_
      rintro e v3 ⟨a8, c8, rfl, ho8, hv3, hn8⟩
      have hy3 := hv3.size; try simp at hy3
      have HO8 := Lib.hid (own_rd ho8)
      clear ho8
      have b8 := Lib.hid (Box3.new v3 24 (.int .i64 0) (.int .i64 0) (.slice a8 0 c8))
      obtain ⟨_, _, _, _⟩ := (b7.out.keep (by repeat' (first | (with_reducible exact Below.refl _ _) | (with_reducible assumption) | (with_reducible refine Below.alloc ?_ ?_ _) | (with_reducible refine Below.setCell ?_ ?_ _) | (with_reducible refine Below.drew ?_) | (with_reducible refine below_drewN ?_ _) | (with_reducible refine below_via (by with_reducible assumption) ?_ ?_) | go_size)) : Box3 (v3.alloc (.cells #[.int .i64 0, .int .i64 0, .slice a8 0 c8] 24)) _ _ _ _)
      obtain ⟨_, _, _, _⟩ := b8.out
      go_wp2_with fail
      refine (lLikeR 0 0 a7 a8 _ _ c7 c8 [] _ (HO7.out.below (by repeat' (first | (with_reducible exact Below.refl _ _) | (with_reducible assumption) | (with_reducible refine Below.alloc ?_ ?_ _) | (with_reducible refine Below.setCell ?_ ?_ _) | (with_reducible refine Below.drew ?_) | (with_reducible refine below_drewN ?_ _) | (with_reducible refine below_via (by with_reducible assumption) ?_ ?_) | go_size))) (HO8.out.below (by repeat' (first | (with_reducible exact Below.refl _ _) | (with_reducible assumption) | (with_reducible refine Below.alloc ?_ ?_ _) | (with_reducible refine Below.setCell ?_ ?_ _) | (with_reducible refine Below.drew ?_) | (with_reducible refine below_drewN ?_ _) | (with_reducible refine below_via (by with_reducible assumption) ?_ ?_) | go_size))) hn7).mono ?_
      rintro e v4 ⟨rfl, hv4⟩
      have hy4 := hv4.size; try simp at hy4
      go_wp2
      go_returns
      exact ⟨rfl, by repeat' (first | (with_reducible exact Below.refl _ _) | (with_reducible assumption) | (with_reducible refine Below.alloc ?_ ?_ _) | (with_reducible refine Below.setCell ?_ ?_ _) | (with_reducible refine Below.drew ?_) | (with_reducible refine below_drewN ?_ _) | (with_reducible refine below_via (by with_reducible assumption) ?_ ?_) | go_size)⟩
    · obtain ⟨q1, q2, q3, q4⟩ := blank_bd hbl
      have HPX := Lib.hid (blank_pix hbl)
      have HPL : Hid (∀ W, Calls Tryd.prog 20 #[.int .i64 ro, .int .i64 co, .int .i64 gr] W (ResG W ro co (List.replicate (ro * co).toNat gr) 0)) := fun W => iBlankRaster_ok _ _ _ W hbl
      have HPM : Hid (∀ W, Calls Tryd.prog 21 #[.int .i64 ro, .int .i64 co, .int .i64 gr] W (ResG W ro co (List.replicate (ro * co).toNat gr) 0)) := fun W => sBlankRaster_ok _ _ _ W hbl
      generalize List.replicate (ro * co).toNat gr = PL at HPX HPL HPM
      clear hbl
      go_wp2_with fail
      refine (HPL.out _).mono ?_
      rintro e v2 ⟨a7, c7, rfl, ho7, hv2, hn7⟩
      have hy2 := hv2.size; try simp at hy2
      have HO7 := Lib.hid (own_rd ho7)
      clear ho7
      have b7 := Lib.hid (Box3.new v2 24 (.int .i64 ro) (.int .i64 co) (.slice a7 PL.length c7))
      go_wp2_with fail
      refine (HPM.out _).mono ?_
      rintro e v3 ⟨a8, c8, rfl, ho8, hv3, hn8⟩
      have hy3 := hv3.size; try simp at hy3
      have HO8 := Lib.hid (own_rd ho8)
      clear ho8
      have b8 := Lib.hid (Box3.new v3 24 (.int .i64 ro) (.int .i64 co) (.slice a8 PL.length c8))
      obtain ⟨_, _, _, _⟩ := (b7.out.keep (by repeat' (first | (with_reducible exact Below.refl _ _) | (with_reducible assumption) | (with_reducible refine Below.alloc ?_ ?_ _) | (with_reducible refine Below.setCell ?_ ?_ _) | (with_reducible refine Below.drew ?_) | (with_reducible refine below_drewN ?_ _) | (with_reducible refine below_via (by with_reducible assumption) ?_ ?_) | go_size)) : Box3 (v3.alloc (.cells #[.int .i64 ro, .int .i64 co, .slice a8 PL.length c8] 24)) _ _ _ _)
      obtain ⟨_, _, _, _⟩ := b8.out
      go_wp2_with fail
      refine (lLikeR ro co a7 a8 _ _ c7 c8 PL _ (HO7.out.below (by repeat' (first | (with_reducible exact Below.refl _ _) | (with_reducible assumption) | (with_reducible refine Below.alloc ?_ ?_ _) | (with_reducible refine Below.setCell ?_ ?_ _) | (with_reducible refine Below.drew ?_) | (with_reducible refine below_drewN ?_ _) | (with_reducible refine below_via (by with_reducible assumption) ?_ ?_) | go_size))) (HO8.out.below (by repeat' (first | (with_reducible exact Below.refl _ _) | (with_reducible assumption) | (with_reducible refine Below.alloc ?_ ?_ _) | (with_reducible refine Below.setCell ?_ ?_ _) | (with_reducible refine Below.drew ?_) | (with_reducible refine below_drewN ?_ _) | (with_reducible refine below_via (by with_reducible assumption) ?_ ?_) | go_size))) hn7).mono ?_
      rintro e v4 ⟨rfl, hv4⟩
      have hy4 := hv4.size; try simp at hy4
      obtain ⟨_, _, _, _⟩ := (b7.out.keep (by repeat' (first | (with_reducible exact Below.refl _ _) | (with_reducible assumption) | (with_reducible refine Below.alloc ?_ ?_ _) | (with_reducible refine Below.setCell ?_ ?_ _) | (with_reducible refine Below.drew ?_) | (with_reducible refine below_drewN ?_ _) | (with_reducible refine below_via (by with_reducible assumption) ?_ ?_) | go_size)) : Box3 v4 _ _ _ _)
      go_wp2_with fail
      refine (iPixelAt ro co a7 _ c7 PL _ _ _ (HO7.out.below (by repeat' (first | (with_reducible exact Below.refl _ _) | (with_reducible assumption) | (with_reducible refine Below.alloc ?_ ?_ _) | (with_reducible refine Below.setCell ?_ ?_ _) | (with_reducible refine Below.drew ?_) | (with_reducible refine below_drewN ?_ _) | (with_reducible refine below_via (by with_reducible assumption) ?_ ?_) | go_size))) hn7).mono ?_
      rintro e v5 ⟨rfl, hv5⟩
      have hy5 := hv5.size; try simp at hy5
      rw [HPX.out.1, HPX.out.2]
      go_wp2
      go_returns
      exact ⟨rfl, by repeat' (first | (with_reducible exact Below.refl _ _) | (with_reducible assumption) | (with_reducible refine Below.alloc ?_ ?_ _) | (with_reducible refine Below.setCell ?_ ?_ _) | (with_reducible refine Below.drew ?_) | (with_reducible refine below_drewN ?_ _) | (with_reducible refine below_via (by with_reducible assumption) ?_ ?_) | go_size)⟩
  · subst h1 h2 h3 h4
    have HRB := Lib.hid hr
    clear hr HR4 HsT
    go_wp2_with fail
    refine (sIsRaster r c a n cp zs _ (HRd.out.below (by repeat' (first | (with_reducible exact Below.refl _ _) | (with_reducible assumption) | (with_reducible refine Below.alloc ?_ ?_ _) | (with_reducible refine Below.setCell ?_ ?_ _) | (with_reducible refine Below.drew ?_) | (with_reducible refine below_drewN ?_ _) | (with_reducible refine below_via (by with_reducible assumption) ?_ ?_) | go_size))) hn).mono ?_
    rintro e w5 ⟨rfl, hb5⟩
    rw [HRB.out]
    have hz5 := hb5.size; try simp at hz5
    have HBq : Hid (Below w.heap.size w w5) := by unfold Hid; repeat' (first | (with_reducible exact Below.refl _ _) | (with_reducible assumption) | (with_reducible refine Below.alloc ?_ ?_ _) | (with_reducible refine Below.setCell ?_ ?_ _) | (with_reducible refine Below.drew ?_) | (with_reducible refine below_drewN ?_ _) | (with_reducible refine below_via (by with_reducible assumption) ?_ ?_) | go_size)
    have HYq : Hid (BytesIn w5 code_a code_n w5.heap.size) := bytes_up (HBY.out.kept (fun b hb => HBq.out.block b hb)) HBq.out.size
    go_wp2_with fail
    refine (dBlank _ _ _ _ HYq.out (by omega)).mono ?_
    rintro e v1 ⟨ro, co, gr, rfl, hv1⟩
    have hy1 := hv1.size
    cases hbl : blankB ro co gr
    · go_wp2_with fail
      refine (iBlankRaster_no _ _ _ _ hbl).mono ?_
      rintro e v2 ⟨a7, c7, rfl, ho7, hv2, hn7⟩
      have hy2 := hv2.size; try simp at hy2
      have HO7 := Lib.hid (own_rd ho7)
      clear ho7
      have b7 := Lib.hid (Box3.new v2 24 (.int .i64 0) (.int .i64 0) (.slice a7 0 c7))
      go_wp2_with fail
      refine (sBlankRaster_no _ _ _ _ hbl).mono ?_
      rintro e v3 ⟨a8, c8, rfl, ho8, hv3, hn8⟩
      have hy3 := hv3.size; try simp at hy3
      have HO8 := Lib.hid (own_rd ho8)
      clear ho8
      have b8 := Lib.hid (Box3.new v3 24 (.int .i64 0) (.int .i64 0) (.slice a8 0 c8))
      obtain ⟨_, _, _, _⟩ := (b7.out.keep (by repeat' (first | (with_reducible exact Below.refl _ _) | (with_reducible assumption) | (with_reducible refine Below.alloc ?_ ?_ _) | (with_reducible refine Below.setCell ?_ ?_ _) | (with_reducible refine Below.drew ?_) | (with_reducible refine below_drewN ?_ _) | (with_reducible refine below_via (by with_reducible assumption) ?_ ?_) | go_size)) : Box3 (v3.alloc (.cells #[.int .i64 0, .int .i64 0, .slice a8 0 c8] 24)) _ _ _ _)
      obtain ⟨_, _, _, _⟩ := b8.out
      go_wp2_with fail
      refine (lLikeR 0 0 a7 a8 _ _ c7 c8 [] _ (HO7.out.below (by repeat' (first | (with_reducible exact Below.refl _ _) | (with_reducible assumption) | (with_reducible refine Below.alloc ?_ ?_ _) | (with_reducible refine Below.setCell ?_ ?_ _) | (with_reducible refine Below.drew ?_) | (with_reducible refine below_drewN ?_ _) | (with_reducible refine below_via (by with_reducible assumption) ?_ ?_) | go_size))) (HO8.out.below (by repeat' (first | (with_reducible exact Below.refl _ _) | (with_reducible assumption) | (with_reducible refine Below.alloc ?_ ?_ _) | (with_reducible refine Below.setCell ?_ ?_ _) | (with_reducible refine Below.drew ?_) | (with_reducible refine below_drewN ?_ _) | (with_reducible refine below_via (by with_reducible assumption) ?_ ?_) | go_size))) hn7).mono ?_
      rintro e v4 ⟨rfl, hv4⟩
      have hy4 := hv4.size; try simp at hy4
      go_wp2
      go_returns
      exact ⟨rfl, by repeat' (first | (with_reducible exact Below.refl _ _) | (with_reducible assumption) | (with_reducible refine Below.alloc ?_ ?_ _) | (with_reducible refine Below.setCell ?_ ?_ _) | (with_reducible refine Below.drew ?_) | (with_reducible refine below_drewN ?_ _) | (with_reducible refine below_via (by with_reducible assumption) ?_ ?_) | go_size)⟩
    · obtain ⟨q1, q2, q3, q4⟩ := blank_bd hbl
      have HPX := Lib.hid (blank_pix hbl)
      have HPL : Hid (∀ W, Calls Tryd.prog 20 #[.int .i64 ro, .int .i64 co, .int .i64 gr] W (ResG W ro co (List.replicate (ro * co).toNat gr) 0)) := fun W => iBlankRaster_ok _ _ _ W hbl
      have HPM : Hid (∀ W, Calls Tryd.prog 21 #[.int .i64 ro, .int .i64 co, .int .i64 gr] W (ResG W ro co (List.replicate (ro * co).toNat gr) 0)) := fun W => sBlankRaster_ok _ _ _ W hbl
      generalize List.replicate (ro * co).toNat gr = PL at HPX HPL HPM
      clear hbl
      go_wp2_with fail
      refine (HPL.out _).mono ?_
      rintro e v2 ⟨a7, c7, rfl, ho7, hv2, hn7⟩
      have hy2 := hv2.size; try simp at hy2
      have HO7 := Lib.hid (own_rd ho7)
      clear ho7
      have b7 := Lib.hid (Box3.new v2 24 (.int .i64 ro) (.int .i64 co) (.slice a7 PL.length c7))
      go_wp2_with fail
      refine (HPM.out _).mono ?_
      rintro e v3 ⟨a8, c8, rfl, ho8, hv3, hn8⟩
      have hy3 := hv3.size; try simp at hy3
      have HO8 := Lib.hid (own_rd ho8)
      clear ho8
      have b8 := Lib.hid (Box3.new v3 24 (.int .i64 ro) (.int .i64 co) (.slice a8 PL.length c8))
      obtain ⟨_, _, _, _⟩ := (b7.out.keep (by repeat' (first | (with_reducible exact Below.refl _ _) | (with_reducible assumption) | (with_reducible refine Below.alloc ?_ ?_ _) | (with_reducible refine Below.setCell ?_ ?_ _) | (with_reducible refine Below.drew ?_) | (with_reducible refine below_drewN ?_ _) | (with_reducible refine below_via (by with_reducible assumption) ?_ ?_) | go_size)) : Box3 (v3.alloc (.cells #[.int .i64 ro, .int .i64 co, .slice a8 PL.length c8] 24)) _ _ _ _)
      obtain ⟨_, _, _, _⟩ := b8.out
      go_wp2_with fail
      refine (lLikeR ro co a7 a8 _ _ c7 c8 PL _ (HO7.out.below (by repeat' (first | (with_reducible exact Below.refl _ _) | (with_reducible assumption) | (with_reducible refine Below.alloc ?_ ?_ _) | (with_reducible refine Below.setCell ?_ ?_ _) | (with_reducible refine Below.drew ?_) | (with_reducible refine below_drewN ?_ _) | (with_reducible refine below_via (by with_reducible assumption) ?_ ?_) | go_size))) (HO8.out.below (by repeat' (first | (with_reducible exact Below.refl _ _) | (with_reducible assumption) | (with_reducible refine Below.alloc ?_ ?_ _) | (with_reducible refine Below.setCell ?_ ?_ _) | (with_reducible refine Below.drew ?_) | (with_reducible refine below_drewN ?_ _) | (with_reducible refine below_via (by with_reducible assumption) ?_ ?_) | go_size))) hn7).mono ?_
      rintro e v4 ⟨rfl, hv4⟩
      have hy4 := hv4.size; try simp at hy4
      obtain ⟨_, _, _, _⟩ := (b7.out.keep (by repeat' (first | (with_reducible exact Below.refl _ _) | (with_reducible assumption) | (with_reducible refine Below.alloc ?_ ?_ _) | (with_reducible refine Below.setCell ?_ ?_ _) | (with_reducible refine Below.drew ?_) | (with_reducible refine below_drewN ?_ _) | (with_reducible refine below_via (by with_reducible assumption) ?_ ?_) | go_size)) : Box3 v4 _ _ _ _)
      go_wp2_with fail
      refine (iPixelAt ro co a7 _ c7 PL _ _ _ (HO7.out.below (by repeat' (first | (with_reducible exact Below.refl _ _) | (with_reducible assumption) | (with_reducible refine Below.alloc ?_ ?_ _) | (with_reducible refine Below.setCell ?_ ?_ _) | (with_reducible refine Below.drew ?_) | (with_reducible refine below_drewN ?_ _) | (with_reducible refine below_via (by with_reducible assumption) ?_ ?_) | go_size))) hn7).mono ?_
      rintro e v5 ⟨rfl, hv5⟩
      have hy5 := hv5.size; try simp at hy5
      rw [HPX.out.1, HPX.out.2]
      go_wp2
      go_returns
      exact ⟨rfl, by repeat' (first | (with_reducible exact Below.refl _ _) | (with_reducible assumption) | (with_reducible refine Below.alloc ?_ ?_ _) | (with_reducible refine Below.setCell ?_ ?_ _) | (with_reducible refine Below.drew ?_) | (with_reducible refine below_drewN ?_ _) | (with_reducible refine below_via (by with_reducible assumption) ?_ ?_) | go_size)⟩
end Go.Proofs.YtcpicgcdefnhaaaDoor
