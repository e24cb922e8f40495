/-
  DERIVED. The patterns: impl.allPatterns.
-/
import Derived.Test.YtenelpollcabnaaPatP
import Derived.RangeFuncBox
import Derived.RangeFuncNested
import Derived.Shelf.Abstract
import Derived.Deep.Cut
import Derived.Laws.EntriesVeiled
namespace Go.Proofs.Ytenelpollcabnaa
open Go.RowKit Go.Shelf
set_option linter.unusedVariables false
def rowV (x : List Int) : List Value := x.map (Value.int .i64)
def rowsV (LL : List (List Int)) : List Value := LL.flatMap rowV
theorem rowsV_app (A B : List (List Int)) : rowsV (A ++ B) = rowsV A ++ rowsV B := by simp [rowsV]
theorem rowsV_one (x : List Int) : rowsV [x] = rowV x := by simp [rowsV]
theorem list8 {N : List Int} (h : N.length = 8) : ∃ a0 a1 a2 a3 a4 a5 a6 a7, N = [a0, a1, a2, a3, a4, a5, a6, a7] := by
  match N, h with
  | [a0, a1, a2, a3, a4, a5, a6, a7], _ => exact ⟨a0, a1, a2, a3, a4, a5, a6, a7, rfl⟩
theorem infoWid : (Try.prog.info? 107).map (fun i => (i.zero, i.size, i.bytes)) = some (some (.agg #[.int .i64 0, .int .i64 0, .int .i64 0, .int .i64 0, .int .i64 0, .int .i64 0, .int .i64 0, .int .i64 0]), 8, 64) := by kernel_rfl
/-- What the closure captured. -/
def Ext (W : World) (base Bn Bo Be : Nat) (N : List Int) (LL : List (List Int)) : Prop :=
  (N.length = 8 ∧ Blk W Bn 107 (vals N)) ∧ (∃ v, Boxed W Bo 92 v ∧ W.ownsRow base 107 8 v LL.length (rowsV LL) ∧ v.ownBlock ≠ some Bn) ∧
    Boxed W Be 121 (.func (.func 91) #[] #[.pointer (some ⟨Bn, 0, none⟩), .pointer (some ⟨Bo, 0, none⟩), .pointer (some ⟨Be, 0, none⟩)])
def ExtR (w : World) (base Bn Bo Be part : Nat) (N : List Int) (LL : List (List Int)) (e : Ending) (w' : World) : Prop :=
  ∃ r N', e = .returned r ∧ Ext w' base Bn Bo Be N' LL ∧ N'.take part = N.take part ∧ Below base w w'
/-- The bases of the blocks. -/
def Bases (base Bn Bo Be : Nat) : Prop := base ≤ Bn ∧ base ≤ Bo ∧ base ≤ Be ∧ Bn ≠ Bo ∧ Bn ≠ Be ∧ Bo ≠ Be
theorem Ext.set {W : World} {base Bn Bo Be : Nat} {N : List Int} {LL : List (List Int)} (h : Ext W base Bn Bo Be N LL) (hb : Bases base Bn Bo Be) (i : Nat) (x : Int) : Ext (W.setCell ⟨Bn, i, none⟩ (.int .i64 x)) base Bn Bo Be (N.set i x) LL := by
  obtain ⟨⟨h1, h2⟩, ⟨v, h3, h4, h5⟩, h6⟩ := h
  obtain ⟨b1, b2, b3, b4, b5, b6⟩ := hb
  have hg : W.grownBy (W.setCell ⟨Bn, i, none⟩ (.int .i64 x)) (some Bn) := only_setCell (World.grownBy.refl W _) _
  refine ⟨⟨by simpa using h1, ?_⟩, ⟨v, h3.kept hg (by intro e; injection e with e; exact b4 e.symm), h4.kept hg (.inr h5), h5⟩, h6.kept hg (by intro e; injection e with e; exact b5 e.symm)⟩
  have := h2.set_ i (.int .i64 x)
  rwa [vals_set] at this
theorem ext_push {W1 w2 : World} {base Bn Bo Be g n cap : Nat} {v : Value} {M : List Int} {LL : List (List Int)} {o : Obj} (hB : Bases base Bn Bo Be) (hbz : base ≤ W1.heap.size) (h1 : M.length = 8) (h2 : Blk W1 Bn 107 (vals M)) (h3 : Boxed W1 Bo 92 v) (h4 : W1.ownsRow base 107 8 v LL.length (rowsV LL)) (h5 : v.ownBlock ≠ some Bn)
    (h6 : Boxed W1 Be 121 (.func (.func 91) #[] #[.pointer (some ⟨Bn, 0, none⟩), .pointer (some ⟨Bo, 0, none⟩), .pointer (some ⟨Be, 0, none⟩)]))
    (G3 : Boxed w2 Bo 92 v) (GO : w2.ownsRow base 107 8 (.slice (some ⟨g, 0, none⟩) n cap) n (rowsV LL ++ rowV M)) (hn : n = LL.length + 1) (GG : (W1.alloc o).grownBy w2 v.ownBlock) (GA : v.ownBlock = some g ∨ g = W1.heap.size + 1) :
    Ext (w2.setCell ⟨Bo, 0, none⟩ (.slice (some ⟨g, 0, none⟩) n cap)) base Bn Bo Be M (LL ++ [M]) ∧ Below base W1 (w2.setCell ⟨Bo, 0, none⟩ (.slice (some ⟨g, 0, none⟩) n cap)) := by
  subst hn
  obtain ⟨b1, b2, b3, b4, b5, b6⟩ := hB
  have hs := grownBy_setCell' w2 Bo (.slice (some ⟨g, 0, none⟩) (LL.length + 1) cap)
  have hgB : (Value.slice (some ⟨g, 0, none⟩) (LL.length + 1) cap).ownBlock ≠ some Bn := fun e => by
    have e : g = Bn := by simpa [Value.ownBlock] using e
    have := h2.lt
    rcases GA with h | h
    · exact h5 (by rw [h, e])
    · omega
  have hne6 : some Be ≠ v.ownBlock := h6.not_row (by decide) h4
  refine ⟨⟨⟨h1, ?_⟩, ⟨_, G3.set _, ?_, hgB⟩, ?_⟩, ?_⟩
  · exact Blk.far ((GG.block Bn (h2.alloc _).lt (Ne.symm h5)).trans (h2.alloc _)) (by simpa using b4) _
  · rw [List.length_append, rowsV_app, rowsV_one]
    exact GO.kept hs (.inr (G3.set (.slice (some ⟨g, 0, none⟩) (LL.length + 1) cap) |>.not_row (by decide) (GO.kept hs (.inr (fun e => by
      have := (G3.not_row (e := 107) (by decide) GO)
      exact this e.symm)))).symm)
  · exact ((h6.alloc o).kept GG hne6).other (Ne.symm b6) _
  · exact ((((Below.refl _ W1).alloc hbz o).grown GG (by simp; omega) (fun j e => (h4.lt j e).1)).setCell (p := ⟨Bo, 0, none⟩) b2 _)
set_option maxRecDepth 20000 in
set_option maxHeartbeats 8000000 in
theorem iExt : ∀ (p part left : Nat) (w : World) (base Bn Bo Be : Nat) (N : List Int) (LL : List (List Int)), part + p = 7 → p + 1 ≤ left → left ≤ 11 → Bases base Bn Bo Be → Ext w base Bn Bo Be N LL → LL.length + (pats p left).length ≤ 4096 →
    Calls Try.prog 91 #[.int .i64 (part : Int), .int .i64 (left : Int), .pointer (some ⟨Bn, 0, none⟩), .pointer (some ⟨Bo, 0, none⟩), .pointer (some ⟨Be, 0, none⟩)] w (ExtR w base Bn Bo Be part N (LL ++ (pats p left).map (N.take part ++ ·))) := by
  obtain ⟨i0, hi, hiz, hi1, hi2⟩ := info_parts infoWid
  have hiS : (Try.prog.info? 107).map (·.size) = some 8 := by rw [hi]; simp [hi1]
  intro p
  induction p with
  | zero =>
    intro part left w base Bn Bo Be N LL hp hl hl2 hB hE hlen
    obtain rfl : part = 7 := by omega
    have HE1 := Lib.hid (hE.set hB 7 left)
    obtain ⟨⟨h1, h2⟩, -, -⟩ := hE
    have cN : w.cell? ⟨Bn, 7, none⟩ = some (.int .i64 (N.getD 7 0)) := by rw [h2.cell]; exact vals_get _ _ (by omega)
    have fN := h2.frozen 7
    have HT : Hid (N.set 7 (left : Int) = N.take 7 ++ [(left : Int)]) := by
      unfold Hid
      rw [List.set_eq_take_append_cons_drop, if_pos (by omega), List.drop_of_length_le (by omega)]
    have HN8 := Lib.hid h1
    have HBe1 : Hid (Below base w (w.setCell ⟨Bn, 7, none⟩ (.int .i64 (left : Int)))) := (Below.refl _ _).setCell hB.1 _
    have HB := Lib.hid hB
    clear h1 h2 hB
    go_enter Try.func91, Try.ntmps91
    go_upto_region 2 with (fail)
    obtain ⟨W1, hW1⟩ : ∃ W1, w.setCell ⟨Bn, 7, none⟩ (.int .i64 (left : Int)) = W1 := ⟨_, rfl⟩
    rw [hW1] at HE1 HBe1 ⊢
    clear hW1 cN fN
    obtain ⟨⟨h1, h2⟩, ⟨v, h3, h4, h5⟩, h6⟩ := HE1.out
    obtain ⟨av, cv, rfl⟩ := ownN_shape h4
    have cO := h3.cell
    have hbz : base ≤ W1.heap.size := by have := HB.out; have := h3.lt; unfold Bases at *; omega
    have H2 := Lib.hid h2
    have H3 := Lib.hid h3
    have H4 := Lib.hid h4
    have H5 := Lib.hid h5
    have H6 := Lib.hid h6
    have HS8 := Lib.hid h1
    clear h1 h2 h3 h4 h5 h6
    obtain ⟨a0, a1, a2, a3, a4, a5, a6, a7, hM⟩ := list8 HS8.out
    have HM := Lib.hid hM
    have HB8 : Hid (Blk W1 Bn 107 #[.int .i64 a0, .int .i64 a1, .int .i64 a2, .int .i64 a3, .int .i64 a4, .int .i64 a5, .int .i64 a6, .int .i64 a7]) := by have := H2.out; rw [hM] at this; exact this
    clear hM
    have hB9 := HB.out
    have hBo : Bo < W1.heap.size := H3.out.lt
    have hBnl : Bn < W1.heap.size := H2.out.lt
    have hBn : Bo ≠ Bn := fun e => hB9.2.2.2.1 e.symm
    go_wp2_with (first
      | (refine wpList_load_row rfl 107 (.tmp 2) rfl Bn rfl 107 #[.int .i64 a0, .int .i64 a1, .int .i64 a2, .int .i64 a3, .int .i64 a4, .int .i64 a5, .int .i64 a6, .int .i64 a7] (0, 0) _ HB8.out Try.underlying107 rfl hiS ?_)
      | (at_builtin; refine wpList_append_lies _ rfl _ _ 92 rfl base 107 i0 _ 8 64 Try.underlying92 hi hiz hi1 hi2 rfl (by decide) _ _ _ rfl (H4.out.alloc _) ⟨W1.heap.size, 0, none⟩ 1 1 [.int .i64 a0, .int .i64 a1, .int .i64 a2, .int .i64 a3, .int .i64 a4, .int .i64 a5, .int .i64 a6, .int .i64 a7] rfl rfl (World.news_of_block (heap_alloc_new W1 _)) (by simp [Value.oneCell']) (by omega) (by unfold maxLen; omega) (by omega) (by simp; omega) (W1.heap.size + 1) (by simp) ?_; intro g cap w2 hown hgrow hat hlt; have h3c := (H3.out.alloc (.cells #[.int .i64 a0, .int .i64 a1, .int .i64 a2, .int .i64 a3, .int .i64 a4, .int .i64 a5, .int .i64 a6, .int .i64 a7] 107)).kept hgrow (H3.out.not_row (by decide) H4.out); have c3 := h3c.cell; have f3 := h3c.frozen; have G3 := Lib.hid h3c; have GO := Lib.hid hown; have GG := Lib.hid hgrow; have GA := Lib.hid hat; clear hown hgrow hat hlt h3c))
    go_end0
    obtain ⟨r1, r2⟩ := ext_push HB.out hbz HS8.out H2.out H3.out H4.out H5.out H6.out G3.out (by rw [show rowV (N.set 7 (left : Int)) = [.int .i64 a0, .int .i64 a1, .int .i64 a2, .int .i64 a3, .int .i64 a4, .int .i64 a5, .int .i64 a6, .int .i64 a7] by rw [HM.out]; rfl]; exact GO.out) rfl GG.out GA.out
    refine ⟨_, N.set 7 (left : Int), rfl, ?_, by rw [HT.out]; exact List.take_left' (by rw [List.length_take]; have := HN8.out; omega), HBe1.out.trans r2⟩
    have e : (pats 0 left).map (N.take 7 ++ ·) = [N.set 7 (left : Int)] := by rw [HT.out]; rfl
    rw [e]
    exact r1
  | succ p ih =>
    intro part left w base Bn Bo Be N LL hp hl hl2 hB hE hlen
    have HI := Lib.hid ih
    have HB := Lib.hid hB
    have HE := Lib.hid hE
    have HLn := Lib.hid hlen
    have hEn : Enters Try.prog 91 := enters_of Try.func91 (by kernel_rfl) rfl
    have t0 : ((part : Int) == 7) = false := by simp; omega
    have hp7 : (part : Int) + (p : Int) + 1 ≤ 7 := by omega
    have hp8 : 7 ≤ (part : Int) + (p : Int) + 1 := by omega
    clear ih hB hE hlen
    go_enter Try.func91, Try.ntmps91
    go_wp2
    go_loopw [7] (fun i wr => ∃ (k : Nat) (N' : List Int), k ≤ left - (p + 1) ∧ i = .int .i64 ((k : Int) + 1) ∧ Hid (Ext wr base Bn Bo Be N' (LL ++ (patK (fun f => pats p (left - f)) k).map (N.take part ++ ·))) ∧ Hid (N'.take part = N.take part) ∧ Hid (Below base w wr)) (fun i _ => left - (intOf i).toNat)
    case atStart => exact ⟨0, N, Nat.zero_le _, rfl, by unfold Hid; simpa [patK] using HE.out, rfl, Below.refl _ _⟩
    case round =>
      clear HE
      obtain ⟨k, N', hk, rfl, HE, HT, HBel⟩ := hrel
      by_cases hlt : k < left - (p + 1)
      · have hkI : (k : Int) + 1 ≤ (left : Int) - (7 - (part : Int)) := by omega
        obtain ⟨⟨h1, h2⟩, -, -⟩ := HE.out
        have cN : wr.cell? ⟨Bn, part, none⟩ = some (.int .i64 (N'.getD part 0)) := by rw [h2.cell]; exact vals_get _ _ (by omega)
        have fN := h2.frozen part
        have HE1 := Lib.hid (HE.out.set HB.out part ((k : Int) + 1))
        have HT1 : Hid ((N'.set part ((k : Int) + 1)).take (part + 1) = N.take part ++ [(k : Int) + 1]) := by
          unfold Hid
          rw [← HT.out, List.take_succ_eq_append_getElem (by simp; omega), List.take_set_of_le (Nat.le_refl _)]
          simp
        have HT2 : Hid (∀ N2 : List Int, N2.take (part + 1) = (N'.set part ((k : Int) + 1)).take (part + 1) → N2.take part = N.take part) := fun N2 h => by
          rw [HT1.out] at h
          have := congrArg (List.take part) h
          rw [List.take_take, Nat.min_eq_left (by omega)] at this
          rw [this, List.take_left' (by rw [← HT.out, List.length_take]; omega)]
        have HBe1 : Hid (Below base w (wr.setCell ⟨Bn, part, none⟩ (.int .i64 ((k : Int) + 1)))) := HBel.out.setCell HB.out.1 _
        have HL1 : Hid ((LL ++ (patK (fun f => pats p (left - f)) k).map (N.take part ++ ·)).length + (pats p (left - (k + 1))).length ≤ 4096) := by
          unfold Hid
          have h1 := HLn.out
          have h2 : (patK (fun f => pats p (left - f)) (k + 1)).length ≤ (patK (fun f => pats p (left - f)) (left - (p + 1))).length := patK_mono (by omega)
          have h3 : (patK (fun f => pats p (left - f)) (k + 1)).length = (patK (fun f => pats p (left - f)) k).length + (pats p (left - (k + 1))).length := by
            show (patK (fun f => pats p (left - f)) k ++ _).length = _
            rw [List.length_append, List.length_map]
          have h4 : (pats (p + 1) left).length = (patK (fun f => pats p (left - f)) (left - (p + 1))).length := rfl
          rw [List.length_append, List.length_map]
          omega
        have HRow : Hid (LL ++ (patK (fun f => pats p (left - f)) (k + 1)).map (N.take part ++ ·) = (LL ++ (patK (fun f => pats p (left - f)) k).map (N.take part ++ ·)) ++ (pats p (left - (k + 1))).map ((N'.set part ((k : Int) + 1)).take (part + 1) ++ ·)) := by
          unfold Hid
          rw [HT1.out, List.append_assoc]
          congr 1
          show (patK (fun f => pats p (left - f)) k ++ (pats p (left - (k + 1))).map (((k + 1 : Nat) : Int) :: ·)).map _ = _
          rw [List.map_append, List.map_map]
          congr 1
          apply List.map_congr_left
          intro x _
          simp
        have q0 : (0 : Int) ≤ (part : Int) := by omega
        have q1 : (part : Int) < 8 := by omega
        clear h1 h2
        go_upto_region 7 with (fail)
        obtain ⟨W1, hW1⟩ : ∃ W1, wr.setCell ⟨Bn, part, none⟩ (.int .i64 ((k : Int) + 1)) = W1 := ⟨_, rfl⟩
        rw [hW1] at HE1 HBe1 ⊢
        clear hW1 cN fN
        have cE := HE1.out.2.2.cell
        have HC := Lib.hid (fun (a b : Int) (ha : a = ((part + 1 : Nat) : Int)) (hb : b = ((left - (k + 1) : Nat) : Int)) => (show Calls Try.prog 91 #[.int .i64 a, .int .i64 b, .pointer (some ⟨Bn, 0, none⟩), .pointer (some ⟨Bo, 0, none⟩), .pointer (some ⟨Be, 0, none⟩)] W1 _ by
          subst ha hb
          exact HI.out (part + 1) (left - (k + 1)) W1 base Bn Bo Be (N'.set part ((k : Int) + 1)) _ (by omega) (by omega) (by omega) HB.out HE1.out HL1.out))
        go_wp2_with fail
        refine (HC.out _ _ (by omega) (by omega)).mono ?_
        rintro e w2 ⟨r, N2, rfl, hE2, hT2, hb2⟩
        have HE2 := Lib.hid hE2
        have HT3 := Lib.hid (HT2.out N2 hT2)
        have HB2 := Lib.hid (HBe1.out.trans hb2)
        clear hE2 hT2 hb2 cE
        go_wp2
        go_roundw
        case rel => exact ⟨k + 1, N2, by omega, by go_num, by unfold Hid; rw [HRow.out]; exact HE2.out, HT3, HB2⟩
        case measure => simp [intOf]; omega
      · have hkI : (left : Int) - (7 - (part : Int)) < (k : Int) + 1 := by omega
        have HKe : Hid (patK (fun f => pats p (left - f)) k = pats (p + 1) left) := by
          unfold Hid
          rw [show k = left - (p + 1) by omega]
          rfl
        go_wp2
        go_end0
        exact ⟨_, N', rfl, by rw [← HKe.out]; exact HE.out, HT.out, HBel.out⟩
/-- All patterns. -/
def PATS : List (List Int) := pats 7 11
theorem PATS_len : PATS.length = 120 := by decide +kernel
theorem PATS_row : ∀ x ∈ PATS, x.length = 8 := pats_row 7 11
theorem PATS_nodup : PATS.Nodup := by decide +kernel
theorem PATS_pos : ∀ x ∈ PATS, ∀ y ∈ x, 1 ≤ y ∧ y ≤ 4 := by decide +kernel
theorem PATS_sum : ∀ x ∈ PATS, x.sum = 11 := by decide +kernel
def zer960 : Array Value := madeCells #[.int .i64 0, .int .i64 0, .int .i64 0, .int .i64 0, .int .i64 0, .int .i64 0, .int .i64 0, .int .i64 0] (120 * 8)
theorem zer960_size : zer960.size = 120 * 8 := by simp [zer960, madeCells]
set_option maxRecDepth 20000 in
set_option maxHeartbeats 8000000 in
theorem iAll (w : World) : Calls Try.prog 70 #[] w fun e w' => ∃ a cp, e = .returned (.slice a 120 cp) ∧ w'.ownsRow w.heap.size 107 8 (.slice a 120 cp) 120 (rowsV PATS) ∧ Below w.heap.size w w' := by
  obtain ⟨i0, hi, hiz, hi1, hi2⟩ := info_parts infoWid
  have hmk : ∀ W : World, (Instr.makeSlice 92 (.int .i64 0) (.int .i64 120)).run Try.prog W = .ok (.slice (some ⟨W.heap.size, 0, none⟩) 0 120) (W.alloc (.cells zer960 107)) := fun W => by
    have hr := run_make (P := Try.prog) W 92 107 i0 _ Try.underlying92 hi hiz .i64 .i64 0 120 (by omega) (by omega) (by rw [hi2]; omega) (by omega)
    rw [hr, hi1]
    rfl
  have hEn : Enters Try.prog 91 := enters_of Try.func91 (by kernel_rfl) rfl
  go_enter Try.func70, Try.ntmps70
  go_upto_region 5 with (fail)
  obtain ⟨W0, hW0⟩ : ∃ W0 : World, (((w.alloc (.cells zer960 107)).alloc (.cells #[.slice (some ⟨w.heap.size, 0, none⟩) 0 120] 92)).alloc (.cells #[.int .i64 0, .int .i64 0, .int .i64 0, .int .i64 0, .int .i64 0, .int .i64 0, .int .i64 0, .int .i64 0] 107)).alloc (.cells #[(.func (.func 91) #[] #[.pointer (some ⟨w.heap.size + 1 + 1, 0, none⟩), .pointer (some ⟨w.heap.size + 1, 0, none⟩), .pointer (some ⟨w.heap.size + 1 + 1 + 1, 0, none⟩)])] 121) = W0 := ⟨_, rfl⟩
  have bN : Blk W0 (w.heap.size + 1 + 1) 107 (vals (List.replicate 8 0)) := by
    rw [← hW0, show vals (List.replicate 8 0) = #[.int .i64 0, .int .i64 0, .int .i64 0, .int .i64 0, .int .i64 0, .int .i64 0, .int .i64 0, .int .i64 0] from rfl]
    have := (Blk.new ((w.alloc (.cells zer960 107)).alloc (.cells #[.slice (some ⟨w.heap.size, 0, none⟩) 0 120] 92)) 107 #[.int .i64 0, .int .i64 0, .int .i64 0, .int .i64 0, .int .i64 0, .int .i64 0, .int .i64 0, .int .i64 0]).alloc (.cells #[(.func (.func 91) #[] #[.pointer (some ⟨w.heap.size + 1 + 1, 0, none⟩), .pointer (some ⟨w.heap.size + 1, 0, none⟩), .pointer (some ⟨w.heap.size + 1 + 1 + 1, 0, none⟩)])] 121)
    simpa only [World.size_alloc] using this
  have bO : Boxed W0 (w.heap.size + 1) 92 (.slice (some ⟨w.heap.size, 0, none⟩) 0 120) := by
    rw [← hW0]
    have := ((Boxed.new (w.alloc (.cells zer960 107)) 92 (.slice (some ⟨w.heap.size, 0, none⟩) 0 120)).alloc (.cells #[.int .i64 0, .int .i64 0, .int .i64 0, .int .i64 0, .int .i64 0, .int .i64 0, .int .i64 0, .int .i64 0] 107)).alloc (.cells #[(.func (.func 91) #[] #[.pointer (some ⟨w.heap.size + 1 + 1, 0, none⟩), .pointer (some ⟨w.heap.size + 1, 0, none⟩), .pointer (some ⟨w.heap.size + 1 + 1 + 1, 0, none⟩)])] 121)
    simpa only [World.size_alloc] using this
  have bE : Boxed W0 (w.heap.size + 1 + 1 + 1) 121 (.func (.func 91) #[] #[.pointer (some ⟨w.heap.size + 1 + 1, 0, none⟩), .pointer (some ⟨w.heap.size + 1, 0, none⟩), .pointer (some ⟨w.heap.size + 1 + 1 + 1, 0, none⟩)]) := by
    rw [← hW0]
    have := Boxed.new (((w.alloc (.cells zer960 107)).alloc (.cells #[.slice (some ⟨w.heap.size, 0, none⟩) 0 120] 92)).alloc (.cells #[.int .i64 0, .int .i64 0, .int .i64 0, .int .i64 0, .int .i64 0, .int .i64 0, .int .i64 0, .int .i64 0] 107)) 121 (.func (.func 91) #[] #[.pointer (some ⟨w.heap.size + 1 + 1, 0, none⟩), .pointer (some ⟨w.heap.size + 1, 0, none⟩), .pointer (some ⟨w.heap.size + 1 + 1 + 1, 0, none⟩)])
    simpa only [World.size_alloc] using this
  have bR : W0.ownsRow w.heap.size 107 8 (.slice (some ⟨w.heap.size, 0, none⟩) 0 120) 0 [] := by
    rw [← hW0]
    exact (((World.ownsRow_made (base := w.heap.size) (e := 107) (size := 8) w zer960 120 (Nat.le_refl _) (by unfold maxLen; omega) zer960_size).alloc _).alloc _).alloc _
  have HB0 : Hid (Below w.heap.size w W0) := by rw [← hW0]; unfold Hid; repeat' (first | (with_reducible exact Below.refl _ _) | (with_reducible assumption) | (with_reducible refine Below.alloc ?_ ?_ _) | (with_reducible refine Below.setCell ?_ ?_ _) | (with_reducible refine Below.drew ?_) | (with_reducible refine below_drewN ?_ _) | (with_reducible refine below_via (by with_reducible assumption) ?_ ?_) | go_size)
  have HX : Hid (Ext W0 w.heap.size (w.heap.size + 1 + 1) (w.heap.size + 1) (w.heap.size + 1 + 1 + 1) (List.replicate 8 0) []) := ⟨⟨by simp, bN⟩, ⟨_, bO, bR, by simp [Value.ownBlock]; omega⟩, bE⟩
  have HBs : Hid (Bases w.heap.size (w.heap.size + 1 + 1) (w.heap.size + 1) (w.heap.size + 1 + 1 + 1)) := by unfold Hid Bases; omega
  have cE := bE.cell
  rw [hW0]
  clear hW0 bN bO bE bR
  go_wp2_with fail
  refine (iExt 7 0 11 W0 w.heap.size (w.heap.size + 1 + 1) (w.heap.size + 1) (w.heap.size + 1 + 1 + 1) (List.replicate 8 0) [] (by omega) (by omega) (by omega) HBs.out HX.out (by have := PATS_len; unfold PATS at this; simp [this])).mono ?_
  rintro e w2 ⟨r, N', rfl, ⟨-, ⟨v, h3, h4, -⟩, -⟩, -, hb2⟩
  have e1 : ([] : List (List Int)) ++ (pats 7 11).map ((List.replicate 8 (0 : Int)).take 0 ++ ·) = PATS := by
    unfold PATS
    simp
  rw [e1, PATS_len] at h4
  obtain ⟨av, cv, rfl⟩ := ownN_shape h4
  have cv3 := h3.cell
  have H4 := Lib.hid h4
  clear h3 h4 e1 cE
  go_wp2
  go_returns
  exact ⟨av, cv, rfl, H4.out, HB0.out.trans hb2⟩
end Go.Proofs.Ytenelpollcabnaa
