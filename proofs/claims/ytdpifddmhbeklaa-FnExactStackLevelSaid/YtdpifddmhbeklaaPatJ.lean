/-
  DERIVED. PatP, PatI, PatS, PatV, PatW.
-/
import Derived.Test.YtdpifddmhbeklaaBas
import Derived.RangeFuncBox
import Derived.RangeFuncNested
import Derived.Shelf.Abstract
import Derived.Deep.Cut
import Derived.Laws.EntriesVeiled
namespace Go.Proofs.Ytdpifddmhbeklaa
open Go.RowKit
set_option linter.unusedVariables false
/-- The lists that begin with 1, .., k. -/
def patK (g : Nat → List (List Int)) : Nat → List (List Int)
  | 0 => []
  | k + 1 => patK g k ++ (g (k + 1)).map (((k + 1 : Nat) : Int) :: ·)
/-- The lists of p + 1 widths with the sum s. -/
def pats : Nat → Nat → List (List Int)
  | 0, s => [[(s : Int)]]
  | p + 1, s => patK (fun f => pats p (s - f)) (s - (p + 1))
theorem patK_row {g : Nat → List (List Int)} {n : Nat} (hg : ∀ f, ∀ x ∈ g f, x.length = n) : ∀ k, ∀ x ∈ patK g k, x.length = n + 1
  | 0, x, h => by simp [patK] at h
  | k + 1, x, h => by
    unfold patK at h
    rcases List.mem_append.1 h with h | h
    · exact patK_row hg k x h
    · obtain ⟨y, hy, rfl⟩ := List.mem_map.1 h
      simp [hg _ y hy]
theorem pats_row : ∀ (p s : Nat), ∀ x ∈ pats p s, x.length = p + 1
  | 0, s, x, h => by simp [pats] at h; subst h; rfl
  | p + 1, s, x, h => patK_row (fun f => pats_row p (s - f)) _ x h
theorem patK_len {g : Nat → List (List Int)} {s : Nat} (hg : ∀ f, f ≤ s → (g f).length ≤ 2 ^ (s - f)) : ∀ k, k ≤ s → (patK g k).length + 2 ^ (s - k) ≤ 2 ^ s
  | 0, _ => by simp [patK]
  | k + 1, h => by
    have h1 := patK_len hg k (by omega)
    have h2 := hg (k + 1) h
    have h3 : s - k = (s - (k + 1)) + 1 := by omega
    rw [h3, Nat.pow_succ] at h1
    unfold patK
    rw [List.length_append, List.length_map]
    omega
theorem pats_len : ∀ (p s : Nat), (pats p s).length ≤ 2 ^ s
  | 0, s => by simp [pats]; exact Nat.pos_of_ne_zero (by simp)
  | p + 1, s => by
    have := patK_len (g := fun f => pats p (s - f)) (s := s) (fun f _ => pats_len p (s - f)) (s - (p + 1)) (by omega)
    exact Nat.le_trans (Nat.le_add_right _ _) this
theorem patK_mono {g : Nat → List (List Int)} {k n : Nat} (h : k ≤ n) : (patK g k).length ≤ (patK g n).length := by
  induction n with
  | zero => obtain rfl : k = 0 := by omega
            exact Nat.le_refl _
  | succ n ih =>
    rcases Nat.lt_or_ge k (n + 1) with h1 | h1
    · have h2 := ih (by omega)
      have h3 : (patK g (n + 1)).length = (patK g n).length + (g (n + 1)).length := by
        show (patK g n ++ _).length = _
        rw [List.length_append, List.length_map]
      omega
    · obtain rfl : k = n + 1 := by omega
      exact Nat.le_refl _
theorem getD_mem' {Ls : List (List Int)} {i : Nat} (h : i < Ls.length) : Ls.getD i [] ∈ Ls := by
  simp [List.getD_eq_getElem?_getD, List.getElem?_eq_getElem h]
theorem take_succ' {Ls : List (List Int)} {i : Nat} (h : i < Ls.length) : Ls.take (i + 1) = Ls.take i ++ [Ls.getD i []] := by
  rw [List.take_succ_eq_append_getElem h]
  simp [List.getD_eq_getElem?_getD, List.getElem?_eq_getElem h]
theorem rd_news {W : World} {b off n : Nat} {zs : List Int} (hl : zs.length = n) (hc : ∀ i, i < n → W.cell? ⟨b, off + i, none⟩ = some (.int .i64 (zs.getD i 0))) : ∀ j u, (zs.map (Value.int .i64))[j]? = some u → W.cell? ((⟨b, off, none⟩ : Addr).add j) = some u := fun j u hu => by
  rw [List.getElem?_map] at hu
  have hj : j < zs.length := by
    rcases Nat.lt_or_ge j zs.length with h | h
    · exact h
    · rw [List.getElem?_eq_none h] at hu; cases hu
  rw [Addr.add_lit, hc j (by omega)]
  rw [List.getElem?_eq_getElem hj] at hu
  simp [List.getD_eq_getElem?_getD, List.getElem?_eq_getElem hj] at hu ⊢
  exact hu
/-- One row more, its header laid into a block of its own first. -/
theorem srow_add {W W2 : World} {B : Nat} {v v' h : Value} {Ls : List (List Int)} {hs : List Value} {zs : List Int} (ho : W.ownsRow B 36 1 v Ls.length hs)
    (hr : ∀ i, i < Ls.length → ∃ h, hs[i]? = some h ∧ HdrOk W (fun b => B ≤ b ∧ v.ownBlock ≠ some b) (Ls.getD i []) h)
    (hh : HdrOk W (fun b => B ≤ b ∧ v.ownBlock ≠ some b) zs h) (o : Obj) (hgrow : (W.alloc o).grownBy W2 v.ownBlock)
    (g : Nat) (hg : v'.ownBlock = some g) (hat : v.ownBlock = some g ∨ g = W.heap.size + 1)
    (hown : W2.ownsRow B 36 1 v' (Ls.length + 1) (hs ++ [h])) : SRow W2 B v' (Ls ++ [zs]) := by
  refine SRow.push ho hr hh ((World.grownBy_alloc _ _ _).trans hgrow) (fun b hb h1 h2 => ?_) hown
  rw [hg] at h2
  injection h2 with h2
  subst h2
  rcases hat with h3 | h3
  · exact h1 h3
  · omega
/-- In the blocks from B to Z all lies as it lay. -/
def Kin (B Z : Nat) (W W' : World) : Prop := W.heap.size ≤ W'.heap.size ∧ ∀ b, B ≤ b → b < Z → W'.heap[b]? = W.heap[b]?
theorem Kin.refl (B Z : Nat) (W : World) : Kin B Z W W := ⟨Nat.le_refl _, fun _ _ _ => rfl⟩
theorem Kin.trans {B Z : Nat} {X Y W : World} (h : Kin B Z X Y) (k : Kin B Z Y W) : Kin B Z X W := ⟨Nat.le_trans h.1 k.1, fun b h1 h2 => (k.2 b h1 h2).trans (h.2 b h1 h2)⟩
theorem Kin.below {B Z : Nat} {W W' : World} (h : Below W.heap.size W W') (hZ : Z ≤ W.heap.size) : Kin B Z W W' := ⟨h.size, fun b _ h2 => h.block b (by omega)⟩
theorem Kin.grown {B Z : Nat} {W W' : World} {row : Option Nat} (h : W.grownBy W' row) (hZ : Z ≤ W.heap.size) (hr : ∀ k, row = some k → k < B ∨ Z ≤ k) : Kin B Z W W' :=
  ⟨h.size, fun b h1 h2 => h.block b (by omega) (fun e => by have := hr b e.symm; omega)⟩
theorem RRow.kin {W W' : World} {B Z n : Nat} {a : Option Addr} {Ls : List (List Int)} (h : RRow W B Z a n Ls) (hk : Kin B Z W W') : RRow W' B Z a n Ls := h.kept hk.1 hk.2
end Go.Proofs.Ytdpifddmhbeklaa
namespace Go.Proofs.Ytdpifddmhbeklaa
open Go.RowKit Go.Shelf
set_option linter.unusedVariables false
def rowV (x : List Int) : List Value := x.map (Value.int .i64)
def rowsV (LL : List (List Int)) : List Value := LL.flatMap rowV
theorem rowsV_app (A B : List (List Int)) : rowsV (A ++ B) = rowsV A ++ rowsV B := by simp [rowsV]
theorem rowsV_one (x : List Int) : rowsV [x] = rowV x := by simp [rowsV]
theorem list8 {N : List Int} (h : N.length = 8) : ∃ a0 a1 a2 a3 a4 a5 a6 a7, N = [a0, a1, a2, a3, a4, a5, a6, a7] := by
  match N, h with
  | [a0, a1, a2, a3, a4, a5, a6, a7], _ => exact ⟨a0, a1, a2, a3, a4, a5, a6, a7, rfl⟩
theorem infoWid : (Try.prog.info? 132).map (fun i => (i.zero, i.size, i.bytes)) = some (some (.agg #[.int .i64 0, .int .i64 0, .int .i64 0, .int .i64 0, .int .i64 0, .int .i64 0, .int .i64 0, .int .i64 0]), 8, 64) := by kernel_rfl
/-- What the closure captured. -/
def Ext (W : World) (base Bn Bo Be : Nat) (N : List Int) (LL : List (List Int)) : Prop :=
  (N.length = 8 ∧ Blk W Bn 132 (vals N)) ∧ (∃ v, Boxed W Bo 102 v ∧ W.ownsRow base 132 8 v LL.length (rowsV LL) ∧ v.ownBlock ≠ some Bn) ∧
    Boxed W Be 138 (.func (.func 110) #[] #[.pointer (some ⟨Bn, 0, none⟩), .pointer (some ⟨Bo, 0, none⟩), .pointer (some ⟨Be, 0, none⟩)])
def ExtR (w : World) (base Bn Bo Be part : Nat) (N : List Int) (LL : List (List Int)) (e : Ending) (w' : World) : Prop :=
  ∃ r N', e = .returned r ∧ Ext w' base Bn Bo Be N' LL ∧ N'.take part = N.take part ∧ Below base w w'
/-- The bases of the blocks. -/
def Bases (base Bn Bo Be : Nat) : Prop := base ≤ Bn ∧ base ≤ Bo ∧ base ≤ Be ∧ Bn ≠ Bo ∧ Bn ≠ Be ∧ Bo ≠ Be
theorem Ext.set {W : World} {base Bn Bo Be : Nat} {N : List Int} {LL : List (List Int)} (h : Ext W base Bn Bo Be N LL) (hb : Bases base Bn Bo Be) (i : Nat) (x : Int) : Ext (W.setCell ⟨Bn, i, none⟩ (.int .i64 x)) base Bn Bo Be (N.set i x) LL := by
  obtain ⟨⟨h1, h2⟩, ⟨v, h3, h4, h5⟩, h6⟩ := h
  obtain ⟨b1, b2, b3, b4, b5, b6⟩ := hb
  have hg : W.grownBy (W.setCell ⟨Bn, i, none⟩ (.int .i64 x)) (some Bn) := only_setCell (World.grownBy.refl W _) _
  refine ⟨⟨by simpa using h1, ?_⟩, ⟨v, h3.kept hg (by intro e; injection e with e; exact b4 e.symm), h4.kept hg (.inr h5), h5⟩, h6.kept hg (by intro e; injection e with e; exact b5 e.symm)⟩
  have := h2.set_ i (.int .i64 x)
  rwa [vals_set] at this
theorem ext_push {W1 w2 : World} {base Bn Bo Be g n cap : Nat} {v : Value} {M : List Int} {LL : List (List Int)} {o : Obj} (hB : Bases base Bn Bo Be) (hbz : base ≤ W1.heap.size) (h1 : M.length = 8) (h2 : Blk W1 Bn 132 (vals M)) (h3 : Boxed W1 Bo 102 v) (h4 : W1.ownsRow base 132 8 v LL.length (rowsV LL)) (h5 : v.ownBlock ≠ some Bn)
    (h6 : Boxed W1 Be 138 (.func (.func 110) #[] #[.pointer (some ⟨Bn, 0, none⟩), .pointer (some ⟨Bo, 0, none⟩), .pointer (some ⟨Be, 0, none⟩)]))
    (G3 : Boxed w2 Bo 102 v) (GO : w2.ownsRow base 132 8 (.slice (some ⟨g, 0, none⟩) n cap) n (rowsV LL ++ rowV M)) (hn : n = LL.length + 1) (GG : (W1.alloc o).grownBy w2 v.ownBlock) (GA : v.ownBlock = some g ∨ g = W1.heap.size + 1) :
    Ext (w2.setCell ⟨Bo, 0, none⟩ (.slice (some ⟨g, 0, none⟩) n cap)) base Bn Bo Be M (LL ++ [M]) ∧ Below base W1 (w2.setCell ⟨Bo, 0, none⟩ (.slice (some ⟨g, 0, none⟩) n cap)) := by
  subst hn
  obtain ⟨b1, b2, b3, b4, b5, b6⟩ := hB
  have hs := grownBy_setCell' w2 Bo (.slice (some ⟨g, 0, none⟩) (LL.length + 1) cap)
  have hgB : (Value.slice (some ⟨g, 0, none⟩) (LL.length + 1) cap).ownBlock ≠ some Bn := fun e => by
    have e : g = Bn := by simpa [Value.ownBlock] using e
    have := h2.lt
    rcases GA with h | h
    · exact h5 (by rw [h, e])
    · omega
  have hne6 : some Be ≠ v.ownBlock := h6.not_row (by decide) h4
  refine ⟨⟨⟨h1, ?_⟩, ⟨_, G3.set _, ?_, hgB⟩, ?_⟩, ?_⟩
  · exact Blk.far ((GG.block Bn (h2.alloc _).lt (Ne.symm h5)).trans (h2.alloc _)) (by simpa using b4) _
  · rw [List.length_append, rowsV_app, rowsV_one]
    exact GO.kept hs (.inr (G3.set (.slice (some ⟨g, 0, none⟩) (LL.length + 1) cap) |>.not_row (by decide) (GO.kept hs (.inr (fun e => by
      have := (G3.not_row (e := 132) (by decide) GO)
      exact this e.symm)))).symm)
  · exact ((h6.alloc o).kept GG hne6).other (Ne.symm b6) _
  · exact ((((Below.refl _ W1).alloc hbz o).grown GG (by simp; omega) (fun j e => (h4.lt j e).1)).setCell (p := ⟨Bo, 0, none⟩) b2 _)
set_option maxRecDepth 20000 in
set_option maxHeartbeats 8000000 in
theorem iExt : ∀ (p part left : Nat) (w : World) (base Bn Bo Be : Nat) (N : List Int) (LL : List (List Int)), part + p = 7 → p + 1 ≤ left → left ≤ 11 → Bases base Bn Bo Be → Ext w base Bn Bo Be N LL → LL.length + (pats p left).length ≤ 4096 →
    Calls Try.prog 110 #[.int .i64 (part : Int), .int .i64 (left : Int), .pointer (some ⟨Bn, 0, none⟩), .pointer (some ⟨Bo, 0, none⟩), .pointer (some ⟨Be, 0, none⟩)] w (ExtR w base Bn Bo Be part N (LL ++ (pats p left).map (N.take part ++ ·))) := by
  obtain ⟨i0, hi, hiz, hi1, hi2⟩ := info_parts infoWid
  have hiS : (Try.prog.info? 132).map (·.size) = some 8 := by rw [hi]; simp [hi1]
  intro p
  induction p with
  | zero =>
    intro part left w base Bn Bo Be N LL hp hl hl2 hB hE hlen
    obtain rfl : part = 7 := by omega
    have HE1 := Lib.hid (hE.set hB 7 left)
    obtain ⟨⟨h1, h2⟩, -, -⟩ := hE
    have cN : w.cell? ⟨Bn, 7, none⟩ = some (.int .i64 (N.getD 7 0)) := by rw [h2.cell]; exact vals_get _ _ (by omega)
    have fN := h2.frozen 7
    have HT : Hid (N.set 7 (left : Int) = N.take 7 ++ [(left : Int)]) := by
      unfold Hid
      rw [List.set_eq_take_append_cons_drop, if_pos (by omega), List.drop_of_length_le (by omega)]
    have HN8 := Lib.hid h1
    have HBe1 : Hid (Below base w (w.setCell ⟨Bn, 7, none⟩ (.int .i64 (left : Int)))) := (Below.refl _ _).setCell hB.1 _
    have HB := Lib.hid hB
    clear h1 h2 hB
    go_enter Try.func110, Try.ntmps110
    go_upto_region 2 with (fail)
    obtain ⟨W1, hW1⟩ : ∃ W1, w.setCell ⟨Bn, 7, none⟩ (.int .i64 (left : Int)) = W1 := ⟨_, rfl⟩
    rw [hW1] at HE1 HBe1 ⊢
    clear hW1 cN fN
    obtain ⟨⟨h1, h2⟩, ⟨v, h3, h4, h5⟩, h6⟩ := HE1.out
    obtain ⟨av, cv, rfl⟩ := ownN_shape h4
    have cO := h3.cell
    have hbz : base ≤ W1.heap.size := by have := HB.out; have := h3.lt; unfold Bases at *; omega
    have H2 := Lib.hid h2
    have H3 := Lib.hid h3
    have H4 := Lib.hid h4
    have H5 := Lib.hid h5
    have H6 := Lib.hid h6
    have HS8 := Lib.hid h1
    clear h1 h2 h3 h4 h5 h6
    obtain ⟨a0, a1, a2, a3, a4, a5, a6, a7, hM⟩ := list8 HS8.out
    have HM := Lib.hid hM
    have HB8 : Hid (Blk W1 Bn 132 #[.int .i64 a0, .int .i64 a1, .int .i64 a2, .int .i64 a3, .int .i64 a4, .int .i64 a5, .int .i64 a6, .int .i64 a7]) := by have := H2.out; rw [hM] at this; exact this
    clear hM
    have hB9 := HB.out
    have hBo : Bo < W1.heap.size := H3.out.lt
    have hBnl : Bn < W1.heap.size := H2.out.lt
    have hBn : Bo ≠ Bn := fun e => hB9.2.2.2.1 e.symm
    go_wp2_with (first
      | (refine wpList_load_row rfl 132 (.tmp 2) rfl Bn rfl 132 #[.int .i64 a0, .int .i64 a1, .int .i64 a2, .int .i64 a3, .int .i64 a4, .int .i64 a5, .int .i64 a6, .int .i64 a7] (0, 0) _ HB8.out Try.underlying132 rfl hiS ?_)
      | (at_builtin; refine wpList_append_lies _ rfl _ _ 102 rfl base 132 i0 _ 8 64 Try.underlying102 hi hiz hi1 hi2 rfl (by decide) _ _ _ rfl (H4.out.alloc _) ⟨W1.heap.size, 0, none⟩ 1 1 [.int .i64 a0, .int .i64 a1, .int .i64 a2, .int .i64 a3, .int .i64 a4, .int .i64 a5, .int .i64 a6, .int .i64 a7] rfl rfl (World.news_of_block (heap_alloc_new W1 _)) (by simp [Value.oneCell']) (by omega) (by unfold maxLen; omega) (by omega) (by simp; omega) (W1.heap.size + 1) (by simp) ?_; intro g cap w2 hown hgrow hat hlt; have h3c := (H3.out.alloc (.cells #[.int .i64 a0, .int .i64 a1, .int .i64 a2, .int .i64 a3, .int .i64 a4, .int .i64 a5, .int .i64 a6, .int .i64 a7] 132)).kept hgrow (H3.out.not_row (by decide) H4.out); have c3 := h3c.cell; have f3 := h3c.frozen; have G3 := Lib.hid h3c; have GO := Lib.hid hown; have GG := Lib.hid hgrow; have GA := Lib.hid hat; clear hown hgrow hat hlt h3c))
    go_end0
    obtain ⟨r1, r2⟩ := ext_push HB.out hbz HS8.out H2.out H3.out H4.out H5.out H6.out G3.out (by rw [show rowV (N.set 7 (left : Int)) = [.int .i64 a0, .int .i64 a1, .int .i64 a2, .int .i64 a3, .int .i64 a4, .int .i64 a5, .int .i64 a6, .int .i64 a7] by rw [HM.out]; rfl]; exact GO.out) rfl GG.out GA.out
    refine ⟨_, N.set 7 (left : Int), rfl, ?_, by rw [HT.out]; exact List.take_left' (by rw [List.length_take]; have := HN8.out; omega), HBe1.out.trans r2⟩
    have e : (pats 0 left).map (N.take 7 ++ ·) = [N.set 7 (left : Int)] := by rw [HT.out]; rfl
    rw [e]
    exact r1
  | succ p ih =>
    intro part left w base Bn Bo Be N LL hp hl hl2 hB hE hlen
    have HI := Lib.hid ih
    have HB := Lib.hid hB
    have HE := Lib.hid hE
    have HLn := Lib.hid hlen
    have hEn : Enters Try.prog 110 := enters_of Try.func110 (by kernel_rfl) rfl
    have t0 : ((part : Int) == 7) = false := by simp; omega
    have hp7 : (part : Int) + (p : Int) + 1 ≤ 7 := by omega
    have hp8 : 7 ≤ (part : Int) + (p : Int) + 1 := by omega
    clear ih hB hE hlen
    go_enter Try.func110, Try.ntmps110
    go_wp2
    go_loopw [7] (fun i wr => ∃ (k : Nat) (N' : List Int), k ≤ left - (p + 1) ∧ i = .int .i64 ((k : Int) + 1) ∧ Hid (Ext wr base Bn Bo Be N' (LL ++ (patK (fun f => pats p (left - f)) k).map (N.take part ++ ·))) ∧ Hid (N'.take part = N.take part) ∧ Hid (Below base w wr)) (fun i _ => left - (intOf i).toNat)
    case atStart => exact ⟨0, N, Nat.zero_le _, rfl, by unfold Hid; simpa [patK] using HE.out, rfl, Below.refl _ _⟩
    case round =>
      clear HE
      obtain ⟨k, N', hk, rfl, HE, HT, HBel⟩ := hrel
      by_cases hlt : k < left - (p + 1)
      · have hkI : (k : Int) + 1 ≤ (left : Int) - (7 - (part : Int)) := by omega
        obtain ⟨⟨h1, h2⟩, -, -⟩ := HE.out
        have cN : wr.cell? ⟨Bn, part, none⟩ = some (.int .i64 (N'.getD part 0)) := by rw [h2.cell]; exact vals_get _ _ (by omega)
        have fN := h2.frozen part
        have HE1 := Lib.hid (HE.out.set HB.out part ((k : Int) + 1))
        have HT1 : Hid ((N'.set part ((k : Int) + 1)).take (part + 1) = N.take part ++ [(k : Int) + 1]) := by
          unfold Hid
          rw [← HT.out, List.take_succ_eq_append_getElem (by simp; omega), List.take_set_of_le (Nat.le_refl _)]
          simp
        have HT2 : Hid (∀ N2 : List Int, N2.take (part + 1) = (N'.set part ((k : Int) + 1)).take (part + 1) → N2.take part = N.take part) := fun N2 h => by
          rw [HT1.out] at h
          have := congrArg (List.take part) h
          rw [List.take_take, Nat.min_eq_left (by omega)] at this
          rw [this, List.take_left' (by rw [← HT.out, List.length_take]; omega)]
        have HBe1 : Hid (Below base w (wr.setCell ⟨Bn, part, none⟩ (.int .i64 ((k : Int) + 1)))) := HBel.out.setCell HB.out.1 _
        have HL1 : Hid ((LL ++ (patK (fun f => pats p (left - f)) k).map (N.take part ++ ·)).length + (pats p (left - (k + 1))).length ≤ 4096) := by
          unfold Hid
          have h1 := HLn.out
          have h2 : (patK (fun f => pats p (left - f)) (k + 1)).length ≤ (patK (fun f => pats p (left - f)) (left - (p + 1))).length := patK_mono (by omega)
          have h3 : (patK (fun f => pats p (left - f)) (k + 1)).length = (patK (fun f => pats p (left - f)) k).length + (pats p (left - (k + 1))).length := by
            show (patK (fun f => pats p (left - f)) k ++ _).length = _
            rw [List.length_append, List.length_map]
          have h4 : (pats (p + 1) left).length = (patK (fun f => pats p (left - f)) (left - (p + 1))).length := rfl
          rw [List.length_append, List.length_map]
          omega
        have HRow : Hid (LL ++ (patK (fun f => pats p (left - f)) (k + 1)).map (N.take part ++ ·) = (LL ++ (patK (fun f => pats p (left - f)) k).map (N.take part ++ ·)) ++ (pats p (left - (k + 1))).map ((N'.set part ((k : Int) + 1)).take (part + 1) ++ ·)) := by
          unfold Hid
          rw [HT1.out, List.append_assoc]
          congr 1
          show (patK (fun f => pats p (left - f)) k ++ (pats p (left - (k + 1))).map (((k + 1 : Nat) : Int) :: ·)).map _ = _
          rw [List.map_append, List.map_map]
          congr 1
          apply List.map_congr_left
          intro x _
          simp
        have q0 : (0 : Int) ≤ (part : Int) := by omega
        have q1 : (part : Int) < 8 := by omega
        clear h1 h2
        go_upto_region 7 with (fail)
        obtain ⟨W1, hW1⟩ : ∃ W1, wr.setCell ⟨Bn, part, none⟩ (.int .i64 ((k : Int) + 1)) = W1 := ⟨_, rfl⟩
        rw [hW1] at HE1 HBe1 ⊢
        clear hW1 cN fN
        have cE := HE1.out.2.2.cell
        have HC := Lib.hid (fun (a b : Int) (ha : a = ((part + 1 : Nat) : Int)) (hb : b = ((left - (k + 1) : Nat) : Int)) => (show Calls Try.prog 110 #[.int .i64 a, .int .i64 b, .pointer (some ⟨Bn, 0, none⟩), .pointer (some ⟨Bo, 0, none⟩), .pointer (some ⟨Be, 0, none⟩)] W1 _ by
          subst ha hb
          exact HI.out (part + 1) (left - (k + 1)) W1 base Bn Bo Be (N'.set part ((k : Int) + 1)) _ (by omega) (by omega) (by omega) HB.out HE1.out HL1.out))
        go_wp2_with fail
        refine (HC.out _ _ (by omega) (by omega)).mono ?_
        rintro e w2 ⟨r, N2, rfl, hE2, hT2, hb2⟩
        have HE2 := Lib.hid hE2
        have HT3 := Lib.hid (HT2.out N2 hT2)
        have HB2 := Lib.hid (HBe1.out.trans hb2)
        clear hE2 hT2 hb2 cE
        go_wp2
        go_roundw
        case rel => exact ⟨k + 1, N2, by omega, by go_num, by unfold Hid; rw [HRow.out]; exact HE2.out, HT3, HB2⟩
        case measure => simp [intOf]; omega
      · have hkI : (left : Int) - (7 - (part : Int)) < (k : Int) + 1 := by omega
        have HKe : Hid (patK (fun f => pats p (left - f)) k = pats (p + 1) left) := by
          unfold Hid
          rw [show k = left - (p + 1) by omega]
          rfl
        go_wp2
        go_end0
        exact ⟨_, N', rfl, by rw [← HKe.out]; exact HE.out, HT.out, HBel.out⟩
/-- All patterns. -/
def PATS : List (List Int) := pats 7 11
theorem PATS_len : PATS.length = 120 := by decide +kernel
theorem PATS_row : ∀ x ∈ PATS, x.length = 8 := pats_row 7 11
theorem PATS_nodup : PATS.Nodup := by decide +kernel
theorem PATS_pos : ∀ x ∈ PATS, ∀ y ∈ x, 1 ≤ y ∧ y ≤ 4 := by decide +kernel
theorem PATS_sum : ∀ x ∈ PATS, x.sum = 11 := by decide +kernel
def zer960 : Array Value := madeCells #[.int .i64 0, .int .i64 0, .int .i64 0, .int .i64 0, .int .i64 0, .int .i64 0, .int .i64 0, .int .i64 0] (120 * 8)
theorem zer960_size : zer960.size = 120 * 8 := by simp [zer960, madeCells]
set_option maxRecDepth 20000 in
set_option maxHeartbeats 8000000 in
theorem iAll (w : World) : Calls Try.prog 75 #[] w fun e w' => ∃ a cp, e = .returned (.slice a 120 cp) ∧ w'.ownsRow w.heap.size 132 8 (.slice a 120 cp) 120 (rowsV PATS) ∧ Below w.heap.size w w' := by
  obtain ⟨i0, hi, hiz, hi1, hi2⟩ := info_parts infoWid
  have hmk : ∀ W : World, (Instr.makeSlice 102 (.int .i64 0) (.int .i64 120)).run Try.prog W = .ok (.slice (some ⟨W.heap.size, 0, none⟩) 0 120) (W.alloc (.cells zer960 132)) := fun W => by
    have hr := run_make (P := Try.prog) W 102 132 i0 _ Try.underlying102 hi hiz .i64 .i64 0 120 (by omega) (by omega) (by rw [hi2]; omega) (by omega)
    rw [hr, hi1]
    rfl
  have hEn : Enters Try.prog 110 := enters_of Try.func110 (by kernel_rfl) rfl
  go_enter Try.func75, Try.ntmps75
  go_upto_region 5 with (fail)
  obtain ⟨W0, hW0⟩ : ∃ W0 : World, (((w.alloc (.cells zer960 132)).alloc (.cells #[.slice (some ⟨w.heap.size, 0, none⟩) 0 120] 102)).alloc (.cells #[.int .i64 0, .int .i64 0, .int .i64 0, .int .i64 0, .int .i64 0, .int .i64 0, .int .i64 0, .int .i64 0] 132)).alloc (.cells #[(.func (.func 110) #[] #[.pointer (some ⟨w.heap.size + 1 + 1, 0, none⟩), .pointer (some ⟨w.heap.size + 1, 0, none⟩), .pointer (some ⟨w.heap.size + 1 + 1 + 1, 0, none⟩)])] 138) = W0 := ⟨_, rfl⟩
  have bN : Blk W0 (w.heap.size + 1 + 1) 132 (vals (List.replicate 8 0)) := by
    rw [← hW0, show vals (List.replicate 8 0) = #[.int .i64 0, .int .i64 0, .int .i64 0, .int .i64 0, .int .i64 0, .int .i64 0, .int .i64 0, .int .i64 0] from rfl]
    have := (Blk.new ((w.alloc (.cells zer960 132)).alloc (.cells #[.slice (some ⟨w.heap.size, 0, none⟩) 0 120] 102)) 132 #[.int .i64 0, .int .i64 0, .int .i64 0, .int .i64 0, .int .i64 0, .int .i64 0, .int .i64 0, .int .i64 0]).alloc (.cells #[(.func (.func 110) #[] #[.pointer (some ⟨w.heap.size + 1 + 1, 0, none⟩), .pointer (some ⟨w.heap.size + 1, 0, none⟩), .pointer (some ⟨w.heap.size + 1 + 1 + 1, 0, none⟩)])] 138)
    simpa only [World.size_alloc] using this
  have bO : Boxed W0 (w.heap.size + 1) 102 (.slice (some ⟨w.heap.size, 0, none⟩) 0 120) := by
    rw [← hW0]
    have := ((Boxed.new (w.alloc (.cells zer960 132)) 102 (.slice (some ⟨w.heap.size, 0, none⟩) 0 120)).alloc (.cells #[.int .i64 0, .int .i64 0, .int .i64 0, .int .i64 0, .int .i64 0, .int .i64 0, .int .i64 0, .int .i64 0] 132)).alloc (.cells #[(.func (.func 110) #[] #[.pointer (some ⟨w.heap.size + 1 + 1, 0, none⟩), .pointer (some ⟨w.heap.size + 1, 0, none⟩), .pointer (some ⟨w.heap.size + 1 + 1 + 1, 0, none⟩)])] 138)
    simpa only [World.size_alloc] using this
  have bE : Boxed W0 (w.heap.size + 1 + 1 + 1) 138 (.func (.func 110) #[] #[.pointer (some ⟨w.heap.size + 1 + 1, 0, none⟩), .pointer (some ⟨w.heap.size + 1, 0, none⟩), .pointer (some ⟨w.heap.size + 1 + 1 + 1, 0, none⟩)]) := by
    rw [← hW0]
    have := Boxed.new (((w.alloc (.cells zer960 132)).alloc (.cells #[.slice (some ⟨w.heap.size, 0, none⟩) 0 120] 102)).alloc (.cells #[.int .i64 0, .int .i64 0, .int .i64 0, .int .i64 0, .int .i64 0, .int .i64 0, .int .i64 0, .int .i64 0] 132)) 138 (.func (.func 110) #[] #[.pointer (some ⟨w.heap.size + 1 + 1, 0, none⟩), .pointer (some ⟨w.heap.size + 1, 0, none⟩), .pointer (some ⟨w.heap.size + 1 + 1 + 1, 0, none⟩)])
    simpa only [World.size_alloc] using this
  have bR : W0.ownsRow w.heap.size 132 8 (.slice (some ⟨w.heap.size, 0, none⟩) 0 120) 0 [] := by
    rw [← hW0]
    exact (((World.ownsRow_made (base := w.heap.size) (e := 132) (size := 8) w zer960 120 (Nat.le_refl _) (by unfold maxLen; omega) zer960_size).alloc _).alloc _).alloc _
  have HB0 : Hid (Below w.heap.size w W0) := by rw [← hW0]; unfold Hid; repeat' (first | (with_reducible exact Below.refl _ _) | (with_reducible assumption) | (with_reducible refine Below.alloc ?_ ?_ _) | (with_reducible refine Below.setCell ?_ ?_ _) | (with_reducible refine Below.drew ?_) | (with_reducible refine below_drewN ?_ _) | (with_reducible refine below_via (by with_reducible assumption) ?_ ?_) | go_size)
  have HX : Hid (Ext W0 w.heap.size (w.heap.size + 1 + 1) (w.heap.size + 1) (w.heap.size + 1 + 1 + 1) (List.replicate 8 0) []) := ⟨⟨by simp, bN⟩, ⟨_, bO, bR, by simp [Value.ownBlock]; omega⟩, bE⟩
  have HBs : Hid (Bases w.heap.size (w.heap.size + 1 + 1) (w.heap.size + 1) (w.heap.size + 1 + 1 + 1)) := by unfold Hid Bases; omega
  have cE := bE.cell
  rw [hW0]
  clear hW0 bN bO bE bR
  go_wp2_with fail
  refine (iExt 7 0 11 W0 w.heap.size (w.heap.size + 1 + 1) (w.heap.size + 1) (w.heap.size + 1 + 1 + 1) (List.replicate 8 0) [] (by omega) (by omega) (by omega) HBs.out HX.out (by have := PATS_len; unfold PATS at this; simp [this])).mono ?_
  rintro e w2 ⟨r, N', rfl, ⟨-, ⟨v, h3, h4, -⟩, -⟩, -, hb2⟩
  have e1 : ([] : List (List Int)) ++ (pats 7 11).map ((List.replicate 8 (0 : Int)).take 0 ++ ·) = PATS := by
    unfold PATS
    simp
  rw [e1, PATS_len] at h4
  obtain ⟨av, cv, rfl⟩ := ownN_shape h4
  have cv3 := h3.cell
  have H4 := Lib.hid h4
  clear h3 h4 e1 cE
  go_wp2
  go_returns
  exact ⟨av, cv, rfl, H4.out, HB0.out.trans hb2⟩
end Go.Proofs.Ytdpifddmhbeklaa
namespace Go.Proofs.Ytdpifddmhbeklaa
open Go.RowKit
set_option linter.unusedVariables false
theorem one_hdr {W : World} {p : Nat → Prop} (x : Int) (hp : p W.heap.size) : HdrOk (W.alloc (.cells #[.int .i64 x] 2)) p [x] (.slice (some ⟨W.heap.size, 0, none⟩) 1 1) := by
  refine ⟨some ⟨W.heap.size, 0, none⟩, 1, rfl, fun _ => ⟨W.heap.size, 0, rfl, hp, by simp, fun j hj => ?_⟩⟩
  have hb := Blk.new W 2 #[.int .i64 x]
  rw [hb.cell]
  have : j = 0 := by simp at hj; omega
  subst this
  rfl
/-- A slice of slices of one row, just built. -/
theorem srow_lit1 (w : World) (x : Int) : SRow ((w.alloc (.cells #[.int .i64 x] 2)).alloc (.cells #[.slice (some ⟨w.heap.size, 0, none⟩) 1 1] 36)) w.heap.size (.slice (some ⟨w.heap.size + 1, 0, none⟩) 1 1) [[x]] := by
  have h1 := World.ownsRow_lit (base := w.heap.size) (e := 36) (size := 1) (w.alloc (.cells #[.int .i64 x] 2)) #[.slice (some ⟨w.heap.size, 0, none⟩) 1 1] 1 (by simp) (by unfold maxLen; omega) (by simp)
  simp only [World.size_alloc] at h1
  refine ⟨_, h1, fun i hi => ?_⟩
  have : i = 0 := by simp at hi; omega
  subst this
  refine ⟨_, rfl, ?_⟩
  refine (one_hdr (W := w) (p := fun b => b = w.heap.size) x rfl).kept (by simp) fun b hb hp => ⟨Below.heap_alloc _ _ b hb, ?_⟩
  subst hp
  exact ⟨Nat.le_refl _, by simp [Value.ownBlock]⟩
theorem own_hdr {W : World} {base n cp g : Nat} {zs : List Int} {p : Nat → Prop} (h : W.ownsRow base 2 1 (.slice (some ⟨g, 0, none⟩) n cp) n (zs.map (Value.int .i64))) (hn : zs.length = n) (hp : p g) : HdrOk W p zs (.slice (some ⟨g, 0, none⟩) n cp) := by
  subst hn
  refine ⟨_, _, rfl, fun h0 => ⟨g, 0, rfl, hp, (h.lt g rfl).2, fun j hj => ?_⟩⟩
  have := h.cellAt j (by omega)
  rw [Nat.zero_add]
  rw [this]
  simp [List.getD_eq_getElem?_getD, List.getElem?_eq_getElem hj]
theorem own_one (w : World) (x : Int) : (w.alloc (.cells #[.int .i64 x] 2)).ownsRow w.heap.size 2 1 (.slice (some ⟨w.heap.size, 0, none⟩) 1 1) 1 [.int .i64 x] := by
  have := World.ownsRow_lit (base := w.heap.size) (e := 2) (size := 1) w #[.int .i64 x] 1 (Nat.le_refl _) (by unfold maxLen; omega) (by simp)
  simpa using this
set_option maxRecDepth 20000 in
set_option maxHeartbeats 8000000 in
theorem sPats : ∀ (p s : Nat) (w : World), p + 1 ≤ s → s ≤ 11 → Calls Try.prog 131 #[.int .i64 ((p : Int) + 1), .int .i64 (s : Int)] w (NewSRow w (pats p s)) := by
  obtain ⟨i0, hi, hiz, hi1, hi2⟩ := info_parts infoRow
  obtain ⟨jI, hj, hy0, hy1, hy2⟩ := info_parts infoInt
  intro p
  induction p with
  | zero =>
    intro s w hp hs
    go_enter Try.func131, Try.ntmps131
    go_wp2
    go_returns
    exact ⟨_, _, rfl, srow_lit1 w s, by repeat' (first | (with_reducible exact Below.refl _ _) | (with_reducible assumption) | (with_reducible refine Below.alloc ?_ ?_ _) | (with_reducible refine Below.setCell ?_ ?_ _) | (with_reducible refine Below.drew ?_) | (with_reducible refine below_drewN ?_ _) | (with_reducible refine below_via (by with_reducible assumption) ?_ ?_) | go_size), by simp [pats]⟩
  | succ p ih =>
    intro s w hp hs
    have HI := Lib.hid ih
    have HO0 : Hid (SRow (w.alloc (.cells #[] 36)) w.heap.size (.slice (some ⟨w.heap.size, 0, none⟩) 0 0) []) := SRow.lit w w.heap.size (Nat.le_refl _)
    have HLn : Hid (∀ k, k ≤ s → (patK (fun f => pats p (s - f)) k).length ≤ 2048) := fun k hk => by
      have h1 := patK_len (g := fun f => pats p (s - f)) (s := s) (fun f _ => pats_len p (s - f)) k hk
      have h2 : 2 ^ s ≤ 2 ^ 11 := Nat.pow_le_pow_right (by omega) hs
      have h3 := Nat.le_trans (Nat.le_add_right _ (2 ^ (s - k))) h1
      exact Nat.le_trans h3 h2
    obtain ⟨q, hq⟩ : ∃ q : Int, ((p + 1 : Nat) : Int) + 1 = q := ⟨_, rfl⟩
    have hq1 : q ≤ (p : Int) + 2 := by omega
    have hq2 : (p : Int) + 2 ≤ q := by omega
    rw [hq]
    clear hq
    have t0 : (q == 1) = false := by simp; omega
    clear ih
    go_enter Try.func131, Try.ntmps131
    go_wp2
    go_loopw [5, 6] (fun v i wr => ∃ k : Nat, k ≤ s - (p + 1) ∧ i = .int .i64 ((k : Int) + 1) ∧ Hid (SRow wr w.heap.size v (patK (fun f => pats p (s - f)) k)) ∧ Below w.heap.size w wr) (fun _ i _ => s - (intOf i).toNat)
    case atStart => exact ⟨0, Nat.zero_le _, rfl, HO0.out, by repeat' (first | (with_reducible exact Below.refl _ _) | (with_reducible assumption) | (with_reducible refine Below.alloc ?_ ?_ _) | (with_reducible refine Below.setCell ?_ ?_ _) | (with_reducible refine Below.drew ?_) | (with_reducible refine below_drewN ?_ _) | (with_reducible refine below_via (by with_reducible assumption) ?_ ?_) | go_size)⟩
    case round =>
      obtain ⟨k, hk, rfl, HS, hbel⟩ := hrel
      have hzr := hbel.size
      by_cases hlt : k < s - (p + 1)
      · have hkI : (k : Int) + 1 ≤ (s : Int) - q + 1 := by omega
        obtain ⟨t, ht⟩ : ∃ t : Nat, s - (k + 1) = t := ⟨_, rfl⟩
        have htI : (s : Int) - ((k : Int) + 1) = (t : Int) := by omega
        have HC : Hid (∀ (a b : Int) (W : World), a = (p : Int) + 1 → b = (t : Int) → Calls Try.prog 131 #[.int .i64 a, .int .i64 b] W (NewSRow W (pats p t))) := fun a b W ha hb => by
          subst ha hb
          exact HI.out t W (by omega) (by omega)
        have HGt : Hid (patK (fun f => pats p (s - f)) (k + 1) = patK (fun f => pats p (s - f)) k ++ (pats p t).map (((k : Int) + 1) :: ·)) := by
          unfold Hid
          rw [← ht]
          rfl
        have HRw : Hid (∀ x ∈ pats p t, x.length = p + 1) := pats_row p t
        have hR9 : (pats p t).length ≤ 2048 := Nat.le_trans (pats_len p t) (show 2 ^ t ≤ 2 ^ 11 from Nat.pow_le_pow_right (by omega) (by omega))
        have hK9 := HLn.out k (by omega)
        generalize pats p t = R at HC HGt HRw hR9
        obtain ⟨n, hn⟩ : ∃ n, R.length = n := ⟨_, rfl⟩
        have HN := Lib.hid hn
        rw [hn] at hR9
        have hkk := hkI
        clear ht hn
        go_wp2_with fail
        refine (HC.out _ _ _ (by omega) (by omega)).mono ?_
        rintro e w1 ⟨a, cp, rfl, hS1, hb1, hL1⟩
        have hz1 := hb1.size
        rw [HN.out]
        have HRR : Hid (RRow w1 wr.heap.size w1.heap.size a n R) := by have := hS1.read; rw [HN.out] at this; exact this
        have HS1 := Lib.hid (HS.out.keep hb1)
        have HO1 := Lib.hid HS.out.lt
        have HB1 : Hid (Below w.heap.size w w1) := hbel.trans (hb1.mono (by omega))
        obtain ⟨B, hB⟩ : ∃ B, wr.heap.size = B := ⟨_, rfl⟩
        obtain ⟨Z, hZ⟩ : ∃ Z, w1.heap.size = Z := ⟨_, rfl⟩
        rw [hB] at HRR
        rw [hZ] at HRR
        have hBZ : B ≤ Z := by omega
        have hB0 : w.heap.size ≤ B := by omega
        have HBB := Lib.hid hB
        have HZZ := Lib.hid hZ
        clear hS1 hb1 hbel HS hL1 hB hZ
        go_wp2
        go_loopw [5, 8] (fun v i wq => ∃ j : Nat, j ≤ n ∧ i = .int .i64 j ∧ Hid (SRow wq w.heap.size v (patK (fun f => pats p (s - f)) k ++ (R.take j).map (((k : Int) + 1) :: ·))) ∧ Hid (Kin B Z w1 wq) ∧ Hid (∀ b, v.ownBlock = some b → b < B ∨ Z ≤ b) ∧ Below w.heap.size w wq) (fun _ i _ => n - (intOf i).toNat)
        case atStart => exact ⟨0, Nat.zero_le _, rfl, by simpa using HS1, Kin.refl _ _ _, fun b hb => by have := HO1.out b hb; have := HBB.out; omega, HB1.out⟩
        case round =>
          clear HS1 HO1 HB1
          obtain ⟨j, hjn, rfl, HS, HK, HO, hbel⟩ := hrel
          by_cases hlt2 : j < n
          · obtain ⟨b1, off1, a2, cp2, rfl, hb1, hc1, hr1⟩ := (HRR.out.kin HK.out).at hlt2
            have hjR : j < R.length := by rw [HN.out]; exact hlt2
            have hrl := HRw.out _ (getD_mem' hjR)
            have HTk : Hid ((R.take (j + 1)).map (((k : Int) + 1) :: ·) = (R.take j).map (((k : Int) + 1) :: ·) ++ [((k : Int) + 1) :: R.getD j []]) := by
              unfold Hid
              rw [take_succ' hjR, List.map_append]
              rfl
            have hmn : (R.take j).length = j := by rw [List.length_take]; omega
            generalize hrow : R.getD j [] = row at hc1 hr1 hrl HTk
            rw [hrl] at hc1 hr1
            obtain ⟨b2, off2, rfl, hb2, hc2⟩ := hr1.2 (by omega)
            have HC2 := Lib.hid hc2
            have HRL := Lib.hid hrl
            have j0 : (0 : Int) ≤ (j : Int) := by omega
            have j1 : (j : Int) < (n : Int) := by omega
            have HLen : Hid ((patK (fun f => pats p (s - f)) k ++ (R.take j).map (((k : Int) + 1) :: ·)).length ≤ 4096) := by
              unfold Hid
              rw [List.length_append, List.length_map, hmn]
              omega
            have hK3 := HK.out.1
            have hwq := hbel.size
            clear hr1 hc2 hrl hrow hmn
            have HN1 : Hid (∀ j u, (row.map (Value.int .i64))[j]? = some u → (wr.alloc (.cells #[.int .i64 ((k : Int) + 1)] 2)).cell? ((⟨b2, off2, none⟩ : Addr).add j) = some u) := rd_news HRL.out (fun i hi => (((Below.refl _ wr).alloc (Nat.le_refl _) _).cell (p := ⟨b2, off2 + i, none⟩) hb2).trans (HC2.out i hi))
            have HLT : Hid (∀ b, u5.ownBlock = some b → b < wr.heap.size) := fun b hb => (HS.out.lt b hb).2
            have HLT2 : Hid (∀ b, u5.ownBlock = some b → w.heap.size ≤ b) := fun b hb => (HS.out.lt b hb).1
            go_wp2_with (first
              | (at_builtin; refine wpList_append_lies _ rfl (.tmp 37) (.tmp 41) 36 rfl wr.heap.size 2 jI _ 1 8 Try.underlying36 hj hy0 hy1 hy2 rfl (by decide) _ 1 [.int .i64 ((k : Int) + 1)] rfl (own_one wr _) ⟨b2, off2, none⟩ (p + 1) cp2 (row.map (Value.int .i64)) rfl (by rw [List.length_map, HRL.out]; omega) HN1.out (by simp [Value.oneCell']) (by omega) (by unfold maxLen; omega) (by omega) (by simp) _ rfl ?_; intro g1 cap1 w2 hown1 hgrow1 hat1 hlt1; have hbw : Below wr.heap.size wr w2 := ((Below.refl _ wr).alloc (Nat.le_refl _) _).grown hgrow1 (by simp) (fun j e => by cases e; exact Nat.le_refl _); have hg1 : wr.heap.size ≤ g1 := (by rcases hat1 with h | h; (· cases h; exact Nat.le_refl _); (· simp at h; omega)); obtain ⟨hs5, ho5, hr5⟩ := HS.out.keep hbw; have HH := Lib.hid (own_hdr (p := fun b => w.heap.size ≤ b ∧ u5.ownBlock ≠ some b) (zs := ((k : Int) + 1) :: row) hown1 (by simp [HRL.out]; omega) ⟨by omega, fun e => by have := HLT.out _ e; omega⟩); have HO5 := Lib.hid ho5; have HR5 := Lib.hid hr5; have HBW := Lib.hid hbw; have hsw := hbw.size; clear hown1 hgrow1 hat1 hlt1 hbw ho5 hr5)
              | (at_builtin; refine wpList_append_lies _ rfl (.tmp 35) (.tmp 43) 86 rfl w.heap.size 36 i0 _ 1 24 Try.underlying86 hi hiz hi1 hi2 rfl (by decide) _ _ _ rfl (HO5.out.alloc _) ⟨w2.heap.size, 0, none⟩ 1 1 [.slice (some ⟨g1, 0, none⟩) (1 + (p + 1)) cap1] rfl rfl (World.news_of_block (heap_alloc_new w2 _)) (by simp [Value.oneCell']) (by omega) (by unfold maxLen; have := HLen.out; omega) (by have := HLen.out; omega) (by simp; omega) (w2.heap.size + 1) (by simp) ?_; intro g2 cap2 w3 hown2 hgrow2 hat2 hlt2; have HQ := Lib.hid (srow_add HO5.out HR5.out HH.out _ hgrow2 g2 rfl hat2 hown2); have HG2 := Lib.hid hgrow2; have HA2 := Lib.hid hat2; clear hown2 hgrow2 hat2 hlt2))
            have HZ2 : Z ≤ wr.heap.size := by have := HZZ.out; omega
            have HK4 : Hid (Kin B Z w1 w3) := ((HK.out.trans (Kin.below HBW.out HZ2)).trans (Kin.below ((Below.refl _ w2).alloc (Nat.le_refl _) _) (by omega))).trans (Kin.grown HG2.out (by simp; omega) HO.out)
            have HB4 : Hid (Below w.heap.size w w3) := ((hbel.trans (HBW.out.mono (by omega))).alloc (by omega) _).grown HG2.out (by simp; omega) HLT2.out
            have HO4 : Hid (∀ (l c b : Nat), (Value.slice (some ⟨g2, 0, none⟩) l c).ownBlock = some b → b < B ∨ Z ≤ b) := fun l c b hb => by
              have hb' : g2 = b := by simpa [Value.ownBlock] using hb
              rcases HA2.out with h | h
              · rw [hb'] at h; exact HO.out _ h
              · right; omega
            clear HG2 HA2 HBW HH HO5 HR5 HS HK HO hbel
            go_wp2
            go_roundw
            case rel => exact ⟨j + 1, by omega, by go_num, by unfold Hid; rw [HTk.out, ← List.append_assoc]; have h := HQ.out; simp only [List.length_append, List.length_map, List.length_take] at h ⊢; exact h, HK4, fun b hb => HO4.out _ _ b hb, HB4.out⟩
            case measure => simp [intOf]; omega
          · have HJ : Hid (j = n) := (by omega : j = n)
            have HE : Hid (patK (fun f => pats p (s - f)) k ++ (R.take j).map (((k : Int) + 1) :: ·) = patK (fun f => pats p (s - f)) (k + 1)) := by
              unfold Hid
              rw [HGt.out, HJ.out, ← HN.out, List.take_length]
            go_wp2
            go_roundw
            case rel => exact ⟨k + 1, by omega, by go_num, by rw [← HE.out]; exact HS.out, hbel⟩
            case measure => simp [intOf]; omega
      · have HE : Hid (patK (fun f => pats p (s - f)) k = pats (p + 1) s) := by
          unfold Hid
          rw [show k = s - (p + 1) by omega]
          rfl
        have hkI : (s : Int) - q + 1 < (k : Int) + 1 := by omega
        have hL9 : (patK (fun f => pats p (s - f)) k).length ≤ 1048576 := by have := HLn.out k (by omega); omega
        go_wp2
        go_returns
        have h1 := HS.out
        rw [HE.out] at h1
        rw [HE.out] at hL9
        obtain ⟨a, cp, e1⟩ := h1.shape
        exact ⟨a, cp, by rw [e1]; rfl, by rw [← e1]; exact h1, hbel, hL9⟩
end Go.Proofs.Ytdpifddmhbeklaa
namespace Go.Proofs.Ytdpifddmhbeklaa
open Go.RowKit
set_option linter.unusedVariables false
/-- One more in the last run. -/
def incL (W : List Int) : List Int := W.set (W.length - 1) (W.getD (W.length - 1) 0 + 1)
/-- The widths of the runs of the first k cells. -/
def wid (c : List Int) : Nat → List Int
  | 0 => []
  | k + 1 => if 0 < k ∧ c.getD k 0 = c.getD (k - 1) 0 then incL (wid c k) else wid c k ++ [1]
theorem wid_same {c : List Int} {k : Nat} (h : 0 < k) (e : c.getD k 0 = c.getD (k - 1) 0) : wid c (k + 1) = incL (wid c k) := by
  show (if 0 < k ∧ c.getD k 0 = c.getD (k - 1) 0 then incL (wid c k) else wid c k ++ [1]) = _
  rw [if_pos ⟨h, e⟩]
theorem wid_new {c : List Int} {k : Nat} (h : ¬ (0 < k ∧ c.getD k 0 = c.getD (k - 1) 0)) : wid c (k + 1) = wid c k ++ [1] := by
  show (if 0 < k ∧ c.getD k 0 = c.getD (k - 1) 0 then incL (wid c k) else wid c k ++ [1]) = _
  rw [if_neg h]
theorem incL_len (W : List Int) : (incL W).length = W.length := by simp [incL]
theorem wid_len (c : List Int) : ∀ k, (wid c k).length ≤ k ∧ (0 < k → 0 < (wid c k).length)
  | 0 => by simp [wid]
  | k + 1 => by
    have ih := wid_len c k
    by_cases h : 0 < k ∧ c.getD k 0 = c.getD (k - 1) 0
    · rw [wid_same h.1 h.2, incL_len]; omega
    · rw [wid_new h, List.length_append]; simp; omega
theorem wid_mono (c : List Int) {k n : Nat} (h : k ≤ n) : (wid c k).length ≤ (wid c n).length := by
  induction n with
  | zero => obtain rfl : k = 0 := by omega
            exact Nat.le_refl _
  | succ n ih =>
    rcases Nat.lt_or_ge k (n + 1) with h1 | h1
    · have := ih (by omega)
      by_cases h : 0 < n ∧ c.getD n 0 = c.getD (n - 1) 0
      · rw [wid_same h.1 h.2, incL_len]; exact this
      · rw [wid_new h, List.length_append]; omega
    · obtain rfl : k = n + 1 := by omega
      exact Nat.le_refl _
theorem incL_bd {W : List Int} {k : Nat} (h : ∀ x ∈ W, 1 ≤ x ∧ x ≤ (k : Int)) (hp : 0 < W.length) : ∀ x ∈ incL W, 1 ≤ x ∧ x ≤ (k : Int) + 1 := by
  intro x hx
  unfold incL at hx
  have hl : W.getD (W.length - 1) 0 ∈ W := by simp [List.getD_eq_getElem?_getD, List.getElem?_eq_getElem (show W.length - 1 < W.length by omega)]
  rcases List.mem_or_eq_of_mem_set hx with h1 | h1
  · have := h x h1; omega
  · have := h _ hl; omega
theorem wid_bd (c : List Int) : ∀ k, ∀ x ∈ wid c k, 1 ≤ x ∧ x ≤ (k : Int)
  | 0 => by simp [wid]
  | k + 1 => by
    have ih := wid_bd c k
    by_cases h : 0 < k ∧ c.getD k 0 = c.getD (k - 1) 0
    · rw [wid_same h.1 h.2]
      intro x hx
      have := incL_bd ih ((wid_len c k).2 h.1) x hx
      omega
    · rw [wid_new h]
      intro x hx
      rcases List.mem_append.1 hx with h1 | h1
      · have := ih x h1; omega
      · simp at h1; omega
/-- The colour of the last cell that came tells whether the runs are odd. -/
theorem wid_odd {c : List Int} (h0 : c.getD 0 0 = 1) : ∀ k, (∀ j, j ≤ k → c.getD j 0 = 0 ∨ c.getD j 0 = 1) → (c.getD k 0 = 1 ↔ (wid c (k + 1)).length % 2 = 1)
  | 0, _ => ⟨fun _ => rfl, fun _ => h0⟩
  | k + 1, hc => by
    have ih := wid_odd h0 k (fun j hj => hc j (by omega))
    have h1 := hc (k + 1) (Nat.le_refl _)
    have h2 := hc k (by omega)
    by_cases h : c.getD (k + 1) 0 = c.getD k 0
    · rw [wid_same (k := k + 1) (by omega) (by simpa using h), incL_len, h]
      exact ih
    · rw [wid_new (k := k + 1) (fun h3 => h (by simpa using h3.2)), List.length_append, List.length_singleton]
      constructor
      · intro h3
        have : c.getD k 0 = 0 := by rcases h2 with h2 | h2 <;> omega
        have : ¬ (wid c (k + 1)).length % 2 = 1 := fun h4 => by have := ih.2 h4; omega
        omega
      · intro h3
        have : ¬ (wid c (k + 1)).length % 2 = 1 := by omega
        have : ¬ c.getD k 0 = 1 := fun h4 => this (ih.1 h4)
        omega
/-- Padded with zeros to eight. -/
def pad8 (W : List Int) : List Int := W ++ List.replicate (8 - W.length) 0
theorem pad8_len {W : List Int} (h : W.length ≤ 8) : (pad8 W).length = 8 := by simp [pad8]; omega
theorem pad8_full {W : List Int} (h : W.length = 8) : pad8 W = W := by simp [pad8, h]
theorem pad8_new {W : List Int} (h : W.length < 8) : (pad8 W).getD W.length 0 = 0 ∧ (pad8 W).set W.length 1 = pad8 (W ++ [1]) := by
  unfold pad8
  obtain ⟨m, hm⟩ : ∃ m, 8 - W.length = m + 1 := ⟨8 - W.length - 1, by omega⟩
  rw [hm, List.replicate_succ]
  constructor
  · simp [List.getD_eq_getElem?_getD]
  · rw [List.set_append_right _ _ (Nat.le_refl _)]
    have : 8 - (W ++ [(1 : Int)]).length = m := by simp; omega
    rw [this]
    simp
theorem pad8_inc {W : List Int} (h0 : 0 < W.length) : (pad8 W).getD (W.length - 1) 0 = W.getD (W.length - 1) 0 ∧ (pad8 W).set (W.length - 1) (W.getD (W.length - 1) 0 + 1) = pad8 (incL W) := by
  unfold pad8
  rw [incL_len]
  constructor
  · simp only [List.getD_eq_getElem?_getD]
    rw [List.getElem?_append_left (by omega)]
  · rw [List.set_append_left _ _ (by omega)]
    rfl
def okc (c : List Int) : Bool := c.all (fun x => decide (0 ≤ x)) && decide (c.getD 0 0 ≠ 0)
theorem okc_neg {c : List Int} {x : Int} (hx : x ∈ c) (h : x < 0) : okc c = false := by
  have : c.all (fun x => decide (0 ≤ x)) = false := by
    rw [List.all_eq_false]
    exact ⟨x, hx, by simp; omega⟩
  unfold okc
  rw [this]
  rfl
theorem okc_head {c : List Int} (h : c.getD 0 0 = 0) : okc c = false := by
  unfold okc
  have : decide (c.getD 0 0 ≠ 0) = false := by simp only [h]; decide
  rw [this, Bool.and_false]
theorem okc_yes {c : List Int} (h : ∀ x ∈ c, 0 ≤ x) (h0 : c.getD 0 0 ≠ 0) : okc c = true := by
  unfold okc
  have : c.all (fun x => decide (0 ≤ x)) = true := by
    rw [List.all_eq_true]
    intro x hx
    simpa using h x hx
  rw [this]
  simpa using h0
/-- The value that cells show in a cluster. -/
def valF (c : List Int) (cl : Int) : Int := if okc c = true ∧ PATS.idxOf (wid c c.length) < 96 ∧ ((PATS.idxOf (wid c c.length) % 3 : Nat) : Int) = cl then ((PATS.idxOf (wid c c.length) / 3 : Nat) : Int) else -1
theorem idx_mem {x : List Int} (h : x ∈ PATS) : PATS.idxOf x < 120 ∧ PATS.getD (PATS.idxOf x) [] = x := by
  have h1 := List.idxOf_lt_length_of_mem h
  rw [PATS_len] at h1
  refine ⟨h1, ?_⟩
  have h2 : PATS.idxOf x < PATS.length := by rw [PATS_len]; exact h1
  simp [List.getD_eq_getElem?_getD, List.getElem?_eq_getElem h2, List.getElem_idxOf]
theorem idx_of {i : Nat} (h : i < 120) : PATS.idxOf (PATS.getD i []) = i := by
  have h2 : i < PATS.length := by rw [PATS_len]; exact h
  have h3 : PATS.getD i [] = PATS[i] := by simp [List.getD_eq_getElem?_getD, List.getElem?_eq_getElem h2]
  rw [h3]
  exact List.Nodup.idxOf_getElem PATS_nodup i h2
theorem idx_none {x : List Int} (h : x ∉ PATS) : PATS.idxOf x = 120 := by rw [← PATS_len]; exact List.idxOf_eq_length h
theorem valF_bad {c : List Int} (cl : Int) (h : ¬ (okc c = true ∧ (wid c c.length).length = 8)) : valF c cl = -1 := by
  unfold valF
  rw [if_neg]
  rintro ⟨h1, h2, -⟩
  by_cases hm : wid c c.length ∈ PATS
  · exact h ⟨h1, PATS_row _ hm⟩
  · rw [idx_none hm] at h2; omega
theorem valF_hit {c : List Int} {cl : Int} {i : Nat} (ho : okc c = true) (hi : i < 120) (he : PATS.getD i [] = wid c c.length) (h1 : ((i % 3 : Nat) : Int) = cl) (h2 : i / 3 < 32) : valF c cl = ((i / 3 : Nat) : Int) := by
  have e := idx_of hi
  rw [he] at e
  unfold valF
  rw [e, if_pos ⟨ho, by omega, h1⟩]
theorem valF_none {c : List Int} {cl : Int} (h : ∀ j, j < 120 → ¬ (PATS.getD j [] = wid c c.length ∧ ((j % 3 : Nat) : Int) = cl ∧ j / 3 < 32)) : valF c cl = -1 := by
  unfold valF
  rw [if_neg]
  rintro ⟨h1, h2, h3⟩
  by_cases hm : wid c c.length ∈ PATS
  · obtain ⟨a, b⟩ := idx_mem hm
    exact h _ a ⟨b, h3, by omega⟩
  · rw [idx_none hm] at h2; omega
theorem valF_bd (c : List Int) (cl : Int) : -1 ≤ valF c cl ∧ valF c cl ≤ 31 := by
  unfold valF
  split
  · rename_i h; omega
  · omega
end Go.Proofs.Ytdpifddmhbeklaa
namespace Go.Proofs.Ytdpifddmhbeklaa
open Go.RowKit
set_option linter.unusedVariables false
theorem pat_at {i : Nat} (h : i < 120) : PATS.getD i [] ∈ PATS := by
  rw [List.getD_eq_getElem?_getD, List.getElem?_eq_getElem (by rw [PATS_len]; exact h)]
  exact List.getElem_mem _
theorem rows_get {LL : List (List Int)} (h : ∀ x ∈ LL, x.length = 8) : ∀ {k j : Nat}, k < LL.length → j < 8 → (rowsV LL)[k * 8 + j]? = some (.int .i64 ((LL.getD k []).getD j 0)) := by
  induction LL with
  | nil => intro k j hk; simp at hk
  | cons x LL ih =>
    intro k j hk hj
    have hx : (rowV x).length = 8 := by rw [rowV, List.length_map]; exact h x (by simp)
    have e : rowsV (x :: LL) = rowV x ++ rowsV LL := rfl
    rw [e]
    cases k with
    | zero =>
      rw [Nat.zero_mul, Nat.zero_add, List.getElem?_append_left (by omega)]
      have : j < x.length := by have := h x (by simp); omega
      simp [rowV, List.getD_eq_getElem?_getD, List.getElem?_eq_getElem this]
    | succ k =>
      rw [show (k + 1) * 8 + j = 8 + (k * 8 + j) by omega, List.getElem?_append_right (by omega), hx, Nat.add_sub_cancel_left]
      have := ih (fun y hy => h y (List.mem_cons_of_mem _ hy)) (k := k) (j := j) (by simpa using hk) hj
      rw [this]
      simp [List.getD_eq_getElem?_getD]
/-- The eight cells of the pattern k. -/
theorem row_cells {W : World} {base cp : Nat} {a : Option Addr} (h : W.ownsRow base 132 8 (.slice a 120 cp) 120 (rowsV PATS)) {k : Nat} (hk : k < 120) :
    ∃ g a0 a1 a2 a3 a4 a5 a6 a7, a = some ⟨g, 0, none⟩ ∧ base ≤ g ∧ g < W.heap.size ∧ PATS.getD k [] = [a0, a1, a2, a3, a4, a5, a6, a7] ∧
      (W.cell? ⟨g, k * 8, none⟩ = some (.int .i64 a0) ∧ W.cell? ⟨g, k * 8 + 1, none⟩ = some (.int .i64 a1) ∧ W.cell? ⟨g, k * 8 + 2, none⟩ = some (.int .i64 a2) ∧ W.cell? ⟨g, k * 8 + 3, none⟩ = some (.int .i64 a3) ∧
       W.cell? ⟨g, k * 8 + 4, none⟩ = some (.int .i64 a4) ∧ W.cell? ⟨g, k * 8 + 5, none⟩ = some (.int .i64 a5) ∧ W.cell? ⟨g, k * 8 + 6, none⟩ = some (.int .i64 a6) ∧ W.cell? ⟨g, k * 8 + 7, none⟩ = some (.int .i64 a7)) := by
  obtain ⟨g, cap, hv, hb, hlt⟩ := h.form (by omega)
  injection hv with hv1 _ _
  subst hv1
  obtain ⟨a0, a1, a2, a3, a4, a5, a6, a7, hM⟩ := list8 (PATS_row _ (pat_at hk))
  have hkl : k < PATS.length := by rw [PATS_len]; exact hk
  have c : ∀ j, j < 8 → W.cell? ⟨g, k * 8 + j, none⟩ = some (.int .i64 ((PATS.getD k []).getD j 0)) := fun j hj => by
    obtain ⟨b', off', e, _, hc⟩ := (own_rdV h).2 (by omega)
    injection e with e
    injection e with e1 e2
    subst e1 e2
    have := hc (k * 8 + j) (by omega)
    rw [Nat.zero_add] at this
    rw [this]
    exact rows_get PATS_row hkl hj
  rw [hM] at c
  exact ⟨g, a0, a1, a2, a3, a4, a5, a6, a7, rfl, hb, hlt, hM, c 0 (by omega), c 1 (by omega), c 2 (by omega), c 3 (by omega), c 4 (by omega), c 5 (by omega), c 6 (by omega), c 7 (by omega)⟩
theorem ownN_kept {w w' : World} {base n m B : Nat} {t : TypeId} {v : Value} {xs : List Value} (h : w.ownsRow base t m v n xs) (hg : w.grownBy w' (some B)) (hB : base ≤ B → False) : w'.ownsRow base t m v n xs := by
  refine h.kept hg ?_
  cases hv : v.ownBlock with
  | none => exact .inl rfl
  | some j =>
    right
    intro e
    injection e with e
    have := h.lt j hv
    exact hB (by omega)
theorem sAll (w : World) : Calls Try.prog 106 #[] w fun e w' => ∃ a cp, e = .returned (.slice a 120 cp) ∧ RRow w' w.heap.size w'.heap.size a 120 PATS ∧ Below w.heap.size w w' := by
  have HP : Hid (∀ W, Calls Try.prog 131 #[.int .i64 8, .int .i64 11] W (NewSRow W PATS)) := fun W => sPats 7 11 W (by omega) (by omega)
  go_enter Try.func106, Try.ntmps106
  go_wp2_with fail
  refine (HP.out _).mono ?_
  rintro e w1 ⟨a, cp, rfl, h1, hb, -⟩
  have HR := Lib.hid h1.read
  have HB := Lib.hid hb
  rw [PATS_len] at HR ⊢
  clear h1 hb HP
  go_wp2
  go_returns
  exact ⟨a, cp, rfl, HR.out, HB.out⟩
theorem iWidth (v : Int) (w : World) (h1 : 0 ≤ v) (h2 : v ≤ 1000000) : Calls Try.prog 69 #[.int .i64 v] w fun e w' => e = .returned (.int .i64 (7 + 11 * v + 8)) ∧ w = w' := by
  go_enter Try.func69, Try.ntmps69
  go_wp2
  go_ret
  exact ⟨rfl, rfl⟩
end Go.Proofs.Ytdpifddmhbeklaa
