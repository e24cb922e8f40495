/-
  DERIVED. spec.l17Draw.
-/
import Derived.Test.YtenelpollcabnaaDStG
import Derived.Test.YtenelpollcabnaaDGridC
import Derived.Test.YtenelpollcabnaaDHitK
import Derived.Test.YtenelpollcabnaaGrdR
import Derived.Outline
namespace Go.Proofs.Ytenelpollcabnaa
open Go.RowKit
set_option linter.unusedVariables false
theorem stk_sn {nm : ByteArray} {kd p pw po : Int} {sn : Nat} {zs : List Int} {col : Int} {ln : Nat} {ls : List Int} (h : stkB nm kd p pw po sn zs col ln ls = true) : 1 ≤ sn := by
  have h1 := stk_fam h
  unfold famB at h1
  simp only [Bool.and_eq_true] at h1
  have := (inB_iff.1 h1.1.1.2).1
  omega
theorem gLen {es : List Int} (co R lv : Nat) (h8 : co ≤ 8) (h24 : R ≤ 24) (h3 : lv ≤ 3) (hb : ∀ x ∈ es, 0 ≤ x ∧ x ≤ 31) (hl : es.length = R * co) : (gridTo es co R lv R).length ≤ 3000 := by
  rw [gridTo_len hb (by omega) (by omega) (by omega) hl R (Nat.le_refl _)]
  have h : R * (15 + 11 * (co + 2)) ≤ 24 * 125 := Nat.mul_le_mul h24 (by omega)
  omega
theorem sGridN (nm : ByteArray) (kd p pw po : Int) (sa : Option Addr) (sn sc co : Nat) (la : Option Addr) (ln lc : Nat) (R lv en ec : Nat) (ea : Option Addr) (els : List Int) (w : World) (h : Rd w ea en els) (hec : en ≤ ec) (hen : en = R * co) (hco1 : 1 ≤ co) (hco : co ≤ 8) (hR1 : 1 ≤ R) (hR : R ≤ 24) (hlv : lv ≤ 3) (hbd : ∀ x ∈ els, 0 ≤ x ∧ x ≤ 31) :
    Calls Try.prog 36 #[.agg #[.string nm, .int .i64 kd, .int .i64 p, .int .i64 pw, .int .i64 po, .slice sa sn sc, .int .i64 (co : Int), .slice la ln lc], .int .i64 (R : Int), .int .i64 (lv : Int), .slice ea en ec] w fun e w' => ∃ (C : Int) (ga : Option Addr) (n gcap : Nat) (gs : List Int), e = .returned (.agg #[.int .i64 (R : Int), .int .i64 C, .slice ga n gcap]) ∧ n ≤ 3000 ∧ gs.length = n ∧ w'.ownsRow w.heap.size 2 1 (.slice ga n gcap) n (gs.map (Value.int .i64)) ∧ Below w.heap.size w w' :=
  (sGrid nm kd p pw po sa sn sc co la ln lc R lv en ec ea els w h hec hen hco1 hco hR1 hR hlv hbd).mono fun e w' ⟨a, cp, he, ho, hb⟩ => ⟨_, a, _, cp, _, he, gLen co R lv hco hR hlv hbd (by rw [h.1, hen]), rfl, ho, hb⟩
def zerG : List Value := [.int .i64 0, .int .i64 0, .slice none 0 0]
theorem zerA (w : World) : RowL (w.alloc (.cells #[.int .i64 0, .int .i64 0, .slice none 0 0] 29)) w.heap.size zerG := RowL.new w 29 zerG
theorem zerD (w : World) : RowL (w.alloc (.cells #[.int .i64 0, .int .i64 0, .slice none 0 0] 29)).drew w.heap.size zerG := (zerA w).keep ((Below.refl _ _).drew)
theorem box_sets {w : World} {b : Nat} {x y z : Value} (h : RowL w b zerG) : Box3 (((w.setCell ⟨b, 0, none⟩ x).setCell ⟨b, 1, none⟩ y).setCell ⟨b, 2, none⟩ z) b x y z := by
  have h3 := (((h.set (i := 0) (by simp [zerG]) x).set (i := 1) (by simp [zerG]) y).set (i := 2) (by simp [zerG]) z)
  exact ⟨h3.1, (h3.2 0 _ rfl).1, (h3.2 1 _ rfl).1, (h3.2 2 _ rfl).1⟩
def famV (f : FamR) : Value := .agg #[.string f.nm, .int .i64 f.kd, .int .i64 f.p, .int .i64 f.q, .int .i64 f.r, .slice f.sa f.sn f.sc, .int .i64 f.col, .slice f.la f.ln f.lc]
/-- A family and a grid, drawn. -/
def DrawnSE (w0 : World) (e : Ending) (w' : World) : Prop := ∃ (f : FamR) (r c : Int) (ga : Option Addr) (gn gc : Nat) (gs : List Int), e = .returned (.tuple #[.agg #[.string f.nm, .int .i64 f.kd, .int .i64 f.p, .int .i64 f.q, .int .i64 f.r, .slice f.sa f.sn f.sc, .int .i64 f.col, .slice f.la f.ln f.lc], .agg #[.int .i64 r, .int .i64 c, .slice ga gn gc]]) ∧ f.nm.size ≤ 100 ∧ NewS w' w0.heap.size f.sa f.sn f.zs ∧ f.sn ≤ 10 ∧ NewS w' w0.heap.size f.la f.ln f.ls ∧ f.ln ≤ 10 ∧ Rd w' ga gn gs ∧ (∀ b off, ga = some ⟨b, off, none⟩ → w0.heap.size ≤ b) ∧ gn ≤ 4000 ∧ gn ≤ gc ∧ gc ≤ maxLen ∧ Below w0.heap.size w0 w'
theorem rd_low {w : World} {B b i n : Nat} {v : Value} {a : Option Addr} {zs : List Int} (h : Rd w a n zs) (hb : ∀ b' off, a = some ⟨b', off, none⟩ → B ≤ b') (hB : b < B) : Rd (w.setCell ⟨b, i, none⟩ v) a n zs := by
  refine ⟨h.1, fun hn => ?_⟩
  obtain ⟨b', off, e, hlt, hc⟩ := h.2 hn
  have h1 := hb b' off e
  exact ⟨b', off, e, by simpa [World.setCell] using hlt, fun i' hi => (World.cell?_of_block (a := ⟨b', off + i', none⟩) (Below.heap_setCell w ⟨b, i, none⟩ v b' (by show b' ≠ b; omega))).trans (hc i' hi)⟩
theorem fin_se {w0 w7 W9 : World} {A : Nat} (f : FamR) {r c : Int} {ga : Option Addr} {gn gc : Nat} {gs : List Int} (RA : RowL w7 A zerF) (RG : RowL w7 (A + 1) zerG) (s1 : NewS w7 (A + 2) f.sa f.sn f.zs) (s2 : NewS w7 (A + 2) f.la f.ln f.ls)
    (hr : Rd w7 ga gn gs) (hgf : ∀ b off, ga = some ⟨b, off, none⟩ → A + 2 ≤ b) (hB : Below w0.heap.size w0 w7) (hA : w0.heap.size ≤ A) (hW : W9 = (((((((((((w7.setCell ⟨A, 0, none⟩ (.string f.nm)).setCell ⟨A, 1, none⟩ (.int .i64 f.kd)).setCell ⟨A, 2, none⟩ (.int .i64 f.p)).setCell ⟨A, 3, none⟩ (.int .i64 f.q)).setCell ⟨A, 4, none⟩ (.int .i64 f.r)).setCell ⟨A, 5, none⟩ (.slice f.sa f.sn f.sc)).setCell ⟨A, 6, none⟩ (.int .i64 f.col)).setCell ⟨A, 7, none⟩ (.slice f.la f.ln f.lc)).setCell ⟨A + 1, 0, none⟩ (.int .i64 r)).setCell ⟨A + 1, 1, none⟩ (.int .i64 c)).setCell ⟨A + 1, 2, none⟩ (.slice ga gn gc))) :
    RowL W9 A [.string f.nm, .int .i64 f.kd, .int .i64 f.p, .int .i64 f.q, .int .i64 f.r, .slice f.sa f.sn f.sc, .int .i64 f.col, .slice f.la f.ln f.lc] ∧ RowL W9 (A + 1) [.int .i64 r, .int .i64 c, .slice ga gn gc] ∧ NewS W9 w0.heap.size f.sa f.sn f.zs ∧ NewS W9 w0.heap.size f.la f.ln f.ls ∧ Rd W9 ga gn gs ∧ (∀ b off, ga = some ⟨b, off, none⟩ → w0.heap.size ≤ b) ∧ Below w0.heap.size w0 W9 := by
  subst hW
  have U8 : RowL ((((((((w7.setCell ⟨A, 0, none⟩ (.string f.nm)).setCell ⟨A, 1, none⟩ (.int .i64 f.kd)).setCell ⟨A, 2, none⟩ (.int .i64 f.p)).setCell ⟨A, 3, none⟩ (.int .i64 f.q)).setCell ⟨A, 4, none⟩ (.int .i64 f.r)).setCell ⟨A, 5, none⟩ (.slice f.sa f.sn f.sc)).setCell ⟨A, 6, none⟩ (.int .i64 f.col)).setCell ⟨A, 7, none⟩ (.slice f.la f.ln f.lc)) A [.string f.nm, .int .i64 f.kd, .int .i64 f.p, .int .i64 f.q, .int .i64 f.r, .slice f.sa f.sn f.sc, .int .i64 f.col, .slice f.la f.ln f.lc] := ((((((((RA.set (i := 0) (by simp [zerF]) _).set (i := 1) (by simp [zerF]) _).set (i := 2) (by simp [zerF]) _).set (i := 3) (by simp [zerF]) _).set (i := 4) (by simp [zerF]) _).set (i := 5) (by simp [zerF]) _).set (i := 6) (by simp [zerF]) _).set (i := 7) (by simp [zerF]) _)
  have V8 : RowL ((((((((w7.setCell ⟨A, 0, none⟩ (.string f.nm)).setCell ⟨A, 1, none⟩ (.int .i64 f.kd)).setCell ⟨A, 2, none⟩ (.int .i64 f.p)).setCell ⟨A, 3, none⟩ (.int .i64 f.q)).setCell ⟨A, 4, none⟩ (.int .i64 f.r)).setCell ⟨A, 5, none⟩ (.slice f.sa f.sn f.sc)).setCell ⟨A, 6, none⟩ (.int .i64 f.col)).setCell ⟨A, 7, none⟩ (.slice f.la f.ln f.lc)) (A + 1) zerG := ((((((((RG.far (b' := A) (i := _) (v := _) (by omega)).far (b' := A) (i := _) (v := _) (by omega)).far (b' := A) (i := _) (v := _) (by omega)).far (b' := A) (i := _) (v := _) (by omega)).far (b' := A) (i := _) (v := _) (by omega)).far (b' := A) (i := _) (v := _) (by omega)).far (b' := A) (i := _) (v := _) (by omega)).far (b' := A) (i := _) (v := _) (by omega))
  have T1 : Rd ((((((((w7.setCell ⟨A, 0, none⟩ (.string f.nm)).setCell ⟨A, 1, none⟩ (.int .i64 f.kd)).setCell ⟨A, 2, none⟩ (.int .i64 f.p)).setCell ⟨A, 3, none⟩ (.int .i64 f.q)).setCell ⟨A, 4, none⟩ (.int .i64 f.r)).setCell ⟨A, 5, none⟩ (.slice f.sa f.sn f.sc)).setCell ⟨A, 6, none⟩ (.int .i64 f.col)).setCell ⟨A, 7, none⟩ (.slice f.la f.ln f.lc)) f.sa f.sn f.zs := (rd_low (rd_low (rd_low (rd_low (rd_low (rd_low (rd_low (rd_low s1.1 s1.2.2 (by omega)) s1.2.2 (by omega)) s1.2.2 (by omega)) s1.2.2 (by omega)) s1.2.2 (by omega)) s1.2.2 (by omega)) s1.2.2 (by omega)) s1.2.2 (by omega))
  have T2 : Rd ((((((((w7.setCell ⟨A, 0, none⟩ (.string f.nm)).setCell ⟨A, 1, none⟩ (.int .i64 f.kd)).setCell ⟨A, 2, none⟩ (.int .i64 f.p)).setCell ⟨A, 3, none⟩ (.int .i64 f.q)).setCell ⟨A, 4, none⟩ (.int .i64 f.r)).setCell ⟨A, 5, none⟩ (.slice f.sa f.sn f.sc)).setCell ⟨A, 6, none⟩ (.int .i64 f.col)).setCell ⟨A, 7, none⟩ (.slice f.la f.ln f.lc)) f.la f.ln f.ls := (rd_low (rd_low (rd_low (rd_low (rd_low (rd_low (rd_low (rd_low s2.1 s2.2.2 (by omega)) s2.2.2 (by omega)) s2.2.2 (by omega)) s2.2.2 (by omega)) s2.2.2 (by omega)) s2.2.2 (by omega)) s2.2.2 (by omega)) s2.2.2 (by omega))
  have T3 : Rd ((((((((w7.setCell ⟨A, 0, none⟩ (.string f.nm)).setCell ⟨A, 1, none⟩ (.int .i64 f.kd)).setCell ⟨A, 2, none⟩ (.int .i64 f.p)).setCell ⟨A, 3, none⟩ (.int .i64 f.q)).setCell ⟨A, 4, none⟩ (.int .i64 f.r)).setCell ⟨A, 5, none⟩ (.slice f.sa f.sn f.sc)).setCell ⟨A, 6, none⟩ (.int .i64 f.col)).setCell ⟨A, 7, none⟩ (.slice f.la f.ln f.lc)) ga gn gs := (rd_low (rd_low (rd_low (rd_low (rd_low (rd_low (rd_low (rd_low hr hgf (by omega)) hgf (by omega)) hgf (by omega)) hgf (by omega)) hgf (by omega)) hgf (by omega)) hgf (by omega)) hgf (by omega))
  have B8 : Below w0.heap.size w0 ((((((((w7.setCell ⟨A, 0, none⟩ (.string f.nm)).setCell ⟨A, 1, none⟩ (.int .i64 f.kd)).setCell ⟨A, 2, none⟩ (.int .i64 f.p)).setCell ⟨A, 3, none⟩ (.int .i64 f.q)).setCell ⟨A, 4, none⟩ (.int .i64 f.r)).setCell ⟨A, 5, none⟩ (.slice f.sa f.sn f.sc)).setCell ⟨A, 6, none⟩ (.int .i64 f.col)).setCell ⟨A, 7, none⟩ (.slice f.la f.ln f.lc)) := ((((((((hB.setCell (by show _ ≤ A; omega) _).setCell (by show _ ≤ A; omega) _).setCell (by show _ ≤ A; omega) _).setCell (by show _ ≤ A; omega) _).setCell (by show _ ≤ A; omega) _).setCell (by show _ ≤ A; omega) _).setCell (by show _ ≤ A; omega) _).setCell (by show _ ≤ A; omega) _)
  refine ⟨?_, ?_, ⟨?_, s1.2.1, fun b off e => by have := s1.2.2 b off e; omega⟩, ⟨?_, s2.2.1, fun b off e => by have := s2.2.2 b off e; omega⟩, ?_, fun b off e => by have := hgf b off e; omega, ?_⟩
  · exact (((U8.far (b' := A + 1) (i := _) (v := _) (by omega)).far (b' := A + 1) (i := _) (v := _) (by omega)).far (b' := A + 1) (i := _) (v := _) (by omega))
  · exact (((V8.set (i := 0) (by simp [zerG]) _).set (i := 1) (by simp [zerG]) _).set (i := 2) (by simp [zerG]) _)
  · exact (rd_low (rd_low (rd_low T1 s1.2.2 (by omega)) s1.2.2 (by omega)) s1.2.2 (by omega))
  · exact (rd_low (rd_low (rd_low T2 s2.2.2 (by omega)) s2.2.2 (by omega)) s2.2.2 (by omega))
  · exact (rd_low (rd_low (rd_low T3 hgf (by omega)) hgf (by omega)) hgf (by omega))
  · exact (((B8.setCell (by show _ ≤ A + 1; omega) _).setCell (by show _ ≤ A + 1; omega) _).setCell (by show _ ≤ A + 1; omega) _)
set_option maxRecDepth 20000 in
set_option maxHeartbeats 16000000 in
theorem dSE (g : Nat) (w : World) (h : Src w g) (w0 : World) (hw0 : Below w0.heap.size w0 w) (hwg : w0.heap.size ≤ g) : Calls Try.prog 45 #[.pointer (some ⟨g, 0, none⟩)] w (DrawnSE w0) := by
  obtain ⟨i0, hi, iz0, iz1, iz2⟩ := info_parts infoInt
  have hgw := h.lt
  have hw0A : w0.heap.size ≤ w.heap.size := hw0.size
  obtain ⟨wA, hwA⟩ : ∃ W : World, W = (w.alloc (.cells #[.string ⟨#[]⟩, .int .i64 0, .int .i64 0, .int .i64 0, .int .i64 0, .slice none 0 0, .int .i64 0, .slice none 0 0] 34)).alloc (.cells #[.int .i64 0, .int .i64 0, .slice none 0 0] 29) := ⟨_, rfl⟩
  have hba : Below w.heap.size w wA := by rw [hwA]; repeat' (first | (with_reducible exact Below.refl _ _) | (with_reducible assumption) | (with_reducible refine Below.alloc ?_ ?_ _) | (with_reducible refine Below.setCell ?_ ?_ _) | (with_reducible refine Below.drew ?_) | (with_reducible refine below_drewN ?_ _) | (with_reducible refine below_via (by with_reducible assumption) ?_ ?_) | go_size)
  have RA : Hid (RowL wA w.heap.size zerF) := by rw [hwA]; exact (RowL.new w 34 zerF).alloc _
  have RG : Hid (RowL wA (w.heap.size + 1) zerG) := by
    rw [hwA]
    have := RowL.new (w.alloc (.cells #[.string ⟨#[]⟩, .int .i64 0, .int .i64 0, .int .i64 0, .int .i64 0, .slice none 0 0, .int .i64 0, .slice none 0 0] 34)) 29 zerG
    rw [World.size_alloc] at this
    exact this
  have hzA : w.heap.size + 2 = wA.heap.size := by rw [hwA]; simp
  have KA : Hid (SK wA wA g) := SK.start (h.keep hba)
  have BA : Hid (Below w0.heap.size w0 wA) := hw0.trans (hba.mono hw0A)
  clear h hw0 hba
  go_enter Try.func45, Try.ntmps45
  go_upto_region 1 with (fail)
  rw [← hwA]
  have HzA := Lib.hid hzA
  have hzA2 : w.heap.size + 2 ≤ wA.heap.size := by omega
  clear hwA hzA
  go_wp2_with fail
  refine (d17Fam g _ KA.out.1).mono ?_
  rintro e w2 ⟨⟨nm, kd, pp, pq, pr, sa, sn, sc, zs, col, la, ln, lc, ls⟩, rfl, hnm, s1, s2, hk⟩
  dsimp only at hnm s1 s2
  dsimp only
  have K2 := Lib.hid hk
  have R2 := Lib.hid (RA.out.nxt hk.2 (by omega))
  have Q2 := Lib.hid (RG.out.nxt hk.2 (by omega))
  have B2 := Lib.hid (SK.below hk BA.out hwg)
  have S1 : Hid (NewS w2 (w.heap.size + 2) sa sn zs) := s1.mono hzA2
  have S2 : Hid (NewS w2 (w.heap.size + 2) la ln ls) := s2.mono hzA2
  have hz2 : wA.heap.size ≤ w2.heap.size := hk.2.size
  obtain ⟨hs10, hl10⟩ : sn ≤ 10 ∧ ln ≤ 10 := ⟨s1.2.1, s2.2.1⟩
  clear hk s1 s2 KA RA RG BA
  obtain ⟨b, hb⟩ : ∃ b, b = w2.heap.size := ⟨_, rfl⟩
  obtain ⟨w3, hw3⟩ : ∃ W : World, W = w2.alloc (.cells #[.string nm, .int .i64 kd, .int .i64 pp, .int .i64 pq, .int .i64 pr, .slice sa sn sc, .int .i64 col, .slice la ln lc] 34) := ⟨_, rfl⟩
  have hba : Below w2.heap.size w2 w3 := by rw [hw3]; exact (Below.refl _ _).alloc (Nat.le_refl _) _
  have C3 : Hid (RowL w3 b [.string nm, .int .i64 kd, .int .i64 pp, .int .i64 pq, .int .i64 pr, .slice sa sn sc, .int .i64 col, .slice la ln lc]) := by rw [hw3, hb]; exact RowL.new w2 34 [.string nm, .int .i64 kd, .int .i64 pp, .int .i64 pq, .int .i64 pr, .slice sa sn sc, .int .i64 col, .slice la ln lc]
  have hz3 : b < w3.heap.size := C3.out.1
  have K3 : Hid (SK w3 w3 g) := SK.start (K2.out.1.keep hba)
  have R3 := Lib.hid (R2.out.keep hba)
  have Q3 := Lib.hid (Q2.out.keep hba)
  have B3 : Hid (Below w0.heap.size w0 w3) := B2.out.trans (hba.mono B2.out.size)
  have T1 := Lib.hid (S1.out.keep hba)
  have T2 := Lib.hid (S2.out.keep hba)
  have hwb : w.heap.size + 2 ≤ b := by omega
  have hgb : g < b := by omega
  have hbw2 : b ≤ w2.heap.size := by omega
  go_upto_region 2 with (fail)
  rw [← hw3, ← hb]
  clear hba hw3 hb K2 R2 Q2 B2 S1 S2
  have c0 := (C3.out.2 0 _ rfl).1
  have c1 := (C3.out.2 1 _ rfl).1
  have c2 := (C3.out.2 2 _ rfl).1
  have c3 := (C3.out.2 3 _ rfl).1
  have c4 := (C3.out.2 4 _ rfl).1
  have c5 := (C3.out.2 5 _ rfl).1
  have c6 := (C3.out.2 6 _ rfl).1
  have c7 := (C3.out.2 7 _ rfl).1
  go_wp2_with fail
  refine (sIs nm kd pp pq pr sa sn sc col la ln lc zs ls w3 (by unfold maxLen; omega) T1.out.1 (by omega) T2.out.1 (by omega)).mono ?_
  rintro e w4 ⟨rfl, hb4⟩
  have K4 : Hid (SK w4 w4 g) := SK.start (K3.out.1.keep hb4)
  have R4 := Lib.hid (R3.out.keep hb4)
  have Q4 := Lib.hid (Q3.out.keep hb4)
  have C4 := Lib.hid (C3.out.keep hb4)
  have B4 : Hid (Below w0.heap.size w0 w4) := B3.out.trans (hb4.mono B3.out.size)
  have U1 := Lib.hid (T1.out.keep hb4)
  have U2 := Lib.hid (T2.out.keep hb4)
  have hb4b : b < w4.heap.size := C4.out.1
  have hg4 : g < w4.heap.size := K4.out.lt
  have hA4 : w.heap.size + 2 ≤ w4.heap.size := by omega
  clear hb4 K3 R3 Q3 C3 B3 T1 T2 c0 c1 c2 c3 c4 c5 c6 c7
  have c0 := (C4.out.2 0 _ rfl).1
  have c1 := (C4.out.2 1 _ rfl).1
  have c2 := (C4.out.2 2 _ rfl).1
  have c3 := (C4.out.2 3 _ rfl).1
  have c4 := (C4.out.2 4 _ rfl).1
  have c5 := (C4.out.2 5 _ rfl).1
  have c6 := (C4.out.2 6 _ rfl).1
  have c7 := (C4.out.2 7 _ rfl).1
  cases hsk : stkB nm kd pp pq pr sn zs col ln ls
  · clear hsk
    obtain ⟨z_, ⟨a0, a1, a2, a3, a4, a5, a6, a7⟩, ⟨f0, f1, f2, f3, f4, f5, f6, f7⟩⟩ := R4.out.zerF
    obtain ⟨y_, ⟨m0, m1, m2⟩, ⟨n0, n1, n2⟩⟩ := Q4.out.at3
    have hne1 : ¬ (b = g) := by omega
    have hne2 : ¬ (w.heap.size = g) := by omega
    have hne3 : ¬ (w.heap.size + 1 = g) := by omega
    go_wp2_with fail
    go_region_law ((go_simp; refine (dGridC g _ K4.out.drew.1 w0 B4.out.drew hwg).mono ?_; rintro e w7 ⟨r, c, ga, gn, gc, gs, rfl, gn4, gcp, gcm, gr, gB, gfr, hkp⟩; have hk7 : KX w4 w7 w4.heap.size g := ⟨hkp.2.1, hkp.2.2⟩; have hcx : ∀ b i, b < w4.heap.size → b ≠ g → w7.cell? ⟨b, i, none⟩ = w4.cell? ⟨b, i, none⟩ := (fun b i h1 h2 => World.cell?_of_block (a := ⟨b, i, none⟩) (hk7.2 b h1 h2)); have hfx : ∀ b i, b < w4.heap.size → b ≠ g → w7.frozen? ⟨b, i, none⟩ = w4.frozen? ⟨b, i, none⟩ := (fun b i h1 h2 => World.frozen?_of_block (a := ⟨b, i, none⟩) (hk7.2 b h1 h2)); have hz7 : w4.heap.size ≤ w7.heap.size := hk7.1; have hw7 : w.heap.size < w7.heap.size := (by omega); have hw7b : w.heap.size + 1 < w7.heap.size := (by omega); have hb7 : b < w7.heap.size := (by omega)))
    all_goals
      clear hcx hfx a0 a1 a2 a3 a4 a5 a6 a7 f0 f1 f2 f3 f4 f5 f6 f7 m0 m1 m2 n0 n1 n2 c0 c1 c2 c3 c4 c5 c6 c7
      have R7 := hk7.rowL R4.out (by omega) (by omega)
      have Q7 := hk7.rowL Q4.out (by omega) (by omega)
      have V1 := hk7.newS U1.out (by omega)
      have V2 := hk7.newS U2.out (by omega)
      have hfr : ∀ b off, ga = some ⟨b, off, none⟩ → w.heap.size + 2 ≤ b := fun b off e => by have h1 := gfr b off e; have h2 : w4.drew.heap.size = w4.heap.size := rfl; omega
      obtain ⟨W9, hW9⟩ : ∃ W : World, W = (((((((((((w7.setCell ⟨w.heap.size, 0, none⟩ (.string nm)).setCell ⟨w.heap.size, 1, none⟩ (.int .i64 kd)).setCell ⟨w.heap.size, 2, none⟩ (.int .i64 pp)).setCell ⟨w.heap.size, 3, none⟩ (.int .i64 pq)).setCell ⟨w.heap.size, 4, none⟩ (.int .i64 pr)).setCell ⟨w.heap.size, 5, none⟩ (.slice sa sn sc)).setCell ⟨w.heap.size, 6, none⟩ (.int .i64 col)).setCell ⟨w.heap.size, 7, none⟩ (.slice la ln lc)).setCell ⟨w.heap.size + 1, 0, none⟩ (.int .i64 r)).setCell ⟨w.heap.size + 1, 1, none⟩ (.int .i64 c)).setCell ⟨w.heap.size + 1, 2, none⟩ (.slice ga gn gc)) := ⟨_, rfl⟩
      obtain ⟨UA, UG, U1, U2, U3, UF, UB⟩ := fin_se (A := w.heap.size) (⟨nm, kd, pp, pq, pr, sa, sn, sc, zs, col, la, ln, lc, ls⟩ : FamR) R7 Q7 V1 V2 gr hfr gB hw0A hW9
      rw [← hW9]
      clear hW9
      have r0_ := (UA.2 0 _ rfl).1
      have r1_ := (UA.2 1 _ rfl).1
      have r2_ := (UA.2 2 _ rfl).1
      have r3_ := (UA.2 3 _ rfl).1
      have r4_ := (UA.2 4 _ rfl).1
      have r5_ := (UA.2 5 _ rfl).1
      have r6_ := (UA.2 6 _ rfl).1
      have r7_ := (UA.2 7 _ rfl).1
      have q0_ := (UG.2 0 _ rfl).1
      have q1_ := (UG.2 1 _ rfl).1
      have q2_ := (UG.2 2 _ rfl).1
      dsimp only [Exit.then]
      apply_assumption
      refine wp_ret ?_
      (try simp only [Exit.then])
      (try simp only [Exit.inBlock])
      (try simp only [Exit.then])
      refine bodyPost_ret (v := .tuple #[.agg #[.string nm, .int .i64 kd, .int .i64 pp, .int .i64 pq, .int .i64 pr, .slice sa sn sc, .int .i64 col, .slice la ln lc], .agg #[.int .i64 r, .int .i64 c, .slice ga gn gc]]) (by simp [results, Try.results45, go_sem, r0_, r1_, r2_, r3_, r4_, r5_, r6_, r7_, q0_, q1_, q2_]) rfl ?_
      exact ⟨⟨nm, kd, pp, pq, pr, sa, sn, sc, zs, col, la, ln, lc, ls⟩, _, _, _, _, _, _, rfl, hnm, U1, hs10, U2, hl10, U3, UF, gn4, gcp, gcm, UB⟩
  · obtain ⟨-, hc1, hc8⟩ := stk_col hsk
    obtain ⟨hl1, hl4⟩ := stk_lv hsk
    have hs1 := stk_sn hsk
    have HSZ : Hid (∀ k, k < sn → 3 ≤ zs.getD k 0 ∧ zs.getD k 0 ≤ 24) := fun k hk => stk_size hsk (hasB_yes hk rfl)
    obtain ⟨co, rfl⟩ := Int.eq_ofNat_of_zero_le (show 0 ≤ col by omega)
    have hco1 : 1 ≤ co := by omega
    have hco8 : co ≤ 8 := by omega
    clear hsk
    obtain ⟨sb, soff, hab, hbl, hcz⟩ := U1.out.1.2 (by omega)
    subst hab
    have hsb : w.heap.size + 2 ≤ sb := U1.out.2.2 _ _ rfl
    have hbg : sb ≠ g := by omega
    have HZ : Hid (∀ i, i < sn → w4.cell? ⟨sb, soff + i, none⟩ = some (.int .i64 (zs.getD i 0))) := hcz
    have hne1 : ¬ (b = g) := by omega
    clear hcz
    go_upto_region 4 with (fail)
    go_cut [5] from 17 (fun v wx => ∃ R : Nat, v = .int .i64 (R : Int) ∧ 3 ≤ R ∧ R ≤ 24 ∧ Hid (SK w4 wx g))
    case first =>
      go_region_law ((go_simp; refine (sNext g _ _ K4.out.drew.1).mono ?_; rintro e w5 ⟨z, rfl, za, zb, zd, hs, hg⟩; have hk5 : SK w4 w5 g := K4.out.drew.nxt hg hs; have hg5 : w4.grownBy w5 (some g) := ⟨hg.os, hg.tape, hg.output, hg.size, hg.block⟩; obtain ⟨k, rfl⟩ := Int.eq_ofNat_of_zero_le za; have hkn : k < sn := (by omega); have hkn2 : (k : Int) < (sn : Int) := (by omega); have hcy : w5.cell? ⟨sb, soff + k, none⟩ = _ := cell_nxt (HZ.out k hkn) hg5 hbg; have hbl5 : sb < w5.heap.size := Nat.lt_of_lt_of_le hbl hg5.size; have c55 : w5.cell? ⟨b, 5, none⟩ = some (.slice (some ⟨sb, soff, none⟩) sn sc) := cell_nxt c5 hg5 hne1))
      all_goals
        obtain ⟨z1, z2⟩ := HSZ.out k hkn
        obtain ⟨R, hR⟩ := Int.eq_ofNat_of_zero_le (show 0 ≤ zs.getD k 0 by omega)
        have HK5 := Lib.hid hk5
        clear hcy c55 hk5 hg5 hs hg zb zd za
        have hR3 : 3 ≤ R := by omega
        have hR24 : R ≤ 24 := by omega
        have HR2 : Hid (zs[k]?.getD 0 = (R : Int)) := by unfold Hid; rw [← List.getD_eq_getElem?_getD]; exact hR
        clear z1 z2 hR
        go_wp2_with fail
        all_goals
          go_meet
          case rel => exact ⟨R, by rw [HR2.out], hR3, hR24, HK5.out⟩
    obtain ⟨R, rfl, hR3, hR24, K5'⟩ := hcut
    obtain ⟨w5, rfl⟩ : ∃ W : World, W = wc := ⟨_, rfl⟩
    have K5 : Hid (SK w5 w5 g) := SK.start K5'.out.1
    have hg5 := K5'.out.2
    have R5 := Lib.hid (R4.out.nxt hg5 (by omega))
    have Q5 := Lib.hid (Q4.out.nxt hg5 (by omega))
    have C5 := Lib.hid (C4.out.nxt hg5 (by omega))
    have B5 := Lib.hid (SK.below K5'.out B4.out hwg)
    have V1 := Lib.hid (U1.out.nxt hg5 (by omega))
    have V2 := Lib.hid (U2.out.nxt hg5 (by omega))
    have hz5 := hg5.size
    have hb5 : b < w5.heap.size := C5.out.1
    have hA5 : w.heap.size + 2 ≤ w5.heap.size := by omega
    have hg5' : g < w5.heap.size := K5.out.lt
    clear hg5 K5' R4 Q4 C4 B4 U1 U2 HZ hbl c0 c1 c2 c3 c4 c5 c6 c7 K4 HSZ
    obtain ⟨N, hN⟩ : ∃ N, R * co = N := ⟨_, rfl⟩
    have hN192 : N ≤ 192 := by rw [← hN]; exact Nat.mul_le_mul (by omega : R ≤ 24) (by omega : co ≤ 8)
    have hpI : (R : Int) * (co : Int) = (N : Int) := by rw [← hN]; simp
    have HN := Lib.hid hN
    clear hN
    have D0 : Hid (DInv w0 (w5.alloc (.cells #[] 2)) w5.heap.size g (.slice (some ⟨w5.heap.size, 0, none⟩) 0 0) 0 []) := DInv.start K5.out.1 B5.out B5.out.size
    have X0 : Hid (KX w5 (w5.alloc (.cells #[] 2)) w5.heap.size g) := (KX.refl w5 w5.heap.size g).alloc (Nat.le_refl _) _
    go_wp2_with fail
    go_loopw [6, 7] (fun v i wr => ∃ (k : Nat) (es : List Int), k ≤ N ∧ i = .int .i64 (k : Int) ∧ Hid (∀ x ∈ es, 0 ≤ x ∧ x ≤ 31) ∧ Hid (DInv w0 wr w5.heap.size g v k es) ∧ Hid (KX w5 wr w5.heap.size g)) (fun _ i _ => 300 - (intOf i).toNat)
    case atStart => exact ⟨0, [], by omega, rfl, (fun x hx => absurd hx (by simp) : ∀ x ∈ ([] : List Int), 0 ≤ x ∧ x ≤ 31), D0.out, X0.out⟩
    case round =>
    clear D0 X0
    obtain ⟨k, es, hkN, rfl, HE, D, X⟩ := hrel
    have hrow := X.out.rowL C5.out hb5 hne1
    have c6 := (hrow.2 6 _ rfl).1
    have hbr := hrow.1
    clear hrow
    have hkk : (k : Int) < (N : Int) ∨ (N : Int) ≤ (k : Int) := by omega
    rcases hkk with hk | hk
    · go_wp2_with fail
      refine (sNext g 32 _ D.out.2.2.1).mono ?_
      rintro e w6 ⟨x, rfl, xa, xb, -, hs, hg⟩
      have xc := xb (by omega)
      have D5 := Lib.hid (D.out.nxt hg hs hg5' hwg)
      have X5 := Lib.hid (X.out.nxt hg (Nat.le_refl _))
      have hz6 := D5.out.2.2.2.1
      clear hs hg xb D X c6 hbr
      go_wp2_with (at_builtin; refine wpList_append_own _ rfl _ _ 24 rfl w5.heap.size 2 i0 (.int .i64 0) 1 8 Try.underlying24 hi iz0 iz1 iz2 rfl (by decide) _ _ _ rfl (D5.out.1.alloc _) ⟨w6.heap.size, 0, none⟩ 1 1 [.int .i64 x] rfl rfl (news1S w6 _ _) (by simp [Value.oneCell']) (by unfold maxLen; omega) (by omega) (by simp; omega) ?_; intro v' w7 hown' hgrow _)
      have D6 := Lib.hid (D5.out.app hg5' (by omega) hown' hgrow)
      have X6 : Hid (KX w5 w7 w5.heap.size g) := (X5.out.alloc (Nat.le_refl _) _).grown hgrow (fun j e => (D5.out.1.lt j e).1) (Nat.le_refl _)
      have HE2 : Hid (∀ y ∈ es ++ [x], 0 ≤ y ∧ y ≤ 31) := fun y hy => by
        rcases List.mem_append.1 hy with h | h
        · exact HE.out y h
        · obtain rfl := List.mem_singleton.1 h; exact ⟨xa, by omega⟩
      clear hown' hgrow xa xc
      go_wp2
      go_roundw
      case rel => exact ⟨k + 1, es ++ [x], by omega, by go_num, HE2.out, D6.out, X6.out⟩
      case measure => simp [intOf]; omega
    obtain rfl : k = N := by omega
    clear hk
    obtain ⟨w6, rfl⟩ : ∃ W : World, W = wr := ⟨_, rfl⟩
    obtain ⟨ea, ec, rfl⟩ := ownN_shape D.out.1
    have E6 : Hid (Rd w6 ea k es) := own_rd D.out.1
    have HEl : Hid (es.length = R * co) := by unfold Hid; rw [HN.out]; exact D.out.2.2.2.2
    have hkec : k ≤ ec := own_capD D.out.1
    have HEg : Hid (∀ b' off, ea = some ⟨b', off, none⟩ → 0 < k → b' ≠ g) := fun b' off e _ => by have := (D.out.1.lt b' (by rw [e]; rfl)).1; omega
    have K6 : Hid (SK w6 w6 g) := SK.start D.out.2.2.1
    have B6 : Hid (Below w0.heap.size w0 w6) := D.out.2.1
    have hz6 : w5.heap.size ≤ w6.heap.size := X.out.1
    have R6 := Lib.hid (X.out.rowL R5.out (by omega) (by omega))
    have Q6 := Lib.hid (X.out.rowL Q5.out (by omega) (by omega))
    have C6 := Lib.hid (X.out.rowL C5.out hb5 hne1)
    have V61 := Lib.hid (X.out.newS V1.out (by omega))
    have V62 := Lib.hid (X.out.newS V2.out (by omega))
    have hg6 : g < w6.heap.size := K6.out.lt
    have hb6 : b < w6.heap.size := by omega
    have hA6 : w.heap.size + 2 ≤ w6.heap.size := by omega
    have hne6 : ¬ (w6.heap.size = g) := by omega
    have hb61 : b < w6.heap.size + 1 := by omega
    clear D X R5 Q5 C5 V1 V2 K5 B5 c6 hbr
    have c0 := (C6.out.2 0 _ rfl).1
    have c1 := (C6.out.2 1 _ rfl).1
    have c2 := (C6.out.2 2 _ rfl).1
    have c3 := (C6.out.2 3 _ rfl).1
    have c4 := (C6.out.2 4 _ rfl).1
    have c5 := (C6.out.2 5 _ rfl).1
    have c6 := (C6.out.2 6 _ rfl).1
    have c7 := (C6.out.2 7 _ rfl).1
    go_upto_region 10 with (fail)
    clear hpI
    go_cut [8] from 41 (fun v wx => ∃ (gbk : Nat) (C : Int) (ga : Option Addr) (n gcap : Nat) (gs : List Int), v = .pointer (some ⟨gbk, 0, none⟩) ∧ n ≤ 3000 ∧ w6.heap.size ≤ gbk ∧ (Value.slice ga n gcap).ownBlock ≠ some gbk ∧ Hid (Box3 wx gbk (.int .i64 (R : Int)) (.int .i64 C) (.slice ga n gcap)) ∧ Hid (wx.ownsRow w6.heap.size 2 1 (.slice ga n gcap) n (gs.map (Value.int .i64))) ∧ Hid (gs.length = n) ∧ Hid (SK w6 wx g))
    case first =>
      go_region_law ((go_simp; (first | (refine (sNext g _ _ (K6.out.1.keep (by repeat' (first | (with_reducible exact Below.refl _ _) | (with_reducible assumption) | (with_reducible refine Below.alloc ?_ ?_ _) | (with_reducible refine Below.setCell ?_ ?_ _) | (with_reducible refine Below.drew ?_) | (with_reducible refine below_drewN ?_ _) | (with_reducible refine below_via (by with_reducible assumption) ?_ ?_) | go_size)))).mono ?_; rintro e w7 ⟨x, rfl, xa, xb, xd, hs7, hg7⟩; have hz7 := hg7.size; (try simp at hz7); have hcx := cell_far hg7; have hfx := frozen_far hg7; obtain ⟨lv, rfl⟩ := Int.eq_ofNat_of_zero_le xa; have hlv : lv ≤ 3 := (by omega); have C7 := (C6.out.keep (by repeat' (first | (with_reducible exact Below.refl _ _) | (with_reducible assumption) | (with_reducible refine Below.alloc ?_ ?_ _) | (with_reducible refine Below.setCell ?_ ?_ _) | (with_reducible refine Below.drew ?_) | (with_reducible refine below_drewN ?_ _) | (with_reducible refine below_via (by with_reducible assumption) ?_ ?_) | go_size))).nxt hg7 hne1; have e0_ := (C7.2 0 _ rfl).1; have e1_ := (C7.2 1 _ rfl).1; have e2_ := (C7.2 2 _ rfl).1; have e3_ := (C7.2 3 _ rfl).1; have e4_ := (C7.2 4 _ rfl).1; have e5_ := (C7.2 5 _ rfl).1; have e6_ := (C7.2 6 _ rfl).1; have e7_ := (C7.2 7 _ rfl).1; have E7 := rd_nxt (E6.out.below (by repeat' (first | (with_reducible exact Below.refl _ _) | (with_reducible assumption) | (with_reducible refine Below.alloc ?_ ?_ _) | (with_reducible refine Below.setCell ?_ ?_ _) | (with_reducible refine Below.drew ?_) | (with_reducible refine below_drewN ?_ _) | (with_reducible refine below_via (by with_reducible assumption) ?_ ?_) | go_size))) hg7 HEg.out; have K7 : SK w6 w7 g := SK.nxt (by repeat' (first | (with_reducible exact K6.out) | (with_reducible assumption) | (with_reducible exact Nat.le_refl _) | (with_reducible refine SK.alloc ?_ _) | (with_reducible refine SK.drew ?_) | (with_reducible refine SK.set ?_ ?_ ?_) | omega)) hg7 hs7; have hw7 : w6.heap.size ≤ w7.heap.size := (by omega); have hb7 : b < w7.heap.size := (by omega); (try have hs7b : w6.heap.size < w7.heap.size := (by omega)); (first | (with_reducible have Z7 := (zerD w6).nxt hg7 hne6) | skip)) | (refine (sGridN nm kd pp pq pr _ sn sc co la ln lc R lv k ec ea es _ (E7.below (by repeat' (first | (with_reducible exact Below.refl _ _) | (with_reducible assumption) | (with_reducible refine Below.alloc ?_ ?_ _) | (with_reducible refine Below.setCell ?_ ?_ _) | (with_reducible refine Below.drew ?_) | (with_reducible refine below_drewN ?_ _) | (with_reducible refine below_via (by with_reducible assumption) ?_ ?_) | go_size))) hkec HN.out.symm hco1 hco8 (by omega) hR24 hlv HE.out).mono ?_; rintro e w8 ⟨Cw, ga, n, gcap, gs, rfl, hgl, hgn, hgo, hb8⟩; have hz8 := hb8.size; (try simp at hz8); obtain ⟨hc8_, hf8_⟩ := bcell hb8; have K8 : SK w6 w8 g := SK.keep (by repeat' (first | (with_reducible exact K6.out) | (with_reducible assumption) | (with_reducible exact Nat.le_refl _) | (with_reducible refine SK.alloc ?_ _) | (with_reducible refine SK.drew ?_) | (with_reducible refine SK.set ?_ ?_ ?_) | omega)) hb8; have HNn := Lib.hid hgn; clear hgn; have hw8 : w7.heap.size ≤ w8.heap.size := (by omega); (try have hs8b : w7.heap.size < w8.heap.size := (by omega)); (first | (with_reducible have Z8 := Z7.keep hb8) | (with_reducible have Z8 := (zerA w7).keep hb8) | (with_reducible have Z8 := (zerD w7).keep hb8) | skip)))))
      all_goals
        clear c0 c1 c2 c3 c4 c5 c6 c7 e0_ e1_ e2_ e3_ e4_ e5_ e6_ e7_ hcx hfx hc8_ hf8_
        (try have HZ8 := Lib.hid Z8)
        (try clear Z8)
        (try clear Z7)
        have HGo := Lib.hid hgo
        have HK8 := Lib.hid K8
        clear hgo K8 K7 C7 E7 hs7 hg7 hb8 xb xd xa
        go_wp2_with fail
        go_meet
        case rel =>
          refine ⟨_, Cw, ga, n, gcap, gs, rfl, hgl, ?_, ?_, ?_, ?_, HNn.out, ?_⟩
          · first | (with_reducible exact Nat.le_refl _) | (with_reducible exact hw7) | exact Nat.le_trans hw7 hw8
          · first | exact fun e => Nat.lt_irrefl _ (HGo.out.lt _ e).2 | exact fun e => Nat.not_le_of_lt hs7b (HGo.out.lt _ e).1 | exact fun e => Nat.not_succ_le_self _ (show w7.heap.size + 1 ≤ w7.heap.size by simpa using (HGo.out.lt _ e).1)
          · unfold Hid; first | (with_reducible exact box_sets HZ8.out) | (with_reducible exact Box3.new _ _ _ _ _)
          · unfold Hid; first | (with_reducible refine ownN_mono (HGo.out.alloc _) ?_; exact Nat.le_trans hw7 (Nat.le_refl _)) | (with_reducible refine ownN_mono (ownN_far (ownN_far (ownN_far HGo.out ?_ _) ?_ _) ?_ _) ?_; (show w6.heap.size < w7.heap.size; exact hs7b); (show w6.heap.size < w7.heap.size; exact hs7b); (show w6.heap.size < w7.heap.size; exact hs7b); exact hw7) | (with_reducible refine ownN_mono (ownN_far (ownN_far (ownN_far HGo.out ?_ _) ?_ _) ?_ _) ?_; (show w7.heap.size < _; simp); (show w7.heap.size < _; simp); (show w7.heap.size < _; simp); exact Nat.le_trans hw7 (by simp))
          · unfold Hid; repeat' (first | (with_reducible exact HK8.out) | (with_reducible assumption) | (with_reducible exact Nat.le_refl _) | (with_reducible refine SK.alloc ?_ _) | (with_reducible refine SK.drew ?_) | (with_reducible refine SK.set ?_ ?_ ?_) | omega)
    obtain ⟨gbk, Cw, ga, n, gcap, gs, rfl, hn3, hgb6, hgo, HX, HO, HGl, HSK⟩ := hcut
    obtain ⟨w7, rfl⟩ : ∃ W : World, W = wc := ⟨_, rfl⟩
    have hz7 : w6.heap.size ≤ w7.heap.size := HSK.out.2.size
    have B7 : Below w0.heap.size w0 w7 := SK.below HSK.out B6.out hwg
    have D7 : Hid (DInv w0 w7 w6.heap.size g (.slice ga n gcap) n gs) := ⟨HO.out, B7, HSK.out.1, hz7, HGl.out⟩
    have hgc1 : n ≤ gcap := own_capD HO.out
    have hgc2 : gcap ≤ maxLen := own_capC HO.out
    have HOb : Hid (∀ β, (Value.slice ga n gcap).ownBlock = some β → w6.heap.size ≤ β) := fun β e => (HO.out.lt β e).1
    have hgl7 : gbk < w7.heap.size := HX.out.1
    obtain ⟨x_, x0, x1, x2⟩ := HX.out
    clear c0 c1 c2 c3 c4 c5 c6 c7 B7
    go_wp2_with fail
    refine (dHitK g w6.heap.size ga n gcap gs 30 w0 w7 D7.out hg6 hwg (by omega) (by omega) (by omega)).mono ?_
    rintro e w8 ⟨gs2, r_, rfl, hD8, hKV⟩
    have hz8 : w7.heap.size ≤ w8.heap.size := hKV.1
    have KX8 : KX w6 w8 w6.heap.size g := ⟨by omega, fun β h1 h2 => (hKV.2 β (by omega) h2 (fun e => by have := HOb.out β e; omega)).trans (HSK.out.kx.2 β h1 h2)⟩
    have hgg : gbk ≠ g := by omega
    have hbx := hKV.2 gbk hgl7 hgg hgo
    have X8 : Hid (Box3 w8 gbk (.int .i64 (R : Int)) (.int .i64 Cw) (.slice ga n gcap)) := ⟨by omega, (World.cell?_of_block (a := ⟨gbk, 0, none⟩) hbx).trans x0, (World.cell?_of_block (a := ⟨gbk, 1, none⟩) hbx).trans x1, (World.cell?_of_block (a := ⟨gbk, 2, none⟩) hbx).trans x2⟩
    have R8 := Lib.hid (KX8.rowL R6.out (by omega) (by omega))
    have Q8 := Lib.hid (KX8.rowL Q6.out (by omega) (by omega))
    have C8 := Lib.hid (KX8.rowL C6.out hb6 hne1)
    have V81 := Lib.hid (KX8.newS V61.out (by omega))
    have V82 := Lib.hid (KX8.newS V62.out (by omega))
    have HD8 := Lib.hid hD8
    clear hD8 hKV KX8 hbx x_ x0 x1 x2 D7 HO HX HSK R6 Q6 C6 V61 V62 HGl HOb hgo
    go_wp2_with fail
    refine (sNext g 30 w8 HD8.out.2.2.1).mono ?_
    rintro e w9 ⟨x, rfl, xa, xb, -, hs9, hg9⟩
    have hz9 := hg9.size
    have K9 : Hid (SK w9 w9 g) := SK.start hs9
    have R9 := Lib.hid (R8.out.nxt hg9 (by omega))
    have Q9 := Lib.hid (Q8.out.nxt hg9 (by omega))
    have C9 := Lib.hid (C8.out.nxt hg9 hne1)
    have V91 := Lib.hid (V81.out.nxt hg9 (by omega))
    have V92 := Lib.hid (V82.out.nxt hg9 (by omega))
    have X9 : Hid (Box3 w9 gbk (.int .i64 (R : Int)) (.int .i64 Cw) (.slice ga n gcap)) := ⟨by omega, cell_nxt X8.out.2.1 hg9 hgg, cell_nxt X8.out.2.2.1 hg9 hgg, cell_nxt X8.out.2.2.2 hg9 hgg⟩
    have O9 := Lib.hid (own_nxt HD8.out.1 hg9 hg6)
    have B9 : Hid (Below w0.heap.size w0 w9) := below_nxt HD8.out.2.1 hg9 (by omega) hwg
    have hg9l : g < w9.heap.size := by omega
    have hb9 : b < w9.heap.size := by omega
    have hA9 : w.heap.size + 2 ≤ w9.heap.size := by omega
    have hgl9 : gbk < w9.heap.size := by omega
    have hne2 : ¬ (w.heap.size = g) := by omega
    have hne3 : ¬ (w.heap.size + 1 = g) := by omega
    have GR9 : Hid (Rd w9 ga n gs2) := own_rd O9.out
    have hgfr : Hid (∀ β off, ga = some ⟨β, off, none⟩ → w6.heap.size ≤ β) := fun β off e => (O9.out.lt β (by rw [e]; rfl)).1
    clear hs9 hg9 R8 Q8 C8 V81 V82 X8 HD8 xa xb
    by_cases hx0 : x = 0
    · subst hx0
      have hne2' : w.heap.size ≠ g := hne2
      have hne3' : w.heap.size + 1 ≠ g := hne3
      have DB : Below w9.heap.size w9 w9.drew := (Below.refl _ _).drew
      have hdr : w9.heap.size ≤ w9.drew.heap.size := Nat.le_refl _
      have hdA : w.heap.size < w9.drew.heap.size := by omega
      have hdA1 : w.heap.size + 1 < w9.drew.heap.size := by omega
      have hdA2 : w.heap.size + 2 ≤ w9.drew.heap.size := by omega
      have hw0d : w0.heap.size ≤ w9.drew.heap.size := by omega
      have hA91 : w.heap.size < w9.heap.size := by omega
      have hA92 : w.heap.size + 1 < w9.heap.size := by omega
      have hgng : ∀ β off, ga = some ⟨β, off, none⟩ → 0 < n → β ≠ g := fun β off e _ => by have := hgfr.out β off e; omega
      have hfr : ∀ β off, ga = some ⟨β, off, none⟩ → w.heap.size + 2 ≤ β := fun β off e => by have h1 := hgfr.out β off e; omega
      have hHFR := Lib.hid hfr
      have hHGN := Lib.hid hgng
      have c0 := (C9.out.2 0 _ rfl).1
      have c1 := (C9.out.2 1 _ rfl).1
      have c2 := (C9.out.2 2 _ rfl).1
      have c3 := (C9.out.2 3 _ rfl).1
      have c4 := (C9.out.2 4 _ rfl).1
      have c5 := (C9.out.2 5 _ rfl).1
      have c6 := (C9.out.2 6 _ rfl).1
      have c7 := (C9.out.2 7 _ rfl).1
      obtain ⟨z_, ⟨a0, a1, a2, a3, a4, a5, a6, a7⟩, ⟨f0, f1, f2, f3, f4, f5, f6, f7⟩⟩ := R9.out.zerF
      obtain ⟨y_, ⟨m0, m1, m2⟩, ⟨n0, n1, n2⟩⟩ := Q9.out.at3
      obtain ⟨x_, x0, x1, x2⟩ := X9.out
      clear c0 c1 c2 c3 c4 c5 c6 c7
      go_wp2_with fail
      go_region_law ((go_simp; (first | (refine (sLibrary _).mono ?_; rintro e wl ⟨gl, rfl, hgl1, hgl2, hF, hbl⟩; have hzl := hbl.size; (try simp at hzl); obtain ⟨hcl, hfl⟩ := bcell hbl; have hglw : w9.heap.size ≤ gl := (by omega); (first | (with_reducible have R_l := R_n.keep hbl) | (with_reducible have R_l := (R9.out.keep DB).keep hbl)); (first | (with_reducible have Q_l := Q_n.keep hbl) | (with_reducible have Q_l := (Q9.out.keep DB).keep hbl)); (first | (with_reducible have G_l := G_n.below hbl) | (with_reducible have G_l := (GR9.out.below DB).below hbl)); (first | (with_reducible have X_l := X_n.keep hbl) | (with_reducible have X_l := (X9.out.keep DB).keep hbl)); obtain ⟨xl_, xl0, xl1, xl2⟩ := X_l; have R_l2 := R_l; have Q_l2 := Q_l; obtain ⟨zl_, ⟨al0, al1, al2, al3, al4, al5, al6, al7⟩, ⟨fl0, fl1, fl2, fl3, fl4, fl5, fl6, fl7⟩⟩ := R_l2.zerF; obtain ⟨yl_, ⟨ml0, ml1, ml2⟩, ⟨nl0, nl1, nl2⟩⟩ := Q_l2.at3;  have hwl : w9.heap.size ≤ wl.heap.size := (by omega); have hAl : w.heap.size < wl.heap.size := (by omega); have hAl1 : w.heap.size + 1 < wl.heap.size := (by omega); (first | (have hFq := hF q hq5; obtain ⟨nm2, kd2, pp2, pq2, pr2, sa2, sn2, sc2, zs2, col2, la2, ln2, lc2, ls2, hnm2, s1, s2, d0, d1, d2, d3, d4, d5, d6, d7⟩ := hFq) | skip)) | (refine (sNext g 2 _ (K9.out.1.keep (by repeat' (first | (with_reducible exact Below.refl _ _) | (with_reducible assumption) | (with_reducible refine Below.alloc ?_ ?_ _) | (with_reducible refine Below.setCell ?_ ?_ _) | (with_reducible refine Below.drew ?_) | (with_reducible refine below_drewN ?_ _) | (with_reducible refine below_via (by with_reducible assumption) ?_ ?_) | go_size)))).mono ?_; rintro e wn ⟨y, rfl, ya, yb, yd, hsn, hgn⟩; have hzn := hgn.size; (try simp at hzn); have hcn := cell_far hgn; have hfn := frozen_far hgn; obtain ⟨k2, rfl⟩ := Int.eq_ofNat_of_zero_le ya; have yc := yb (by omega); obtain ⟨q, hq⟩ : ∃ q, 3 + k2 = q := ⟨_, rfl⟩; have hq5 : q < 5 := (by omega); have hqI : 3 + (k2 : Int) = (q : Int) := (by omega); have HQq := Lib.hid hq; have hqw : IntKind.i64.wrap (q : Int) = (q : Int) := IntWalk.i64_in _ (by omega); have hq0I : (0 : Int) ≤ (q : Int) := Int.natCast_nonneg q; have hq5I : (q : Int) < 5 := (by omega); clear hq yb yd; (first | (with_reducible have R_n := R_l.nxt hgn hne2') | (with_reducible have R_n := (R9.out.keep DB).nxt hgn hne2')); (first | (with_reducible have Q_n := Q_l.nxt hgn hne3') | (with_reducible have Q_n := (Q9.out.keep DB).nxt hgn hne3')); (first | (with_reducible have G_n := rd_nxt G_l hgn hgng) | (with_reducible have G_n := rd_nxt (GR9.out.below DB) hgn hgng)); have hwn : w9.heap.size ≤ wn.heap.size := (by omega); have hAn : w.heap.size < wn.heap.size := (by omega); have hAn1 : w.heap.size + 1 < wn.heap.size := (by omega); (first | (have X_n : Box3 wn gbk (.int .i64 (R : Int)) (.int .i64 Cw) (.slice ga n gcap) := ⟨Nat.lt_of_lt_of_le hgl9 hwn, cell_nxt xl0 hgn hgg, cell_nxt xl1 hgn hgg, cell_nxt xl2 hgn hgg⟩) | (have X_n : Box3 wn gbk (.int .i64 (R : Int)) (.int .i64 Cw) (.slice ga n gcap) := ⟨Nat.lt_of_lt_of_le hgl9 hwn, cell_nxt (X9.out.keep DB).2.1 hgn hgg, cell_nxt (X9.out.keep DB).2.2.1 hgn hgg, cell_nxt (X9.out.keep DB).2.2.2 hgn hgg⟩)); obtain ⟨xn_, xn0, xn1, xn2⟩ := X_n; (first | (have hFq := hF q hq5; obtain ⟨nm2, kd2, pp2, pq2, pr2, sa2, sn2, sc2, zs2, col2, la2, ln2, lc2, ls2, hnm2, s1, s2, d0, d1, d2, d3, d4, d5, d6, d7⟩ := hFq; have hglg : gl ≠ g := (by omega); replace s1 := NewS.nxt s1 hgn (by show g < w9.heap.size; omega); replace s2 := NewS.nxt s2 hgn (by show g < w9.heap.size; omega); have hgl2n : gl < wn.heap.size := (by omega)))))))
      all_goals
        have HS1 := Lib.hid s1
        have HS2 := Lib.hid s2
        clear a0 a1 a2 a3 a4 a5 a6 a7 f0 f1 f2 f3 f4 f5 f6 f7 m0 m1 m2 n0 n1 n2 x_ x0 x1 x2 d0 d1 d2 d3 d4 d5 d6 d7 al0 al1 al2 al3 al4 al5 al6 al7 fl0 fl1 fl2 fl3 fl4 fl5 fl6 fl7 ml0 ml1 ml2 nl0 nl1 nl2 hcl hfl hcn hfn xl0 xl1 xl2 xn0 xn1 xn2 hF hqI hqw s1 s2
        first
          | have BZ : Below w0.heap.size w0 wn := below_nxt (B9.out.drew.trans (hbl.mono hw0d)) hgn (by omega) hwg
            have S1 := HS1.out.mono hdA2
            have S2 := HS2.out.mono hdA2
            obtain ⟨W9, hW9⟩ : ∃ W : World, W = (((((((((((wn.setCell ⟨w.heap.size, 0, none⟩ (.string nm2)).setCell ⟨w.heap.size, 1, none⟩ (.int .i64 kd2)).setCell ⟨w.heap.size, 2, none⟩ (.int .i64 pp2)).setCell ⟨w.heap.size, 3, none⟩ (.int .i64 pq2)).setCell ⟨w.heap.size, 4, none⟩ (.int .i64 pr2)).setCell ⟨w.heap.size, 5, none⟩ (.slice sa2 sn2 sc2)).setCell ⟨w.heap.size, 6, none⟩ (.int .i64 col2)).setCell ⟨w.heap.size, 7, none⟩ (.slice la2 ln2 lc2)).setCell ⟨w.heap.size + 1, 0, none⟩ (.int .i64 (R : Int))).setCell ⟨w.heap.size + 1, 1, none⟩ (.int .i64 Cw)).setCell ⟨w.heap.size + 1, 2, none⟩ (.slice ga n gcap)) := ⟨_, rfl⟩
            obtain ⟨UA, UG, U1, U2, U3, UF, UB⟩ := fin_se (A := w.heap.size) (⟨nm2, kd2, pp2, pq2, pr2, sa2, sn2, sc2, zs2, col2, la2, ln2, lc2, ls2⟩ : FamR) R_n Q_n S1 S2 G_n hfr BZ hw0A hW9
            rw [← hW9]
            clear hW9
            have r0_ := (UA.2 0 _ rfl).1
            have r1_ := (UA.2 1 _ rfl).1
            have r2_ := (UA.2 2 _ rfl).1
            have r3_ := (UA.2 3 _ rfl).1
            have r4_ := (UA.2 4 _ rfl).1
            have r5_ := (UA.2 5 _ rfl).1
            have r6_ := (UA.2 6 _ rfl).1
            have r7_ := (UA.2 7 _ rfl).1
            have q0_ := (UG.2 0 _ rfl).1
            have q1_ := (UG.2 1 _ rfl).1
            have q2_ := (UG.2 2 _ rfl).1
            dsimp only [Exit.then]
            apply_assumption
            refine wp_ret ?_
            (try simp only [Exit.then])
            (try simp only [Exit.inBlock])
            (try simp only [Exit.then])
            refine bodyPost_ret (v := .tuple #[.agg #[.string nm2, .int .i64 kd2, .int .i64 pp2, .int .i64 pq2, .int .i64 pr2, .slice sa2 sn2 sc2, .int .i64 col2, .slice la2 ln2 lc2], .agg #[.int .i64 (R : Int), .int .i64 Cw, .slice ga n gcap]]) (by simp [results, Try.results45, go_sem, r0_, r1_, r2_, r3_, r4_, r5_, r6_, r7_, q0_, q1_, q2_]) rfl ?_
            exact ⟨⟨nm2, kd2, pp2, pq2, pr2, sa2, sn2, sc2, zs2, col2, la2, ln2, lc2, ls2⟩, _, _, _, _, _, _, rfl, hnm2, U1, HS1.out.2.1, U2, HS2.out.2.1, U3, UF, (by omega), hgc1, hgc2, UB⟩
          | have BZ : Below w0.heap.size w0 wl := (below_nxt B9.out.drew hgn hw0d hwg).trans (hbl.mono (by omega))
            have S1 := HS1.out.mono (show w.heap.size + 2 ≤ wn.heap.size by omega)
            have S2 := HS2.out.mono (show w.heap.size + 2 ≤ wn.heap.size by omega)
            obtain ⟨W9, hW9⟩ : ∃ W : World, W = (((((((((((wl.setCell ⟨w.heap.size, 0, none⟩ (.string nm2)).setCell ⟨w.heap.size, 1, none⟩ (.int .i64 kd2)).setCell ⟨w.heap.size, 2, none⟩ (.int .i64 pp2)).setCell ⟨w.heap.size, 3, none⟩ (.int .i64 pq2)).setCell ⟨w.heap.size, 4, none⟩ (.int .i64 pr2)).setCell ⟨w.heap.size, 5, none⟩ (.slice sa2 sn2 sc2)).setCell ⟨w.heap.size, 6, none⟩ (.int .i64 col2)).setCell ⟨w.heap.size, 7, none⟩ (.slice la2 ln2 lc2)).setCell ⟨w.heap.size + 1, 0, none⟩ (.int .i64 (R : Int))).setCell ⟨w.heap.size + 1, 1, none⟩ (.int .i64 Cw)).setCell ⟨w.heap.size + 1, 2, none⟩ (.slice ga n gcap)) := ⟨_, rfl⟩
            obtain ⟨UA, UG, U1, U2, U3, UF, UB⟩ := fin_se (A := w.heap.size) (⟨nm2, kd2, pp2, pq2, pr2, sa2, sn2, sc2, zs2, col2, la2, ln2, lc2, ls2⟩ : FamR) R_l Q_l S1 S2 G_l hfr BZ hw0A hW9
            rw [← hW9]
            clear hW9
            have r0_ := (UA.2 0 _ rfl).1
            have r1_ := (UA.2 1 _ rfl).1
            have r2_ := (UA.2 2 _ rfl).1
            have r3_ := (UA.2 3 _ rfl).1
            have r4_ := (UA.2 4 _ rfl).1
            have r5_ := (UA.2 5 _ rfl).1
            have r6_ := (UA.2 6 _ rfl).1
            have r7_ := (UA.2 7 _ rfl).1
            have q0_ := (UG.2 0 _ rfl).1
            have q1_ := (UG.2 1 _ rfl).1
            have q2_ := (UG.2 2 _ rfl).1
            dsimp only [Exit.then]
            apply_assumption
            refine wp_ret ?_
            (try simp only [Exit.then])
            (try simp only [Exit.inBlock])
            (try simp only [Exit.then])
            refine bodyPost_ret (v := .tuple #[.agg #[.string nm2, .int .i64 kd2, .int .i64 pp2, .int .i64 pq2, .int .i64 pr2, .slice sa2 sn2 sc2, .int .i64 col2, .slice la2 ln2 lc2], .agg #[.int .i64 (R : Int), .int .i64 Cw, .slice ga n gcap]]) (by simp [results, Try.results45, go_sem, r0_, r1_, r2_, r3_, r4_, r5_, r6_, r7_, q0_, q1_, q2_]) rfl ?_
            exact ⟨⟨nm2, kd2, pp2, pq2, pr2, sa2, sn2, sc2, zs2, col2, la2, ln2, lc2, ls2⟩, _, _, _, _, _, _, rfl, hnm2, U1, HS1.out.2.1, U2, HS2.out.2.1, U3, UF, (by omega), hgc1, hgc2, UB⟩
    by_cases hx1 : x = 1
    · subst hx1
      have c0 := (C9.out.2 0 _ rfl).1
      have c1 := (C9.out.2 1 _ rfl).1
      have c2 := (C9.out.2 2 _ rfl).1
      have c3 := (C9.out.2 3 _ rfl).1
      have c4 := (C9.out.2 4 _ rfl).1
      have c5 := (C9.out.2 5 _ rfl).1
      have c6 := (C9.out.2 6 _ rfl).1
      have c7 := (C9.out.2 7 _ rfl).1
      obtain ⟨z_, ⟨a0, a1, a2, a3, a4, a5, a6, a7⟩, ⟨f0, f1, f2, f3, f4, f5, f6, f7⟩⟩ := R9.out.zerF
      obtain ⟨y_, ⟨m0, m1, m2⟩, ⟨n0, n1, n2⟩⟩ := Q9.out.at3
      go_wp2_with fail
      go_region_law ((go_simp; refine (dGridC g _ K9.out.drew.1 w0 B9.out.drew hwg).mono ?_; rintro e wt ⟨r, c, ga2, gn2, gc2, gs3, rfl, gn4, gcp, gcm, gr, gB, gfr, hkp⟩; have hk7 : KX w9 wt w9.heap.size g := ⟨hkp.2.1, hkp.2.2⟩; have hcx : ∀ b i, b < w9.heap.size → b ≠ g → wt.cell? ⟨b, i, none⟩ = w9.cell? ⟨b, i, none⟩ := (fun b i h1 h2 => World.cell?_of_block (a := ⟨b, i, none⟩) (hk7.2 b h1 h2)); have hfx : ∀ b i, b < w9.heap.size → b ≠ g → wt.frozen? ⟨b, i, none⟩ = w9.frozen? ⟨b, i, none⟩ := (fun b i h1 h2 => World.frozen?_of_block (a := ⟨b, i, none⟩) (hk7.2 b h1 h2)); have hzt : w9.heap.size ≤ wt.heap.size := hk7.1; have hwt : w.heap.size < wt.heap.size := (by omega); have hwtb : w.heap.size + 1 < wt.heap.size := (by omega); have hbt : b < wt.heap.size := (by omega)))
      all_goals
        clear hcx hfx a0 a1 a2 a3 a4 a5 a6 a7 f0 f1 f2 f3 f4 f5 f6 f7 m0 m1 m2 n0 n1 n2 c0 c1 c2 c3 c4 c5 c6 c7
        have Rt := hk7.rowL R9.out (by omega) (by omega)
        have Qt := hk7.rowL Q9.out (by omega) (by omega)
        have V1 := hk7.newS V91.out (by omega)
        have V2 := hk7.newS V92.out (by omega)
        have hfr : ∀ β off, ga2 = some ⟨β, off, none⟩ → w.heap.size + 2 ≤ β := fun β off e => by have h1 := gfr β off e; have h2 : w9.drew.heap.size = w9.heap.size := rfl; omega
        obtain ⟨W9, hW9⟩ : ∃ W : World, W = (((((((((((wt.setCell ⟨w.heap.size, 0, none⟩ (.string nm)).setCell ⟨w.heap.size, 1, none⟩ (.int .i64 kd)).setCell ⟨w.heap.size, 2, none⟩ (.int .i64 pp)).setCell ⟨w.heap.size, 3, none⟩ (.int .i64 pq)).setCell ⟨w.heap.size, 4, none⟩ (.int .i64 pr)).setCell ⟨w.heap.size, 5, none⟩ (.slice (some ⟨sb, soff, none⟩) sn sc)).setCell ⟨w.heap.size, 6, none⟩ (.int .i64 (co : Int))).setCell ⟨w.heap.size, 7, none⟩ (.slice la ln lc)).setCell ⟨w.heap.size + 1, 0, none⟩ (.int .i64 r)).setCell ⟨w.heap.size + 1, 1, none⟩ (.int .i64 c)).setCell ⟨w.heap.size + 1, 2, none⟩ (.slice ga2 gn2 gc2)) := ⟨_, rfl⟩
        obtain ⟨UA, UG, U1, U2, U3, UF, UB⟩ := fin_se (A := w.heap.size) (⟨nm, kd, pp, pq, pr, some ⟨sb, soff, none⟩, sn, sc, zs, (co : Int), la, ln, lc, ls⟩ : FamR) Rt Qt V1 V2 gr hfr gB hw0A hW9
        rw [← hW9]
        clear hW9
        have r0_ := (UA.2 0 _ rfl).1
        have r1_ := (UA.2 1 _ rfl).1
        have r2_ := (UA.2 2 _ rfl).1
        have r3_ := (UA.2 3 _ rfl).1
        have r4_ := (UA.2 4 _ rfl).1
        have r5_ := (UA.2 5 _ rfl).1
        have r6_ := (UA.2 6 _ rfl).1
        have r7_ := (UA.2 7 _ rfl).1
        have q0_ := (UG.2 0 _ rfl).1
        have q1_ := (UG.2 1 _ rfl).1
        have q2_ := (UG.2 2 _ rfl).1
        dsimp only [Exit.then]
        apply_assumption
        refine wp_ret ?_
        (try simp only [Exit.then])
        (try simp only [Exit.inBlock])
        (try simp only [Exit.then])
        refine bodyPost_ret (v := .tuple #[.agg #[.string nm, .int .i64 kd, .int .i64 pp, .int .i64 pq, .int .i64 pr, .slice (some ⟨sb, soff, none⟩) sn sc, .int .i64 (co : Int), .slice la ln lc], .agg #[.int .i64 r, .int .i64 c, .slice ga2 gn2 gc2]]) (by simp [results, Try.results45, go_sem, r0_, r1_, r2_, r3_, r4_, r5_, r6_, r7_, q0_, q1_, q2_]) rfl ?_
        exact ⟨⟨nm, kd, pp, pq, pr, some ⟨sb, soff, none⟩, sn, sc, zs, (co : Int), la, ln, lc, ls⟩, _, _, _, _, _, _, rfl, hnm, U1, hs10, U2, hl10, U3, UF, gn4, gcp, gcm, UB⟩
    have t0 : (x == 0) = false := by simpa using hx0
    have t1 : (x == 1) = false := by simpa using hx1
    clear hx0 hx1
    have c0 := (C9.out.2 0 _ rfl).1
    have c1 := (C9.out.2 1 _ rfl).1
    have c2 := (C9.out.2 2 _ rfl).1
    have c3 := (C9.out.2 3 _ rfl).1
    have c4 := (C9.out.2 4 _ rfl).1
    have c5 := (C9.out.2 5 _ rfl).1
    have c6 := (C9.out.2 6 _ rfl).1
    have c7 := (C9.out.2 7 _ rfl).1
    obtain ⟨z_, ⟨a0, a1, a2, a3, a4, a5, a6, a7⟩, ⟨f0, f1, f2, f3, f4, f5, f6, f7⟩⟩ := R9.out.zerF
    obtain ⟨y_, ⟨m0, m1, m2⟩, ⟨n0, n1, n2⟩⟩ := Q9.out.at3
    obtain ⟨x_, x0, x1, x2⟩ := X9.out
    go_wp2_with fail
    go_region
    all_goals
      clear a0 a1 a2 a3 a4 a5 a6 a7 f0 f1 f2 f3 f4 f5 f6 f7 m0 m1 m2 n0 n1 n2 c0 c1 c2 c3 c4 c5 c6 c7 x_ x0 x1 x2
      have DB : Below w9.heap.size w9 w9.drew := (Below.refl _ _).drew
      have hfr : ∀ β off, ga = some ⟨β, off, none⟩ → w.heap.size + 2 ≤ β := fun β off e => by have h1 := hgfr.out β off e; omega
      obtain ⟨W9, hW9⟩ : ∃ W : World, W = (((((((((((w9.setCell ⟨w.heap.size, 0, none⟩ (.string nm)).setCell ⟨w.heap.size, 1, none⟩ (.int .i64 kd)).setCell ⟨w.heap.size, 2, none⟩ (.int .i64 pp)).setCell ⟨w.heap.size, 3, none⟩ (.int .i64 pq)).setCell ⟨w.heap.size, 4, none⟩ (.int .i64 pr)).setCell ⟨w.heap.size, 5, none⟩ (.slice (some ⟨sb, soff, none⟩) sn sc)).setCell ⟨w.heap.size, 6, none⟩ (.int .i64 (co : Int))).setCell ⟨w.heap.size, 7, none⟩ (.slice la ln lc)).setCell ⟨w.heap.size + 1, 0, none⟩ (.int .i64 (R : Int))).setCell ⟨w.heap.size + 1, 1, none⟩ (.int .i64 Cw)).setCell ⟨w.heap.size + 1, 2, none⟩ (.slice ga n gcap)) := ⟨_, rfl⟩
      obtain ⟨UA, UG, U1, U2, U3, UF, UB⟩ := fin_se (A := w.heap.size) (⟨nm, kd, pp, pq, pr, some ⟨sb, soff, none⟩, sn, sc, zs, (co : Int), la, ln, lc, ls⟩ : FamR) R9.out Q9.out V91.out V92.out GR9.out hfr B9.out hw0A hW9
      rw [← hW9]
      clear hW9
      have r0_ := (UA.2 0 _ rfl).1
      have r1_ := (UA.2 1 _ rfl).1
      have r2_ := (UA.2 2 _ rfl).1
      have r3_ := (UA.2 3 _ rfl).1
      have r4_ := (UA.2 4 _ rfl).1
      have r5_ := (UA.2 5 _ rfl).1
      have r6_ := (UA.2 6 _ rfl).1
      have r7_ := (UA.2 7 _ rfl).1
      have q0_ := (UG.2 0 _ rfl).1
      have q1_ := (UG.2 1 _ rfl).1
      have q2_ := (UG.2 2 _ rfl).1
      dsimp only [Exit.then]
      apply_assumption
      refine wp_ret ?_
      (try simp only [Exit.then])
      (try simp only [Exit.inBlock])
      (try simp only [Exit.then])
      refine bodyPost_ret (v := .tuple #[.agg #[.string nm, .int .i64 kd, .int .i64 pp, .int .i64 pq, .int .i64 pr, .slice (some ⟨sb, soff, none⟩) sn sc, .int .i64 (co : Int), .slice la ln lc], .agg #[.int .i64 (R : Int), .int .i64 Cw, .slice ga n gcap]]) (by simp [results, Try.results45, go_sem, r0_, r1_, r2_, r3_, r4_, r5_, r6_, r7_, q0_, q1_, q2_]) rfl ?_
      exact ⟨⟨nm, kd, pp, pq, pr, some ⟨sb, soff, none⟩, sn, sc, zs, (co : Int), la, ln, lc, ls⟩, _, _, _, _, _, _, rfl, hnm, U1.keep (Below.refl _ _).drew, hs10, U2.keep (Below.refl _ _).drew, hl10, U3.below (Below.refl _ _).drew, UF, (by omega), hgc1, hgc2, UB.drew⟩
end Go.Proofs.Ytenelpollcabnaa
