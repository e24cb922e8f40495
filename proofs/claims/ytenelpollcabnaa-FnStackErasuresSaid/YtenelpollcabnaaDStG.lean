/-
  DERIVED. spec.DrawStackGrid.
-/
import Derived.Test.YtenelpollcabnaaDFam3
import Derived.Test.YtenelpollcabnaaDGrid
import Derived.Deep.CutBlock
import Derived.Deep.RegionLaw
namespace Go.Proofs.Ytenelpollcabnaa
open Go.RowKit
set_option linter.unusedVariables false
theorem news1S (w : World) (v : Value) (t : TypeId) : ∀ j u, ([v] : List Value)[j]? = some u → (w.alloc (.cells #[v] t)).cell? ((⟨w.heap.size, 0, none⟩ : Addr).add j) = some u := World.news_of_block (heap_alloc_new w _)
theorem frozen_far {w w1 : World} {g : Nat} (hg : w.grownBy w1 (some g)) : ∀ b o, b < w.heap.size → b ≠ g → w1.frozen? ⟨b, o, none⟩ = w.frozen? ⟨b, o, none⟩ :=
  fun b o h1 h2 => World.frozen?_of_block (a := ⟨b, o, none⟩) (hg.block b h1 (fun e => h2 (Option.some.inj e)))
theorem KX.rowL {W wr : World} {base g b : Nat} {l : List Value} (h : KX W wr base g) (hr : RowL W b l) (h1 : b < base) (h2 : b ≠ g) : RowL wr b l := by
  have e := h.2 b h1 h2
  exact ⟨Nat.lt_of_lt_of_le hr.1 h.1, fun j v hj => ⟨(World.cell?_of_block (a := ⟨b, j, none⟩) e).trans (hr.2 j v hj).1, (World.frozen?_of_block (a := ⟨b, j, none⟩) e).trans (hr.2 j v hj).2⟩⟩
theorem KX.newS {W wr : World} {B n g : Nat} {a : Option Addr} {zs : List Int} (h : KX W wr W.heap.size g) (hr : NewS W B a n zs) (hg : g < B) : NewS wr B a n zs := by
  refine ⟨⟨hr.1.1, fun hn => ?_⟩, hr.2⟩
  obtain ⟨b, off, e, hlt, hc⟩ := hr.1.2 hn
  have hb := hr.2.2 b off e
  have e2 := h.2 b hlt (by omega)
  exact ⟨b, off, e, Nat.lt_of_lt_of_le hlt h.1, fun i hi => (World.cell?_of_block (a := ⟨b, off + i, none⟩) e2).trans (hc i hi)⟩
theorem KX.set {W wr : World} {base g c i : Nat} {v : Value} (h : KX W wr base g) (hb : base ≤ W.heap.size) (hc : base ≤ c) : KX W (wr.setCell ⟨c, i, none⟩ v) base g :=
  h.grown (row := some c) (only_setCell (World.grownBy.refl wr (some c)) v) (fun j e => by injection e with e; omega) hb
theorem SK.kx {w wr : World} {g : Nat} (h : SK w wr g) : KX w wr w.heap.size g := (KX.refl w w.heap.size g).nxt h.2 (Nat.le_refl _)
theorem SK.below {w0 w wr : World} {g : Nat} (h : SK w wr g) (hb : Below w0.heap.size w0 w) (hg : w0.heap.size ≤ g) : Below w0.heap.size w0 wr := below_nxt hb h.2 (by have := hb.size; omega) hg
/-- A stacked symbol's parts, drawn. -/
def DrawnSG (w : World) (e : Ending) (w' : World) : Prop := ∃ (f : FamR) (sz lv : Int) (ea : Option Addr) (en ec : Nat) (els : List Int), e = .returned (.tuple #[.agg #[.string f.nm, .int .i64 f.kd, .int .i64 f.p, .int .i64 f.q, .int .i64 f.r, .slice f.sa f.sn f.sc, .int .i64 f.col, .slice f.la f.ln f.lc], .int .i64 sz, .int .i64 lv, .slice ea en ec]) ∧ f.nm.size ≤ 100 ∧ Rd w' f.sa f.sn f.zs ∧ f.sn ≤ 10 ∧ Rd w' f.la f.ln f.ls ∧ f.ln ≤ 10 ∧ Rd w' ea en els ∧ en ≤ 301 ∧ en ≤ ec ∧ Below w.heap.size w w'
set_option maxRecDepth 20000 in
set_option maxHeartbeats 8000000 in
theorem dStG (a : Option Addr) (n cp : Nat) (w : World) (h : BytesIn w a n w.heap.size) (hn : n ≤ 1048576) : Calls Try.prog 29 #[.slice a n cp] w (DrawnSG w) := by
  obtain ⟨i0, hi, iz0, iz1, iz2⟩ := info_parts infoInt
  have HBY := Lib.hid h
  clear h
  go_enter Try.func29, Try.ntmps29
  go_wp2_with fail
  have hbA : Below w.heap.size w (w.alloc (.cells #[.string ⟨#[]⟩, .int .i64 0, .int .i64 0, .int .i64 0, .int .i64 0, .slice none 0 0, .int .i64 0, .slice none 0 0] 34)) := (Below.refl _ _).alloc (Nat.le_refl _) _
  have RA : Hid (RowL (w.alloc (.cells #[.string ⟨#[]⟩, .int .i64 0, .int .i64 0, .int .i64 0, .int .i64 0, .slice none 0 0, .int .i64 0, .slice none 0 0] 34)) w.heap.size zerF) := RowL.new w 34 zerF
  have HBA := Lib.hid hbA
  refine (sFrom a n cp _ (fun hp => by obtain ⟨b, off, e, hlt, hc⟩ := HBY.out hp; exact ⟨b, off, e, by simp; omega, fun i hi => by obtain ⟨v, v0, v1, hv⟩ := hc i hi; exact ⟨v, v0, v1, (HBA.out.cell (p := ⟨b, off + i, none⟩) hlt).trans hv⟩⟩) hn).mono ?_
  rintro e w1 ⟨g, rfl, hgl, hs1, hb1⟩
  simp only [World.size_alloc] at hgl
  have K1 : Hid (SK w1 w1 g) := SK.start hs1
  have R1 := Lib.hid (RA.out.keep hb1)
  have B1 : Hid (Below w.heap.size w w1) := HBA.out.trans (hb1.mono (by simp))
  have hg1 : g < w1.heap.size := hs1.lt
  clear hs1 hb1 hbA HBA RA HBY
  go_wp2_with fail
  refine (d17Fam g _ K1.out.1).mono ?_
  rintro e w2 ⟨f, rfl, hnm, s1, s2, hk⟩
  have K2 := Lib.hid hk
  have R2 := Lib.hid (R1.out.nxt hk.2 (by omega))
  have B2 := Lib.hid (SK.below hk B1.out (by omega))
  have S1 := Lib.hid s1
  have S2 := Lib.hid s2
  have hz2 : w1.heap.size ≤ w2.heap.size := hk.2.size
  obtain ⟨hs10, hl10⟩ : f.sn ≤ 10 ∧ f.ln ≤ 10 := ⟨s1.2.1, s2.2.1⟩
  clear hk s1 s2 K1 R1 B1
  obtain ⟨b, hb⟩ : ∃ b, b = w2.heap.size := ⟨_, rfl⟩
  obtain ⟨z0_, ⟨a0, a1, a2, a3, a4, a5, a6, a7⟩, ⟨f0, f1, f2, f3, f4, f5, f6, f7⟩⟩ := R2.out.zerF
  go_wp2_with fail
  clear a0 a1 a2 a3 a4 a5 a6 a7 f0 f1 f2 f3 f4 f5 f6 f7
  obtain ⟨w3, hw3⟩ : ∃ W : World, W = w2.alloc (.cells #[.string f.nm, .int .i64 f.kd, .int .i64 f.p, .int .i64 f.q, .int .i64 f.r, .slice f.sa f.sn f.sc, .int .i64 f.col, .slice f.la f.ln f.lc] 34) := ⟨_, rfl⟩
  have hba : Below w2.heap.size w2 w3 := by rw [hw3]; exact (Below.refl _ _).alloc (Nat.le_refl _) _
  have C3 : Hid (RowL w3 b f.cells) := by rw [hw3, hb]; exact RowL.new w2 34 f.cells
  have hz3 : b < w3.heap.size := C3.out.1
  have K3 : Hid (SK w3 w3 g) := SK.start (K2.out.1.keep hba)
  have R3 := Lib.hid (R2.out.keep hba)
  have B3 : Hid (Below w.heap.size w w3) := B2.out.trans (hba.mono (by have := B2.out.size; omega))
  have T1 := Lib.hid (S1.out.keep hba)
  have T2 := Lib.hid (S2.out.keep hba)
  rw [← hw3, ← hb]
  have hwb : w.heap.size < b := by have := R2.out.1; omega
  have hgb : g < b := by omega
  clear hba hw3 hb K2 R2 B2 S1 S2
  refine (dSize g _ K3.out.1 f T1.out.1 hs10 hl10 (fun b' off e _ => by have := T1.out.2.2 b' off e; omega)).mono ?_
  rintro e w4 ⟨y, rfl, hk⟩
  have K4 := Lib.hid hk.1
  have R4 := Lib.hid (R3.out.nxt hk.2 (by omega))
  have B4 := Lib.hid (SK.below hk B3.out (by omega))
  have T14 := Lib.hid (T1.out.nxt hk.2 (by omega))
  have T24 := Lib.hid (T2.out.nxt hk.2 (by omega))
  have C4 := Lib.hid (C3.out.nxt hk.2 (by omega))
  have hz4 : w3.heap.size ≤ w4.heap.size := hk.2.size
  have hb4 : b < w4.heap.size := C4.out.1
  have hw4 : w.heap.size < w4.heap.size := R4.out.1
  have hg4 : g < w4.heap.size := K4.out.lt
  clear hk K3 R3 B3 T1 T2 C3
  have D0 : Hid (DInv w (w4.alloc (.cells #[] 2)) w4.heap.size g (.slice (some ⟨w4.heap.size, 0, none⟩) 0 0) 0 []) := DInv.start K4.out B4.out B4.out.size
  have X0 : Hid (KX w4 (w4.alloc (.cells #[] 2)) w4.heap.size g) := (KX.refl w4 w4.heap.size g).alloc (Nat.le_refl _) _
  go_wp2_with fail
  go_loopw [9, 10] (fun v i wr => ∃ (k : Nat) (zs : List Int), k ≤ 300 ∧ i = .int .i64 (k : Int) ∧ Hid (DInv w wr w4.heap.size g v k zs) ∧ Hid (KX w4 wr w4.heap.size g)) (fun _ i _ => 300 - (intOf i).toNat)
  case atStart => exact ⟨0, [], by omega, rfl, D0.out, X0.out⟩
  case round =>
  clear D0 X0
  obtain ⟨k, zs, hk3, rfl, D, X⟩ := hrel
  have hrow := X.out.rowL C4.out hb4 (by omega)
  have c6 := (hrow.2 6 _ rfl).1
  have hbr := hrow.1
  clear hrow
  have hkk : (k : Int) < 300 ∨ (300 : Int) ≤ (k : Int) := by omega
  rcases hkk with hk | hk
  all_goals go_wp2_with fail
  · refine (sNext g 32 _ D.out.2.2.1).mono ?_
    rintro e w5 ⟨x, rfl, xa, xb, -, hs, hg⟩
    have D5 := Lib.hid (D.out.nxt hg hs hg4 (by omega))
    have X5 := Lib.hid (X.out.nxt hg (Nat.le_refl _))
    have hz5 := D5.out.2.2.2.1
    clear hs hg xa xb D X c6 hbr
    go_wp2_with (at_builtin; refine wpList_append_own _ rfl _ _ 24 rfl w4.heap.size 2 i0 (.int .i64 0) 1 8 Try.underlying24 hi iz0 iz1 iz2 rfl (by decide) _ _ _ rfl (D5.out.1.alloc _) ⟨w5.heap.size, 0, none⟩ 1 1 [.int .i64 x] rfl rfl (news1S w5 _ _) (by simp [Value.oneCell']) (by unfold maxLen; omega) (by omega) (by simp; omega) ?_; intro v' w6 hown' hgrow _)
    have D6 := Lib.hid (D5.out.app hg4 (by omega) hown' hgrow)
    have X6 : Hid (KX w4 w6 w4.heap.size g) := (X5.out.alloc (Nat.le_refl _) _).grown hgrow (fun j e => (D5.out.1.lt j e).1) (Nat.le_refl _)
    clear hown' hgrow
    go_wp2
    go_roundw
    case rel => exact ⟨k + 1, zs ++ [x], by omega, by go_num, D6, X6⟩
    case measure => simp [intOf]; omega
  all_goals
    obtain ⟨m, hm, hmk⟩ : ∃ m, m ≤ 300 ∧ m = k := ⟨k, by omega, rfl⟩
    subst hmk
    have D1 := D
    have X1 := X
    clear D X c6 hbr hk
    go_wp2_with fail
    refine (sNext g 30 _ D1.out.2.2.1).mono ?_
    rintro e w5 ⟨x, rfl, xa, xb, -, hs, hg⟩
    have D5 := Lib.hid (D1.out.nxt hg hs hg4 (by omega))
    have X5 := Lib.hid (X1.out.nxt hg (Nat.le_refl _))
    have hz5 := D5.out.2.2.2.1
    clear hs hg xa xb D1 X1
    go_upto_block 2 with fail
    go_cut [9] from 38 (fun v wx => ∃ (m : Nat) (zs : List Int), m ≤ 301 ∧ Hid (DInv w wx w4.heap.size g v m zs) ∧ Hid (KX w4 wx w4.heap.size g))
    case first =>
      by_cases h0 : x = 0
      · subst h0
        go_wp2_with (at_builtin; refine wpList_append_own _ rfl _ _ 24 rfl w4.heap.size 2 i0 (.int .i64 0) 1 8 Try.underlying24 hi iz0 iz1 iz2 rfl (by decide) _ _ _ rfl (D5.out.1.alloc _) ⟨w5.heap.size, 0, none⟩ 1 1 [.int .i64 0] rfl rfl (news1S w5 _ _) (by simp [Value.oneCell']) (by unfold maxLen; omega) (by omega) (by simp; omega) ?_; intro v' w6 hown' hgrow _)
        have D6 := Lib.hid (D5.out.app hg4 (by omega) hown' hgrow)
        have X6 : Hid (KX w4 w6 w4.heap.size g) := (X5.out.alloc (Nat.le_refl _) _).grown hgrow (fun j e => (D5.out.1.lt j e).1) (Nat.le_refl _)
        clear hown' hgrow
        go_wp2_with fail
        go_meet
        case rel => exact ⟨m + 1, _, by omega, D6, X6⟩
      by_cases h1 : x = 1
      · subst h1
        rcases Nat.eq_zero_or_pos m with hm0 | hm0
        · subst hm0
          obtain ⟨va, vc, rfl⟩ := ownN_shape D5.out.1
          go_wp2_with fail
          go_meet
          case rel => exact ⟨0, zs, by omega, D5, X5⟩
        · obtain ⟨gv, c, rfl⟩ := D5.out.shape hm0
          obtain ⟨cc, cf⟩ := D5.out.cell 0 hm0
          have hmI : (0 : Int) < (m : Int) := by omega
          have hgv := (D5.out.1.lt gv rfl).1
          have hgv2 := (D5.out.1.lt gv rfl).2
          go_wp2_with fail
          go_meet
          case rel => exact ⟨m, _, by omega, Lib.hid (D5.out.set hg4 (by omega) 0 32), Lib.hid (X5.out.set (Nat.le_refl _) hgv)⟩
      have t0 : (x == 0) = false := by simpa using h0
      have t1 : (x == 1) = false := by simpa using h1
      clear h0 h1
      go_wp2_with fail
      go_meet
      case rel => exact ⟨m, zs, by omega, D5, X5⟩
    clear D5 X5 hm
    obtain ⟨m, zs, hm, D6, X6⟩ := hcut
    obtain ⟨w6, rfl⟩ : ∃ W : World, W = wc := ⟨_, rfl⟩
    obtain ⟨ea, ec, rfl⟩ := ownN_shape D6.out.1
    have C6 := Lib.hid (X6.out.rowL C4.out hb4 (by omega))
    have R6 := Lib.hid (X6.out.rowL R4.out hw4 (by omega))
    have K6 : Hid (SK w6 w6 g) := SK.start D6.out.2.2.1
    have hz6 : w4.heap.size ≤ w6.heap.size := X6.out.1
    obtain ⟨z_, ⟨a0, a1, a2, a3, a4, a5, a6, a7⟩, ⟨f0, f1, f2, f3, f4, f5, f6, f7⟩⟩ := R6.out.zerF
    have c0 := (C6.out.2 0 _ rfl).1
    have c1 := (C6.out.2 1 _ rfl).1
    have c2 := (C6.out.2 2 _ rfl).1
    have c3 := (C6.out.2 3 _ rfl).1
    have c4 := (C6.out.2 4 _ rfl).1
    have c5 := (C6.out.2 5 _ rfl).1
    have c6 := (C6.out.2 6 _ rfl).1
    have c7 := (C6.out.2 7 _ rfl).1
    have hb6 := C6.out.1
    have hne1 : ¬ (b = g) := by omega
    have hne2 : ¬ (w.heap.size = g) := by omega
    go_wp2_with fail
    go_region_law ((go_simp; refine (dLevel g _ K6.out.drew.1 f hl10).mono ?_; rintro e w7 ⟨lv, rfl, hk0⟩; have hg7 : w6.grownBy w7 (some g) := ⟨hk0.2.os, hk0.2.tape, hk0.2.output, hk0.2.size, hk0.2.block⟩; have hz7 := hg7.size; have hcx := cell_far hg7; have hfx := frozen_far hg7; have hw7 : w.heap.size < w7.heap.size := (by omega); have hb7 : b < w7.heap.size := (by omega)))
    all_goals
      clear hcx hfx a0 a1 a2 a3 a4 a5 a6 a7 f0 f1 f2 f3 f4 f5 f6 f7 c0 c1 c2 c3 c4 c5 c6 c7
      have D7 := Lib.hid (D6.out.nxt hg7 hk0.1 hg4 (by omega))
      have X7 := Lib.hid (X6.out.nxt hg7 (Nat.le_refl _))
      have R7 := Lib.hid (R6.out.nxt hg7 (by omega))
      have U1 := Lib.hid (X7.out.newS T14.out (by omega))
      have U2 := Lib.hid (X7.out.newS T24.out (by omega))
      clear hk0 hg7
      obtain ⟨W9, hW9⟩ : ∃ W : World, W = ((((((((w7.setCell ⟨w.heap.size, 0, none⟩ (.string f.nm)).setCell ⟨w.heap.size, 1, none⟩ (.int .i64 f.kd)).setCell ⟨w.heap.size, 2, none⟩ (.int .i64 f.p)).setCell ⟨w.heap.size, 3, none⟩ (.int .i64 f.q)).setCell ⟨w.heap.size, 4, none⟩ (.int .i64 f.r)).setCell ⟨w.heap.size, 5, none⟩ (.slice f.sa f.sn f.sc)).setCell ⟨w.heap.size, 6, none⟩ (.int .i64 f.col)).setCell ⟨w.heap.size, 7, none⟩ (.slice f.la f.ln f.lc)) := ⟨_, rfl⟩
      have U : RowL W9 w.heap.size [.string f.nm, .int .i64 f.kd, .int .i64 f.p, .int .i64 f.q, .int .i64 f.r, .slice f.sa f.sn f.sc, .int .i64 f.col, .slice f.la f.ln f.lc] := by rw [hW9]; exact ((((((((R7.out.set (i := 0) (by simp [zerF]) (.string f.nm)).set (i := 1) (by simp [zerF]) (.int .i64 f.kd)).set (i := 2) (by simp [zerF]) (.int .i64 f.p)).set (i := 3) (by simp [zerF]) (.int .i64 f.q)).set (i := 4) (by simp [zerF]) (.int .i64 f.r)).set (i := 5) (by simp [zerF]) (.slice f.sa f.sn f.sc)).set (i := 6) (by simp [zerF]) (.int .i64 f.col)).set (i := 7) (by simp [zerF]) (.slice f.la f.ln f.lc))
      have hBW : Below w.heap.size w W9 := by rw [hW9]; exact ((((((((D7.out.2.1.setCell (Nat.le_refl _) _).setCell (Nat.le_refl _) _).setCell (Nat.le_refl _) _).setCell (Nat.le_refl _) _).setCell (Nat.le_refl _) _).setCell (Nat.le_refl _) _).setCell (Nat.le_refl _) _).setCell (Nat.le_refl _) _)
      have V1 : NewS W9 w1.heap.size f.sa f.sn f.zs := by rw [hW9]; exact ((((((((U1.out.low (by omega)).low (by omega)).low (by omega)).low (by omega)).low (by omega)).low (by omega)).low (by omega)).low (by omega))
      have V2 : NewS W9 w1.heap.size f.la f.ln f.ls := by rw [hW9]; exact ((((((((U2.out.low (by omega)).low (by omega)).low (by omega)).low (by omega)).low (by omega)).low (by omega)).low (by omega)).low (by omega))
      have V3 : Rd W9 ea m zs := by rw [hW9]; exact own_rd (ownN_far (ownN_far (ownN_far (ownN_far (ownN_far (ownN_far (ownN_far (ownN_far D7.out.1 (by simp; omega) _) (by simp; omega) _) (by simp; omega) _) (by simp; omega) _) (by simp; omega) _) (by simp; omega) _) (by simp; omega) _) (by simp; omega) _)
      have hmc : m ≤ ec := own_capD D7.out.1
      rw [← hW9]
      clear hW9
      have r0_ := (U.2 0 _ rfl).1
      have r1_ := (U.2 1 _ rfl).1
      have r2_ := (U.2 2 _ rfl).1
      have r3_ := (U.2 3 _ rfl).1
      have r4_ := (U.2 4 _ rfl).1
      have r5_ := (U.2 5 _ rfl).1
      have r6_ := (U.2 6 _ rfl).1
      have r7_ := (U.2 7 _ rfl).1
      go_wp2_with fail
      refine bodyPost_ret (v := .tuple #[.agg #[.string f.nm, .int .i64 f.kd, .int .i64 f.p, .int .i64 f.q, .int .i64 f.r, .slice f.sa f.sn f.sc, .int .i64 f.col, .slice f.la f.ln f.lc], .int .i64 y, .int .i64 lv, .slice ea m ec]) (by simp [results, Try.results29, go_sem, r0_, r1_, r2_, r3_, r4_, r5_, r6_, r7_]) rfl ?_
      exact ⟨f, y, lv, ea, m, ec, zs, rfl, hnm, V1.1, hs10, V2.1, hl10, V3, hm, hmc, hBW⟩
end Go.Proofs.Ytenelpollcabnaa
