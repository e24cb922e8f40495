/-
  DERIVED. Families that are drawn: spec.l17DrawFamily, l13DrawSize, l13DrawLevel.
-/
import Derived.Test.YtenelpollcabnaaDFamQ
import Derived.Deep.RegionLaw
namespace Go.Proofs.Ytenelpollcabnaa
open Go.RowKit
set_option linter.unusedVariables false
set_option maxRecDepth 20000 in
set_option maxHeartbeats 8000000 in
theorem d17Fam (g : Nat) (w : World) (h : Src w g) : Calls Try.prog 56 #[.pointer (some ⟨g, 0, none⟩)] w (DrawnFam w g) := by
  have hgw := h.lt
  have K0 : Hid (SK w w g) := SK.start h
  clear h
  go_enter Try.func56, Try.ntmps56
  go_wp2_with fail
  have KA := Lib.hid (K0.out.alloc (.cells #[.string ⟨#[]⟩, .int .i64 0, .int .i64 0, .int .i64 0, .int .i64 0, .slice none 0 0, .int .i64 0, .slice none 0 0] 34))
  have RA : Hid (RowL (w.alloc (.cells #[.string ⟨#[]⟩, .int .i64 0, .int .i64 0, .int .i64 0, .int .i64 0, .slice none 0 0, .int .i64 0, .slice none 0 0] 34)) w.heap.size zerF) := RowL.new w 34 zerF
  refine (sNext g 16 _ KA.out.1).mono ?_
  rintro e w0 ⟨y, rfl, ya, yb, -, hs, hg⟩
  have KB := Lib.hid (KA.out.nxt hg hs)
  have RB := Lib.hid (RA.out.nxt hg (by omega))
  have hw0 : w.heap.size < w0.heap.size := RB.out.1
  clear hs hg ya yb KA RA K0
  by_cases hy : y = 0
  · subst hy
    go_wp2_with fail
    refine (d13Any g _ KB.out.1).mono ?_
    rintro e w2 ⟨f, rfl, hnm, s1, s2, hk⟩
    have K2 : Hid (SK w w2 g) := KB.out.nxt hk.2 hk.1
    have R2 := Lib.hid (RB.out.nxt hk.2 (by omega))
    have T1 : Hid (NewS w2 (w.heap.size + 1) f.sa f.sn f.zs) := s1.mono (by omega)
    have T2 : Hid (NewS w2 (w.heap.size + 1) f.la f.ln f.ls) := s2.mono (by omega)
    clear hk s1 s2 KB RB
    obtain ⟨z_, ⟨a0, a1, a2, a3, a4, a5, a6, a7⟩, ⟨f0, f1, f2, f3, f4, f5, f6, f7⟩⟩ := R2.out.zerF
    go_wp2_with fail
    clear a0 a1 a2 a3 a4 a5 a6 a7 f0 f1 f2 f3 f4 f5 f6 f7
    obtain ⟨W9, hW9⟩ : ∃ W : World, W = ((((((((w2.setCell ⟨w.heap.size, 0, none⟩ (.string f.nm)).setCell ⟨w.heap.size, 1, none⟩ (.int .i64 f.kd)).setCell ⟨w.heap.size, 2, none⟩ (.int .i64 f.p)).setCell ⟨w.heap.size, 3, none⟩ (.int .i64 f.q)).setCell ⟨w.heap.size, 4, none⟩ (.int .i64 f.r)).setCell ⟨w.heap.size, 5, none⟩ (.slice f.sa f.sn f.sc)).setCell ⟨w.heap.size, 6, none⟩ (.int .i64 f.col)).setCell ⟨w.heap.size, 7, none⟩ (.slice f.la f.ln f.lc)) := ⟨_, rfl⟩
    have U : RowL W9 w.heap.size [.string f.nm, .int .i64 f.kd, .int .i64 f.p, .int .i64 f.q, .int .i64 f.r, .slice f.sa f.sn f.sc, .int .i64 f.col, .slice f.la f.ln f.lc] := by rw [hW9]; exact ((((((((R2.out.set (i := 0) (by simp [zerF]) (.string f.nm)).set (i := 1) (by simp [zerF]) (.int .i64 f.kd)).set (i := 2) (by simp [zerF]) (.int .i64 f.p)).set (i := 3) (by simp [zerF]) (.int .i64 f.q)).set (i := 4) (by simp [zerF]) (.int .i64 f.r)).set (i := 5) (by simp [zerF]) (.slice f.sa f.sn f.sc)).set (i := 6) (by simp [zerF]) (.int .i64 f.col)).set (i := 7) (by simp [zerF]) (.slice f.la f.ln f.lc))
    have KU : Hid (SK w W9 g) := by unfold Hid; rw [hW9]; exact (by repeat' (first | with_reducible exact K2.out | with_reducible exact hgw | with_reducible exact Nat.le_refl _ | with_reducible refine SK.alloc ?_ _ | with_reducible refine SK.set ?_ ?_ ?_ | omega))
    have S1 : NewS W9 (w.heap.size + 1) f.sa f.sn f.zs := by rw [hW9]; exact ((((((((T1.out.low (by omega)).low (by omega)).low (by omega)).low (by omega)).low (by omega)).low (by omega)).low (by omega)).low (by omega))
    have S2 : NewS W9 (w.heap.size + 1) f.la f.ln f.ls := by rw [hW9]; exact ((((((((T2.out.low (by omega)).low (by omega)).low (by omega)).low (by omega)).low (by omega)).low (by omega)).low (by omega)).low (by omega))
    rw [← hW9]
    clear hW9
    have r0_ := (U.2 0 _ rfl).1
    have r1_ := (U.2 1 _ rfl).1
    have r2_ := (U.2 2 _ rfl).1
    have r3_ := (U.2 3 _ rfl).1
    have r4_ := (U.2 4 _ rfl).1
    have r5_ := (U.2 5 _ rfl).1
    have r6_ := (U.2 6 _ rfl).1
    have r7_ := (U.2 7 _ rfl).1
    refine bodyPost_ret (v := .agg #[.string f.nm, .int .i64 f.kd, .int .i64 f.p, .int .i64 f.q, .int .i64 f.r, .slice f.sa f.sn f.sc, .int .i64 f.col, .slice f.la f.ln f.lc]) (by simp [results, Try.results56, go_sem, r0_, r1_, r2_, r3_, r4_, r5_, r6_, r7_]) rfl ?_
    exact ⟨f, rfl, hnm, S1.mono (by omega), S2.mono (by omega), KU.out⟩
  have hy2 : (y == 0) = false := by simpa using hy
  clear hy
  go_wp2_with fail
  refine (sLibrary _).mono ?_
  rintro e w1 ⟨gl, rfl, hgl1, hgl2, hF, hb⟩
  have K1 := Lib.hid (KB.out.keep hb)
  have R1 := Lib.hid (RB.out.keep hb)
  have HF := Lib.hid hF
  replace hgl1 : w.heap.size + 1 ≤ gl := by omega
  clear hb hF KB RB
  go_wp2_with fail
  refine (sNext g 2 _ K1.out.1).mono ?_
  rintro e w2 ⟨x, rfl, xa, xb, -, hs, hg⟩
  have K2 := Lib.hid (K1.out.nxt hg hs)
  have R2 := Lib.hid (R1.out.nxt hg (by omega))
  have xc := xb (by omega)
  obtain ⟨k, rfl⟩ := Int.eq_ofNat_of_zero_le xa
  obtain ⟨nm, kd, p, q0, r, sa, sn, sc, zs, col, la, ln, lc, ls, hnm, s1, s2, c0, c1, c2, c3, c4, c5, c6, c7⟩ := HF.out (3 + k) (by omega)
  obtain ⟨q, hq⟩ : ∃ q, 3 + k = q := ⟨_, rfl⟩
  rw [hq] at c0 c1 c2 c3 c4 c5 c6 c7
  have hq5 : q < 5 := by omega
  have hqI2 : 3 + (k : Int) = (q : Int) := by omega
  replace c0 := cell_nxt c0 hg (by omega)
  replace c1 := cell_nxt c1 hg (by omega)
  replace c2 := cell_nxt c2 hg (by omega)
  replace c3 := cell_nxt c3 hg (by omega)
  replace c4 := cell_nxt c4 hg (by omega)
  replace c5 := cell_nxt c5 hg (by omega)
  replace c6 := cell_nxt c6 hg (by omega)
  replace c7 := cell_nxt c7 hg (by omega)
  have T1 := Lib.hid ((NewS.nxt s1 hg (by omega)).mono (show w.heap.size + 1 ≤ _ by omega))
  have T2 := Lib.hid ((NewS.nxt s2 hg (by omega)).mono (show w.heap.size + 1 ≤ _ by omega))
  have hgl3 : gl < w2.heap.size := Nat.lt_of_lt_of_le hgl2 hg.size
  clear hs hg xb s1 s2 K1 R1 HF hq
  obtain ⟨z_, ⟨a0, a1, a2, a3, a4, a5, a6, a7⟩, ⟨f0, f1, f2, f3, f4, f5, f6, f7⟩⟩ := ((⟨K2.out, R2.out⟩ : SK w w2 g ∧ RowL w2 w.heap.size zerF)).2.zerF
  go_wp2_with fail
  clear a0 a1 a2 a3 a4 a5 a6 a7 f0 f1 f2 f3 f4 f5 f6 f7 c0 c1 c2 c3 c4 c5 c6 c7
  obtain ⟨W9, hW9⟩ : ∃ W : World, W = ((((((((w2.setCell ⟨w.heap.size, 0, none⟩ (.string nm)).setCell ⟨w.heap.size, 1, none⟩ (.int .i64 kd)).setCell ⟨w.heap.size, 2, none⟩ (.int .i64 p)).setCell ⟨w.heap.size, 3, none⟩ (.int .i64 q0)).setCell ⟨w.heap.size, 4, none⟩ (.int .i64 r)).setCell ⟨w.heap.size, 5, none⟩ (.slice sa sn sc)).setCell ⟨w.heap.size, 6, none⟩ (.int .i64 col)).setCell ⟨w.heap.size, 7, none⟩ (.slice la ln lc)) := ⟨_, rfl⟩
  have U : RowL W9 w.heap.size [.string nm, .int .i64 kd, .int .i64 p, .int .i64 q0, .int .i64 r, .slice sa sn sc, .int .i64 col, .slice la ln lc] := by rw [hW9]; exact ((((((((R2.out.set (i := 0) (by simp [zerF]) (.string nm)).set (i := 1) (by simp [zerF]) (.int .i64 kd)).set (i := 2) (by simp [zerF]) (.int .i64 p)).set (i := 3) (by simp [zerF]) (.int .i64 q0)).set (i := 4) (by simp [zerF]) (.int .i64 r)).set (i := 5) (by simp [zerF]) (.slice sa sn sc)).set (i := 6) (by simp [zerF]) (.int .i64 col)).set (i := 7) (by simp [zerF]) (.slice la ln lc))
  have KU : Hid (SK w W9 g) := by unfold Hid; rw [hW9]; exact (by repeat' (first | with_reducible exact K2.out | with_reducible exact hgw | with_reducible exact Nat.le_refl _ | with_reducible refine SK.alloc ?_ _ | with_reducible refine SK.set ?_ ?_ ?_ | omega))
  have S1 : NewS W9 (w.heap.size + 1) sa sn zs := by rw [hW9]; exact ((((((((T1.out.low (by omega)).low (by omega)).low (by omega)).low (by omega)).low (by omega)).low (by omega)).low (by omega)).low (by omega))
  have S2 : NewS W9 (w.heap.size + 1) la ln ls := by rw [hW9]; exact ((((((((T2.out.low (by omega)).low (by omega)).low (by omega)).low (by omega)).low (by omega)).low (by omega)).low (by omega)).low (by omega))
  rw [← hW9]
  clear hW9
  have r0_ := (U.2 0 _ rfl).1
  have r1_ := (U.2 1 _ rfl).1
  have r2_ := (U.2 2 _ rfl).1
  have r3_ := (U.2 3 _ rfl).1
  have r4_ := (U.2 4 _ rfl).1
  have r5_ := (U.2 5 _ rfl).1
  have r6_ := (U.2 6 _ rfl).1
  have r7_ := (U.2 7 _ rfl).1
  refine bodyPost_ret (v := .agg #[.string nm, .int .i64 kd, .int .i64 p, .int .i64 q0, .int .i64 r, .slice sa sn sc, .int .i64 col, .slice la ln lc]) (by simp [results, Try.results56, go_sem, r0_, r1_, r2_, r3_, r4_, r5_, r6_, r7_]) rfl ?_
  exact ⟨⟨nm, kd, p, q0, r, sa, sn, sc, zs, col, la, ln, lc, ls⟩, rfl, hnm, S1.mono (by omega), S2.mono (by omega), KU.out⟩
theorem nxt_lt {n k : Nat} (h0 : 0 < n) (zb : 1 < (n : Int) → (k : Int) < (n : Int)) (zd : (n : Int) ≤ 1 → (k : Int) = 0) : k < n := by
  rcases Nat.lt_or_ge 1 n with h | h
  · have := zb (by omega); omega
  · have := zd (by omega); omega
theorem lit2 (a b : Int) {k : Nat} (h : k < 2) : ∃ y : Int, (#[Value.int .i64 a, .int .i64 b] : Array Value)[k]? = some (.int .i64 y) := by
  rcases (by omega : k = 0 ∨ k = 1) with rfl | rfl <;> exact ⟨_, rfl⟩
theorem cell_far {w w1 : World} {g : Nat} (hg : w.grownBy w1 (some g)) : ∀ b o, b < w.heap.size → b ≠ g → w1.cell? ⟨b, o, none⟩ = w.cell? ⟨b, o, none⟩ :=
  fun b o h1 h2 => World.cell?_of_block (a := ⟨b, o, none⟩) (hg.block b h1 (fun e => h2 (Option.some.inj e)))
/-- A number, the source moved on. -/
def DrawnInt (w : World) (g : Nat) (e : Ending) (w' : World) : Prop := ∃ y : Int, e = .returned (.int .i64 y) ∧ SK w w' g
set_option maxRecDepth 20000 in
set_option maxHeartbeats 8000000 in
theorem dSize (g : Nat) (w : World) (h : Src w g) (f : FamR) (h1 : Rd w f.sa f.sn f.zs) (hn1 : f.sn ≤ 10) (hn2 : f.ln ≤ 10) (hb1 : ∀ b off, f.sa = some ⟨b, off, none⟩ → 0 < f.sn → b ≠ g) : Calls Try.prog 57 #[.pointer (some ⟨g, 0, none⟩), .agg #[.string f.nm, .int .i64 f.kd, .int .i64 f.p, .int .i64 f.q, .int .i64 f.r, .slice f.sa f.sn f.sc, .int .i64 f.col, .slice f.la f.ln f.lc]] w (DrawnInt w g) := by
  have hgw := h.lt
  have K0 : Hid (SK w w g) := SK.start h
  have H1 := Lib.hid h1
  have HB := Lib.hid hb1
  clear h h1 hb1
  have KA := Lib.hid (K0.out.alloc (.cells #[.string f.nm, .int .i64 f.kd, .int .i64 f.p, .int .i64 f.q, .int .i64 f.r, .slice f.sa f.sn f.sc, .int .i64 f.col, .slice f.la f.ln f.lc] 34))
  have RA : Hid (RowL (w.alloc (.cells #[.string f.nm, .int .i64 f.kd, .int .i64 f.p, .int .i64 f.q, .int .i64 f.r, .slice f.sa f.sn f.sc, .int .i64 f.col, .slice f.la f.ln f.lc] 34)) w.heap.size f.cells) := RowL.new w 34 f.cells
  rcases Nat.eq_zero_or_pos f.sn with h0 | h0
  · have hq : ((f.sn : Int) == 0) = true := by rw [h0]; rfl
    clear h0
    go_enter Try.func57, Try.ntmps57
    go_wp2_with fail
    have K3 := Lib.hid (KA.out.alloc (.cells (vals [0, 3, 17, 18, 45]) 2))
    have L3 := Lib.hid (LitF.new (w.alloc (.cells #[.string f.nm, .int .i64 f.kd, .int .i64 f.p, .int .i64 f.q, .int .i64 f.r, .slice f.sa f.sn f.sc, .int .i64 f.col, .slice f.la f.ln f.lc] 34)) 2 [0, 3, 17, 18, 45])
    rw [World.size_alloc] at L3
    refine (sNext g 5 _ K3.out.1).mono ?_
    rintro e w4 ⟨z, rfl, za, zb, -, hs, hg⟩
    have K4 := Lib.hid (K3.out.nxt hg hs)
    have L4 := Lib.hid (L3.out.nxt hg (by omega))
    have zc := zb (by omega)
    obtain ⟨k, rfl⟩ := Int.eq_ofNat_of_zero_le za
    have hk : k < 5 := by omega
    have hcy := L4.out.2 k hk
    have hlb := L4.out.1
    obtain ⟨y, hy⟩ : ∃ y, ([0, 3, 17, 18, 45] : List Int).getD k 0 = y := ⟨_, rfl⟩
    rw [hy] at hcy
    clear hs hg zb za K3 L3 KA RA L4 hy
    go_wp2
    go_returns
    exact ⟨y, rfl, K4.out⟩
  · have hq : ((f.sn : Int) == 0) = false := by simp; omega
    go_enter Try.func57, Try.ntmps57
    go_wp2_with fail
    refine (sNext g 20 _ KA.out.1).mono ?_
    rintro e w2 ⟨x, rfl, xa, xb, -, hs, hg⟩
    have KA := Lib.hid (KA.out.nxt hg hs)
    have RA := Lib.hid (RA.out.nxt hg (by omega))
    have hz2 : w.heap.size < w2.heap.size := RA.out.1
    have hg2 : g < w2.heap.size := KA.out.lt
    clear hs hg xa xb
    by_cases hx : x = 0
    · subst hx
      go_wp2_with fail
      have K3 := Lib.hid (KA.out.alloc (.cells (vals [0, 3, 17, 18, 45]) 2))
      have L3 := Lib.hid (LitF.new w2 2 [0, 3, 17, 18, 45])
      refine (sNext g 5 _ K3.out.1).mono ?_
      rintro e w4 ⟨z, rfl, za, zb, -, hs, hg⟩
      have K4 := Lib.hid (K3.out.nxt hg hs)
      have L4 := Lib.hid (L3.out.nxt hg (by omega))
      have zc := zb (by omega)
      obtain ⟨k, rfl⟩ := Int.eq_ofNat_of_zero_le za
      have hk : k < 5 := by omega
      have hcy := L4.out.2 k hk
      have hlb := L4.out.1
      obtain ⟨y, hy⟩ : ∃ y, ([0, 3, 17, 18, 45] : List Int).getD k 0 = y := ⟨_, rfl⟩
      rw [hy] at hcy
      clear hs hg zb za K3 L3 KA RA L4 hy
      go_wp2
      go_returns
      exact ⟨y, rfl, K4.out⟩
    have hx2 : (x == 0) = false := by simpa using hx
    clear hx
    obtain ⟨b, off, hab, hbl, hcz⟩ := H1.out.2 h0
    have hbg := HB.out b off hab h0
    have c5 := (RA.out.2 5 _ rfl).1
    have hbl2 : b < w2.heap.size := Nat.lt_of_lt_of_le hbl (Nat.le_trans (Nat.le_refl _) (KA.out.2.size))
    have HZ : Hid (∀ i, i < f.sn → w2.cell? ⟨b, off + i, none⟩ = some (.int .i64 (f.zs.getD i 0))) := fun i hi => cell_nxt (hcz i hi) KA.out.2 hbg
    rw [hab] at c5
    have HAB := Lib.hid hab
    clear hcz hab
    go_wp2_with fail
    go_region_law ((go_simp; refine (sNext g f.sn _ KA.out.drew.1).mono ?_; rintro e w4 ⟨z, rfl, za, zb, zd, hs, hg⟩; have hk4 : SK w w4 g := KA.out.drew.nxt hg hs; have hg4 : w2.grownBy w4 (some g) := ⟨hg.os, hg.tape, hg.output, hg.size, hg.block⟩; obtain ⟨k, rfl⟩ := Int.eq_ofNat_of_zero_le za; have hkn : k < f.sn := nxt_lt h0 zb zd; have hkn2 : (k : Int) < (f.sn : Int) := (by omega); have hcy : w4.cell? ⟨b, off + k, none⟩ = _ := cell_nxt (HZ.out k hkn) hg4 hbg; have hbl4 : b < w4.heap.size := Nat.lt_of_lt_of_le hbl2 hg4.size; have c54 : w4.cell? ⟨w.heap.size, 5, none⟩ = some (.slice (some ⟨b, off, none⟩) f.sn f.sc) := cell_nxt c5 hg4 (by omega)))
    all_goals
      go_wp2
      go_returns
      exact ⟨_, rfl, hk4⟩
set_option maxRecDepth 20000 in
set_option maxHeartbeats 8000000 in
theorem dLevel (g : Nat) (w : World) (h : Src w g) (f : FamR) (hn2 : f.ln ≤ 10) : Calls Try.prog 59 #[.pointer (some ⟨g, 0, none⟩), .agg #[.string f.nm, .int .i64 f.kd, .int .i64 f.p, .int .i64 f.q, .int .i64 f.r, .slice f.sa f.sn f.sc, .int .i64 f.col, .slice f.la f.ln f.lc]] w (DrawnInt w g) := by
  have hgw := h.lt
  have K0 : Hid (SK w w g) := SK.start h
  clear h
  have KA := Lib.hid (K0.out.alloc (.cells #[.string f.nm, .int .i64 f.kd, .int .i64 f.p, .int .i64 f.q, .int .i64 f.r, .slice f.sa f.sn f.sc, .int .i64 f.col, .slice f.la f.ln f.lc] 34))
  have RA : Hid (RowL (w.alloc (.cells #[.string f.nm, .int .i64 f.kd, .int .i64 f.p, .int .i64 f.q, .int .i64 f.r, .slice f.sa f.sn f.sc, .int .i64 f.col, .slice f.la f.ln f.lc] 34)) w.heap.size f.cells) := RowL.new w 34 f.cells
  go_enter Try.func59, Try.ntmps59
  go_wp2_with fail
  refine (sNext g 20 _ KA.out.1).mono ?_
  rintro e w2 ⟨x, rfl, xa, xb, -, hs, hg⟩
  have KA := Lib.hid (KA.out.nxt hg hs)
  have RA := Lib.hid (RA.out.nxt hg (by omega))
  have hz2 : w.heap.size < w2.heap.size := RA.out.1
  have hg2 : g < w2.heap.size := KA.out.lt
  have c7 := (RA.out.2 7 _ rfl).1
  clear hs hg xa xb
  by_cases hx : x = 0
  · subst hx
    have hne : ¬ (w2.heap.size = g) := by omega
    have hne2 : ¬ (w.heap.size = g) := by omega
    go_wp2_with fail
    go_region_law ((go_simp; refine (sNext g 2 _ (show SK w _ g by repeat' (first | with_reducible exact KA.out | with_reducible refine SK.drew ?_ | with_reducible refine SK.alloc ?_ _)).1).mono ?_; rintro e w4 ⟨z, rfl, za, zb, -, hs, hg⟩; have hk4 : SK w w4 g := (show SK w _ g by repeat' (first | with_reducible exact KA.out | with_reducible refine SK.drew ?_ | with_reducible refine SK.alloc ?_ _)).nxt hg hs; obtain ⟨k, rfl⟩ := Int.eq_ofNat_of_zero_le za; have hk1 : (k : Int) < 2 := zb (by omega); have hk2 : k < 2 := (by omega); obtain ⟨y, hy⟩ : ∃ y : Int, (#[Value.int .i64 (-1), .int .i64 (f.ln : Int)] : Array Value)[k]? = some (.int .i64 y) := (lit2 _ _ hk2); have hg4 := hg.size; (try simp at hg4); have hcx := cell_far hg; (try simp at hcx)))
    all_goals
      clear hy
      rcases (by omega : k = 0 ∨ k = 1) with rfl | rfl
    all_goals
      go_wp2
      go_returns
      exact ⟨_, rfl, by repeat' (first | with_reducible exact hk4 | with_reducible refine SK.drew ?_ | with_reducible refine SK.alloc ?_ _)⟩
  · have hx2 : (x == 0) = false := by simpa using hx
    clear hx
    go_wp2_with fail
    refine (sNext g f.ln _ KA.out.1).mono ?_
    rintro e w4 ⟨z, rfl, za, zb, -, hs, hg⟩
    have K4 := Lib.hid (KA.out.nxt hg hs)
    clear hs hg za zb
    go_wp2
    go_returns
    exact ⟨_, rfl, K4.out⟩
end Go.Proofs.Ytenelpollcabnaa
