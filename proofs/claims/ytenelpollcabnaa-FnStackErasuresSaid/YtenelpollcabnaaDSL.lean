/-
  DERIVED. spec.DrawStackElements.
-/
import Derived.Test.YtenelpollcabnaaDSE
namespace Go.Proofs.Ytenelpollcabnaa
open Go.RowKit
set_option linter.unusedVariables false
/-- A family and a grid, drawn out of bytes. -/
def DrawnSL (w0 : World) (e : Ending) (w' : World) : Prop := ∃ (f : FamR) (r c : Int) (ga : Option Addr) (gn gc : Nat) (gs : List Int), e = .returned (.tuple #[.agg #[.string f.nm, .int .i64 f.kd, .int .i64 f.p, .int .i64 f.q, .int .i64 f.r, .slice f.sa f.sn f.sc, .int .i64 f.col, .slice f.la f.ln f.lc], .agg #[.int .i64 r, .int .i64 c, .slice ga gn gc]]) ∧ f.nm.size ≤ 100 ∧ Rd w' f.sa f.sn f.zs ∧ f.sn ≤ 10 ∧ Rd w' f.la f.ln f.ls ∧ f.ln ≤ 10 ∧ Rd w' ga gn gs ∧ gn ≤ 4000 ∧ gn ≤ gc ∧ gc ≤ maxLen ∧ Below w0.heap.size w0 w'
set_option maxRecDepth 20000 in
set_option maxHeartbeats 8000000 in
theorem dSL (a : Option Addr) (n cp : Nat) (w : World) (h : BytesIn w a n w.heap.size) (hn : n ≤ 1048576) : Calls Try.prog 19 #[.slice a n cp] w (DrawnSL w) := by
  have HBY := Lib.hid h
  clear h
  obtain ⟨wA, hwA⟩ : ∃ W : World, W = (w.alloc (.cells #[.string ⟨#[]⟩, .int .i64 0, .int .i64 0, .int .i64 0, .int .i64 0, .slice none 0 0, .int .i64 0, .slice none 0 0] 34)).alloc (.cells #[.int .i64 0, .int .i64 0, .slice none 0 0] 29) := ⟨_, rfl⟩
  have hba : Below w.heap.size w wA := by rw [hwA]; repeat' (first | (with_reducible exact Below.refl _ _) | (with_reducible assumption) | (with_reducible refine Below.alloc ?_ ?_ _) | (with_reducible refine Below.setCell ?_ ?_ _) | (with_reducible refine Below.drew ?_) | (with_reducible refine below_drewN ?_ _) | (with_reducible refine below_via (by with_reducible assumption) ?_ ?_) | go_size)
  have RA : Hid (RowL wA w.heap.size zerF) := by rw [hwA]; exact (RowL.new w 34 zerF).alloc _
  have RG : Hid (RowL wA (w.heap.size + 1) zerG) := by
    rw [hwA]
    have := RowL.new (w.alloc (.cells #[.string ⟨#[]⟩, .int .i64 0, .int .i64 0, .int .i64 0, .int .i64 0, .slice none 0 0, .int .i64 0, .slice none 0 0] 34)) 29 zerG
    rw [World.size_alloc] at this
    exact this
  have hzA : w.heap.size + 2 ≤ wA.heap.size := by rw [hwA]; simp
  have HBA := Lib.hid hba
  clear hba
  go_enter Try.func19, Try.ntmps19
  go_upto_region 1 with (fail)
  rw [← hwA]
  clear hwA
  go_wp2_with fail
  refine (sFrom a n cp _ (fun hp => by obtain ⟨b, off, e, hlt, hc⟩ := HBY.out hp; exact ⟨b, off, e, by omega, fun i hi => by obtain ⟨v, v0, v1, hv⟩ := hc i hi; exact ⟨v, v0, v1, (HBA.out.cell (p := ⟨b, off + i, none⟩) hlt).trans hv⟩⟩) hn).mono ?_
  rintro e w1 ⟨g, rfl, hgl, hs1, hb1⟩
  have R1 := Lib.hid (RA.out.keep hb1)
  have Q1 := Lib.hid (RG.out.keep hb1)
  have hB1 := Lib.hid hb1
  have HS1 := Lib.hid hs1
  have hz1 := hb1.size
  clear hb1 hs1 RA RG HBY
  go_wp2_with fail
  refine (dSE g w1 HS1.out wA hB1.out hgl).mono ?_
  rintro e w2 ⟨f, r, c, ga, gn, gc, gs, rfl, hnm, s1, hs10, s2, hl10, hr, hgf, gn4, gcp, gcm, hB⟩
  have R2 : RowL w2 w.heap.size zerF := by
    have h1 := R1.out
    have e := hB.block w.heap.size (by omega)
    have e2 := hB1.out.block w.heap.size (by omega)
    exact ⟨by have := hB.size; omega, fun j v hj => ⟨(World.cell?_of_block (a := ⟨w.heap.size, j, none⟩) (e.trans e2.symm)).trans (h1.2 j v hj).1, (World.frozen?_of_block (a := ⟨w.heap.size, j, none⟩) (e.trans e2.symm)).trans (h1.2 j v hj).2⟩⟩
  have Q2 : RowL w2 (w.heap.size + 1) zerG := by
    have h1 := Q1.out
    have e := hB.block (w.heap.size + 1) (by omega)
    have e2 := hB1.out.block (w.heap.size + 1) (by omega)
    exact ⟨by have := hB.size; omega, fun j v hj => ⟨(World.cell?_of_block (a := ⟨w.heap.size + 1, j, none⟩) (e.trans e2.symm)).trans (h1.2 j v hj).1, (World.frozen?_of_block (a := ⟨w.heap.size + 1, j, none⟩) (e.trans e2.symm)).trans (h1.2 j v hj).2⟩⟩
  have T1 := s1.mono hzA
  have T2 := s2.mono hzA
  have hgf2 : ∀ b off, ga = some ⟨b, off, none⟩ → w.heap.size + 2 ≤ b := fun b off e => Nat.le_trans hzA (hgf b off e)
  have hB2 : Below w.heap.size w w2 := HBA.out.trans (hB.mono (by omega))
  have HH := Lib.hid (And.intro R2 (And.intro Q2 (And.intro T1 (And.intro T2 (And.intro hr (And.intro hgf2 hB2))))))
  clear s1 s2 hgf hB R1 Q1 hB1 HS1
  obtain ⟨z_, ⟨a0, a1, a2, a3, a4, a5, a6, a7⟩, ⟨f0, f1, f2, f3, f4, f5, f6, f7⟩⟩ := R2.zerF
  obtain ⟨y_, ⟨m0, m1, m2⟩, ⟨n0, n1, n2⟩⟩ := Q2.at3
  clear R2 Q2 T1 T2 hr hgf2 hB2
  go_wp2_with fail
  clear a0 a1 a2 a3 a4 a5 a6 a7 f0 f1 f2 f3 f4 f5 f6 f7 m0 m1 m2 n0 n1 n2
  obtain ⟨R2, Q2, T1, T2, hr, hgf2, hB2⟩ := HH.out
  obtain ⟨W9, hW9⟩ : ∃ W : World, W = (((((((((((w2.setCell ⟨w.heap.size, 0, none⟩ (.string f.nm)).setCell ⟨w.heap.size, 1, none⟩ (.int .i64 f.kd)).setCell ⟨w.heap.size, 2, none⟩ (.int .i64 f.p)).setCell ⟨w.heap.size, 3, none⟩ (.int .i64 f.q)).setCell ⟨w.heap.size, 4, none⟩ (.int .i64 f.r)).setCell ⟨w.heap.size, 5, none⟩ (.slice f.sa f.sn f.sc)).setCell ⟨w.heap.size, 6, none⟩ (.int .i64 f.col)).setCell ⟨w.heap.size, 7, none⟩ (.slice f.la f.ln f.lc)).setCell ⟨w.heap.size + 1, 0, none⟩ (.int .i64 r)).setCell ⟨w.heap.size + 1, 1, none⟩ (.int .i64 c)).setCell ⟨w.heap.size + 1, 2, none⟩ (.slice ga gn gc)) := ⟨_, rfl⟩
  obtain ⟨UA, UG, U1, U2, U3, UF, UB⟩ := fin_se (A := w.heap.size) (f : FamR) R2 Q2 T1 T2 hr hgf2 hB2 (Nat.le_refl _) hW9
  rw [← hW9]
  clear hW9
  have r0_ := (UA.2 0 _ rfl).1
  have r1_ := (UA.2 1 _ rfl).1
  have r2_ := (UA.2 2 _ rfl).1
  have r3_ := (UA.2 3 _ rfl).1
  have r4_ := (UA.2 4 _ rfl).1
  have r5_ := (UA.2 5 _ rfl).1
  have r6_ := (UA.2 6 _ rfl).1
  have r7_ := (UA.2 7 _ rfl).1
  have q0_ := (UG.2 0 _ rfl).1
  have q1_ := (UG.2 1 _ rfl).1
  have q2_ := (UG.2 2 _ rfl).1
  go_wp2_with fail
  (try simp only [Exit.then])
  (try simp only [Exit.inBlock])
  (try simp only [Exit.then])
  refine bodyPost_ret (v := .tuple #[.agg #[.string f.nm, .int .i64 f.kd, .int .i64 f.p, .int .i64 f.q, .int .i64 f.r, .slice f.sa f.sn f.sc, .int .i64 f.col, .slice f.la f.ln f.lc], .agg #[.int .i64 r, .int .i64 c, .slice ga gn gc]]) (by simp [results, Try.results19, go_sem, r0_, r1_, r2_, r3_, r4_, r5_, r6_, r7_, q0_, q1_, q2_]) rfl ?_
  exact ⟨f, _, _, _, _, _, _, rfl, hnm, U1.1, hs10, U2.1, hl10, U3, gn4, gcp, gcm, UB⟩
end Go.Proofs.Ytenelpollcabnaa
