/-
  DERIVED. DFam, DFam2.
-/
import Derived.Test.YtenelpollcabnaaDFld
import Derived.Test.YtenelpollcabnaaRegI
import Derived.Deep.RegionHeld3
import Derived.Conc.MuLone
namespace Go.Proofs.Ytenelpollcabnaa
open Go.RowKit
set_option linter.unusedVariables false
structure FamR where
  nm : ByteArray
  kd : Int
  p : Int
  q : Int
  r : Int
  sa : Option Addr
  sn : Nat
  sc : Nat
  zs : List Int
  col : Int
  la : Option Addr
  ln : Nat
  lc : Nat
  ls : List Int
def FamR.cells (f : FamR) : List Value := [.string f.nm, .int .i64 f.kd, .int .i64 f.p, .int .i64 f.q, .int .i64 f.r, .slice f.sa f.sn f.sc, .int .i64 f.col, .slice f.la f.ln f.lc]
def zerF : List Value := [.string ⟨#[]⟩, .int .i64 0, .int .i64 0, .int .i64 0, .int .i64 0, .slice none 0 0, .int .i64 0, .slice none 0 0]
theorem NewS.far {w : World} {B n b i : Nat} {v : Value} {a : Option Addr} {zs : List Int} (h : NewS w B a n zs) (hb : ∀ b' off, a = some ⟨b', off, none⟩ → 0 < n → b' ≠ b) : NewS (w.setCell ⟨b, i, none⟩ v) B a n zs :=
  ⟨rd_nxt h.1 (g := b) (only_setCell (World.grownBy.refl w (some b)) v) hb, h.2⟩
theorem NewS.low {w : World} {B n b i : Nat} {v : Value} {a : Option Addr} {zs : List Int} (h : NewS w B a n zs) (hb : b < B) : NewS (w.setCell ⟨b, i, none⟩ v) B a n zs :=
  h.far (fun b' off e _ => by have := h.2.2 b' off e; omega)
/-- The same, and not in the block x. -/
def NewX (w : World) (B x : Nat) (a : Option Addr) (n : Nat) (zs : List Int) : Prop := NewS w B a n zs ∧ ∀ b off, a = some ⟨b, off, none⟩ → 0 < n → b ≠ x
theorem NewX.set {w : World} {B x n i : Nat} {v : Value} {a : Option Addr} {zs : List Int} (h : NewX w B x a n zs) : NewX (w.setCell ⟨x, i, none⟩ v) B x a n zs := ⟨h.1.far h.2, h.2⟩
theorem NewX.of {w : World} {B n : Nat} {a : Option Addr} {zs : List Int} (h : NewS w B a n zs) (o : Obj) : NewX (w.alloc o) B w.heap.size a n zs :=
  ⟨h.keep ((Below.refl _ _).alloc (Nat.le_refl _) o), fun b off e hn => by
    obtain ⟨b', off', e', hlt, _⟩ := h.1.2 hn
    rw [e] at e'
    injection e' with e'
    injection e' with e1 _
    omega⟩
theorem NewX.blk {w : World} {B x g n : Nat} {zs : List Int} (h : Blk w g 2 (vals zs)) (hn : zs.length = n) (h10 : n ≤ 10) (hB : B ≤ g) (hx : g ≠ x) : NewX w B x (some ⟨g, 0, none⟩) n zs :=
  ⟨NewS.blk h hn h10 hB, fun b off e _ => by injection e with e; injection e with e _; omega⟩
theorem NewX.nil (w : World) (B x : Nat) : NewX w B x none 0 [] := ⟨NewS.nil w B, fun b off e _ => by cases e⟩
/-- A family in the box b, the source g at hand. -/
def PF (w wr : World) (g b : Nat) (f : FamR) : Prop := SK w wr g ∧ RowL wr b f.cells ∧ RowL wr w.heap.size zerF ∧ f.nm.size ≤ 100 ∧ NewX wr (w.heap.size + 1) b f.sa f.sn f.zs ∧ NewX wr (w.heap.size + 1) b f.la f.ln f.ls ∧ g < w.heap.size ∧ w.heap.size < b
theorem PF.nxt {w wr w1 : World} {g b : Nat} {f : FamR} (h : PF w wr g b f) (hg : wr.grownBy w1 (some g)) (hs : Src w1 g) : PF w w1 g b f := by
  obtain ⟨h1, h2, h3, h4, h5, h6, h7, h8⟩ := h
  exact ⟨h1.nxt hg hs, h2.nxt hg (by omega), h3.nxt hg (by omega), h4, ⟨h5.1.nxt hg (by omega), h5.2⟩, ⟨h6.1.nxt hg (by omega), h6.2⟩, h7, h8⟩
theorem PF.keep {w wr w1 : World} {g b : Nat} {f : FamR} (h : PF w wr g b f) (hb : Below wr.heap.size wr w1) : PF w w1 g b f := by
  obtain ⟨h1, h2, h3, h4, h5, h6, h7, h8⟩ := h
  exact ⟨h1.keep hb, h2.keep hb, h3.keep hb, h4, ⟨h5.1.keep hb, h5.2⟩, ⟨h6.1.keep hb, h6.2⟩, h7, h8⟩
theorem PF.alloc {w wr : World} {g b : Nat} {f : FamR} (h : PF w wr g b f) (o : Obj) : PF w (wr.alloc o) g b f := h.keep ((Below.refl _ _).alloc (Nat.le_refl _) o)
theorem PF.drew {w wr : World} {g b : Nat} {f : FamR} (h : PF w wr g b f) : PF w wr.drew g b f := h.keep ((Below.refl _ _).drew)
theorem PF.set {w wr : World} {g b i : Nat} {f f' : FamR} {v : Value} (h : PF w wr g b f) (hi : i < 8) (hc : f.cells.set i v = f'.cells) (hn : f'.nm.size ≤ 100) (h5' : NewX wr (w.heap.size + 1) b f'.sa f'.sn f'.zs) (h6' : NewX wr (w.heap.size + 1) b f'.la f'.ln f'.ls) : PF w (wr.setCell ⟨b, i, none⟩ v) g b f' := by
  obtain ⟨h1, h2, h3, h4, h5, h6, h7, h8⟩ := h
  refine ⟨h1.set (by omega) h7, ?_, h3.far (by omega), hn, h5'.set, h6'.set, h7, h8⟩
  rw [← hc]
  exact h2.set (by simpa [FamR.cells] using hi) v
theorem PF.setI {w wr : World} {g b i : Nat} {f f' : FamR} {y : Int} (h : PF w wr g b f) (hi : i < 8) (hc : f.cells.set i (.int .i64 y) = f'.cells) (e1 : f'.nm = f.nm) (e2 : f'.sa = f.sa ∧ f'.sn = f.sn ∧ f'.zs = f.zs) (e3 : f'.la = f.la ∧ f'.ln = f.ln ∧ f'.ls = f.ls) : PF w (wr.setCell ⟨b, i, none⟩ (.int .i64 y)) g b f' := by
  refine h.set hi hc (by rw [e1]; exact h.2.2.2.1) ?_ ?_
  · rw [e2.1, e2.2.1, e2.2.2]; exact h.2.2.2.2.1
  · rw [e3.1, e3.2.1, e3.2.2]; exact h.2.2.2.2.2.1
theorem PF.row {w wr : World} {g b : Nat} {f : FamR} (h : PF w wr g b f) : b < wr.heap.size ∧ (wr.cell? ⟨b, 0, none⟩ = some (.string f.nm) ∧ wr.cell? ⟨b, 1, none⟩ = some (.int .i64 f.kd) ∧ wr.cell? ⟨b, 2, none⟩ = some (.int .i64 f.p) ∧ wr.cell? ⟨b, 3, none⟩ = some (.int .i64 f.q) ∧ wr.cell? ⟨b, 4, none⟩ = some (.int .i64 f.r) ∧ wr.cell? ⟨b, 5, none⟩ = some (.slice f.sa f.sn f.sc) ∧ wr.cell? ⟨b, 6, none⟩ = some (.int .i64 f.col) ∧ wr.cell? ⟨b, 7, none⟩ = some (.slice f.la f.ln f.lc)) ∧ (wr.frozen? ⟨b, 0, none⟩ = false ∧ wr.frozen? ⟨b, 1, none⟩ = false ∧ wr.frozen? ⟨b, 2, none⟩ = false ∧ wr.frozen? ⟨b, 3, none⟩ = false ∧ wr.frozen? ⟨b, 4, none⟩ = false ∧ wr.frozen? ⟨b, 5, none⟩ = false ∧ wr.frozen? ⟨b, 6, none⟩ = false ∧ wr.frozen? ⟨b, 7, none⟩ = false) :=
  ⟨h.2.1.1, ⟨(h.2.1.2 0 _ rfl).1, (h.2.1.2 1 _ rfl).1, (h.2.1.2 2 _ rfl).1, (h.2.1.2 3 _ rfl).1, (h.2.1.2 4 _ rfl).1, (h.2.1.2 5 _ rfl).1, (h.2.1.2 6 _ rfl).1, (h.2.1.2 7 _ rfl).1⟩, ⟨(h.2.1.2 0 _ rfl).2, (h.2.1.2 1 _ rfl).2, (h.2.1.2 2 _ rfl).2, (h.2.1.2 3 _ rfl).2, (h.2.1.2 4 _ rfl).2, (h.2.1.2 5 _ rfl).2, (h.2.1.2 6 _ rfl).2, (h.2.1.2 7 _ rfl).2⟩⟩
theorem PF.zer {w wr : World} {g b : Nat} {f : FamR} (h : PF w wr g b f) : w.heap.size < wr.heap.size ∧ (wr.cell? ⟨w.heap.size, 0, none⟩ = some (.string ⟨#[]⟩) ∧ wr.cell? ⟨w.heap.size, 1, none⟩ = some (.int .i64 0) ∧ wr.cell? ⟨w.heap.size, 2, none⟩ = some (.int .i64 0) ∧ wr.cell? ⟨w.heap.size, 3, none⟩ = some (.int .i64 0) ∧ wr.cell? ⟨w.heap.size, 4, none⟩ = some (.int .i64 0) ∧ wr.cell? ⟨w.heap.size, 5, none⟩ = some (.slice none 0 0) ∧ wr.cell? ⟨w.heap.size, 6, none⟩ = some (.int .i64 0) ∧ wr.cell? ⟨w.heap.size, 7, none⟩ = some (.slice none 0 0)) ∧ (wr.frozen? ⟨w.heap.size, 0, none⟩ = false ∧ wr.frozen? ⟨w.heap.size, 1, none⟩ = false ∧ wr.frozen? ⟨w.heap.size, 2, none⟩ = false ∧ wr.frozen? ⟨w.heap.size, 3, none⟩ = false ∧ wr.frozen? ⟨w.heap.size, 4, none⟩ = false ∧ wr.frozen? ⟨w.heap.size, 5, none⟩ = false ∧ wr.frozen? ⟨w.heap.size, 6, none⟩ = false ∧ wr.frozen? ⟨w.heap.size, 7, none⟩ = false) :=
  ⟨h.2.2.1.1, ⟨(h.2.2.1.2 0 _ rfl).1, (h.2.2.1.2 1 _ rfl).1, (h.2.2.1.2 2 _ rfl).1, (h.2.2.1.2 3 _ rfl).1, (h.2.2.1.2 4 _ rfl).1, (h.2.2.1.2 5 _ rfl).1, (h.2.2.1.2 6 _ rfl).1, (h.2.2.1.2 7 _ rfl).1⟩, ⟨(h.2.2.1.2 0 _ rfl).2, (h.2.2.1.2 1 _ rfl).2, (h.2.2.1.2 2 _ rfl).2, (h.2.2.1.2 3 _ rfl).2, (h.2.2.1.2 4 _ rfl).2, (h.2.2.1.2 5 _ rfl).2, (h.2.2.1.2 6 _ rfl).2, (h.2.2.1.2 7 _ rfl).2⟩⟩
def DrawnFam (w : World) (g : Nat) (e : Ending) (w' : World) : Prop := ∃ f : FamR, e = .returned (.agg #[.string f.nm, .int .i64 f.kd, .int .i64 f.p, .int .i64 f.q, .int .i64 f.r, .slice f.sa f.sn f.sc, .int .i64 f.col, .slice f.la f.ln f.lc]) ∧ f.nm.size ≤ 100 ∧ NewS w' w.heap.size f.sa f.sn f.zs ∧ NewS w' w.heap.size f.la f.ln f.ls ∧ SK w w' g
theorem RowL.zerF {w wr : World} (h : RowL wr w.heap.size zerF) : w.heap.size < wr.heap.size ∧ (wr.cell? ⟨w.heap.size, 0, none⟩ = some (.string ⟨#[]⟩) ∧ wr.cell? ⟨w.heap.size, 1, none⟩ = some (.int .i64 0) ∧ wr.cell? ⟨w.heap.size, 2, none⟩ = some (.int .i64 0) ∧ wr.cell? ⟨w.heap.size, 3, none⟩ = some (.int .i64 0) ∧ wr.cell? ⟨w.heap.size, 4, none⟩ = some (.int .i64 0) ∧ wr.cell? ⟨w.heap.size, 5, none⟩ = some (.slice none 0 0) ∧ wr.cell? ⟨w.heap.size, 6, none⟩ = some (.int .i64 0) ∧ wr.cell? ⟨w.heap.size, 7, none⟩ = some (.slice none 0 0)) ∧ (wr.frozen? ⟨w.heap.size, 0, none⟩ = false ∧ wr.frozen? ⟨w.heap.size, 1, none⟩ = false ∧ wr.frozen? ⟨w.heap.size, 2, none⟩ = false ∧ wr.frozen? ⟨w.heap.size, 3, none⟩ = false ∧ wr.frozen? ⟨w.heap.size, 4, none⟩ = false ∧ wr.frozen? ⟨w.heap.size, 5, none⟩ = false ∧ wr.frozen? ⟨w.heap.size, 6, none⟩ = false ∧ wr.frozen? ⟨w.heap.size, 7, none⟩ = false) :=
  ⟨h.1, ⟨(h.2 0 _ rfl).1, (h.2 1 _ rfl).1, (h.2 2 _ rfl).1, (h.2 3 _ rfl).1, (h.2 4 _ rfl).1, (h.2 5 _ rfl).1, (h.2 6 _ rfl).1, (h.2 7 _ rfl).1⟩, ⟨(h.2 0 _ rfl).2, (h.2 1 _ rfl).2, (h.2 2 _ rfl).2, (h.2 3 _ rfl).2, (h.2 4 _ rfl).2, (h.2 5 _ rfl).2, (h.2 6 _ rfl).2, (h.2 7 _ rfl).2⟩⟩
set_option maxRecDepth 20000 in
set_option maxHeartbeats 8000000 in
theorem d13 (g : Nat) (w : World) (h : Src w g) : Calls Try.prog 94 #[.pointer (some ⟨g, 0, none⟩)] w (DrawnFam w g) := by
  have hgw := h.lt
  have K0 : Hid (SK w w g) := SK.start h
  clear h
  go_enter Try.func94, Try.ntmps94
  go_wp2_with fail
  have KA := Lib.hid (K0.out.alloc (.cells #[.string ⟨#[]⟩, .int .i64 0, .int .i64 0, .int .i64 0, .int .i64 0, .slice none 0 0, .int .i64 0, .slice none 0 0] 34))
  have RA : Hid (RowL (w.alloc (.cells #[.string ⟨#[]⟩, .int .i64 0, .int .i64 0, .int .i64 0, .int .i64 0, .slice none 0 0, .int .i64 0, .slice none 0 0] 34)) w.heap.size zerF) := RowL.new w 34 zerF
  refine (sLibrary _).mono ?_
  rintro e w1 ⟨gl, rfl, hgl1, hgl2, hF, hb⟩
  have K1 := Lib.hid (KA.out.keep hb)
  have R1 := Lib.hid (RA.out.keep hb)
  have HF := Lib.hid hF
  simp only [World.size_alloc] at hgl1
  clear hb hF KA RA K0
  go_wp2_with fail
  refine (sNext g 5 _ K1.out.1).mono ?_
  rintro e w2 ⟨x, rfl, xa, xb, -, hs, hg⟩
  have K2 := Lib.hid (K1.out.nxt hg hs)
  have R2 := Lib.hid (R1.out.nxt hg (by omega))
  have xc := xb (by omega)
  obtain ⟨k, rfl⟩ := Int.eq_ofNat_of_zero_le xa
  obtain ⟨nm, kd, p, q0, r, sa, sn, sc, zs, col, la, ln, lc, ls, hnm, s1, s2, c0, c1, c2, c3, c4, c5, c6, c7⟩ := HF.out (k) (by omega)
  obtain ⟨q, hq⟩ : ∃ q, k = q := ⟨_, rfl⟩
  rw [hq] at c0 c1 c2 c3 c4 c5 c6 c7
  have hq5 : q < 5 := by omega
  have hqI : (q : Int) = (k : Int) := by omega
  have hqk : k = q := by omega
  subst hqk
  replace c0 := cell_nxt c0 hg (by omega)
  replace c1 := cell_nxt c1 hg (by omega)
  replace c2 := cell_nxt c2 hg (by omega)
  replace c3 := cell_nxt c3 hg (by omega)
  replace c4 := cell_nxt c4 hg (by omega)
  replace c5 := cell_nxt c5 hg (by omega)
  replace c6 := cell_nxt c6 hg (by omega)
  replace c7 := cell_nxt c7 hg (by omega)
  have T1 := Lib.hid (NewS.nxt s1 hg (by simp; omega))
  have T2 := Lib.hid (NewS.nxt s2 hg (by simp; omega))
  simp only [World.size_alloc] at T1 T2
  have hgl3 : gl < w2.heap.size := Nat.lt_of_lt_of_le hgl2 hg.size
  clear hs hg xb s1 s2 K1 R1 HF hq
  obtain ⟨z_, ⟨a0, a1, a2, a3, a4, a5, a6, a7⟩, ⟨f0, f1, f2, f3, f4, f5, f6, f7⟩⟩ := ((⟨K2.out, R2.out⟩ : SK w w2 g ∧ RowL w2 w.heap.size zerF)).2.zerF
  go_wp2_with fail
  clear a0 a1 a2 a3 a4 a5 a6 a7 f0 f1 f2 f3 f4 f5 f6 f7 c0 c1 c2 c3 c4 c5 c6 c7
  obtain ⟨W9, hW9⟩ : ∃ W : World, W = ((((((((w2.setCell ⟨w.heap.size, 0, none⟩ (.string nm)).setCell ⟨w.heap.size, 1, none⟩ (.int .i64 kd)).setCell ⟨w.heap.size, 2, none⟩ (.int .i64 p)).setCell ⟨w.heap.size, 3, none⟩ (.int .i64 q0)).setCell ⟨w.heap.size, 4, none⟩ (.int .i64 r)).setCell ⟨w.heap.size, 5, none⟩ (.slice sa sn sc)).setCell ⟨w.heap.size, 6, none⟩ (.int .i64 col)).setCell ⟨w.heap.size, 7, none⟩ (.slice la ln lc)) := ⟨_, rfl⟩
  have U : RowL W9 w.heap.size [.string nm, .int .i64 kd, .int .i64 p, .int .i64 q0, .int .i64 r, .slice sa sn sc, .int .i64 col, .slice la ln lc] := by rw [hW9]; exact ((((((((R2.out.set (i := 0) (by simp [zerF]) (.string nm)).set (i := 1) (by simp [zerF]) (.int .i64 kd)).set (i := 2) (by simp [zerF]) (.int .i64 p)).set (i := 3) (by simp [zerF]) (.int .i64 q0)).set (i := 4) (by simp [zerF]) (.int .i64 r)).set (i := 5) (by simp [zerF]) (.slice sa sn sc)).set (i := 6) (by simp [zerF]) (.int .i64 col)).set (i := 7) (by simp [zerF]) (.slice la ln lc))
  have KU : Hid (SK w W9 g) := by unfold Hid; rw [hW9]; exact (by repeat' (first | with_reducible exact K2.out | with_reducible exact hgw | with_reducible exact Nat.le_refl _ | with_reducible refine SK.alloc ?_ _ | with_reducible refine SK.set ?_ ?_ ?_ | omega))
  have S1 : NewS W9 (w.heap.size + 1) sa sn zs := by rw [hW9]; exact ((((((((T1.out.low (by omega)).low (by omega)).low (by omega)).low (by omega)).low (by omega)).low (by omega)).low (by omega)).low (by omega))
  have S2 : NewS W9 (w.heap.size + 1) la ln ls := by rw [hW9]; exact ((((((((T2.out.low (by omega)).low (by omega)).low (by omega)).low (by omega)).low (by omega)).low (by omega)).low (by omega)).low (by omega))
  rw [← hW9]
  clear hW9
  have r0_ := (U.2 0 _ rfl).1
  have r1_ := (U.2 1 _ rfl).1
  have r2_ := (U.2 2 _ rfl).1
  have r3_ := (U.2 3 _ rfl).1
  have r4_ := (U.2 4 _ rfl).1
  have r5_ := (U.2 5 _ rfl).1
  have r6_ := (U.2 6 _ rfl).1
  have r7_ := (U.2 7 _ rfl).1
  refine bodyPost_ret (v := .agg #[.string nm, .int .i64 kd, .int .i64 p, .int .i64 q0, .int .i64 r, .slice sa sn sc, .int .i64 col, .slice la ln lc]) (by simp [results, Try.results94, go_sem, r0_, r1_, r2_, r3_, r4_, r5_, r6_, r7_]) rfl ?_
  exact ⟨⟨nm, kd, p, q0, r, sa, sn, sc, zs, col, la, ln, lc, ls⟩, rfl, hnm, S1.mono (by omega), S2.mono (by omega), KU.out⟩
end Go.Proofs.Ytenelpollcabnaa
namespace Go.Proofs.Ytenelpollcabnaa
open Go.RowKit
set_option linter.unusedVariables false
theorem PF.setS {w wr : World} {g b : Nat} {f : FamR} {s : ByteArray} (h : PF w wr g b f) (hs : s.size ≤ 100) : PF w (wr.setCell ⟨b, 0, none⟩ (.string s)) g b { f with nm := s } :=
  h.set (f' := { f with nm := s }) (by omega) rfl hs h.2.2.2.2.1 h.2.2.2.2.2.1
theorem PF.setZ {w wr : World} {g b n c : Nat} {a : Option Addr} {zs : List Int} {f : FamR} (h : PF w wr g b f) (hn : NewX wr (w.heap.size + 1) b a n zs) : PF w (wr.setCell ⟨b, 5, none⟩ (.slice a n c)) g b { f with sa := a, sn := n, sc := c, zs := zs } :=
  h.set (f' := { f with sa := a, sn := n, sc := c, zs := zs }) (by omega) rfl h.2.2.2.1 hn h.2.2.2.2.2.1
theorem PF.setL {w wr : World} {g b n c : Nat} {a : Option Addr} {zs : List Int} {f : FamR} (h : PF w wr g b f) (hn : NewX wr (w.heap.size + 1) b a n zs) : PF w (wr.setCell ⟨b, 7, none⟩ (.slice a n c)) g b { f with la := a, ln := n, lc := c, ls := zs } :=
  h.set (f' := { f with la := a, ln := n, lc := c, ls := zs }) (by omega) rfl h.2.2.2.1 h.2.2.2.2.1 hn
theorem NewX.nxt {w w' : World} {B x n g : Nat} {a : Option Addr} {zs : List Int} (h : NewX w B x a n zs) (hg : w.grownBy w' (some g)) (hgB : g < B) : NewX w' B x a n zs := ⟨h.1.nxt hg hgB, h.2⟩
theorem Blk.nxt {w w1 : World} {b g : Nat} {t : TypeId} {cs : Array Value} (h : Blk w b t cs) (hg : w.grownBy w1 (some g)) (hb : b ≠ g) : Blk w1 b t cs := (hg.block b h.lt (fun e => hb (by injection e))).trans h
set_option maxRecDepth 20000 in
set_option maxHeartbeats 8000000 in
theorem d13Any (g : Nat) (w : World) (h : Src w g) : Calls Try.prog 79 #[.pointer (some ⟨g, 0, none⟩)] w (DrawnFam w g) := by
  have hgw := h.lt
  have K0 : Hid (SK w w g) := SK.start h
  clear h
  go_enter Try.func79, Try.ntmps79
  go_wp2_with fail
  have KA := Lib.hid (K0.out.alloc (.cells #[.string ⟨#[]⟩, .int .i64 0, .int .i64 0, .int .i64 0, .int .i64 0, .slice none 0 0, .int .i64 0, .slice none 0 0] 34))
  have RA : Hid (RowL (w.alloc (.cells #[.string ⟨#[]⟩, .int .i64 0, .int .i64 0, .int .i64 0, .int .i64 0, .slice none 0 0, .int .i64 0, .slice none 0 0] 34)) w.heap.size zerF) := RowL.new w 34 zerF
  refine (d13 g _ KA.out.1).mono ?_
  rintro e w1 ⟨f, rfl, hnm, s1, s2, hk⟩
  have K1 : Hid (SK w w1 g) := KA.out.nxt hk.2 hk.1
  have R1 := Lib.hid (RA.out.nxt hk.2 (by omega))
  simp only [World.size_alloc] at s1 s2
  have hz1 : w.heap.size < w1.heap.size := R1.out.1
  have hg1 : g < w1.heap.size := K1.out.lt
  obtain ⟨b, hb⟩ : ∃ b, b = w1.heap.size := ⟨_, rfl⟩
  have P1 : Hid (PF w (w1.alloc (.cells #[.string f.nm, .int .i64 f.kd, .int .i64 f.p, .int .i64 f.q, .int .i64 f.r, .slice f.sa f.sn f.sc, .int .i64 f.col, .slice f.la f.ln f.lc] 34)) g b f) := by
    unfold Hid
    rw [hb]
    exact ⟨K1.out.alloc _, RowL.new w1 34 f.cells, R1.out.alloc _, hnm, NewX.of s1 _, NewX.of s2 _, hgw, hz1⟩
  clear hk KA RA K0 s1 s2 K1 R1
  go_wp2_with fail
  refine (sNext g 24 _ P1.out.1.1).mono ?_
  rintro e w2 ⟨x, rfl, xa, xb, -, hs, hg⟩
  have P2 := Lib.hid (P1.out.nxt hg hs)
  have hg2 : g < w2.heap.size := hs.lt
  rw [← hb]
  have hwb : w.heap.size < b := by omega
  have hgb : g < b := by omega
  clear hs hg xb xa P1 hb hz1 hg1 w1
  go_upto_block 0 with fail
  go_cut [] from 10 (fun wx => ∃ f' : FamR, Hid (PF w wx g b f'))
  case first =>
    by_cases h0 : x = 0
    · subst h0
      have P3 := Lib.hid (P2.out.alloc (.cells #[.string ⟨#[]⟩, .string ⟨#[110, 105, 110, 101]⟩, .string ⟨#[110, 105, 110, 101, 99, 104, 97, 114, 115]⟩, .string ⟨#[84, 105, 108, 101]⟩] 9))
      have L3 : Hid (Blk (w2.alloc (.cells #[.string ⟨#[]⟩, .string ⟨#[110, 105, 110, 101]⟩, .string ⟨#[110, 105, 110, 101, 99, 104, 97, 114, 115]⟩, .string ⟨#[84, 105, 108, 101]⟩] 9)) w2.heap.size 9 #[.string ⟨#[]⟩, .string ⟨#[110, 105, 110, 101]⟩, .string ⟨#[110, 105, 110, 101, 99, 104, 97, 114, 115]⟩, .string ⟨#[84, 105, 108, 101]⟩]) := Blk.new w2 9 _
      go_wp2_with fail
      refine (sNext g 4 _ P3.out.1.1).mono ?_
      rintro e w4 ⟨z, rfl, za, zb, -, hs, hg⟩
      have P4 := Lib.hid (P3.out.nxt hg hs)
      have zc := zb (by omega)
      obtain ⟨k, rfl⟩ := Int.eq_ofNat_of_zero_le za
      have hk : k < 4 := by omega
      have L4 := Lib.hid (L3.out.nxt hg (by omega))
      obtain ⟨s, hs1, hs2⟩ : ∃ s : ByteArray, s.size ≤ 100 ∧ (#[Value.string ⟨#[]⟩, Value.string ⟨#[110, 105, 110, 101]⟩, Value.string ⟨#[110, 105, 110, 101, 99, 104, 97, 114, 115]⟩, Value.string ⟨#[84, 105, 108, 101]⟩] : Array Value)[k]? = some (.string s) := by
        rcases (by omega : k = 0 ∨ k = 1 ∨ k = 2 ∨ k = 3) with e | e | e | e <;> rw [e] <;> exact ⟨_, by decide, rfl⟩
      have hcs := (L4.out.cell k).trans hs2
      have hlb := L4.out.lt
      clear zb hs hg P3 L3 P2 hs2 L4
      obtain ⟨bz, ⟨d0, d1, d2, d3, d4, d5, d6, d7⟩, ⟨e0, e1, e2, e3, e4, e5, e6, e7⟩⟩ := P4.out.row
      go_wp2_with fail
      go_meet
      exact ⟨_, Lib.hid (P4.out.setS hs1)⟩
    by_cases h1 : x = 1
    · subst h1
      go_upto_region 6 with fail
      refine wp_region_inv (fun d ac wz => ∃ (u20 u21 u22 u23 u24 u25 u26 u27 u28 : Value), ac = ({ tmps := List.toArray (.pointer (some ⟨g, 0, none⟩) :: undef :: .pointer (some ⟨w.heap.size, 0, none⟩) :: .pointer (some ⟨b, 0, none⟩) :: undef :: undef :: .pointer (some ⟨g, 0, none⟩) :: .agg #[.string f.nm, .int .i64 f.kd, .int .i64 f.p, .int .i64 f.q, .int .i64 f.r, .slice f.sa f.sn f.sc, .int .i64 f.col, .slice f.la f.ln f.lc] :: .pointer (some ⟨g, 0, none⟩) :: .int .i64 1 :: .bool false :: .bool false :: undef :: undef :: undef :: undef :: undef :: undef :: .bool true :: .bool true :: u20 :: u21 :: u22 :: u23 :: u24 :: u25 :: u26 :: u27 :: u28 :: undef :: undef :: undef :: undef :: undef :: undef :: undef :: undef :: undef :: undef :: undef :: undef :: undef :: undef :: undef :: undef :: undef :: undef :: undef :: undef :: undef :: undef :: undef :: undef :: undef :: undef :: undef :: undef :: undef :: undef :: undef :: undef :: undef :: undef :: undef :: undef :: undef :: undef :: undef :: undef :: undef :: undef :: undef :: undef :: undef :: undef :: undef :: undef :: undef :: undef :: undef :: undef :: []), defers := [] } : Act) ∧ (∃ y : Int, PF w wz g b { f with kd := y }) ∧ (d 0 = true → u20 = .pointer (some ⟨b, 1, none⟩)) ∧ (d 1 = true → ∃ y : Int, u21 = .int .i64 y) ∧ (d 2 = true → ∃ y : Int, u22 = .int .i64 y) ∧ (d 3 = true → ∃ (h : Nat) (y : Int), u23 = .slice (some ⟨h, 0, none⟩) 3 3 ∧ g < h ∧ b < h ∧ LitF wz h [0, 3, y]) ∧ (d 4 = true → u24 = .pointer (some ⟨g, 0, none⟩)) ∧ (d 5 = true → ∃ q : Nat, u25 = .int .i64 (q : Int) ∧ q < 3) ∧ (d 6 = true → ∃ (h q : Nat) (y : Int), u26 = .pointer (some ⟨h, q, none⟩) ∧ g < h ∧ b < h ∧ h < wz.heap.size ∧ wz.cell? ⟨h, q, none⟩ = some (.int .i64 y)) ∧ (d 7 = true → ∃ y : Int, u27 = .int .i64 y) ∧ (d 8 = true → u28 = .pointer (some ⟨b, 1, none⟩))) (by kernel_rfl) (by kernel_rfl) ?_ ?_ ?_
      · exact ⟨_, _, _, _, _, _, _, _, _, rfl, ⟨f.kd, P2.out.drew⟩, (fun h => by cases h), (fun h => by cases h), (fun h => by cases h), (fun h => by cases h), (fun h => by cases h), (fun h => by cases h), (fun h => by cases h), (fun h => by cases h), (fun h => by cases h)⟩
      · refine Steps.cons (fun d a wz hI hd hdep K hK' => ?_) ?_
        · obtain ⟨u20, u21, u22, u23, u24, u25, u26, u27, u28, rfl, hP, f0, f1, f2, f3, f4, f5, f6, f7, f8⟩ := hI
          go_simp
          refine hK' _ _ ⟨_, _, _, _, _, _, _, _, _, rfl, hP, (fun _ => rfl), f1, f2, f3, f4, f5, f6, f7, f8⟩
        refine Steps.cons (fun d a wz hI hd hdep K hK' => ?_) ?_
        · obtain ⟨u20, u21, u22, u23, u24, u25, u26, u27, u28, rfl, hP, f0, f1, f2, f3, f4, f5, f6, f7, f8⟩ := hI
          have q0 := f0 (hdep 0 rfl)
          subst q0
          obtain ⟨y, hy⟩ := hP
          have c0 : wz.cell? ⟨b, 1, none⟩ = some (.int .i64 y) := hy.row.2.1.2.1
          have hP : (∃ y : Int, PF w wz g b { f with kd := y }) := ⟨y, hy⟩
          clear hy
          go_simp
          refine hK' _ _ ⟨_, _, _, _, _, _, _, _, _, rfl, hP, f0, (fun _ => ⟨_, rfl⟩), f2, f3, f4, f5, f6, f7, f8⟩
        refine Steps.cons (fun d a wz hI hd hdep K hK' => ?_) ?_
        · obtain ⟨u20, u21, u22, u23, u24, u25, u26, u27, u28, rfl, hP, f0, f1, f2, f3, f4, f5, f6, f7, f8⟩ := hI
          obtain ⟨y, q0⟩ := f1 (hdep 1 rfl)
          subst q0
          go_simp
          refine hK' _ _ ⟨_, _, _, _, _, _, _, _, _, rfl, hP, f0, f1, (fun _ => ⟨_, rfl⟩), f3, f4, f5, f6, f7, f8⟩
        refine Steps.cons (fun d a wz hI hd hdep K hK' => ?_) ?_
        · obtain ⟨u20, u21, u22, u23, u24, u25, u26, u27, u28, rfl, hP, f0, f1, f2, f3, f4, f5, f6, f7, f8⟩ := hI
          obtain ⟨y0, q0⟩ := f2 (hdep 2 rfl)
          subst q0
          obtain ⟨y, hy⟩ := hP
          have hgz := hy.1.1.lt
          have hbz := hy.2.1.1
          have hal := (Below.refl wz.heap.size wz).alloc (Nat.le_refl _) (.cells #[.int .i64 0, .int .i64 3, .int .i64 y0] 2)
          have hLA := LitF.new wz 2 [0, 3, y0]
          have hpa := hy.alloc (.cells #[.int .i64 0, .int .i64 3, .int .i64 y0] 2)
          clear hy
          go_simp
          refine hK' _ _ ⟨_, _, _, _, _, _, _, _, _, rfl, (⟨y, hpa⟩), f0, f1, f2, (fun _ => ⟨wz.heap.size, y0, rfl, hgz, hbz, hLA⟩), f4, f5, (fun h => by obtain ⟨h0, q0, y, e1, e2, e3, e4, e5⟩ := f6 h; exact ⟨h0, q0, y, e1, e2, e3, Nat.lt_of_lt_of_le e4 hal.size, (hal.cell (p := ⟨h0, q0, none⟩) e4).trans e5⟩), f7, f8⟩
        refine Steps.cons (fun d a wz hI hd hdep K hK' => ?_) ?_
        · obtain ⟨u20, u21, u22, u23, u24, u25, u26, u27, u28, rfl, hP, f0, f1, f2, f3, f4, f5, f6, f7, f8⟩ := hI
          go_simp
          refine hK' _ _ ⟨_, _, _, _, _, _, _, _, _, rfl, hP, f0, f1, f2, f3, (fun _ => rfl), f5, f6, f7, f8⟩
        refine Steps.cons (fun d a wz hI hd hdep K hK' => ?_) ?_
        · obtain ⟨u20, u21, u22, u23, u24, u25, u26, u27, u28, rfl, hP, f0, f1, f2, f3, f4, f5, f6, f7, f8⟩ := hI
          have q0 := f4 (hdep 4 rfl)
          subst q0
          obtain ⟨y, hy⟩ := hP
          go_simp
          refine (sNext g 3 wz hy.1.1).mono ?_
          rintro e w1' ⟨x', rfl, xa, xb, -, hs1, hg1⟩
          have xc := xb (by omega)
          obtain ⟨q, rfl⟩ := Int.eq_ofNat_of_zero_le xa
          refine hK' _ _ ⟨_, _, _, _, _, _, _, _, _, rfl, (⟨y, hy.nxt hg1 hs1⟩), f0, f1, f2, (fun h => by obtain ⟨h0, y, e1, e2, e3, e4⟩ := f3 h; exact ⟨h0, y, e1, e2, e3, e4.nxt hg1 (by omega)⟩), f4, (fun _ => ⟨q, rfl, by omega⟩), (fun h => by obtain ⟨h0, q0, y, e1, e2, e3, e4, e5⟩ := f6 h; exact ⟨h0, q0, y, e1, e2, e3, Nat.lt_of_lt_of_le e4 hg1.size, cell_nxt e5 hg1 (by omega)⟩), f7, f8⟩
        refine Steps.cons (fun d a wz hI hd hdep K hK' => ?_) ?_
        · obtain ⟨u20, u21, u22, u23, u24, u25, u26, u27, u28, rfl, hP, f0, f1, f2, f3, f4, f5, f6, f7, f8⟩ := hI
          obtain ⟨h0, y0, q5, e2, e3, e4⟩ := f3 (hdep 3 rfl)
          subst q5
          obtain ⟨q, q7, hq⟩ := f5 (hdep 5 rfl)
          subst q7
          have hq2 : (q : Int) < 3 := by omega
          have hq3 : (0 : Int) ≤ (q : Int) := by omega
          have hy := e4.2 q hq
          go_simp
          refine hK' _ _ ⟨_, _, _, _, _, _, _, _, _, rfl, hP, f0, f1, f2, f3, f4, f5, (fun _ => ⟨h0, q, _, rfl, e2, e3, e4.1, hy⟩), f7, f8⟩
        refine Steps.cons (fun d a wz hI hd hdep K hK' => ?_) ?_
        · obtain ⟨u20, u21, u22, u23, u24, u25, u26, u27, u28, rfl, hP, f0, f1, f2, f3, f4, f5, f6, f7, f8⟩ := hI
          obtain ⟨h0, q, y, q8, e2, e3, e4, e5⟩ := f6 (hdep 6 rfl)
          subst q8
          go_simp
          refine hK' _ _ ⟨_, _, _, _, _, _, _, _, _, rfl, hP, f0, f1, f2, f3, f4, f5, f6, (fun _ => ⟨y, rfl⟩), f8⟩
        refine Steps.cons (fun d a wz hI hd hdep K hK' => ?_) ?_
        · obtain ⟨u20, u21, u22, u23, u24, u25, u26, u27, u28, rfl, hP, f0, f1, f2, f3, f4, f5, f6, f7, f8⟩ := hI
          go_simp
          refine hK' _ _ ⟨_, _, _, _, _, _, _, _, _, rfl, hP, f0, f1, f2, f3, f4, f5, f6, f7, (fun _ => rfl)⟩
        refine Steps.cons (fun d a wz hI hd hdep K hK' => ?_) ?_
        · obtain ⟨u20, u21, u22, u23, u24, u25, u26, u27, u28, rfl, hP, f0, f1, f2, f3, f4, f5, f6, f7, f8⟩ := hI
          have q0 := f8 (hdep 8 rfl)
          subst q0
          obtain ⟨y1, q9⟩ := f7 (hdep 7 rfl)
          subst q9
          obtain ⟨y, hy⟩ := hP
          have r3 := hy.row.2.1.2.1
          have r4 := hy.row.2.2.2.1
          have r5 := hy.2.1.1
          have hset := hy.setI (i := 1) (y := y1) (f' := { f with kd := y1 }) (by omega) rfl rfl ⟨rfl, rfl, rfl⟩ ⟨rfl, rfl, rfl⟩
          have hg3 : wz.grownBy (wz.setCell ⟨b, 1, none⟩ (.int .i64 y1)) (some b) := only_setCell (World.grownBy.refl wz _) _
          clear hy
          go_simp
          refine hK' _ _ ⟨_, _, _, _, _, _, _, _, _, rfl, (⟨y1, hset⟩), f0, f1, f2, (fun h => by obtain ⟨h0, y, e1, e2, e3, e4⟩ := f3 h; exact ⟨h0, y, e1, e2, e3, e4.nxt hg3 (by omega)⟩), f4, f5, (fun h => by obtain ⟨h0, q0, y, e1, e2, e3, e4, e5⟩ := f6 h; exact ⟨h0, q0, y, e1, e2, e3, Nat.lt_of_lt_of_le e4 hg3.size, cell_nxt e5 hg3 (by omega)⟩), f7, f8⟩
        exact Steps.nil
      · intro d ac wz hI hall
        obtain ⟨u20, u21, u22, u23, u24, u25, u26, u27, u28, rfl, hP, f0, f1, f2, f3, f4, f5, f6, f7, f8⟩ := hI
        obtain ⟨y, hy⟩ := hP
        have HPZ := Lib.hid hy
        clear hy f0 f1 f2 f3 f4 f5 f6 f7 f8 hall
        go_wp2_with fail
        go_meet
        exact ⟨_, HPZ⟩
    by_cases h2 : x = 2
    · subst h2
      obtain ⟨os, hos⟩ : ∃ l : List Obj, l = [.cells (vals [17, 17]) 2, .cells (vals [13, 17]) 2, .cells (vals [41, 45]) 2, .cells (vals [18]) 2, .cells (vals [3]) 2, .cells (vals [25]) 2, .cells #[.slice none 0 0, .slice (some ⟨w2.heap.size + 0, 0, none⟩) 2 2, .slice (some ⟨w2.heap.size + 1, 0, none⟩) 2 2, .slice (some ⟨w2.heap.size + 2, 0, none⟩) 2 2, .slice (some ⟨w2.heap.size + 3, 0, none⟩) 1 1, .slice (some ⟨w2.heap.size + 4, 0, none⟩) 1 1, .slice (some ⟨w2.heap.size + 5, 0, none⟩) 1 1] 24] := ⟨_, rfl⟩
      obtain ⟨W3, hW3⟩ : ∃ W : World, W = os.foldl World.alloc w2 := ⟨_, rfl⟩
      have hat : ∀ k, k < 7 → W3.heap[w2.heap.size + k]? = os[k]? := fun k hk => by rw [hW3]; exact allocs_at os w2 k (by rw [hos]; exact hk)
      have P3 : PF w W3 g b f := by
        rw [hW3, hos]
        exact (((((((P2.out.alloc _).alloc _).alloc _).alloc _).alloc _).alloc _).alloc _)
      have hb2 : b < w2.heap.size := P2.out.2.1.1
      have N3 : ∀ k, k < 7 → ∃ (a : Option Addr) (n : Nat) (zs : List Int), (#[Value.slice none 0 0, Value.slice (some ⟨w2.heap.size + 0, 0, none⟩) 2 2, Value.slice (some ⟨w2.heap.size + 1, 0, none⟩) 2 2, Value.slice (some ⟨w2.heap.size + 2, 0, none⟩) 2 2, Value.slice (some ⟨w2.heap.size + 3, 0, none⟩) 1 1, Value.slice (some ⟨w2.heap.size + 4, 0, none⟩) 1 1, Value.slice (some ⟨w2.heap.size + 5, 0, none⟩) 1 1] : Array Value)[k]? = some (.slice a n n) ∧ NewX W3 (w.heap.size + 1) b a n zs := by
        intro k hk
        rcases (by omega : k = 0 ∨ k = 1 ∨ k = 2 ∨ k = 3 ∨ k = 4 ∨ k = 5 ∨ k = 6) with e | e | e | e | e | e | e <;> rw [e]
        · exact ⟨_, _, _, rfl, NewX.nil _ _ _⟩
        · exact ⟨_, _, _, rfl, NewX.blk (zs := [17, 17]) (by have h := hat 0 (by omega); rw [hos] at h; exact h) rfl (by omega) (by omega) (by omega)⟩
        · exact ⟨_, _, _, rfl, NewX.blk (zs := [13, 17]) (by have h := hat 1 (by omega); rw [hos] at h; exact h) rfl (by omega) (by omega) (by omega)⟩
        · exact ⟨_, _, _, rfl, NewX.blk (zs := [41, 45]) (by have h := hat 2 (by omega); rw [hos] at h; exact h) rfl (by omega) (by omega) (by omega)⟩
        · exact ⟨_, _, _, rfl, NewX.blk (zs := [18]) (by have h := hat 3 (by omega); rw [hos] at h; exact h) rfl (by omega) (by omega) (by omega)⟩
        · exact ⟨_, _, _, rfl, NewX.blk (zs := [3]) (by have h := hat 4 (by omega); rw [hos] at h; exact h) rfl (by omega) (by omega) (by omega)⟩
        · exact ⟨_, _, _, rfl, NewX.blk (zs := [25]) (by have h := hat 5 (by omega); rw [hos] at h; exact h) rfl (by omega) (by omega) (by omega)⟩
      have L3 : Blk W3 (w2.heap.size + 6) 24 #[.slice none 0 0, .slice (some ⟨w2.heap.size + 0, 0, none⟩) 2 2, .slice (some ⟨w2.heap.size + 1, 0, none⟩) 2 2, .slice (some ⟨w2.heap.size + 2, 0, none⟩) 2 2, .slice (some ⟨w2.heap.size + 3, 0, none⟩) 1 1, .slice (some ⟨w2.heap.size + 4, 0, none⟩) 1 1, .slice (some ⟨w2.heap.size + 5, 0, none⟩) 1 1] := by
        have h := hat 6 (by omega)
        rw [hos] at h
        exact h
      clear hat
      rw [hW3, hos] at P3 N3 L3
      simp only [List.foldl_cons, List.foldl_nil] at P3 N3 L3
      have P3 := Lib.hid P3
      have N3 := Lib.hid N3
      have L3 := Lib.hid L3
      clear hW3 hos
      go_wp2_with fail
      refine (sNext g 7 _ P3.out.1.1).mono ?_
      rintro e w4 ⟨z, rfl, za, zb, -, hs, hg⟩
      have P4 := Lib.hid (P3.out.nxt hg hs)
      have zc := zb (by omega)
      obtain ⟨k, rfl⟩ := Int.eq_ofNat_of_zero_le za
      have hk : k < 7 := by omega
      have L4 := Lib.hid (L3.out.nxt hg (by omega))
      obtain ⟨a, n, zs, hh, hx⟩ := N3.out k hk
      have X4 := Lib.hid (hx.nxt hg (by omega))
      have hcs := (L4.out.cell k).trans hh
      have hlb := L4.out.lt
      clear zb hs hg P3 L3 N3 P2 hh hx L4
      obtain ⟨bz, ⟨d0, d1, d2, d3, d4, d5, d6, d7⟩, ⟨e0, e1, e2, e3, e4, e5, e6, e7⟩⟩ := P4.out.row
      go_wp2_with fail
      go_meet
      exact ⟨_, Lib.hid (P4.out.setZ X4.out)⟩
    by_cases h3 : x = 3
    · subst h3
      obtain ⟨os, hos⟩ : ∃ l : List Obj, l = [.cells (vals [0]) 2, .cells (vals [80]) 2, .cells (vals [81]) 2, .cells (vals [10, 10]) 2, .cells (vals [1, 2, 3, 4]) 2, .cells (vals [1, 2, 3, 4, 5]) 2, .cells #[.slice none 0 0, .slice (some ⟨w2.heap.size + 0, 0, none⟩) 1 1, .slice (some ⟨w2.heap.size + 1, 0, none⟩) 1 1, .slice (some ⟨w2.heap.size + 2, 0, none⟩) 1 1, .slice (some ⟨w2.heap.size + 3, 0, none⟩) 2 2, .slice (some ⟨w2.heap.size + 4, 0, none⟩) 4 4, .slice (some ⟨w2.heap.size + 5, 0, none⟩) 5 5] 24] := ⟨_, rfl⟩
      obtain ⟨W3, hW3⟩ : ∃ W : World, W = os.foldl World.alloc w2 := ⟨_, rfl⟩
      have hat : ∀ k, k < 7 → W3.heap[w2.heap.size + k]? = os[k]? := fun k hk => by rw [hW3]; exact allocs_at os w2 k (by rw [hos]; exact hk)
      have P3 : PF w W3 g b f := by
        rw [hW3, hos]
        exact (((((((P2.out.alloc _).alloc _).alloc _).alloc _).alloc _).alloc _).alloc _)
      have hb2 : b < w2.heap.size := P2.out.2.1.1
      have N3 : ∀ k, k < 7 → ∃ (a : Option Addr) (n : Nat) (zs : List Int), (#[Value.slice none 0 0, Value.slice (some ⟨w2.heap.size + 0, 0, none⟩) 1 1, Value.slice (some ⟨w2.heap.size + 1, 0, none⟩) 1 1, Value.slice (some ⟨w2.heap.size + 2, 0, none⟩) 1 1, Value.slice (some ⟨w2.heap.size + 3, 0, none⟩) 2 2, Value.slice (some ⟨w2.heap.size + 4, 0, none⟩) 4 4, Value.slice (some ⟨w2.heap.size + 5, 0, none⟩) 5 5] : Array Value)[k]? = some (.slice a n n) ∧ NewX W3 (w.heap.size + 1) b a n zs := by
        intro k hk
        rcases (by omega : k = 0 ∨ k = 1 ∨ k = 2 ∨ k = 3 ∨ k = 4 ∨ k = 5 ∨ k = 6) with e | e | e | e | e | e | e <;> rw [e]
        · exact ⟨_, _, _, rfl, NewX.nil _ _ _⟩
        · exact ⟨_, _, _, rfl, NewX.blk (zs := [0]) (by have h := hat 0 (by omega); rw [hos] at h; exact h) rfl (by omega) (by omega) (by omega)⟩
        · exact ⟨_, _, _, rfl, NewX.blk (zs := [80]) (by have h := hat 1 (by omega); rw [hos] at h; exact h) rfl (by omega) (by omega) (by omega)⟩
        · exact ⟨_, _, _, rfl, NewX.blk (zs := [81]) (by have h := hat 2 (by omega); rw [hos] at h; exact h) rfl (by omega) (by omega) (by omega)⟩
        · exact ⟨_, _, _, rfl, NewX.blk (zs := [10, 10]) (by have h := hat 3 (by omega); rw [hos] at h; exact h) rfl (by omega) (by omega) (by omega)⟩
        · exact ⟨_, _, _, rfl, NewX.blk (zs := [1, 2, 3, 4]) (by have h := hat 4 (by omega); rw [hos] at h; exact h) rfl (by omega) (by omega) (by omega)⟩
        · exact ⟨_, _, _, rfl, NewX.blk (zs := [1, 2, 3, 4, 5]) (by have h := hat 5 (by omega); rw [hos] at h; exact h) rfl (by omega) (by omega) (by omega)⟩
      have L3 : Blk W3 (w2.heap.size + 6) 24 #[.slice none 0 0, .slice (some ⟨w2.heap.size + 0, 0, none⟩) 1 1, .slice (some ⟨w2.heap.size + 1, 0, none⟩) 1 1, .slice (some ⟨w2.heap.size + 2, 0, none⟩) 1 1, .slice (some ⟨w2.heap.size + 3, 0, none⟩) 2 2, .slice (some ⟨w2.heap.size + 4, 0, none⟩) 4 4, .slice (some ⟨w2.heap.size + 5, 0, none⟩) 5 5] := by
        have h := hat 6 (by omega)
        rw [hos] at h
        exact h
      clear hat
      rw [hW3, hos] at P3 N3 L3
      simp only [List.foldl_cons, List.foldl_nil] at P3 N3 L3
      have P3 := Lib.hid P3
      have N3 := Lib.hid N3
      have L3 := Lib.hid L3
      clear hW3 hos
      go_wp2_with fail
      refine (sNext g 7 _ P3.out.1.1).mono ?_
      rintro e w4 ⟨z, rfl, za, zb, -, hs, hg⟩
      have P4 := Lib.hid (P3.out.nxt hg hs)
      have zc := zb (by omega)
      obtain ⟨k, rfl⟩ := Int.eq_ofNat_of_zero_le za
      have hk : k < 7 := by omega
      have L4 := Lib.hid (L3.out.nxt hg (by omega))
      obtain ⟨a, n, zs, hh, hx⟩ := N3.out k hk
      have X4 := Lib.hid (hx.nxt hg (by omega))
      have hcs := (L4.out.cell k).trans hh
      have hlb := L4.out.lt
      clear zb hs hg P3 L3 N3 P2 hh hx L4
      obtain ⟨bz, ⟨d0, d1, d2, d3, d4, d5, d6, d7⟩, ⟨e0, e1, e2, e3, e4, e5, e6, e7⟩⟩ := P4.out.row
      go_wp2_with fail
      go_meet
      exact ⟨_, Lib.hid (P4.out.setL X4.out)⟩
    by_cases h4 : x = 4
    · subst h4
      have P3 := Lib.hid (P2.out.alloc (.cells (vals [0, 1, 8, 9]) 2))
      have L3 := Lib.hid (LitF.new w2 2 [0, 1, 8, 9])
      go_wp2_with fail
      refine (sNext g 4 _ P3.out.1.1).mono ?_
      rintro e w4 ⟨z, rfl, za, zb, -, hs, hg⟩
      have P4 := Lib.hid (P3.out.nxt hg hs)
      have zc := zb (by omega)
      obtain ⟨k, rfl⟩ := Int.eq_ofNat_of_zero_le za
      have hk : k < 4 := by omega
      have L4 := Lib.hid (L3.out.nxt hg (by omega))
      obtain ⟨y, hy⟩ : ∃ y, ([0, 1, 8, 9] : List Int).getD k 0 = y := ⟨_, rfl⟩
      have hcy := L4.out.2 k hk
      rw [hy] at hcy
      have hlb := L4.out.1
      clear zb hs hg P3 L3 P2 hy L4
      obtain ⟨bz, ⟨d0, d1, d2, d3, d4, d5, d6, d7⟩, ⟨e0, e1, e2, e3, e4, e5, e6, e7⟩⟩ := P4.out.row
      go_wp2_with fail
      go_meet
      exact ⟨_, Lib.hid (P4.out.setI (i := 6) (f' := { f with col := y }) (by omega) rfl rfl ⟨rfl, rfl, rfl⟩ ⟨rfl, rfl, rfl⟩)⟩
    by_cases h5 : x = 5
    · subst h5
      go_wp2_with fail
      refine (d02Any g _ P2.out.1.1).mono ?_
      rintro e w4 ⟨p, q, r, rfl, hk⟩
      have P4 := Lib.hid (P2.out.nxt hk.2 hk.1)
      clear hk P2
      obtain ⟨bz, ⟨d0, d1, d2, d3, d4, d5, d6, d7⟩, ⟨e0, e1, e2, e3, e4, e5, e6, e7⟩⟩ := P4.out.row
      go_wp2_with fail
      go_meet
      exact ⟨_, Lib.hid (((P4.out.setI (i := 2) (f' := { f with p := p }) (by omega) rfl rfl ⟨rfl, rfl, rfl⟩ ⟨rfl, rfl, rfl⟩).setI (i := 3) (f' := { f with p := p, q := q }) (by omega) rfl rfl ⟨rfl, rfl, rfl⟩ ⟨rfl, rfl, rfl⟩).setI (i := 4) (f' := { f with p := p, q := q, r := r }) (by omega) rfl rfl ⟨rfl, rfl, rfl⟩ ⟨rfl, rfl, rfl⟩)⟩
    by_cases h6 : x = 6
    · subst h6
      go_wp2_with fail
      refine (sFieldAny 8 (by decide) (by decide) _).mono ?_
      rintro e w3 ⟨p, q, r, c, rfl, hb⟩
      have P3 := Lib.hid (P2.out.keep hb)
      have HK3 := Lib.hid (show SK w w3 g from P3.out.1)
      have hb2 : b < w3.heap.size := P3.out.2.1.1
      have hb3 : b < w3.heap.size + 1 := by omega
      have hb4 : b < w3.heap.size + 1 + 1 := by omega
      have hb5 : b < w3.heap.size + 1 + 1 + 1 := by omega
      clear hb P2
      obtain ⟨v3, hv⟩ : ∃ W : World, W = ((((((((w3.setCell ⟨b, 0, none⟩ (.string ⟨#[115, 109, 97, 108, 108]⟩)).setCell ⟨b, 1, none⟩ (.int .i64 1)).setCell ⟨b, 2, none⟩ (.int .i64 p)).setCell ⟨b, 3, none⟩ (.int .i64 q)).setCell ⟨b, 4, none⟩ (.int .i64 r)).setCell ⟨b, 5, none⟩ (.slice (some ⟨w3.heap.size + 1, 0, none⟩) 3 3)).setCell ⟨b, 6, none⟩ (.int .i64 0)).setCell ⟨b, 7, none⟩ (.slice (some ⟨w3.heap.size + 1 + 1, 0, none⟩) 2 2)) := ⟨_, rfl⟩
      have hz : v3.heap.size = w3.heap.size := by rw [hv]; simp
      have H1 : SK w v3 g := by rw [hv]; exact (by repeat' (first | with_reducible exact HK3.out | with_reducible exact hgw | with_reducible exact Nat.le_refl _ | with_reducible refine SK.alloc ?_ _ | with_reducible refine SK.set ?_ ?_ ?_ | omega))
      have H2 : RowL v3 b (FamR.cells (⟨⟨#[115, 109, 97, 108, 108]⟩, 1, p, q, r, some ⟨w3.heap.size + 1, 0, none⟩, 3, 3, [17, 33, 41], 0, some ⟨w3.heap.size + 1 + 1, 0, none⟩, 2, 2, [30, 80]⟩ : FamR)) := by rw [hv]; exact ((((((((P3.out.2.1.set (i := 0) (by simp [FamR.cells]) (.string ⟨#[115, 109, 97, 108, 108]⟩)).set (i := 1) (by simp [FamR.cells]) (.int .i64 1)).set (i := 2) (by simp [FamR.cells]) (.int .i64 p)).set (i := 3) (by simp [FamR.cells]) (.int .i64 q)).set (i := 4) (by simp [FamR.cells]) (.int .i64 r)).set (i := 5) (by simp [FamR.cells]) (.slice (some ⟨w3.heap.size + 1, 0, none⟩) 3 3)).set (i := 6) (by simp [FamR.cells]) (.int .i64 0)).set (i := 7) (by simp [FamR.cells]) (.slice (some ⟨w3.heap.size + 1 + 1, 0, none⟩) 2 2))
      have H3 : RowL v3 w.heap.size zerF := by rw [hv]; exact ((((((((P3.out.2.2.1.far (by omega)).far (by omega)).far (by omega)).far (by omega)).far (by omega)).far (by omega)).far (by omega)).far (by omega))
      obtain ⟨os, hos⟩ : ∃ l : List Obj, l = [.cells #[.int .i64 p, .int .i64 q, .int .i64 r] 32, .cells #[.int .i64 17, .int .i64 33, .int .i64 41] 2, .cells #[.int .i64 30, .int .i64 80] 2] := ⟨_, rfl⟩
      obtain ⟨w4, hW4⟩ : ∃ W : World, W = os.foldl World.alloc v3 := ⟨_, rfl⟩
      have hat : ∀ k, k < 3 → w4.heap[w3.heap.size + k]? = os[k]? := fun k hk => by rw [hW4, ← hz]; exact allocs_at os v3 k (by rw [hos]; exact hk)
      have S1 : NewX w4 (w.heap.size + 1) b (some ⟨w3.heap.size + 1, 0, none⟩) 3 [17, 33, 41] := NewX.blk (by have h := hat 1 (by omega); rw [hos] at h; exact h) rfl (by omega) (by omega) (by omega)
      have S2 : NewX w4 (w.heap.size + 1) b (some ⟨w3.heap.size + 1 + 1, 0, none⟩) 2 [30, 80] := NewX.blk (by have h := hat 2 (by omega); rw [hos] at h; exact h) rfl (by omega) (by omega) (by omega)
      have hfin : PF w w4 g b (⟨⟨#[115, 109, 97, 108, 108]⟩, 1, p, q, r, some ⟨w3.heap.size + 1, 0, none⟩, 3, 3, [17, 33, 41], 0, some ⟨w3.heap.size + 1 + 1, 0, none⟩, 2, 2, [30, 80]⟩ : FamR) := by
        refine ⟨?_, ?_, ?_, show (⟨#[115, 109, 97, 108, 108]⟩ : ByteArray).size ≤ 100 by decide, S1, S2, hgw, hwb⟩
        · rw [hW4, hos]; exact ((H1.alloc _).alloc _).alloc _
        · rw [hW4, hos]; exact ((H2.alloc _).alloc _).alloc _
        · rw [hW4, hos]; exact ((H3.alloc _).alloc _).alloc _
      clear hat S1 S2 H1 H2 H3 hz
      rw [hW4, hos, hv] at hfin
      simp only [List.foldl_cons, List.foldl_nil] at hfin
      have HFin := Lib.hid hfin
      clear hfin hW4 hos hv w4 v3 os
      obtain ⟨bz, ⟨d0, d1, d2, d3, d4, d5, d6, d7⟩, ⟨e0, e1, e2, e3, e4, e5, e6, e7⟩⟩ := P3.out.row
      go_wp2_with fail
      go_meet
      exact ⟨_, HFin⟩
    have t0 : (x == 0) = false := by simpa using h0
    have t1 : (x == 1) = false := by simpa using h1
    have t2 : (x == 2) = false := by simpa using h2
    have t3 : (x == 3) = false := by simpa using h3
    have t4 : (x == 4) = false := by simpa using h4
    have t5 : (x == 5) = false := by simpa using h5
    have t6 : (x == 6) = false := by simpa using h6
    clear h0 h1 h2 h3 h4 h5 h6
    go_wp2_with fail
    go_meet
    exact ⟨_, P2⟩
  obtain ⟨f', P5⟩ := hcut
  clear P2
  obtain ⟨w5, rfl⟩ : ∃ W : World, W = wc := ⟨_, rfl⟩
  have HK5 := Lib.hid (show SK w w5 g from P5.out.1)
  obtain ⟨bz, ⟨d0, d1, d2, d3, d4, d5, d6, d7⟩, -⟩ := P5.out.row
  obtain ⟨z_, ⟨a0, a1, a2, a3, a4, a5, a6, a7⟩, ⟨f0, f1, f2, f3, f4, f5, f6, f7⟩⟩ := P5.out.zer
  go_wp2_with fail
  clear a0 a1 a2 a3 a4 a5 a6 a7 f0 f1 f2 f3 f4 f5 f6 f7 d0 d1 d2 d3 d4 d5 d6 d7
  obtain ⟨W9, hW9⟩ : ∃ W : World, W = ((((((((w5.setCell ⟨w.heap.size, 0, none⟩ (.string f'.nm)).setCell ⟨w.heap.size, 1, none⟩ (.int .i64 f'.kd)).setCell ⟨w.heap.size, 2, none⟩ (.int .i64 f'.p)).setCell ⟨w.heap.size, 3, none⟩ (.int .i64 f'.q)).setCell ⟨w.heap.size, 4, none⟩ (.int .i64 f'.r)).setCell ⟨w.heap.size, 5, none⟩ (.slice f'.sa f'.sn f'.sc)).setCell ⟨w.heap.size, 6, none⟩ (.int .i64 f'.col)).setCell ⟨w.heap.size, 7, none⟩ (.slice f'.la f'.ln f'.lc)) := ⟨_, rfl⟩
  have U : RowL W9 w.heap.size [.string f'.nm, .int .i64 f'.kd, .int .i64 f'.p, .int .i64 f'.q, .int .i64 f'.r, .slice f'.sa f'.sn f'.sc, .int .i64 f'.col, .slice f'.la f'.ln f'.lc] := by rw [hW9]; exact ((((((((P5.out.2.2.1.set (i := 0) (by simp [zerF]) (.string f'.nm)).set (i := 1) (by simp [zerF]) (.int .i64 f'.kd)).set (i := 2) (by simp [zerF]) (.int .i64 f'.p)).set (i := 3) (by simp [zerF]) (.int .i64 f'.q)).set (i := 4) (by simp [zerF]) (.int .i64 f'.r)).set (i := 5) (by simp [zerF]) (.slice f'.sa f'.sn f'.sc)).set (i := 6) (by simp [zerF]) (.int .i64 f'.col)).set (i := 7) (by simp [zerF]) (.slice f'.la f'.ln f'.lc))
  have KU : Hid (SK w W9 g) := by unfold Hid; rw [hW9]; exact (by repeat' (first | with_reducible exact HK5.out | with_reducible exact hgw | with_reducible exact Nat.le_refl _ | with_reducible refine SK.alloc ?_ _ | with_reducible refine SK.set ?_ ?_ ?_ | omega))
  have S1 : NewS W9 (w.heap.size + 1) f'.sa f'.sn f'.zs := by rw [hW9]; exact ((((((((P5.out.2.2.2.2.1.1.low (by omega)).low (by omega)).low (by omega)).low (by omega)).low (by omega)).low (by omega)).low (by omega)).low (by omega))
  have S2 : NewS W9 (w.heap.size + 1) f'.la f'.ln f'.ls := by rw [hW9]; exact ((((((((P5.out.2.2.2.2.2.1.1.low (by omega)).low (by omega)).low (by omega)).low (by omega)).low (by omega)).low (by omega)).low (by omega)).low (by omega))
  rw [← hW9]
  clear hW9
  have r0_ := (U.2 0 _ rfl).1
  have r1_ := (U.2 1 _ rfl).1
  have r2_ := (U.2 2 _ rfl).1
  have r3_ := (U.2 3 _ rfl).1
  have r4_ := (U.2 4 _ rfl).1
  have r5_ := (U.2 5 _ rfl).1
  have r6_ := (U.2 6 _ rfl).1
  have r7_ := (U.2 7 _ rfl).1
  refine bodyPost_ret (v := .agg #[.string f'.nm, .int .i64 f'.kd, .int .i64 f'.p, .int .i64 f'.q, .int .i64 f'.r, .slice f'.sa f'.sn f'.sc, .int .i64 f'.col, .slice f'.la f'.ln f'.lc]) (by simp [results, Try.results79, go_sem, r0_, r1_, r2_, r3_, r4_, r5_, r6_, r7_]) rfl ?_
  exact ⟨f', rfl, P5.out.2.2.2.1, S1.mono (by omega), S2.mono (by omega), KU.out⟩
end Go.Proofs.Ytenelpollcabnaa
