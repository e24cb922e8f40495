/-
  DERIVED. Rasters drawn for MedianRaster and LocalBinary.
-/
import Derived.Test.YtfiddbmjgncabaaDRastS
import Derived.Test.YtfiddbmjgncabaaRegI
import Derived.Test.YtfiddbmjgncabaaDTurnR
import Derived.Test.YtfiddbmjgncabaaPasteS
import Derived.Deep.Cut
import Derived.Deep.RegionHeld3
namespace Go.Proofs.Ytfiddbmjgncabaa
open Go.RowKit
set_option linter.unusedVariables false
/-- All blocks of W but g and b are as they were. -/
def KX2 (W wr : World) (g b : Nat) : Prop := W.heap.size ≤ wr.heap.size ∧ ∀ c, c < W.heap.size → c ≠ g → c ≠ b → wr.heap[c]? = W.heap[c]?
theorem KX2.refl (W : World) (g b : Nat) : KX2 W W.drew g b := ⟨Nat.le_refl _, fun _ _ _ _ => rfl⟩
theorem KX2.nxt {W wr w1 : World} {g b : Nat} (h : KX2 W wr g b) (hg : wr.grownBy w1 (some g)) : KX2 W w1 g b :=
  ⟨Nat.le_trans h.1 hg.size, fun c h1 h2 h3 => (hg.block c (by have := h.1; omega) (fun e => by injection e with e; exact h2 e)).trans (h.2 c h1 h2 h3)⟩
theorem KX2.set {W wr w1 : World} {g b : Nat} (h : KX2 W wr g b) (hg : wr.grownBy w1 (some b)) : KX2 W w1 g b :=
  ⟨Nat.le_trans h.1 hg.size, fun c h1 h2 h3 => (hg.block c (by have := h.1; omega) (fun e => by injection e with e; exact h3 e)).trans (h.2 c h1 h2 h3)⟩
theorem KX2.below {W wr w1 : World} {g b : Nat} (h : KX2 W wr g b) (hb : Below wr.heap.size wr w1) : KX2 W w1 g b :=
  ⟨Nat.le_trans h.1 hb.size, fun c h1 h2 h3 => (hb.block c (by have := h.1; omega)).trans (h.2 c h1 h2 h3)⟩
theorem KX2.cell {W wr : World} {g b c i : Nat} (h : KX2 W wr g b) (h1 : c < W.heap.size) (h2 : c ≠ g) (h3 : c ≠ b) : wr.cell? ⟨c, i, none⟩ = W.cell? ⟨c, i, none⟩ := World.cell?_of_block (a := ⟨c, i, none⟩) (h.2 c h1 h2 h3)
/-- k numbers in the block B. -/
def LitA (wr : World) (B k : Nat) : Prop := B < wr.heap.size ∧ ∀ i, i < k → ∃ y : Int, wr.cell? ⟨B, i, none⟩ = some (.int .i64 y)
theorem LitA.nxt {wr w1 : World} {B k g : Nat} (h : LitA wr B k) (hg : wr.grownBy w1 (some g)) (hb : B ≠ g) : LitA w1 B k :=
  ⟨Nat.lt_of_lt_of_le h.1 hg.size, fun i hi => by obtain ⟨y, c⟩ := h.2 i hi; exact ⟨y, cell_nxt c hg hb⟩⟩
theorem store3b {w : World} {b : Nat} {x y z u0 u1 u2 : Value} (hb : b < w.heap.size) (h0 : w.cell? ⟨b, 0, none⟩ = some u0) (h1 : w.cell? ⟨b, 1, none⟩ = some u1) (h2 : w.cell? ⟨b, 2, none⟩ = some u2) : Hid (Box3 (((w.setCell ⟨b, 0, none⟩ x).setCell ⟨b, 1, none⟩ y).setCell ⟨b, 2, none⟩ z) b x y z) := by
  refine ⟨by simpa using hb, ?_, ?_, ?_⟩
  · rw [World.cell?_setCell_other _ _ _ _ (by simp), World.cell?_setCell_other _ _ _ _ (by simp)]
    exact World.cell?_setCell_same w ⟨b, 0, none⟩ x h0
  · rw [World.cell?_setCell_other _ _ _ _ (by simp)]
    exact World.cell?_setCell_same _ ⟨b, 1, none⟩ y ((World.cell?_setCell_other _ _ _ _ (by simp)).trans h1)
  · exact World.cell?_setCell_same _ ⟨b, 2, none⟩ z ((World.cell?_setCell_other _ _ _ _ (by simp)).trans ((World.cell?_setCell_other _ _ _ _ (by simp)).trans h2))
theorem LitA.new (w : World) (t : TypeId) (ys : List Int) : LitA (w.alloc (.cells (vals ys) t)) w.heap.size ys.length :=
  ⟨by simp, fun i hi => ⟨ys.getD i 0, by rw [(Blk.new w t (vals ys)).cell]; exact vals_get ys i hi⟩⟩
def DrawnLoc (w : World) (e : Ending) (w' : World) : Prop := ∃ (r c : Int) (a : Option Addr) (n cp : Nat) (zs : List Int) (rad off : Int),
  e = .returned (.tuple #[.agg #[.int .i64 r, .int .i64 c, .slice a n cp], .int .i64 rad, .int .i64 off]) ∧ n ≤ 1048576 ∧ n ≤ cp ∧ Rd w' a n zs ∧ Below w.heap.size w w'
set_option maxRecDepth 100000 in
set_option maxHeartbeats 8000000 in
theorem dLoc (a : Option Addr) (n cp : Nat) (w : World) (h : BytesIn w a n w.heap.size) (hn : n ≤ 1048576) : Calls Try.prog 45 #[.slice a n cp] w (DrawnLoc w) := by
  have HO1 := Lib.hid (Out3.new w 32)
  have hk0 : Below w.heap.size w (w.alloc (.cells #[.int .i64 0, .int .i64 0, .slice none 0 0] 32)) := by repeat' (first | (with_reducible exact Below.refl _ _) | (with_reducible assumption) | (with_reducible refine Below.alloc ?_ ?_ _) | (with_reducible refine Below.setCell ?_ ?_ _) | (with_reducible refine Below.drew ?_) | (with_reducible refine below_drewN ?_ _) | (with_reducible refine below_via (by with_reducible assumption) ?_ ?_) | go_size)
  have HBY := Lib.hid ((h.kept (fun b hb => hk0.block b hb)).up (show w.heap.size ≤ (w.alloc (.cells #[.int .i64 0, .int .i64 0, .slice none 0 0] 32)).heap.size by simp))
  clear h
  go_enter Try.func45, Try.ntmps45
  go_wp2_with fail
  obtain ⟨W0, hW0⟩ : ∃ W0 : World, W0 = w.alloc (.cells #[.int .i64 0, .int .i64 0, .slice none 0 0] 32) := ⟨_, rfl⟩
  have hO1 : Hid (Out3 W0 w.heap.size) := by rw [hW0]; exact HO1.out
  have hz0 : W0.heap.size = w.heap.size + 1 := by rw [hW0]; simp
  rw [← hW0] at HBY hk0 ⊢
  have HK0 := Lib.hid hk0
  clear hW0 HO1 hk0
  refine (sFrom a n cp _ HBY.out hn).mono ?_
  rintro e w1 ⟨g, rfl, hgl, hs1, hb1⟩
  have hz1 := hb1.size
  have HS1 := Lib.hid hs1
  have HX1 := Lib.hid hb1
  clear hs1 hb1 HBY
  go_wp2_with fail
  refine (dRastS g _ HS1.out W0 HX1.out hgl).mono ?_
  rintro e w2 ⟨r, c, a3, n3, c3, zs, rfl, hn3, hc3, hr3, hb3, hf3, hk3⟩
  have HR3 := Lib.hid hr3
  have HX3 := Lib.hid hb3
  have HF3 := Lib.hid hf3
  have HK3 := Lib.hid hk3
  have hz3 := hk3.2.1
  have hgw := HS1.out.lt
  have bP := Lib.hid (Box3.new w2 32 (.int .i64 r) (.int .i64 c) (.slice a3 n3 c3))
  clear hr3 hb3 hf3 hk3
  go_wp2_with fail
  obtain ⟨V, hV⟩ : ∃ V : World, V = w2.alloc (.cells #[.int .i64 r, .int .i64 c, .slice a3 n3 c3] 32) := ⟨_, rfl⟩
  have hBa : Below w2.heap.size w2 V := by rw [hV]; exact (Below.refl _ _).alloc (Nat.le_refl _) _
  have hzV : V.heap.size = w2.heap.size + 1 := by rw [hV]; simp
  have HPV : Hid (Box3 V w2.heap.size (.int .i64 r) (.int .i64 c) (.slice a3 n3 c3)) := by rw [hV]; exact bP.out
  have HRV : Hid (Rd V a3 n3 zs) := HR3.out.below hBa
  have HXV : Hid (Below W0.heap.size W0 V) := HX3.out.trans (hBa.mono (by have := HX3.out.size; omega))
  have HSV : Hid (Src V g) := HK3.out.1.keep hBa
  have HOV : Hid (Out3 V w.heap.size) := hO1.out.below HXV.out (by omega)
  have HWV : Hid (Below w.heap.size w V) := HK0.out.trans (HXV.out.mono (by omega))
  rw [← hV]
  clear hV bP HR3 HX3 hBa HK3 HS1 HX1 hO1 HK0 HXV
  have lt2 : w2.heap.size < V.heap.size := by omega
  have ne2 : w2.heap.size ≠ g := by omega
  have ne3 : w2.heap.size ≠ w.heap.size := by omega
  have neb : w.heap.size ≠ g := by omega
  refine wp_region_inv (fun d ac wz => ∃ (u3 u4 u11 u12 u13 u14 u15 u16 u17 u18 u19 u20 u21 u22 u23 u24 u25 u26 u27 u28 u29 : Value), ac = ({ tmps := #[.slice a n cp, undef, .pointer (some ⟨w.heap.size, 0, none⟩), u3, u4, .pointer (some ⟨g, 0, none⟩), .pointer (some ⟨w2.heap.size, 0, none⟩), .slice a n cp, .pointer (some ⟨g, 0, none⟩), .pointer (some ⟨g, 0, none⟩), .agg #[.int .i64 r, .int .i64 c, .slice a3 n3 c3], u11, u12, u13, u14, u15, u16, u17, u18, u19, u20, u21, u22, u23, u24, u25, u26, u27, u28, u29], defers := [] } : Act) ∧ KX2 V wz g w.heap.size ∧ (d 19 = false → Src wz g) ∧ (d 19 = false → Out3 wz w.heap.size) ∧ (d 19 = true → Box3 wz w.heap.size (.int .i64 r) (.int .i64 c) (.slice a3 n3 c3)) ∧ Below w.heap.size w wz ∧ (d 19 = true → d 16 = true) ∧ (d 16 = true → d 13 = true) ∧ (d 13 = true → d 8 = true) ∧ (d 8 = true → d 4 = true) ∧ (d 4 = true → d 2 = true) ∧ (d 0 = true → u11 = .agg #[.int .i64 r, .int .i64 c, .slice a3 n3 c3]) ∧ (d 1 = true → u12 = .pointer (some ⟨g, 0, none⟩)) ∧ (d 3 = true → u14 = .pointer (some ⟨g, 0, none⟩)) ∧ (d 7 = true → u18 = .pointer (some ⟨g, 0, none⟩)) ∧ (d 12 = true → u23 = .pointer (some ⟨g, 0, none⟩)) ∧ (d 15 = true → u26 = .pointer (some ⟨g, 0, none⟩)) ∧ (d 2 = true → ∃ x : Int, u13 = .int .i64 x) ∧ (d 4 = true → ∃ x : Int, u15 = .int .i64 x) ∧ (d 5 = true → ∃ x : Int, u16 = .int .i64 x) ∧ (d 6 = true → ∃ x : Int, u17 = .int .i64 x) ∧ (d 8 = true → ∃ x : Int, u19 = .int .i64 x) ∧ (d 9 = true → ∃ x : Int, u20 = .int .i64 x) ∧ (d 10 = true → ∃ x : Int, u21 = .int .i64 x) ∧ (d 11 = true → ∃ x : Int, u22 = .int .i64 x) ∧ (d 13 = true → ∃ x : Int, u24 = .int .i64 x) ∧ (d 14 = true → ∃ h : Nat, u25 = .slice (some ⟨h, 0, none⟩) 6 6 ∧ g < h ∧ w.heap.size < h ∧ LitA wz h 6) ∧ (d 16 = true → ∃ q : Nat, u27 = .int .i64 (q : Int) ∧ q < 6) ∧ (d 17 = true → ∃ (h q : Nat) (y : Int), u28 = .pointer (some ⟨h, q, none⟩) ∧ g < h ∧ w.heap.size < h ∧ h < wz.heap.size ∧ wz.cell? ⟨h, q, none⟩ = some (.int .i64 y)) ∧ (d 18 = true → ∃ x : Int, u29 = .int .i64 x) ∧ (d 20 = true → ∃ x : Int, u3 = .int .i64 x) ∧ (d 21 = true → ∃ x : Int, u4 = .int .i64 x)) (by kernel_rfl) (by kernel_rfl) ?_ ?_ ?_
  · exact ⟨_, _, _, _, _, _, _, _, _, _, _, _, _, _, _, _, _, _, _, _, _, rfl, KX2.refl V g w.heap.size, fun _ => HSV.out.keep (Below.refl _ _).drew, fun _ => HOV.out.keep (Below.refl _ _).drew, (fun h => by cases h), HWV.out.drew, (fun h => by cases h), (fun h => by cases h), (fun h => by cases h), (fun h => by cases h), (fun h => by cases h), (fun h => by cases h), (fun h => by cases h), (fun h => by cases h), (fun h => by cases h), (fun h => by cases h), (fun h => by cases h), (fun h => by cases h), (fun h => by cases h), (fun h => by cases h), (fun h => by cases h), (fun h => by cases h), (fun h => by cases h), (fun h => by cases h), (fun h => by cases h), (fun h => by cases h), (fun h => by cases h), (fun h => by cases h), (fun h => by cases h), (fun h => by cases h), (fun h => by cases h), (fun h => by cases h)⟩
  · refine Steps.cons (fun d ac wz hI hd hdep K hK' => ?_) ?_
    · obtain ⟨u3, u4, u11, u12, u13, u14, u15, u16, u17, u18, u19, u20, u21, u22, u23, u24, u25, u26, u27, u28, u29, rfl, hK, hS, hO, hB, hW, s19, s16, s13, s8, s4, f0, f1, f3, f7, f12, f15, f2, f4, f5, f6, f8, f9, f10, f11, f13, f14, f16, f17, f18, f20, f21⟩ := hI
      have x0 := (hK.cell (i := 0) lt2 ne2 ne3).trans HPV.out.2.1
      have x1 := (hK.cell (i := 1) lt2 ne2 ne3).trans HPV.out.2.2.1
      have x2 := (hK.cell (i := 2) lt2 ne2 ne3).trans HPV.out.2.2.2
      go_simp
      refine hK' _ _ ⟨_, _, _, _, _, _, _, _, _, _, _, _, _, _, _, _, _, _, _, _, _, rfl, hK, hS, hO, hB, hW, s19, s16, s13, s8, s4, (fun _ => rfl), f1, f3, f7, f12, f15, f2, f4, f5, f6, f8, f9, f10, f11, f13, f14, f16, f17, f18, f20, f21⟩
    refine Steps.cons (fun d ac wz hI hd hdep K hK' => ?_) ?_
    · obtain ⟨u3, u4, u11, u12, u13, u14, u15, u16, u17, u18, u19, u20, u21, u22, u23, u24, u25, u26, u27, u28, u29, rfl, hK, hS, hO, hB, hW, s19, s16, s13, s8, s4, f0, f1, f3, f7, f12, f15, f2, f4, f5, f6, f8, f9, f10, f11, f13, f14, f16, f17, f18, f20, f21⟩ := hI
      go_simp
      refine hK' _ _ ⟨_, _, _, _, _, _, _, _, _, _, _, _, _, _, _, _, _, _, _, _, _, rfl, hK, hS, hO, hB, hW, s19, s16, s13, s8, s4, f0, (fun _ => rfl), f3, f7, f12, f15, f2, f4, f5, f6, f8, f9, f10, f11, f13, f14, f16, f17, f18, f20, f21⟩
    refine Steps.cons (fun d ac wz hI hd hdep K hK' => ?_) ?_
    · obtain ⟨u3, u4, u11, u12, u13, u14, u15, u16, u17, u18, u19, u20, u21, u22, u23, u24, u25, u26, u27, u28, u29, rfl, hK, hS, hO, hB, hW, s19, s16, s13, s8, s4, f0, f1, f3, f7, f12, f15, f2, f4, f5, f6, f8, f9, f10, f11, f13, f14, f16, f17, f18, f20, f21⟩ := hI
      have q1 := f1 (hdep 1 rfl)
      subst q1
      have hn19 : d 19 = false := by
        cases h : d 19 with
        | false => rfl
        | true => have h7 := s4 (s8 (s13 (s16 (s19 h)))); rw [hd] at h7; cases h7
      have hs := hS hn19
      go_simp
      refine (sNext g 4 wz hs).mono ?_
      rintro e w1' ⟨x, rfl, xa, xb, -, hs1, hg1⟩
      refine hK' _ _ ⟨_, _, _, _, _, _, _, _, _, _, _, _, _, _, _, _, _, _, _, _, _, rfl, (hK.nxt hg1), (fun _ => hs1), (fun h => (hO hn19).nxt hg1 neb), (fun h => absurd (h.symm.trans hn19) (by decide)), (below_nxt hW hg1 hW.size (by omega)), s19, s16, s13, s8, (fun _ => rfl), f0, f1, f3, f7, f12, f15, (fun _ => ⟨_, rfl⟩), f4, f5, f6, f8, f9, f10, f11, f13, (fun h => by obtain ⟨h0, e1, e2, e3, e4⟩ := f14 h; exact ⟨h0, e1, e2, e3, e4.nxt hg1 (by omega)⟩), f16, (fun h => by obtain ⟨h0, q0, y, e1, e2, e3, e4, e5⟩ := f17 h; exact ⟨h0, q0, y, e1, e2, e3, Nat.lt_of_lt_of_le e4 hg1.size, cell_nxt e5 hg1 (by omega)⟩), f18, f20, f21⟩
    refine Steps.cons (fun d ac wz hI hd hdep K hK' => ?_) ?_
    · obtain ⟨u3, u4, u11, u12, u13, u14, u15, u16, u17, u18, u19, u20, u21, u22, u23, u24, u25, u26, u27, u28, u29, rfl, hK, hS, hO, hB, hW, s19, s16, s13, s8, s4, f0, f1, f3, f7, f12, f15, f2, f4, f5, f6, f8, f9, f10, f11, f13, f14, f16, f17, f18, f20, f21⟩ := hI
      go_simp
      refine hK' _ _ ⟨_, _, _, _, _, _, _, _, _, _, _, _, _, _, _, _, _, _, _, _, _, rfl, hK, hS, hO, hB, hW, s19, s16, s13, s8, s4, f0, f1, (fun _ => rfl), f7, f12, f15, f2, f4, f5, f6, f8, f9, f10, f11, f13, f14, f16, f17, f18, f20, f21⟩
    refine Steps.cons (fun d ac wz hI hd hdep K hK' => ?_) ?_
    · obtain ⟨u3, u4, u11, u12, u13, u14, u15, u16, u17, u18, u19, u20, u21, u22, u23, u24, u25, u26, u27, u28, u29, rfl, hK, hS, hO, hB, hW, s19, s16, s13, s8, s4, f0, f1, f3, f7, f12, f15, f2, f4, f5, f6, f8, f9, f10, f11, f13, f14, f16, f17, f18, f20, f21⟩ := hI
      have q3 := f3 (hdep 3 rfl)
      subst q3
      have hn19 : d 19 = false := by
        cases h : d 19 with
        | false => rfl
        | true => have h7 := s8 (s13 (s16 (s19 h))); rw [hd] at h7; cases h7
      have hs := hS hn19
      go_simp
      refine (sNext g 24 wz hs).mono ?_
      rintro e w1' ⟨x, rfl, xa, xb, -, hs1, hg1⟩
      refine hK' _ _ ⟨_, _, _, _, _, _, _, _, _, _, _, _, _, _, _, _, _, _, _, _, _, rfl, (hK.nxt hg1), (fun _ => hs1), (fun h => (hO hn19).nxt hg1 neb), (fun h => absurd (h.symm.trans hn19) (by decide)), (below_nxt hW hg1 hW.size (by omega)), s19, s16, s13, (fun _ => rfl), (fun _ => hdep 2 rfl), f0, f1, f3, f7, f12, f15, f2, (fun _ => ⟨_, rfl⟩), f5, f6, f8, f9, f10, f11, f13, (fun h => by obtain ⟨h0, e1, e2, e3, e4⟩ := f14 h; exact ⟨h0, e1, e2, e3, e4.nxt hg1 (by omega)⟩), f16, (fun h => by obtain ⟨h0, q0, y, e1, e2, e3, e4, e5⟩ := f17 h; exact ⟨h0, q0, y, e1, e2, e3, Nat.lt_of_lt_of_le e4 hg1.size, cell_nxt e5 hg1 (by omega)⟩), f18, f20, f21⟩
    refine Steps.cons (fun d ac wz hI hd hdep K hK' => ?_) ?_
    · obtain ⟨u3, u4, u11, u12, u13, u14, u15, u16, u17, u18, u19, u20, u21, u22, u23, u24, u25, u26, u27, u28, u29, rfl, hK, hS, hO, hB, hW, s19, s16, s13, s8, s4, f0, f1, f3, f7, f12, f15, f2, f4, f5, f6, f8, f9, f10, f11, f13, f14, f16, f17, f18, f20, f21⟩ := hI
      obtain ⟨y4, q4⟩ := f4 (hdep 4 rfl)
      subst q4
      go_simp
      refine hK' _ _ ⟨_, _, _, _, _, _, _, _, _, _, _, _, _, _, _, _, _, _, _, _, _, rfl, hK, hS, hO, hB, hW, s19, s16, s13, s8, s4, f0, f1, f3, f7, f12, f15, f2, f4, (fun _ => ⟨_, rfl⟩), f6, f8, f9, f10, f11, f13, f14, f16, f17, f18, f20, f21⟩
    refine Steps.cons (fun d ac wz hI hd hdep K hK' => ?_) ?_
    · obtain ⟨u3, u4, u11, u12, u13, u14, u15, u16, u17, u18, u19, u20, u21, u22, u23, u24, u25, u26, u27, u28, u29, rfl, hK, hS, hO, hB, hW, s19, s16, s13, s8, s4, f0, f1, f3, f7, f12, f15, f2, f4, f5, f6, f8, f9, f10, f11, f13, f14, f16, f17, f18, f20, f21⟩ := hI
      obtain ⟨y2, q2⟩ := f2 (hdep 2 rfl)
      subst q2
      obtain ⟨y5, q5⟩ := f5 (hdep 5 rfl)
      subst q5
      go_simp
      refine hK' _ _ ⟨_, _, _, _, _, _, _, _, _, _, _, _, _, _, _, _, _, _, _, _, _, rfl, hK, hS, hO, hB, hW, s19, s16, s13, s8, s4, f0, f1, f3, f7, f12, f15, f2, f4, f5, (fun _ => ⟨_, rfl⟩), f8, f9, f10, f11, f13, f14, f16, f17, f18, f20, f21⟩
    refine Steps.cons (fun d ac wz hI hd hdep K hK' => ?_) ?_
    · obtain ⟨u3, u4, u11, u12, u13, u14, u15, u16, u17, u18, u19, u20, u21, u22, u23, u24, u25, u26, u27, u28, u29, rfl, hK, hS, hO, hB, hW, s19, s16, s13, s8, s4, f0, f1, f3, f7, f12, f15, f2, f4, f5, f6, f8, f9, f10, f11, f13, f14, f16, f17, f18, f20, f21⟩ := hI
      go_simp
      refine hK' _ _ ⟨_, _, _, _, _, _, _, _, _, _, _, _, _, _, _, _, _, _, _, _, _, rfl, hK, hS, hO, hB, hW, s19, s16, s13, s8, s4, f0, f1, f3, (fun _ => rfl), f12, f15, f2, f4, f5, f6, f8, f9, f10, f11, f13, f14, f16, f17, f18, f20, f21⟩
    refine Steps.cons (fun d ac wz hI hd hdep K hK' => ?_) ?_
    · obtain ⟨u3, u4, u11, u12, u13, u14, u15, u16, u17, u18, u19, u20, u21, u22, u23, u24, u25, u26, u27, u28, u29, rfl, hK, hS, hO, hB, hW, s19, s16, s13, s8, s4, f0, f1, f3, f7, f12, f15, f2, f4, f5, f6, f8, f9, f10, f11, f13, f14, f16, f17, f18, f20, f21⟩ := hI
      have q7 := f7 (hdep 7 rfl)
      subst q7
      have hn19 : d 19 = false := by
        cases h : d 19 with
        | false => rfl
        | true => have h7 := s13 (s16 (s19 h)); rw [hd] at h7; cases h7
      have hs := hS hn19
      go_simp
      refine (sNext g 24 wz hs).mono ?_
      rintro e w1' ⟨x, rfl, xa, xb, -, hs1, hg1⟩
      refine hK' _ _ ⟨_, _, _, _, _, _, _, _, _, _, _, _, _, _, _, _, _, _, _, _, _, rfl, (hK.nxt hg1), (fun _ => hs1), (fun h => (hO hn19).nxt hg1 neb), (fun h => absurd (h.symm.trans hn19) (by decide)), (below_nxt hW hg1 hW.size (by omega)), s19, s16, (fun _ => rfl), (fun _ => hdep 4 rfl), s4, f0, f1, f3, f7, f12, f15, f2, f4, f5, f6, (fun _ => ⟨_, rfl⟩), f9, f10, f11, f13, (fun h => by obtain ⟨h0, e1, e2, e3, e4⟩ := f14 h; exact ⟨h0, e1, e2, e3, e4.nxt hg1 (by omega)⟩), f16, (fun h => by obtain ⟨h0, q0, y, e1, e2, e3, e4, e5⟩ := f17 h; exact ⟨h0, q0, y, e1, e2, e3, Nat.lt_of_lt_of_le e4 hg1.size, cell_nxt e5 hg1 (by omega)⟩), f18, f20, f21⟩
    refine Steps.cons (fun d ac wz hI hd hdep K hK' => ?_) ?_
    · obtain ⟨u3, u4, u11, u12, u13, u14, u15, u16, u17, u18, u19, u20, u21, u22, u23, u24, u25, u26, u27, u28, u29, rfl, hK, hS, hO, hB, hW, s19, s16, s13, s8, s4, f0, f1, f3, f7, f12, f15, f2, f4, f5, f6, f8, f9, f10, f11, f13, f14, f16, f17, f18, f20, f21⟩ := hI
      obtain ⟨y8, q8⟩ := f8 (hdep 8 rfl)
      subst q8
      go_simp
      refine hK' _ _ ⟨_, _, _, _, _, _, _, _, _, _, _, _, _, _, _, _, _, _, _, _, _, rfl, hK, hS, hO, hB, hW, s19, s16, s13, s8, s4, f0, f1, f3, f7, f12, f15, f2, f4, f5, f6, f8, (fun _ => ⟨_, rfl⟩), f10, f11, f13, f14, f16, f17, f18, f20, f21⟩
    refine Steps.cons (fun d ac wz hI hd hdep K hK' => ?_) ?_
    · obtain ⟨u3, u4, u11, u12, u13, u14, u15, u16, u17, u18, u19, u20, u21, u22, u23, u24, u25, u26, u27, u28, u29, rfl, hK, hS, hO, hB, hW, s19, s16, s13, s8, s4, f0, f1, f3, f7, f12, f15, f2, f4, f5, f6, f8, f9, f10, f11, f13, f14, f16, f17, f18, f20, f21⟩ := hI
      obtain ⟨y9, q9⟩ := f9 (hdep 9 rfl)
      subst q9
      go_simp
      refine hK' _ _ ⟨_, _, _, _, _, _, _, _, _, _, _, _, _, _, _, _, _, _, _, _, _, rfl, hK, hS, hO, hB, hW, s19, s16, s13, s8, s4, f0, f1, f3, f7, f12, f15, f2, f4, f5, f6, f8, f9, (fun _ => ⟨_, rfl⟩), f11, f13, f14, f16, f17, f18, f20, f21⟩
    refine Steps.cons (fun d ac wz hI hd hdep K hK' => ?_) ?_
    · obtain ⟨u3, u4, u11, u12, u13, u14, u15, u16, u17, u18, u19, u20, u21, u22, u23, u24, u25, u26, u27, u28, u29, rfl, hK, hS, hO, hB, hW, s19, s16, s13, s8, s4, f0, f1, f3, f7, f12, f15, f2, f4, f5, f6, f8, f9, f10, f11, f13, f14, f16, f17, f18, f20, f21⟩ := hI
      obtain ⟨y6, q6⟩ := f6 (hdep 6 rfl)
      subst q6
      obtain ⟨y10, q10⟩ := f10 (hdep 10 rfl)
      subst q10
      go_simp
      refine hK' _ _ ⟨_, _, _, _, _, _, _, _, _, _, _, _, _, _, _, _, _, _, _, _, _, rfl, hK, hS, hO, hB, hW, s19, s16, s13, s8, s4, f0, f1, f3, f7, f12, f15, f2, f4, f5, f6, f8, f9, f10, (fun _ => ⟨_, rfl⟩), f13, f14, f16, f17, f18, f20, f21⟩
    refine Steps.cons (fun d ac wz hI hd hdep K hK' => ?_) ?_
    · obtain ⟨u3, u4, u11, u12, u13, u14, u15, u16, u17, u18, u19, u20, u21, u22, u23, u24, u25, u26, u27, u28, u29, rfl, hK, hS, hO, hB, hW, s19, s16, s13, s8, s4, f0, f1, f3, f7, f12, f15, f2, f4, f5, f6, f8, f9, f10, f11, f13, f14, f16, f17, f18, f20, f21⟩ := hI
      go_simp
      refine hK' _ _ ⟨_, _, _, _, _, _, _, _, _, _, _, _, _, _, _, _, _, _, _, _, _, rfl, hK, hS, hO, hB, hW, s19, s16, s13, s8, s4, f0, f1, f3, f7, (fun _ => rfl), f15, f2, f4, f5, f6, f8, f9, f10, f11, f13, f14, f16, f17, f18, f20, f21⟩
    refine Steps.cons (fun d ac wz hI hd hdep K hK' => ?_) ?_
    · obtain ⟨u3, u4, u11, u12, u13, u14, u15, u16, u17, u18, u19, u20, u21, u22, u23, u24, u25, u26, u27, u28, u29, rfl, hK, hS, hO, hB, hW, s19, s16, s13, s8, s4, f0, f1, f3, f7, f12, f15, f2, f4, f5, f6, f8, f9, f10, f11, f13, f14, f16, f17, f18, f20, f21⟩ := hI
      have q12 := f12 (hdep 12 rfl)
      subst q12
      have hn19 : d 19 = false := by
        cases h : d 19 with
        | false => rfl
        | true => have h7 := s16 (s19 h); rw [hd] at h7; cases h7
      have hs := hS hn19
      go_simp
      refine (sNext g 256 wz hs).mono ?_
      rintro e w1' ⟨x, rfl, xa, xb, -, hs1, hg1⟩
      refine hK' _ _ ⟨_, _, _, _, _, _, _, _, _, _, _, _, _, _, _, _, _, _, _, _, _, rfl, (hK.nxt hg1), (fun _ => hs1), (fun h => (hO hn19).nxt hg1 neb), (fun h => absurd (h.symm.trans hn19) (by decide)), (below_nxt hW hg1 hW.size (by omega)), s19, (fun _ => rfl), (fun _ => hdep 8 rfl), s8, s4, f0, f1, f3, f7, f12, f15, f2, f4, f5, f6, f8, f9, f10, f11, (fun _ => ⟨_, rfl⟩), (fun h => by obtain ⟨h0, e1, e2, e3, e4⟩ := f14 h; exact ⟨h0, e1, e2, e3, e4.nxt hg1 (by omega)⟩), f16, (fun h => by obtain ⟨h0, q0, y, e1, e2, e3, e4, e5⟩ := f17 h; exact ⟨h0, q0, y, e1, e2, e3, Nat.lt_of_lt_of_le e4 hg1.size, cell_nxt e5 hg1 (by omega)⟩), f18, f20, f21⟩
    refine Steps.cons (fun d ac wz hI hd hdep K hK' => ?_) ?_
    · obtain ⟨u3, u4, u11, u12, u13, u14, u15, u16, u17, u18, u19, u20, u21, u22, u23, u24, u25, u26, u27, u28, u29, rfl, hK, hS, hO, hB, hW, s19, s16, s13, s8, s4, f0, f1, f3, f7, f12, f15, f2, f4, f5, f6, f8, f9, f10, f11, f13, f14, f16, f17, f18, f20, f21⟩ := hI
      obtain ⟨y13, q13⟩ := f13 (hdep 13 rfl)
      subst q13
      have hal := (Below.refl wz.heap.size wz).alloc (Nat.le_refl _) (.cells #[.int .i64 0, .int .i64 10, .int .i64 (-10), .int .i64 y13, .int .i64 (-255), .int .i64 256] 2)
      have hLA := LitA.new wz 2 [0, 10, -10, y13, -255, 256]
      go_simp
      refine hK' _ _ ⟨_, _, _, _, _, _, _, _, _, _, _, _, _, _, _, _, _, _, _, _, _, rfl, (hK.below hal), (fun h => (hS h).keep hal), (fun h => (hO h).keep hal), (fun h => (hB h).keep hal), (hW.trans (hal.mono hW.size)), s19, s16, s13, s8, s4, f0, f1, f3, f7, f12, f15, f2, f4, f5, f6, f8, f9, f10, f11, f13, (fun _ => ⟨wz.heap.size, rfl, by have := hK.1; omega, by have := hK.1; omega, hLA⟩), f16, (fun h => by obtain ⟨h0, q0, y, e1, e2, e3, e4, e5⟩ := f17 h; exact ⟨h0, q0, y, e1, e2, e3, Nat.lt_of_lt_of_le e4 hal.size, (hal.cell (p := ⟨h0, q0, none⟩) e4).trans e5⟩), f18, f20, f21⟩
    refine Steps.cons (fun d ac wz hI hd hdep K hK' => ?_) ?_
    · obtain ⟨u3, u4, u11, u12, u13, u14, u15, u16, u17, u18, u19, u20, u21, u22, u23, u24, u25, u26, u27, u28, u29, rfl, hK, hS, hO, hB, hW, s19, s16, s13, s8, s4, f0, f1, f3, f7, f12, f15, f2, f4, f5, f6, f8, f9, f10, f11, f13, f14, f16, f17, f18, f20, f21⟩ := hI
      go_simp
      refine hK' _ _ ⟨_, _, _, _, _, _, _, _, _, _, _, _, _, _, _, _, _, _, _, _, _, rfl, hK, hS, hO, hB, hW, s19, s16, s13, s8, s4, f0, f1, f3, f7, f12, (fun _ => rfl), f2, f4, f5, f6, f8, f9, f10, f11, f13, f14, f16, f17, f18, f20, f21⟩
    refine Steps.cons (fun d ac wz hI hd hdep K hK' => ?_) ?_
    · obtain ⟨u3, u4, u11, u12, u13, u14, u15, u16, u17, u18, u19, u20, u21, u22, u23, u24, u25, u26, u27, u28, u29, rfl, hK, hS, hO, hB, hW, s19, s16, s13, s8, s4, f0, f1, f3, f7, f12, f15, f2, f4, f5, f6, f8, f9, f10, f11, f13, f14, f16, f17, f18, f20, f21⟩ := hI
      have q15 := f15 (hdep 15 rfl)
      subst q15
      have hn19 : d 19 = false := by
        cases h : d 19 with
        | false => rfl
        | true => have h7 := s19 h; rw [hd] at h7; cases h7
      have hs := hS hn19
      go_simp
      refine (sNext g 6 wz hs).mono ?_
      rintro e w1' ⟨x, rfl, xa, xb, -, hs1, hg1⟩
      have xc := xb (by omega)
      obtain ⟨q, rfl⟩ := Int.eq_ofNat_of_zero_le xa
      refine hK' _ _ ⟨_, _, _, _, _, _, _, _, _, _, _, _, _, _, _, _, _, _, _, _, _, rfl, (hK.nxt hg1), (fun _ => hs1), (fun h => (hO hn19).nxt hg1 neb), (fun h => absurd (h.symm.trans hn19) (by decide)), (below_nxt hW hg1 hW.size (by omega)), (fun _ => rfl), (fun _ => hdep 13 rfl), s13, s8, s4, f0, f1, f3, f7, f12, f15, f2, f4, f5, f6, f8, f9, f10, f11, f13, (fun h => by obtain ⟨h0, e1, e2, e3, e4⟩ := f14 h; exact ⟨h0, e1, e2, e3, e4.nxt hg1 (by omega)⟩), (fun _ => ⟨q, rfl, by omega⟩), (fun h => by obtain ⟨h0, q0, y, e1, e2, e3, e4, e5⟩ := f17 h; exact ⟨h0, q0, y, e1, e2, e3, Nat.lt_of_lt_of_le e4 hg1.size, cell_nxt e5 hg1 (by omega)⟩), f18, f20, f21⟩
    refine Steps.cons (fun d ac wz hI hd hdep K hK' => ?_) ?_
    · obtain ⟨u3, u4, u11, u12, u13, u14, u15, u16, u17, u18, u19, u20, u21, u22, u23, u24, u25, u26, u27, u28, u29, rfl, hK, hS, hO, hB, hW, s19, s16, s13, s8, s4, f0, f1, f3, f7, f12, f15, f2, f4, f5, f6, f8, f9, f10, f11, f13, f14, f16, f17, f18, f20, f21⟩ := hI
      obtain ⟨h0, q14, e2, e3, e4⟩ := f14 (hdep 14 rfl)
      subst q14
      obtain ⟨q, q16, hq⟩ := f16 (hdep 16 rfl)
      subst q16
      have hq2 : (q : Int) < 6 := by omega
      have hq3 : (0 : Int) ≤ (q : Int) := by omega
      obtain ⟨y, hy⟩ := e4.2 q hq
      go_simp
      refine hK' _ _ ⟨_, _, _, _, _, _, _, _, _, _, _, _, _, _, _, _, _, _, _, _, _, rfl, hK, hS, hO, hB, hW, s19, s16, s13, s8, s4, f0, f1, f3, f7, f12, f15, f2, f4, f5, f6, f8, f9, f10, f11, f13, f14, f16, (fun _ => ⟨h0, q, y, rfl, e2, e3, e4.1, hy⟩), f18, f20, f21⟩
    refine Steps.cons (fun d ac wz hI hd hdep K hK' => ?_) ?_
    · obtain ⟨u3, u4, u11, u12, u13, u14, u15, u16, u17, u18, u19, u20, u21, u22, u23, u24, u25, u26, u27, u28, u29, rfl, hK, hS, hO, hB, hW, s19, s16, s13, s8, s4, f0, f1, f3, f7, f12, f15, f2, f4, f5, f6, f8, f9, f10, f11, f13, f14, f16, f17, f18, f20, f21⟩ := hI
      obtain ⟨h0, q, y, q17, e2, e3, e4, e5⟩ := f17 (hdep 17 rfl)
      subst q17
      go_simp
      refine hK' _ _ ⟨_, _, _, _, _, _, _, _, _, _, _, _, _, _, _, _, _, _, _, _, _, rfl, hK, hS, hO, hB, hW, s19, s16, s13, s8, s4, f0, f1, f3, f7, f12, f15, f2, f4, f5, f6, f8, f9, f10, f11, f13, f14, f16, f17, (fun _ => ⟨y, rfl⟩), f20, f21⟩
    refine Steps.cons (fun d ac wz hI hd hdep K hK' => ?_) ?_
    · obtain ⟨u3, u4, u11, u12, u13, u14, u15, u16, u17, u18, u19, u20, u21, u22, u23, u24, u25, u26, u27, u28, u29, rfl, hK, hS, hO, hB, hW, s19, s16, s13, s8, s4, f0, f1, f3, f7, f12, f15, f2, f4, f5, f6, f8, f9, f10, f11, f13, f14, f16, f17, f18, f20, f21⟩ := hI
      have q0 := f0 (hdep 0 rfl)
      subst q0
      obtain ⟨o1, o2, o3, o4, o5, o6, o7⟩ := hO hd
      have hst := store3b (x := .int .i64 r) (y := .int .i64 c) (z := .slice a3 n3 c3) o1 o2 o3 o4
      go_simp
      have hg3 : wz.grownBy (((wz.setCell ⟨w.heap.size, 0, none⟩ (.int .i64 r)).setCell ⟨w.heap.size, 1, none⟩ (.int .i64 c)).setCell ⟨w.heap.size, 2, none⟩ (.slice a3 n3 c3)) (some w.heap.size) := only_setCell (only_setCell (only_setCell (World.grownBy.refl wz _) _) _) _
      refine hK' _ _ ⟨_, _, _, _, _, _, _, _, _, _, _, _, _, _, _, _, _, _, _, _, _, rfl, (hK.set hg3), (fun h => by cases h), (fun h => by cases h), (fun _ => hst.out), (((hW.setCell (Nat.le_refl _) _).setCell (Nat.le_refl _) _).setCell (Nat.le_refl _) _), (fun _ => hdep 16 rfl), s16, s13, s8, s4, f0, f1, f3, f7, f12, f15, f2, f4, f5, f6, f8, f9, f10, f11, f13, (fun h => by obtain ⟨h0, e1, e2, e3, e4⟩ := f14 h; exact ⟨h0, e1, e2, e3, e4.nxt hg3 (by omega)⟩), f16, (fun h => by obtain ⟨h0, q0, y, e1, e2, e3, e4, e5⟩ := f17 h; exact ⟨h0, q0, y, e1, e2, e3, Nat.lt_of_lt_of_le e4 hg3.size, cell_nxt e5 hg3 (by omega)⟩), f18, f20, f21⟩
    refine Steps.cons (fun d ac wz hI hd hdep K hK' => ?_) ?_
    · obtain ⟨u3, u4, u11, u12, u13, u14, u15, u16, u17, u18, u19, u20, u21, u22, u23, u24, u25, u26, u27, u28, u29, rfl, hK, hS, hO, hB, hW, s19, s16, s13, s8, s4, f0, f1, f3, f7, f12, f15, f2, f4, f5, f6, f8, f9, f10, f11, f13, f14, f16, f17, f18, f20, f21⟩ := hI
      obtain ⟨y11, q11⟩ := f11 (hdep 11 rfl)
      subst q11
      go_simp
      refine hK' _ _ ⟨_, _, _, _, _, _, _, _, _, _, _, _, _, _, _, _, _, _, _, _, _, rfl, hK, hS, hO, hB, hW, s19, s16, s13, s8, s4, f0, f1, f3, f7, f12, f15, f2, f4, f5, f6, f8, f9, f10, f11, f13, f14, f16, f17, f18, (fun _ => ⟨y11, rfl⟩), f21⟩
    refine Steps.cons (fun d ac wz hI hd hdep K hK' => ?_) ?_
    · obtain ⟨u3, u4, u11, u12, u13, u14, u15, u16, u17, u18, u19, u20, u21, u22, u23, u24, u25, u26, u27, u28, u29, rfl, hK, hS, hO, hB, hW, s19, s16, s13, s8, s4, f0, f1, f3, f7, f12, f15, f2, f4, f5, f6, f8, f9, f10, f11, f13, f14, f16, f17, f18, f20, f21⟩ := hI
      obtain ⟨y18, q18⟩ := f18 (hdep 18 rfl)
      subst q18
      go_simp
      refine hK' _ _ ⟨_, _, _, _, _, _, _, _, _, _, _, _, _, _, _, _, _, _, _, _, _, rfl, hK, hS, hO, hB, hW, s19, s16, s13, s8, s4, f0, f1, f3, f7, f12, f15, f2, f4, f5, f6, f8, f9, f10, f11, f13, f14, f16, f17, f18, f20, (fun _ => ⟨y18, rfl⟩)⟩
    exact Steps.nil
  · intro d ac wz hI hall
    obtain ⟨u3, u4, u11, u12, u13, u14, u15, u16, u17, u18, u19, u20, u21, u22, u23, u24, u25, u26, u27, u28, u29, rfl, hK, hS, hO, hB, hW, s19, s16, s13, s8, s4, f0, f1, f3, f7, f12, f15, f2, f4, f5, f6, f8, f9, f10, f11, f13, f14, f16, f17, f18, f20, f21⟩ := hI
    obtain ⟨y20, q20⟩ := f20 (hall 20 (by decide))
    subst q20
    obtain ⟨y21, q21⟩ := f21 (hall 21 (by decide))
    subst q21
    have hb := hB (hall 19 (by decide))
    have HKX := Lib.hid hK
    have HBW := Lib.hid hW
    clear hK hS hO hB hW s19 s16 s13 s8 s4 f0 f1 f3 f7 f12 f15 f2 f4 f5 f6 f8 f9 f10 f11 f13 f14 f16 f17 f18 f20 f21 hall
    obtain ⟨p1, p2, p3, p4⟩ := hb
    go_wp2
    (try simp only [Exit.inBlock, Exit.then])
    refine bodyPost_ret (v := .tuple #[.agg #[.int .i64 r, .int .i64 c, .slice a3 n3 c3], .int .i64 y20, .int .i64 y21]) (by simp [results, Try.results45, go_sem, *]) rfl ?_
    refine ⟨r, c, a3, n3, c3, zs, y20, y21, rfl, by omega, hc3, ?_, HBW.out⟩
    refine ⟨HRV.out.1, fun hp => ?_⟩
    obtain ⟨b, off, e, hlt, hcl⟩ := HRV.out.2 hp
    have hge := HF3.out b off e
    exact ⟨b, off, e, Nat.lt_of_lt_of_le hlt HKX.out.1, fun i hi => (HKX.out.cell hlt (by omega) (by omega)).trans (hcl i hi)⟩
set_option maxRecDepth 100000 in
set_option maxHeartbeats 8000000 in
theorem dMed (a : Option Addr) (n cp : Nat) (w : World) (h : BytesIn w a n w.heap.size) (hn : n ≤ 1048576) : Calls Try.prog 43 #[.slice a n cp] w (DrawnGrid w) := by
  have HO := Lib.hid (Out3.new w 32)
  have hk0 : Below w.heap.size w (w.alloc (.cells #[.int .i64 0, .int .i64 0, .slice none 0 0] 32)) := by repeat' (first | (with_reducible exact Below.refl _ _) | (with_reducible assumption) | (with_reducible refine Below.alloc ?_ ?_ _) | (with_reducible refine Below.setCell ?_ ?_ _) | (with_reducible refine Below.drew ?_) | (with_reducible refine below_drewN ?_ _) | (with_reducible refine below_via (by with_reducible assumption) ?_ ?_) | go_size)
  have HBY := Lib.hid ((h.kept (fun b hb => hk0.block b hb)).up (show w.heap.size ≤ (w.alloc (.cells #[.int .i64 0, .int .i64 0, .slice none 0 0] 32)).heap.size by simp))
  clear h
  go_enter Try.func43, Try.ntmps43
  go_wp2_with fail
  refine (sFrom a n cp _ HBY.out hn).mono ?_
  rintro e w1 ⟨g, rfl, hgl, hs1, hb1⟩
  have HS1 := Lib.hid hs1
  have hz1 := hb1.size
  simp only [World.size_alloc] at hgl hz1
  have HX1 := Lib.hid hb1
  clear hs1 hb1 HO HBY
  go_wp2_with fail
  refine (dRast g _ HS1.out _ HX1.out (by simp; omega)).mono ?_
  rintro e w3 ⟨r, c, a3, n3, c3, zs, rfl, hn3, hc3, hr3, hb3, hf3⟩
  have HO3 := Lib.hid ((Out3.new w 32).keep hb3)
  obtain ⟨o1, o2, o3, o4, o5, o6, o7⟩ := HO3.out
  have HR3 := Lib.hid hr3
  have hB3 : Below w.heap.size w w3 := hk0.trans (hb3.mono (by simp))
  have HF3 := Lib.hid hf3
  clear hb3 hr3 hf3
  go_wp2
  (try simp only [Exit.inBlock, Exit.then])
  refine bodyPost_ret (v := .agg #[.int .i64 r, .int .i64 c, .slice a3 n3 c3]) (by simp [results, Try.results43, go_sem, o2, o3, o4]) rfl ?_
  exact ⟨_, _, _, _, _, _, rfl, hn3, hc3, rd_nxt HR3.out (only_setCell (only_setCell (only_setCell (World.grownBy.refl w3 (some w.heap.size)) _) _) _) (fun b off e _ => by have := HF3.out b off e; simp at this; omega), by repeat' (first | (with_reducible exact Below.refl _ _) | (with_reducible assumption) | (with_reducible refine Below.alloc ?_ ?_ _) | (with_reducible refine Below.setCell ?_ ?_ _) | (with_reducible refine Below.drew ?_) | (with_reducible refine below_drewN ?_ _) | (with_reducible refine below_via (by with_reducible assumption) ?_ ?_) | go_size), fun b off e => by have := HF3.out b off e; simp at this; omega⟩
end Go.Proofs.Ytfiddbmjgncabaa
