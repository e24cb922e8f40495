/-
  DERIVED. impl.cornersOf: a trial of its first region.
-/
import Derived.Test.YtdbecdgiafjkfaaCorn2
import Derived.Test.YtdbecdgiafjkfaaRegI
namespace Go.Proofs.Ytdbecdgiafjkfaa
open Go.RowKit
set_option linter.unusedVariables false
/-- a box of two cells that may be written; what it holds, once it was stored. -/
def Spt (w : World) (b : Nat) (s : Bool) (x y : Int) : Prop := b < w.heap.size ∧ w.frozen? ⟨b, 0, none⟩ = false ∧ w.frozen? ⟨b, 1, none⟩ = false ∧ ∃ c0 c1, w.cell? ⟨b, 0, none⟩ = some c0 ∧ w.cell? ⟨b, 1, none⟩ = some c1 ∧ (s = true → c0 = .int .i64 x ∧ c1 = .int .i64 y)
theorem Spt.kept {w w' : World} {b : Nat} {s : Bool} {x y : Int} (h : Spt w b s x y) (hs : w.heap.size ≤ w'.heap.size) (e : w'.heap[b]? = w.heap[b]?) : Spt w' b s x y := by
  obtain ⟨h0, f0, f1, c0, c1, e0, e1, hh⟩ := h
  exact ⟨by omega, (World.frozen?_of_block (a := ⟨b, 0, none⟩) e).trans f0, (World.frozen?_of_block (a := ⟨b, 1, none⟩) e).trans f1, c0, c1, (World.cell?_of_block (a := ⟨b, 0, none⟩) e).trans e0, (World.cell?_of_block (a := ⟨b, 1, none⟩) e).trans e1, hh⟩
theorem Spt.keep {w w' : World} {b : Nat} {s : Bool} {x y : Int} (h : Spt w b s x y) (hb : Below w.heap.size w w') : Spt w' b s x y := h.kept hb.size (hb.block b h.1)
theorem Spt.far {w : World} {b c i : Nat} {v : Value} {s : Bool} {x y : Int} (h : Spt w b s x y) (hc : b ≠ c) : Spt (w.setCell ⟨c, i, none⟩ v) b s x y := h.kept (by simp) (Below.heap_setCell w ⟨c, i, none⟩ v b hc)
theorem Spt.new (w : World) (t : TypeId) (u v x y : Int) (s : Bool) (hs : s = false) : Spt (w.alloc (.cells #[.int .i64 u, .int .i64 v] t)) w.heap.size s x y :=
  ⟨by simp, by simp [go_sem], by simp [go_sem], _, _, by simp; rfl, by simp; rfl, fun h => by rw [hs] at h; cases h⟩
theorem Spt.store {w : World} {b : Nat} {s s' : Bool} {x y : Int} (h : Spt w b s x y) : Spt ((w.setCell ⟨b, 0, none⟩ (.int .i64 x)).setCell ⟨b, 1, none⟩ (.int .i64 y)) b s' x y := by
  obtain ⟨h0, f0, f1, c0, c1, e0, e1, hh⟩ := h
  refine ⟨by simpa using h0, by simpa using f0, by simpa using f1, .int .i64 x, .int .i64 y, ?_, ?_, fun _ => ⟨rfl, rfl⟩⟩
  · rw [World.cell?_setCell_other _ _ _ _ (by simp)]
    exact World.cell?_setCell_same w ⟨b, 0, none⟩ _ e0
  · exact World.cell?_setCell_same _ ⟨b, 1, none⟩ _ ((World.cell?_setCell_other w ⟨b, 0, none⟩ ⟨b, 1, none⟩ _ (by simp)).trans e1)
theorem Spt.box {w : World} {b : Nat} {x y : Int} (h : Spt w b true x y) : Box2 w b x y := by
  obtain ⟨h0, f0, f1, c0, c1, e0, e1, hh⟩ := h
  obtain ⟨rfl, rfl⟩ := hh rfl
  exact ⟨h0, e0, e1⟩
theorem Box8.set {w : World} {b : Nat} {x0 x1 x2 x3 x4 x5 x6 x7 : Int} (h : Box8 w b x0 x1 x2 x3 x4 x5 x6 x7) {i : Nat} {v : Int} : (i = 0 → Box8 (w.setCell ⟨b, i, none⟩ (.int .i64 v)) b v x1 x2 x3 x4 x5 x6 x7) ∧ (i = 1 → Box8 (w.setCell ⟨b, i, none⟩ (.int .i64 v)) b x0 v x2 x3 x4 x5 x6 x7) ∧ (i = 2 → Box8 (w.setCell ⟨b, i, none⟩ (.int .i64 v)) b x0 x1 v x3 x4 x5 x6 x7) ∧ (i = 3 → Box8 (w.setCell ⟨b, i, none⟩ (.int .i64 v)) b x0 x1 x2 v x4 x5 x6 x7) ∧ (i = 4 → Box8 (w.setCell ⟨b, i, none⟩ (.int .i64 v)) b x0 x1 x2 x3 v x5 x6 x7) ∧ (i = 5 → Box8 (w.setCell ⟨b, i, none⟩ (.int .i64 v)) b x0 x1 x2 x3 x4 v x6 x7) ∧ (i = 6 → Box8 (w.setCell ⟨b, i, none⟩ (.int .i64 v)) b x0 x1 x2 x3 x4 x5 v x7) ∧ (i = 7 → Box8 (w.setCell ⟨b, i, none⟩ (.int .i64 v)) b x0 x1 x2 x3 x4 x5 x6 v) := by
  obtain ⟨h0, ⟨a0, a1, a2, a3, a4, a5, a6, a7⟩, hf⟩ := h
  have far : ∀ j, j ≠ i → (w.setCell ⟨b, i, none⟩ (.int .i64 v)).cell? ⟨b, j, none⟩ = w.cell? ⟨b, j, none⟩ := fun j hj => World.cell?_setCell_other w ⟨b, i, none⟩ ⟨b, j, none⟩ _ (fun e => by injection e with e1 e2; omega)
  have fz : ∀ j, j < 8 → (w.setCell ⟨b, i, none⟩ (.int .i64 v)).frozen? ⟨b, j, none⟩ = false := fun j hj => by rw [World.frozen?_setCell]; exact hf j hj
  refine ⟨fun e => ⟨by simpa using h0, ⟨by rw [e]; exact World.cell?_setCell_same w ⟨b, 0, none⟩ _ a0, (far 1 (by omega)).trans a1, (far 2 (by omega)).trans a2, (far 3 (by omega)).trans a3, (far 4 (by omega)).trans a4, (far 5 (by omega)).trans a5, (far 6 (by omega)).trans a6, (far 7 (by omega)).trans a7⟩, fz⟩, fun e => ⟨by simpa using h0, ⟨(far 0 (by omega)).trans a0, by rw [e]; exact World.cell?_setCell_same w ⟨b, 1, none⟩ _ a1, (far 2 (by omega)).trans a2, (far 3 (by omega)).trans a3, (far 4 (by omega)).trans a4, (far 5 (by omega)).trans a5, (far 6 (by omega)).trans a6, (far 7 (by omega)).trans a7⟩, fz⟩, fun e => ⟨by simpa using h0, ⟨(far 0 (by omega)).trans a0, (far 1 (by omega)).trans a1, by rw [e]; exact World.cell?_setCell_same w ⟨b, 2, none⟩ _ a2, (far 3 (by omega)).trans a3, (far 4 (by omega)).trans a4, (far 5 (by omega)).trans a5, (far 6 (by omega)).trans a6, (far 7 (by omega)).trans a7⟩, fz⟩, fun e => ⟨by simpa using h0, ⟨(far 0 (by omega)).trans a0, (far 1 (by omega)).trans a1, (far 2 (by omega)).trans a2, by rw [e]; exact World.cell?_setCell_same w ⟨b, 3, none⟩ _ a3, (far 4 (by omega)).trans a4, (far 5 (by omega)).trans a5, (far 6 (by omega)).trans a6, (far 7 (by omega)).trans a7⟩, fz⟩, fun e => ⟨by simpa using h0, ⟨(far 0 (by omega)).trans a0, (far 1 (by omega)).trans a1, (far 2 (by omega)).trans a2, (far 3 (by omega)).trans a3, by rw [e]; exact World.cell?_setCell_same w ⟨b, 4, none⟩ _ a4, (far 5 (by omega)).trans a5, (far 6 (by omega)).trans a6, (far 7 (by omega)).trans a7⟩, fz⟩, fun e => ⟨by simpa using h0, ⟨(far 0 (by omega)).trans a0, (far 1 (by omega)).trans a1, (far 2 (by omega)).trans a2, (far 3 (by omega)).trans a3, (far 4 (by omega)).trans a4, by rw [e]; exact World.cell?_setCell_same w ⟨b, 5, none⟩ _ a5, (far 6 (by omega)).trans a6, (far 7 (by omega)).trans a7⟩, fz⟩, fun e => ⟨by simpa using h0, ⟨(far 0 (by omega)).trans a0, (far 1 (by omega)).trans a1, (far 2 (by omega)).trans a2, (far 3 (by omega)).trans a3, (far 4 (by omega)).trans a4, (far 5 (by omega)).trans a5, by rw [e]; exact World.cell?_setCell_same w ⟨b, 6, none⟩ _ a6, (far 7 (by omega)).trans a7⟩, fz⟩, fun e => ⟨by simpa using h0, ⟨(far 0 (by omega)).trans a0, (far 1 (by omega)).trans a1, (far 2 (by omega)).trans a2, (far 3 (by omega)).trans a3, (far 4 (by omega)).trans a4, (far 5 (by omega)).trans a5, (far 6 (by omega)).trans a6, by rw [e]; exact World.cell?_setCell_same w ⟨b, 7, none⟩ _ a7⟩, fz⟩⟩
theorem Box8.set0 {w : World} {b : Nat} {x0 x1 x2 x3 x4 x5 x6 x7 v : Int} (h : Box8 w b x0 x1 x2 x3 x4 x5 x6 x7) : Box8 (w.setCell ⟨b, 0, none⟩ (.int .i64 v)) b v x1 x2 x3 x4 x5 x6 x7 := (h.set (i := 0)).1 rfl
theorem Box8.set1 {w : World} {b : Nat} {x0 x1 x2 x3 x4 x5 x6 x7 v : Int} (h : Box8 w b x0 x1 x2 x3 x4 x5 x6 x7) : Box8 (w.setCell ⟨b, 1, none⟩ (.int .i64 v)) b x0 v x2 x3 x4 x5 x6 x7 := (h.set (i := 1)).2.1 rfl
theorem Box8.set2 {w : World} {b : Nat} {x0 x1 x2 x3 x4 x5 x6 x7 v : Int} (h : Box8 w b x0 x1 x2 x3 x4 x5 x6 x7) : Box8 (w.setCell ⟨b, 2, none⟩ (.int .i64 v)) b x0 x1 v x3 x4 x5 x6 x7 := (h.set (i := 2)).2.2.1 rfl
theorem Box8.set3 {w : World} {b : Nat} {x0 x1 x2 x3 x4 x5 x6 x7 v : Int} (h : Box8 w b x0 x1 x2 x3 x4 x5 x6 x7) : Box8 (w.setCell ⟨b, 3, none⟩ (.int .i64 v)) b x0 x1 x2 v x4 x5 x6 x7 := (h.set (i := 3)).2.2.2.1 rfl
theorem Box8.set4 {w : World} {b : Nat} {x0 x1 x2 x3 x4 x5 x6 x7 v : Int} (h : Box8 w b x0 x1 x2 x3 x4 x5 x6 x7) : Box8 (w.setCell ⟨b, 4, none⟩ (.int .i64 v)) b x0 x1 x2 x3 v x5 x6 x7 := (h.set (i := 4)).2.2.2.2.1 rfl
theorem Box8.set5 {w : World} {b : Nat} {x0 x1 x2 x3 x4 x5 x6 x7 v : Int} (h : Box8 w b x0 x1 x2 x3 x4 x5 x6 x7) : Box8 (w.setCell ⟨b, 5, none⟩ (.int .i64 v)) b x0 x1 x2 x3 x4 v x6 x7 := (h.set (i := 5)).2.2.2.2.2.1 rfl
theorem Box8.set6 {w : World} {b : Nat} {x0 x1 x2 x3 x4 x5 x6 x7 v : Int} (h : Box8 w b x0 x1 x2 x3 x4 x5 x6 x7) : Box8 (w.setCell ⟨b, 6, none⟩ (.int .i64 v)) b x0 x1 x2 x3 x4 x5 v x7 := (h.set (i := 6)).2.2.2.2.2.2.1 rfl
theorem Box8.set7 {w : World} {b : Nat} {x0 x1 x2 x3 x4 x5 x6 x7 v : Int} (h : Box8 w b x0 x1 x2 x3 x4 x5 x6 x7) : Box8 (w.setCell ⟨b, 7, none⟩ (.int .i64 v)) b x0 x1 x2 x3 x4 x5 x6 v := (h.set (i := 7)).2.2.2.2.2.2.2 rfl
theorem Box8.store8 {w : World} {b : Nat} {x0 x1 x2 x3 x4 x5 x6 x7 y0 y1 y2 y3 y4 y5 y6 y7 : Int} (h : Box8 w b x0 x1 x2 x3 x4 x5 x6 x7) : Box8 ((((((((w.setCell ⟨b, 0, none⟩ (.int .i64 y0)).setCell ⟨b, 1, none⟩ (.int .i64 y1)).setCell ⟨b, 2, none⟩ (.int .i64 y2)).setCell ⟨b, 3, none⟩ (.int .i64 y3)).setCell ⟨b, 4, none⟩ (.int .i64 y4)).setCell ⟨b, 5, none⟩ (.int .i64 y5)).setCell ⟨b, 6, none⟩ (.int .i64 y6)).setCell ⟨b, 7, none⟩ (.int .i64 y7)) b y0 y1 y2 y3 y4 y5 y6 y7 := ((((((((h.set0).set1).set2).set3).set4).set5).set6).set7)
set_option maxRecDepth 20000 in
set_option maxHeartbeats 4000000 in
theorem iCorners3 (ax ay bx b' cx cy n : Int) (w : World) (h1 : 17 ≤ n) (h2 : n ≤ 41) : Calls Try.prog 73 #[.agg #[.int .i64 ax, .int .i64 ay], .agg #[.int .i64 bx, .int .i64 b'], .agg #[.int .i64 cx, .int .i64 cy], .int .i64 n] w
    fun e w' => e = .returned (.agg #[.int .i64 (cornA ax bx cx n), .int .i64 (cornA ay b' cy n), .int .i64 (cornB ax bx cx n), .int .i64 (cornB ay b' cy n), .int .i64 (cornC ax bx cx n), .int .i64 (cornC ay b' cy n), .int .i64 (cornD ax bx cx n), .int .i64 (cornD ay b' cy n)]) ∧ Below w.heap.size w w' := by
  go_enter Try.func73, Try.ntmps73
  go_wp2_with fail
  obtain ⟨W, hW⟩ : ∃ W : World, W = (((w.alloc (.cells #[.int .i64 ax, .int .i64 ay] 35)).alloc (.cells #[.int .i64 bx, .int .i64 b'] 35)).alloc (.cells #[.int .i64 cx, .int .i64 cy] 35)).alloc (.cells #[.int .i64 0, .int .i64 0, .int .i64 0, .int .i64 0, .int .i64 0, .int .i64 0, .int .i64 0, .int .i64 0] 42) := ⟨_, rfl⟩
  have hbx := corn_boxes ax ay bx b' cx cy w W (by rw [hW]; repeat' (first | (with_reducible exact Below.refl _ _) | (with_reducible assumption) | (with_reducible refine Below.alloc ?_ ?_ _) | (with_reducible refine Below.setCell ?_ ?_ _) | (with_reducible refine Below.drew ?_) | (with_reducible refine below_drewN ?_ _) | (with_reducible refine below_via (by with_reducible assumption) ?_ ?_) | go_size))
  have HB0 : Hid (Below w.heap.size w W) := by rw [hW]; unfold Hid; repeat' (first | (with_reducible exact Below.refl _ _) | (with_reducible assumption) | (with_reducible refine Below.alloc ?_ ?_ _) | (with_reducible refine Below.setCell ?_ ?_ _) | (with_reducible refine Below.drew ?_) | (with_reducible refine below_drewN ?_ _) | (with_reducible refine below_via (by with_reducible assumption) ?_ ?_) | go_size)
  have hz0 : W.heap.size = w.heap.size + 4 := by rw [hW]; simp
  rw [← hW]
  clear hW
  obtain ⟨k1, k2, k3, k4⟩ := hbx
  have K1 := Lib.hid k1
  have K2 := Lib.hid k2
  have K3 := Lib.hid k3
  have K4 := Lib.hid k4
  clear k1 k2 k3 k4
  go_cut [9, 10] from 12 (fun p q wx => ∃ bu bv : Nat, p = .pointer (some ⟨bu, 0, none⟩) ∧ q = .pointer (some ⟨bv, 0, none⟩) ∧ Hid (Box2 wx bu (wrap64 (bx - ax)) (wrap64 (b' - ay))) ∧ Hid (Box2 wx bv (wrap64 (cx - ax)) (wrap64 (cy - ay))) ∧ Hid (Below W.heap.size W wx) ∧ W.heap.size ≤ bu ∧ W.heap.size ≤ bv)
  case first =>
    refine wp_region_inv (fun d a wz => ∃ (u12 u13 u14 u15 u16 u17 u9 u10 : Value) (b6 b7 : Nat), a = ({ tmps := #[(.agg #[.int .i64 ax, .int .i64 ay]), (.agg #[.int .i64 bx, .int .i64 b']), (.agg #[.int .i64 cx, .int .i64 cy]), (.int .i64 n), (.pointer (some ⟨w.heap.size, 0, none⟩)), (.pointer (some ⟨w.heap.size + 1, 0, none⟩)), (.pointer (some ⟨w.heap.size + 1 + 1, 0, none⟩)), undef, (.pointer (some ⟨w.heap.size + 1 + 1 + 1, 0, none⟩)), u9, u10, undef, u12, u13, u14, u15, u16, u17, undef, undef, undef, undef, undef, undef, undef, undef, undef, undef, undef, undef, undef, undef, undef, undef, undef, undef, undef, undef, undef, undef, undef, undef, undef, undef, undef, undef, undef, undef, undef, undef, undef, undef, undef, undef, undef, undef], defers := [] } : Act) ∧ Below W.heap.size W wz ∧ (d 0 = true → u12 = (.agg #[.int .i64 bx, .int .i64 b'])) ∧ (d 1 = true → u13 = (.agg #[.int .i64 ax, .int .i64 ay])) ∧ (d 2 = true → u14 = (.agg #[.int .i64 (wrap64 (bx - ax)), .int .i64 (wrap64 (b' - ay))])) ∧ (d 3 = true → u15 = (.agg #[.int .i64 cx, .int .i64 cy])) ∧ (d 4 = true → u16 = (.agg #[.int .i64 ax, .int .i64 ay])) ∧ (d 5 = true → u17 = (.agg #[.int .i64 (wrap64 (cx - ax)), .int .i64 (wrap64 (cy - ay))])) ∧ (d 6 = true → u9 = .pointer (some ⟨b6, 0, none⟩) ∧ W.heap.size ≤ b6 ∧ Spt wz b6 (d 8) (wrap64 (bx - ax)) (wrap64 (b' - ay))) ∧ (d 8 = true → d 6 = true) ∧ (d 7 = true → u10 = .pointer (some ⟨b7, 0, none⟩) ∧ W.heap.size ≤ b7 ∧ Spt wz b7 (d 9) (wrap64 (cx - ax)) (wrap64 (cy - ay))) ∧ (d 9 = true → d 7 = true) ∧ (d 6 = true → d 7 = true → b6 ≠ b7)) (by kernel_rfl) (by kernel_rfl) ?_ ?_ ?_
    · exact ⟨_, _, _, _, _, _, _, _, 0, 0, rfl, (Below.refl _ _).drew, (fun h => by cases h), (fun h => by cases h), (fun h => by cases h), (fun h => by cases h), (fun h => by cases h), (fun h => by cases h), (fun h => by cases h), (fun h => by cases h), (fun h => by cases h), (fun h => by cases h), (fun h => by cases h)⟩
    · refine Steps.cons (fun d a wz hI hd hdep K hK => ?_) ?_
      · obtain ⟨u12, u13, u14, u15, u16, u17, u9, u10, b6, b7, rfl, hB, f0, f1, f2, f3, f4, f5, f6, s6, f7, s7, g6_7⟩ := hI
        have e0 := (K2.out.below hB (by omega)).2.1
        have e1 := (K2.out.below hB (by omega)).2.2
        go_simp
        refine hK _ _ ⟨_, _, _, _, _, _, _, _, b6, b7, rfl, hB, (fun _ => rfl), f1, f2, f3, f4, f5, f6, s6, f7, s7, g6_7⟩
      refine Steps.cons (fun d a wz hI hd hdep K hK => ?_) ?_
      · obtain ⟨u12, u13, u14, u15, u16, u17, u9, u10, b6, b7, rfl, hB, f0, f1, f2, f3, f4, f5, f6, s6, f7, s7, g6_7⟩ := hI
        have e0 := (K1.out.below hB (by omega)).2.1
        have e1 := (K1.out.below hB (by omega)).2.2
        go_simp
        refine hK _ _ ⟨_, _, _, _, _, _, _, _, b6, b7, rfl, hB, f0, (fun _ => rfl), f2, f3, f4, f5, f6, s6, f7, s7, g6_7⟩
      refine Steps.cons (fun d a wz hI hd hdep K hK => ?_) ?_
      · obtain ⟨u12, u13, u14, u15, u16, u17, u9, u10, b6, b7, rfl, hB, f0, f1, f2, f3, f4, f5, f6, s6, f7, s7, g6_7⟩ := hI
        have q0 := f0 (hdep 0 rfl)
        subst q0
        have q1 := f1 (hdep 1 rfl)
        subst q1
        go_simp
        refine (iMinusB _ _ _ _ _).mono ?_
        rintro e w1 ⟨rfl, hb⟩
        refine hK _ _ ⟨_, _, _, _, _, _, _, _, b6, b7, rfl, (hB.trans (hb.mono hB.size)), f0, f1, (fun _ => rfl), f3, f4, f5, (fun h => ⟨(f6 h).1, (f6 h).2.1, (f6 h).2.2.keep hb⟩), s6, (fun h => ⟨(f7 h).1, (f7 h).2.1, (f7 h).2.2.keep hb⟩), s7, g6_7⟩
      refine Steps.cons (fun d a wz hI hd hdep K hK => ?_) ?_
      · obtain ⟨u12, u13, u14, u15, u16, u17, u9, u10, b6, b7, rfl, hB, f0, f1, f2, f3, f4, f5, f6, s6, f7, s7, g6_7⟩ := hI
        have e0 := (K3.out.below hB (by omega)).2.1
        have e1 := (K3.out.below hB (by omega)).2.2
        go_simp
        refine hK _ _ ⟨_, _, _, _, _, _, _, _, b6, b7, rfl, hB, f0, f1, f2, (fun _ => rfl), f4, f5, f6, s6, f7, s7, g6_7⟩
      refine Steps.cons (fun d a wz hI hd hdep K hK => ?_) ?_
      · obtain ⟨u12, u13, u14, u15, u16, u17, u9, u10, b6, b7, rfl, hB, f0, f1, f2, f3, f4, f5, f6, s6, f7, s7, g6_7⟩ := hI
        have e0 := (K1.out.below hB (by omega)).2.1
        have e1 := (K1.out.below hB (by omega)).2.2
        go_simp
        refine hK _ _ ⟨_, _, _, _, _, _, _, _, b6, b7, rfl, hB, f0, f1, f2, f3, (fun _ => rfl), f5, f6, s6, f7, s7, g6_7⟩
      refine Steps.cons (fun d a wz hI hd hdep K hK => ?_) ?_
      · obtain ⟨u12, u13, u14, u15, u16, u17, u9, u10, b6, b7, rfl, hB, f0, f1, f2, f3, f4, f5, f6, s6, f7, s7, g6_7⟩ := hI
        have q3 := f3 (hdep 3 rfl)
        subst q3
        have q4 := f4 (hdep 4 rfl)
        subst q4
        go_simp
        refine (iMinusB _ _ _ _ _).mono ?_
        rintro e w1 ⟨rfl, hb⟩
        refine hK _ _ ⟨_, _, _, _, _, _, _, _, b6, b7, rfl, (hB.trans (hb.mono hB.size)), f0, f1, f2, f3, f4, (fun _ => rfl), (fun h => ⟨(f6 h).1, (f6 h).2.1, (f6 h).2.2.keep hb⟩), s6, (fun h => ⟨(f7 h).1, (f7 h).2.1, (f7 h).2.2.keep hb⟩), s7, g6_7⟩
      refine Steps.cons (fun d a wz hI hd hdep K hK => ?_) ?_
      · obtain ⟨u12, u13, u14, u15, u16, u17, u9, u10, b6, b7, rfl, hB, f0, f1, f2, f3, f4, f5, f6, s6, f7, s7, g6_7⟩ := hI
        have hs : d 8 = false := by
          cases h : d 8 with
          | false => rfl
          | true => have := s6 h; rw [hd] at this; cases this
        have hal := (Below.refl wz.heap.size wz).alloc (Nat.le_refl _) (.cells #[.int .i64 0, .int .i64 0] 35)
        go_simp
        refine hK _ _ ⟨_, _, _, _, _, _, _, _, wz.heap.size, b7, rfl, (hB.trans (hal.mono hB.size)), f0, f1, f2, f3, f4, f5, (fun _ => ⟨rfl, hB.size, Spt.new wz 35 0 0 _ _ _ hs⟩), (fun _ => rfl), (fun h => ⟨(f7 h).1, (f7 h).2.1, (f7 h).2.2.keep hal⟩), s7, (fun _ h => Ne.symm (Nat.ne_of_lt (f7 h).2.2.1))⟩
      refine Steps.cons (fun d a wz hI hd hdep K hK => ?_) ?_
      · obtain ⟨u12, u13, u14, u15, u16, u17, u9, u10, b6, b7, rfl, hB, f0, f1, f2, f3, f4, f5, f6, s6, f7, s7, g6_7⟩ := hI
        have hs : d 9 = false := by
          cases h : d 9 with
          | false => rfl
          | true => have := s7 h; rw [hd] at this; cases this
        have hal := (Below.refl wz.heap.size wz).alloc (Nat.le_refl _) (.cells #[.int .i64 0, .int .i64 0] 35)
        go_simp
        refine hK _ _ ⟨_, _, _, _, _, _, _, _, b6, wz.heap.size, rfl, (hB.trans (hal.mono hB.size)), f0, f1, f2, f3, f4, f5, (fun h => ⟨(f6 h).1, (f6 h).2.1, (f6 h).2.2.keep hal⟩), s6, (fun _ => ⟨rfl, hB.size, Spt.new wz 35 0 0 _ _ _ hs⟩), (fun _ => rfl), (fun h _ => Nat.ne_of_lt (f6 h).2.2.1)⟩
      refine Steps.cons (fun d a wz hI hd hdep K hK => ?_) ?_
      · obtain ⟨u12, u13, u14, u15, u16, u17, u9, u10, b6, b7, rfl, hB, f0, f1, f2, f3, f4, f5, f6, s6, f7, s7, g6_7⟩ := hI
        have ha := hdep 6 rfl
        obtain ⟨qa, la, sa⟩ := f6 ha
        subst qa
        have qs := f2 (hdep 2 rfl)
        subst qs
        have sb := sa
        obtain ⟨z0, z1, z2, c0, c1, z3, z4, _⟩ := sb
        go_simp
        refine hK _ _ ⟨_, _, _, _, _, _, _, _, b6, b7, rfl, ((hB.setCell la _).setCell la _), f0, f1, f2, f3, f4, f5, (fun _ => ⟨rfl, la, sa.store⟩), (fun _ => ha), (fun h => ⟨(f7 h).1, (f7 h).2.1, ((f7 h).2.2.far (Ne.symm (g6_7 ha h))).far (Ne.symm (g6_7 ha h))⟩), s7, g6_7⟩
      refine Steps.cons (fun d a wz hI hd hdep K hK => ?_) ?_
      · obtain ⟨u12, u13, u14, u15, u16, u17, u9, u10, b6, b7, rfl, hB, f0, f1, f2, f3, f4, f5, f6, s6, f7, s7, g6_7⟩ := hI
        have ha := hdep 7 rfl
        obtain ⟨qa, la, sa⟩ := f7 ha
        subst qa
        have qs := f5 (hdep 5 rfl)
        subst qs
        have sb := sa
        obtain ⟨z0, z1, z2, c0, c1, z3, z4, _⟩ := sb
        go_simp
        refine hK _ _ ⟨_, _, _, _, _, _, _, _, b6, b7, rfl, ((hB.setCell la _).setCell la _), f0, f1, f2, f3, f4, f5, (fun h => ⟨(f6 h).1, (f6 h).2.1, ((f6 h).2.2.far (g6_7 h ha)).far (g6_7 h ha)⟩), s6, (fun _ => ⟨rfl, la, sa.store⟩), (fun _ => ha), g6_7⟩
      exact Steps.nil
    · intro d a wz hI hall
      obtain ⟨u12, u13, u14, u15, u16, u17, u9, u10, b6, b7, rfl, hB, f0, f1, f2, f3, f4, f5, f6, s6, f7, s7, g6_7⟩ := hI
      have q0 := f0 (hall 0 (by decide))
      subst q0
      have q1 := f1 (hall 1 (by decide))
      subst q1
      have q2 := f2 (hall 2 (by decide))
      subst q2
      have q3 := f3 (hall 3 (by decide))
      subst q3
      have q4 := f4 (hall 4 (by decide))
      subst q4
      have q5 := f5 (hall 5 (by decide))
      subst q5
      obtain ⟨q6, l6, r6⟩ := f6 (hall 6 (by decide))
      rw [hall 8 (by decide)] at r6
      subst q6
      obtain ⟨q7, l7, r7⟩ := f7 (hall 7 (by decide))
      rw [hall 9 (by decide)] at r7
      subst q7
      have n6_7 := g6_7 (hall 6 (by decide)) (hall 7 (by decide))
      (try dsimp only)
      go_wp2_with fail
      go_meet
      case rel => exact ⟨b6, b7, rfl, rfl, r6.box, r7.box, hB, l6, l7⟩
  obtain ⟨bu, bv, rfl, rfl, KU, KV, hb1, lu, lv⟩ := hcut
  obtain ⟨w1, rfl⟩ : ∃ w1 : World, w1 = wc := ⟨_, rfl⟩
  have HB1 := hb1.out
  have hz1 := HB1.size
  have hku := KU.out
  have hkv := KV.out
  have hka := K1.out.below HB1 (by omega)
  obtain ⟨ju, _, _⟩ := hku
  obtain ⟨jv, _, _⟩ := hkv
  obtain ⟨_, _, _⟩ := hka
  have HS1 : Hid (∀ w', Below w1.heap.size w1 w' → Below w1.heap.size w1 w' ∧ w.heap.size < w'.heap.size ∧ bu < w'.heap.size ∧ bv < w'.heap.size ∧ w'.cell? ⟨w.heap.size, 0, none⟩ = some (.int .i64 ax) ∧ w'.cell? ⟨w.heap.size, 1, none⟩ = some (.int .i64 ay) ∧ w'.cell? ⟨bu, 0, none⟩ = some (.int .i64 (wrap64 (bx - ax))) ∧ w'.cell? ⟨bu, 1, none⟩ = some (.int .i64 (wrap64 (b' - ay))) ∧ w'.cell? ⟨bv, 0, none⟩ = some (.int .i64 (wrap64 (cx - ax))) ∧ w'.cell? ⟨bv, 1, none⟩ = some (.int .i64 (wrap64 (cy - ay)))) := fun w' h => ⟨h, Nat.lt_of_lt_of_le (by assumption) h.size, Nat.lt_of_lt_of_le (by assumption) h.size, Nat.lt_of_lt_of_le (by assumption) h.size, (h.cell (p := ⟨_, _, none⟩) (by assumption)).trans (by assumption), (h.cell (p := ⟨_, _, none⟩) (by assumption)).trans (by assumption), (h.cell (p := ⟨_, _, none⟩) (by assumption)).trans (by assumption), (h.cell (p := ⟨_, _, none⟩) (by assumption)).trans (by assumption), (h.cell (p := ⟨_, _, none⟩) (by assumption)).trans (by assumption), (h.cell (p := ⟨_, _, none⟩) (by assumption)).trans (by assumption)⟩
  have HN : IntKind.i64.wrap (n - 7) = n - 7 := IntWalk.i64_in _ (by omega)
  have HN2 : IntKind.i64.wrap (2 * (n - 7)) = 2 * (n - 7) := IntWalk.i64_in _ (by omega)
  have eA : wrap64 (ax - floorV (wrap64 (wrap64 (wrap64 (bx - ax) + wrap64 (cx - ax)) * 7)) (2 * (n - 7))) = cornA ax bx cx n := by unfold cornA; rw [Int.mul_comm 7]
  have eA' : wrap64 (ay - floorV (wrap64 (wrap64 (wrap64 (b' - ay) + wrap64 (cy - ay)) * 7)) (2 * (n - 7))) = cornA ay b' cy n := by unfold cornA; rw [Int.mul_comm 7]
  go_wp2_with fail
  go_cut [11] from 12 (fun p wx => ∃ bq : Nat, p = .pointer (some ⟨bq, 0, none⟩) ∧ Hid (Box8 wx bq (cornA ax bx cx n) (cornA ay b' cy n) 0 0 0 0 0 0) ∧ Hid (Below w1.heap.size w1 wx) ∧ w1.heap.size ≤ bq)
  case first =>
    go_region_held3 (fun w' => Below w1.heap.size w1 w' ∧ w.heap.size < w'.heap.size ∧ bu < w'.heap.size ∧ bv < w'.heap.size ∧ w'.cell? ⟨w.heap.size, 0, none⟩ = some (.int .i64 ax) ∧ w'.cell? ⟨w.heap.size, 1, none⟩ = some (.int .i64 ay) ∧ w'.cell? ⟨bu, 0, none⟩ = some (.int .i64 (wrap64 (bx - ax))) ∧ w'.cell? ⟨bu, 1, none⟩ = some (.int .i64 (wrap64 (b' - ay))) ∧ w'.cell? ⟨bv, 0, none⟩ = some (.int .i64 (wrap64 (cx - ax))) ∧ w'.cell? ⟨bv, 1, none⟩ = some (.int .i64 (wrap64 (cy - ay)))) (exact HS1.out _ (by repeat' (first | (with_reducible exact Below.refl _ _) | (with_reducible assumption) | (with_reducible refine Below.alloc ?_ ?_ _) | (with_reducible refine Below.setCell ?_ ?_ _) | (with_reducible refine Below.drew ?_) | (with_reducible refine below_drewN ?_ _) | (with_reducible refine below_via (by with_reducible assumption) ?_ ?_) | go_size))) (first | (go_at_call 108; refine (iPlus _ _ _ _ _).mono ?_; rintro e w' ⟨rfl, hb⟩; obtain ⟨hc, hf⟩ := bcell hb; have hzz := grow_lt hb; have hz := hb.size; (try simp at hz); (try have hs0 : w1.heap.size < w'.heap.size := (by omega))) | (go_at_call 109; refine (iShare _ _ _ _ _ (by omega)).mono ?_; rintro e w' ⟨rfl, hb⟩; obtain ⟨hc, hf⟩ := bcell hb; have hzz := grow_lt hb; have hz := hb.size; (try simp at hz); (try have hs0 : w1.heap.size < w'.heap.size := (by omega))) | (go_at_call 105; refine (iMinusB _ _ _ _ _).mono ?_; rintro e w' ⟨rfl, hb⟩; obtain ⟨hc, hf⟩ := bcell hb; have hzz := grow_lt hb; have hz := hb.size; (try simp at hz); (try have hs0 : w1.heap.size < w'.heap.size := (by omega))))
    all_goals
      go_wp2_with fail
      go_meet
      case rel =>
        refine ⟨_, rfl, ?_, by unfold Hid; repeat' (first | (with_reducible exact Below.refl _ _) | (with_reducible assumption) | (with_reducible refine Below.alloc ?_ ?_ _) | (with_reducible refine Below.setCell ?_ ?_ _) | (with_reducible refine Below.drew ?_) | (with_reducible refine below_drewN ?_ _) | (with_reducible refine below_via (by with_reducible assumption) ?_ ?_) | go_size), by first | omega | (simp; omega) | (simp; done)⟩
        unfold Hid
        first
        | (with_reducible exact Box8.new _ _ _ _ _ _ _ _ _ _)
        | (with_reducible refine Box8.store8 (Box8.keep (Box8.new _ 42 0 0 0 0 0 0 0 0) ?_)
           repeat' (first | (with_reducible exact Below.refl _ _) | (with_reducible assumption) | (with_reducible refine Below.alloc ?_ ?_ _) | (with_reducible refine Below.setCell ?_ ?_ _) | (with_reducible refine Below.drew ?_) | (with_reducible refine below_drewN ?_ _) | (with_reducible refine below_via (by with_reducible assumption) ?_ ?_) | go_size))
  obtain ⟨bq, rfl, KQ, hb2, lq⟩ := hcut
  obtain ⟨w2, rfl⟩ : ∃ w2 : World, w2 = wc := ⟨_, rfl⟩
  have HB2 := hb2.out
  have hz2 := HB2.size
  have HBQ := hb2
  have KU2 := KU
  have KV2 := KV
  have HBW1 := Lib.hid HB1
  clear HB1 HB2 hb2 HS1 eA eA' HN2
  have e1 : wrap64 (cornA ax bx cx n + floorV (wrap64 (wrap64 (bx - ax) * n)) (n - 7)) = cornB ax bx cx n := by unfold cornB; rw [Int.mul_comm n]
  have e2 : wrap64 (cornA ay b' cy n + floorV (wrap64 (wrap64 (b' - ay) * n)) (n - 7)) = cornB ay b' cy n := by unfold cornB; rw [Int.mul_comm n]
  go_wp2_with fail
  go_cut [] from 12 (fun wx => Hid (Box8 wx bq (cornA ax bx cx n) (cornA ay b' cy n) (cornB ax bx cx n) (cornB ay b' cy n) 0 0 0 0) ∧ Hid (Below w1.heap.size w1 wx))
  case first =>
    refine wp_region_inv (fun d a wz => ∃ (u28 u29 u30 u31 u32 u33 u34 u35 u36 : Value) (zz : Nat) (y0 y1 : Int), a = ({ tmps := #[(.agg #[.int .i64 ax, .int .i64 ay]), (.agg #[.int .i64 bx, .int .i64 b']), (.agg #[.int .i64 cx, .int .i64 cy]), (.int .i64 n), (.pointer (some ⟨w.heap.size, 0, none⟩)), (.pointer (some ⟨w.heap.size + 1, 0, none⟩)), (.pointer (some ⟨w.heap.size + 1 + 1, 0, none⟩)), undef, (.pointer (some ⟨w.heap.size + 1 + 1 + 1, 0, none⟩)), (.pointer (some ⟨bu, 0, none⟩)), (.pointer (some ⟨bv, 0, none⟩)), (.pointer (some ⟨bq, 0, none⟩)), u12, u13, u14, u15, u16, u17, u18, u19, u20, u21, u22, u23, u24, u25, u26, u27, u28, u29, u30, u31, u32, u33, u34, u35, u36, u37, u38, u39, u40, u41, u42, u43, u44, u45, u46, u47, u48, u49, u50, u51, u52, u53, u54, u55], defers := [] } : Act) ∧ Below w1.heap.size w1 wz ∧ (d 0 = true → u28 = (.pointer (some ⟨bq, 0, none⟩))) ∧ (d 1 = true → u29 = (.agg #[.int .i64 (cornA ax bx cx n), .int .i64 (cornA ay b' cy n)])) ∧ (d 2 = true → u30 = (.agg #[.int .i64 (wrap64 (bx - ax)), .int .i64 (wrap64 (b' - ay))])) ∧ (d 3 = true → u31 = (.int .i64 n)) ∧ (d 4 = true → u32 = (.int .i64 n)) ∧ (d 5 = true → u33 = (.int .i64 (n - 7))) ∧ (d 6 = true → u34 = (.agg #[.int .i64 (floorV (wrap64 ((wrap64 (bx - ax)) * n)) (n - 7)), .int .i64 (floorV (wrap64 ((wrap64 (b' - ay)) * n)) (n - 7))])) ∧ (d 7 = true → u35 = (.agg #[.int .i64 (cornB ax bx cx n), .int .i64 (cornB ay b' cy n)])) ∧ (d 8 = true → u36 = (.pointer (some ⟨bq, 2, none⟩))) ∧ Box8 wz bq (cornA ax bx cx n) (cornA ay b' cy n) y0 y1 0 0 0 0 ∧ (d 9 = true → y0 = (cornB ax bx cx n) ∧ y1 = (cornB ay b' cy n))) (by kernel_rfl) (by kernel_rfl) ?_ ?_ ?_
    · exact ⟨_, _, _, _, _, _, _, _, _, 0, 0, 0, rfl, HBQ.out.drew, (fun h => by cases h), (fun h => by cases h), (fun h => by cases h), (fun h => by cases h), (fun h => by cases h), (fun h => by cases h), (fun h => by cases h), (fun h => by cases h), (fun h => by cases h), KQ.out.keep (Below.refl _ _).drew, (fun h => by cases h)⟩
    · refine Steps.cons (fun d a wz hI hd hdep K hK => ?_) ?_
      · obtain ⟨u28, u29, u30, u31, u32, u33, u34, u35, u36, zz, y0, y1, rfl, hB, f0, f1, f2, f3, f4, f5, f6, f7, f8, hq, hy⟩ := hI
        go_simp
        refine hK _ _ ⟨_, _, _, _, _, _, _, _, _, zz, y0, y1, rfl, hB, (fun _ => rfl), f1, f2, f3, f4, f5, f6, f7, f8, hq, hy⟩
      refine Steps.cons (fun d a wz hI hd hdep K hK => ?_) ?_
      · obtain ⟨u28, u29, u30, u31, u32, u33, u34, u35, u36, zz, y0, y1, rfl, hB, f0, f1, f2, f3, f4, f5, f6, f7, f8, hq, hy⟩ := hI
        have q0 := f0 (hdep 0 rfl)
        subst q0
        have e0 := hq.2.1.1
        have e1 := hq.2.1.2.1
        go_simp
        refine hK _ _ ⟨_, _, _, _, _, _, _, _, _, zz, y0, y1, rfl, hB, f0, (fun _ => rfl), f2, f3, f4, f5, f6, f7, f8, hq, hy⟩
      refine Steps.cons (fun d a wz hI hd hdep K hK => ?_) ?_
      · obtain ⟨u28, u29, u30, u31, u32, u33, u34, u35, u36, zz, y0, y1, rfl, hB, f0, f1, f2, f3, f4, f5, f6, f7, f8, hq, hy⟩ := hI
        have e0 := (KU2.out.below hB (by omega)).2.1
        have e1 := (KU2.out.below hB (by omega)).2.2
        go_simp
        refine hK _ _ ⟨_, _, _, _, _, _, _, _, _, zz, y0, y1, rfl, hB, f0, f1, (fun _ => rfl), f3, f4, f5, f6, f7, f8, hq, hy⟩
      refine Steps.cons (fun d a wz hI hd hdep K hK => ?_) ?_
      · obtain ⟨u28, u29, u30, u31, u32, u33, u34, u35, u36, zz, y0, y1, rfl, hB, f0, f1, f2, f3, f4, f5, f6, f7, f8, hq, hy⟩ := hI
        go_simp
        refine hK _ _ ⟨_, _, _, _, _, _, _, _, _, zz, y0, y1, rfl, hB, f0, f1, f2, (fun _ => rfl), f4, f5, f6, f7, f8, hq, hy⟩
      refine Steps.cons (fun d a wz hI hd hdep K hK => ?_) ?_
      · obtain ⟨u28, u29, u30, u31, u32, u33, u34, u35, u36, zz, y0, y1, rfl, hB, f0, f1, f2, f3, f4, f5, f6, f7, f8, hq, hy⟩ := hI
        go_simp
        refine hK _ _ ⟨_, _, _, _, _, _, _, _, _, zz, y0, y1, rfl, hB, f0, f1, f2, f3, (fun _ => rfl), f5, f6, f7, f8, hq, hy⟩
      refine Steps.cons (fun d a wz hI hd hdep K hK => ?_) ?_
      · obtain ⟨u28, u29, u30, u31, u32, u33, u34, u35, u36, zz, y0, y1, rfl, hB, f0, f1, f2, f3, f4, f5, f6, f7, f8, hq, hy⟩ := hI
        have q4 := f4 (hdep 4 rfl)
        subst q4
        go_simp
        refine hK _ _ ⟨_, _, _, _, _, _, _, _, _, zz, y0, y1, rfl, hB, f0, f1, f2, f3, f4, (fun _ => by first | rfl | (rw [HN])), f6, f7, f8, hq, hy⟩
      refine Steps.cons (fun d a wz hI hd hdep K hK => ?_) ?_
      · obtain ⟨u28, u29, u30, u31, u32, u33, u34, u35, u36, zz, y0, y1, rfl, hB, f0, f1, f2, f3, f4, f5, f6, f7, f8, hq, hy⟩ := hI
        have q2 := f2 (hdep 2 rfl)
        subst q2
        have q3 := f3 (hdep 3 rfl)
        subst q3
        have q5 := f5 (hdep 5 rfl)
        subst q5
        go_simp
        refine (iShare _ _ _ _ _ (by omega)).mono ?_
        rintro e w1 ⟨rfl, hb⟩
        refine hK _ _ ⟨_, _, _, _, _, _, _, _, _, zz, y0, y1, rfl, (hB.trans (hb.mono hB.size)), f0, f1, f2, f3, f4, f5, (fun _ => rfl), f7, f8, (hq.keep hb), hy⟩
      refine Steps.cons (fun d a wz hI hd hdep K hK => ?_) ?_
      · obtain ⟨u28, u29, u30, u31, u32, u33, u34, u35, u36, zz, y0, y1, rfl, hB, f0, f1, f2, f3, f4, f5, f6, f7, f8, hq, hy⟩ := hI
        have q1 := f1 (hdep 1 rfl)
        subst q1
        have q6 := f6 (hdep 6 rfl)
        subst q6
        go_simp
        refine (iPlus _ _ _ _ _).mono ?_
        rintro e w1 ⟨rfl, hb⟩
        refine hK _ _ ⟨_, _, _, _, _, _, _, _, _, zz, y0, y1, rfl, (hB.trans (hb.mono hB.size)), f0, f1, f2, f3, f4, f5, f6, (fun _ => by rw [e1, e2]), f8, (hq.keep hb), hy⟩
      refine Steps.cons (fun d a wz hI hd hdep K hK => ?_) ?_
      · obtain ⟨u28, u29, u30, u31, u32, u33, u34, u35, u36, zz, y0, y1, rfl, hB, f0, f1, f2, f3, f4, f5, f6, f7, f8, hq, hy⟩ := hI
        go_simp
        refine hK _ _ ⟨_, _, _, _, _, _, _, _, _, zz, y0, y1, rfl, hB, f0, f1, f2, f3, f4, f5, f6, f7, (fun _ => rfl), hq, hy⟩
      refine Steps.cons (fun d a wz hI hd hdep K hK => ?_) ?_
      · obtain ⟨u28, u29, u30, u31, u32, u33, u34, u35, u36, zz, y0, y1, rfl, hB, f0, f1, f2, f3, f4, f5, f6, f7, f8, hq, hy⟩ := hI
        have q8 := f8 (hdep 8 rfl)
        subst q8
        have q7 := f7 (hdep 7 rfl)
        subst q7
        have hq0 := hq
        obtain ⟨hz, ⟨_, _, _, _, _, _, _, _⟩, hfz⟩ := hq
        have z0 := hfz 2 (by omega)
        have z1 := hfz 3 (by omega)
        go_simp
        refine hK _ _ ⟨_, _, _, _, _, _, _, _, _, zz, (cornB ax bx cx n), (cornB ay b' cy n), rfl, ((hB.setCell lq _).setCell lq _), f0, f1, f2, f3, f4, f5, f6, f7, f8, ((hq0.set2).set3), (fun _ => ⟨rfl, rfl⟩)⟩
      exact Steps.nil
    · intro d a wz hI hall
      obtain ⟨u28, u29, u30, u31, u32, u33, u34, u35, u36, zz, y0, y1, rfl, hB, f0, f1, f2, f3, f4, f5, f6, f7, f8, hq, hy⟩ := hI
      have q0 := f0 (hall 0 (by decide))
      subst q0
      have q1 := f1 (hall 1 (by decide))
      subst q1
      have q2 := f2 (hall 2 (by decide))
      subst q2
      have q3 := f3 (hall 3 (by decide))
      subst q3
      have q4 := f4 (hall 4 (by decide))
      subst q4
      have q5 := f5 (hall 5 (by decide))
      subst q5
      have q6 := f6 (hall 6 (by decide))
      subst q6
      have q7 := f7 (hall 7 (by decide))
      subst q7
      have q8 := f8 (hall 8 (by decide))
      subst q8
      obtain ⟨rfl, rfl⟩ := hy (hall 9 (by decide))
      (try dsimp only)
      go_wp2_with fail
      go_meet
      case rel => exact ⟨hq, hB⟩
  obtain ⟨KQn, HBQn⟩ := hcut
  obtain ⟨w3, rfl⟩ : ∃ w3 : World, w3 = wc := ⟨_, rfl⟩
  clear KQ HBQ e1 e2
  have KQ := KQn
  have HBQ := HBQn
  clear KQn HBQn
  have e1 : wrap64 (cornA ax bx cx n + floorV (wrap64 (wrap64 (cx - ax) * n)) (n - 7)) = cornD ax bx cx n := by unfold cornD; rw [Int.mul_comm n]
  have e2 : wrap64 (cornA ay b' cy n + floorV (wrap64 (wrap64 (cy - ay) * n)) (n - 7)) = cornD ay b' cy n := by unfold cornD; rw [Int.mul_comm n]
  go_wp2_with fail
  go_cut [] from 12 (fun wx => Hid (Box8 wx bq (cornA ax bx cx n) (cornA ay b' cy n) (cornB ax bx cx n) (cornB ay b' cy n) 0 0 (cornD ax bx cx n) (cornD ay b' cy n)) ∧ Hid (Below w1.heap.size w1 wx))
  case first =>
    refine wp_region_inv (fun d a wz => ∃ (u37 u38 u39 u40 u41 u42 u43 u44 u45 : Value) (zz : Nat) (y0 y1 : Int), a = ({ tmps := #[(.agg #[.int .i64 ax, .int .i64 ay]), (.agg #[.int .i64 bx, .int .i64 b']), (.agg #[.int .i64 cx, .int .i64 cy]), (.int .i64 n), (.pointer (some ⟨w.heap.size, 0, none⟩)), (.pointer (some ⟨w.heap.size + 1, 0, none⟩)), (.pointer (some ⟨w.heap.size + 1 + 1, 0, none⟩)), undef, (.pointer (some ⟨w.heap.size + 1 + 1 + 1, 0, none⟩)), (.pointer (some ⟨bu, 0, none⟩)), (.pointer (some ⟨bv, 0, none⟩)), (.pointer (some ⟨bq, 0, none⟩)), u12, u13, u14, u15, u16, u17, u18, u19, u20, u21, u22, u23, u24, u25, u26, u27, u28, u29, u30, u31, u32, u33, u34, u35, u36, u37, u38, u39, u40, u41, u42, u43, u44, u45, u46, u47, u48, u49, u50, u51, u52, u53, u54, u55], defers := [] } : Act) ∧ Below w1.heap.size w1 wz ∧ (d 0 = true → u37 = (.pointer (some ⟨bq, 0, none⟩))) ∧ (d 1 = true → u38 = (.agg #[.int .i64 (cornA ax bx cx n), .int .i64 (cornA ay b' cy n)])) ∧ (d 2 = true → u39 = (.agg #[.int .i64 (wrap64 (cx - ax)), .int .i64 (wrap64 (cy - ay))])) ∧ (d 3 = true → u40 = (.int .i64 n)) ∧ (d 4 = true → u41 = (.int .i64 n)) ∧ (d 5 = true → u42 = (.int .i64 (n - 7))) ∧ (d 6 = true → u43 = (.agg #[.int .i64 (floorV (wrap64 ((wrap64 (cx - ax)) * n)) (n - 7)), .int .i64 (floorV (wrap64 ((wrap64 (cy - ay)) * n)) (n - 7))])) ∧ (d 7 = true → u44 = (.agg #[.int .i64 (cornD ax bx cx n), .int .i64 (cornD ay b' cy n)])) ∧ (d 8 = true → u45 = (.pointer (some ⟨bq, 6, none⟩))) ∧ Box8 wz bq (cornA ax bx cx n) (cornA ay b' cy n) (cornB ax bx cx n) (cornB ay b' cy n) 0 0 y0 y1 ∧ (d 9 = true → y0 = (cornD ax bx cx n) ∧ y1 = (cornD ay b' cy n))) (by kernel_rfl) (by kernel_rfl) ?_ ?_ ?_
    · exact ⟨_, _, _, _, _, _, _, _, _, 0, 0, 0, rfl, HBQ.out.drew, (fun h => by cases h), (fun h => by cases h), (fun h => by cases h), (fun h => by cases h), (fun h => by cases h), (fun h => by cases h), (fun h => by cases h), (fun h => by cases h), (fun h => by cases h), KQ.out.keep (Below.refl _ _).drew, (fun h => by cases h)⟩
    · refine Steps.cons (fun d a wz hI hd hdep K hK => ?_) ?_
      · obtain ⟨u37, u38, u39, u40, u41, u42, u43, u44, u45, zz, y0, y1, rfl, hB, f0, f1, f2, f3, f4, f5, f6, f7, f8, hq, hy⟩ := hI
        go_simp
        refine hK _ _ ⟨_, _, _, _, _, _, _, _, _, zz, y0, y1, rfl, hB, (fun _ => rfl), f1, f2, f3, f4, f5, f6, f7, f8, hq, hy⟩
      refine Steps.cons (fun d a wz hI hd hdep K hK => ?_) ?_
      · obtain ⟨u37, u38, u39, u40, u41, u42, u43, u44, u45, zz, y0, y1, rfl, hB, f0, f1, f2, f3, f4, f5, f6, f7, f8, hq, hy⟩ := hI
        have q0 := f0 (hdep 0 rfl)
        subst q0
        have e0 := hq.2.1.1
        have e1 := hq.2.1.2.1
        go_simp
        refine hK _ _ ⟨_, _, _, _, _, _, _, _, _, zz, y0, y1, rfl, hB, f0, (fun _ => rfl), f2, f3, f4, f5, f6, f7, f8, hq, hy⟩
      refine Steps.cons (fun d a wz hI hd hdep K hK => ?_) ?_
      · obtain ⟨u37, u38, u39, u40, u41, u42, u43, u44, u45, zz, y0, y1, rfl, hB, f0, f1, f2, f3, f4, f5, f6, f7, f8, hq, hy⟩ := hI
        have e0 := (KV2.out.below hB (by omega)).2.1
        have e1 := (KV2.out.below hB (by omega)).2.2
        go_simp
        refine hK _ _ ⟨_, _, _, _, _, _, _, _, _, zz, y0, y1, rfl, hB, f0, f1, (fun _ => rfl), f3, f4, f5, f6, f7, f8, hq, hy⟩
      refine Steps.cons (fun d a wz hI hd hdep K hK => ?_) ?_
      · obtain ⟨u37, u38, u39, u40, u41, u42, u43, u44, u45, zz, y0, y1, rfl, hB, f0, f1, f2, f3, f4, f5, f6, f7, f8, hq, hy⟩ := hI
        go_simp
        refine hK _ _ ⟨_, _, _, _, _, _, _, _, _, zz, y0, y1, rfl, hB, f0, f1, f2, (fun _ => rfl), f4, f5, f6, f7, f8, hq, hy⟩
      refine Steps.cons (fun d a wz hI hd hdep K hK => ?_) ?_
      · obtain ⟨u37, u38, u39, u40, u41, u42, u43, u44, u45, zz, y0, y1, rfl, hB, f0, f1, f2, f3, f4, f5, f6, f7, f8, hq, hy⟩ := hI
        go_simp
        refine hK _ _ ⟨_, _, _, _, _, _, _, _, _, zz, y0, y1, rfl, hB, f0, f1, f2, f3, (fun _ => rfl), f5, f6, f7, f8, hq, hy⟩
      refine Steps.cons (fun d a wz hI hd hdep K hK => ?_) ?_
      · obtain ⟨u37, u38, u39, u40, u41, u42, u43, u44, u45, zz, y0, y1, rfl, hB, f0, f1, f2, f3, f4, f5, f6, f7, f8, hq, hy⟩ := hI
        have q4 := f4 (hdep 4 rfl)
        subst q4
        go_simp
        refine hK _ _ ⟨_, _, _, _, _, _, _, _, _, zz, y0, y1, rfl, hB, f0, f1, f2, f3, f4, (fun _ => by first | rfl | (rw [HN])), f6, f7, f8, hq, hy⟩
      refine Steps.cons (fun d a wz hI hd hdep K hK => ?_) ?_
      · obtain ⟨u37, u38, u39, u40, u41, u42, u43, u44, u45, zz, y0, y1, rfl, hB, f0, f1, f2, f3, f4, f5, f6, f7, f8, hq, hy⟩ := hI
        have q2 := f2 (hdep 2 rfl)
        subst q2
        have q3 := f3 (hdep 3 rfl)
        subst q3
        have q5 := f5 (hdep 5 rfl)
        subst q5
        go_simp
        refine (iShare _ _ _ _ _ (by omega)).mono ?_
        rintro e w1 ⟨rfl, hb⟩
        refine hK _ _ ⟨_, _, _, _, _, _, _, _, _, zz, y0, y1, rfl, (hB.trans (hb.mono hB.size)), f0, f1, f2, f3, f4, f5, (fun _ => rfl), f7, f8, (hq.keep hb), hy⟩
      refine Steps.cons (fun d a wz hI hd hdep K hK => ?_) ?_
      · obtain ⟨u37, u38, u39, u40, u41, u42, u43, u44, u45, zz, y0, y1, rfl, hB, f0, f1, f2, f3, f4, f5, f6, f7, f8, hq, hy⟩ := hI
        have q1 := f1 (hdep 1 rfl)
        subst q1
        have q6 := f6 (hdep 6 rfl)
        subst q6
        go_simp
        refine (iPlus _ _ _ _ _).mono ?_
        rintro e w1 ⟨rfl, hb⟩
        refine hK _ _ ⟨_, _, _, _, _, _, _, _, _, zz, y0, y1, rfl, (hB.trans (hb.mono hB.size)), f0, f1, f2, f3, f4, f5, f6, (fun _ => by rw [e1, e2]), f8, (hq.keep hb), hy⟩
      refine Steps.cons (fun d a wz hI hd hdep K hK => ?_) ?_
      · obtain ⟨u37, u38, u39, u40, u41, u42, u43, u44, u45, zz, y0, y1, rfl, hB, f0, f1, f2, f3, f4, f5, f6, f7, f8, hq, hy⟩ := hI
        go_simp
        refine hK _ _ ⟨_, _, _, _, _, _, _, _, _, zz, y0, y1, rfl, hB, f0, f1, f2, f3, f4, f5, f6, f7, (fun _ => rfl), hq, hy⟩
      refine Steps.cons (fun d a wz hI hd hdep K hK => ?_) ?_
      · obtain ⟨u37, u38, u39, u40, u41, u42, u43, u44, u45, zz, y0, y1, rfl, hB, f0, f1, f2, f3, f4, f5, f6, f7, f8, hq, hy⟩ := hI
        have q8 := f8 (hdep 8 rfl)
        subst q8
        have q7 := f7 (hdep 7 rfl)
        subst q7
        have hq0 := hq
        obtain ⟨hz, ⟨_, _, _, _, _, _, _, _⟩, hfz⟩ := hq
        have z0 := hfz 6 (by omega)
        have z1 := hfz 7 (by omega)
        go_simp
        refine hK _ _ ⟨_, _, _, _, _, _, _, _, _, zz, (cornD ax bx cx n), (cornD ay b' cy n), rfl, ((hB.setCell lq _).setCell lq _), f0, f1, f2, f3, f4, f5, f6, f7, f8, ((hq0.set6).set7), (fun _ => ⟨rfl, rfl⟩)⟩
      exact Steps.nil
    · intro d a wz hI hall
      obtain ⟨u37, u38, u39, u40, u41, u42, u43, u44, u45, zz, y0, y1, rfl, hB, f0, f1, f2, f3, f4, f5, f6, f7, f8, hq, hy⟩ := hI
      have q0 := f0 (hall 0 (by decide))
      subst q0
      have q1 := f1 (hall 1 (by decide))
      subst q1
      have q2 := f2 (hall 2 (by decide))
      subst q2
      have q3 := f3 (hall 3 (by decide))
      subst q3
      have q4 := f4 (hall 4 (by decide))
      subst q4
      have q5 := f5 (hall 5 (by decide))
      subst q5
      have q6 := f6 (hall 6 (by decide))
      subst q6
      have q7 := f7 (hall 7 (by decide))
      subst q7
      have q8 := f8 (hall 8 (by decide))
      subst q8
      obtain ⟨rfl, rfl⟩ := hy (hall 9 (by decide))
      (try dsimp only)
      go_wp2_with fail
      go_meet
      case rel => exact ⟨hq, hB⟩
  obtain ⟨KQn, HBQn⟩ := hcut
  obtain ⟨w4, rfl⟩ : ∃ w4 : World, w4 = wc := ⟨_, rfl⟩
  clear KQ HBQ e1 e2
  have KQ := KQn
  have HBQ := HBQn
  clear KQn HBQn
  have e1 : wrap64 (wrap64 (cornB ax bx cx n + cornD ax bx cx n) - cornA ax bx cx n) = cornC ax bx cx n := rfl
  have e2 : wrap64 (wrap64 (cornB ay b' cy n + cornD ay b' cy n) - cornA ay b' cy n) = cornC ay b' cy n := rfl
  go_wp2_with fail
  go_cut [] from 12 (fun wx => Hid (Box8 wx bq (cornA ax bx cx n) (cornA ay b' cy n) (cornB ax bx cx n) (cornB ay b' cy n) (cornC ax bx cx n) (cornC ay b' cy n) (cornD ax bx cx n) (cornD ay b' cy n)) ∧ Hid (Below w1.heap.size w1 wx))
  case first =>
    refine wp_region_inv (fun d a wz => ∃ (u46 u47 u48 u49 u50 u51 u52 u53 u54 : Value) (zz : Nat) (y0 y1 : Int), a = ({ tmps := #[(.agg #[.int .i64 ax, .int .i64 ay]), (.agg #[.int .i64 bx, .int .i64 b']), (.agg #[.int .i64 cx, .int .i64 cy]), (.int .i64 n), (.pointer (some ⟨w.heap.size, 0, none⟩)), (.pointer (some ⟨w.heap.size + 1, 0, none⟩)), (.pointer (some ⟨w.heap.size + 1 + 1, 0, none⟩)), undef, (.pointer (some ⟨w.heap.size + 1 + 1 + 1, 0, none⟩)), (.pointer (some ⟨bu, 0, none⟩)), (.pointer (some ⟨bv, 0, none⟩)), (.pointer (some ⟨bq, 0, none⟩)), u12, u13, u14, u15, u16, u17, u18, u19, u20, u21, u22, u23, u24, u25, u26, u27, u28, u29, u30, u31, u32, u33, u34, u35, u36, u37, u38, u39, u40, u41, u42, u43, u44, u45, u46, u47, u48, u49, u50, u51, u52, u53, u54, u55], defers := [] } : Act) ∧ Below w1.heap.size w1 wz ∧ (d 0 = true → u46 = (.pointer (some ⟨bq, 2, none⟩))) ∧ (d 1 = true → u47 = (.agg #[.int .i64 (cornB ax bx cx n), .int .i64 (cornB ay b' cy n)])) ∧ (d 2 = true → u48 = (.pointer (some ⟨bq, 6, none⟩))) ∧ (d 3 = true → u49 = (.agg #[.int .i64 (cornD ax bx cx n), .int .i64 (cornD ay b' cy n)])) ∧ (d 4 = true → u50 = (.agg #[.int .i64 (wrap64 (cornB ax bx cx n + cornD ax bx cx n)), .int .i64 (wrap64 (cornB ay b' cy n + cornD ay b' cy n))])) ∧ (d 5 = true → u51 = (.pointer (some ⟨bq, 0, none⟩))) ∧ (d 6 = true → u52 = (.agg #[.int .i64 (cornA ax bx cx n), .int .i64 (cornA ay b' cy n)])) ∧ (d 7 = true → u53 = (.agg #[.int .i64 (cornC ax bx cx n), .int .i64 (cornC ay b' cy n)])) ∧ (d 8 = true → u54 = (.pointer (some ⟨bq, 4, none⟩))) ∧ Box8 wz bq (cornA ax bx cx n) (cornA ay b' cy n) (cornB ax bx cx n) (cornB ay b' cy n) y0 y1 (cornD ax bx cx n) (cornD ay b' cy n) ∧ (d 9 = true → y0 = (cornC ax bx cx n) ∧ y1 = (cornC ay b' cy n))) (by kernel_rfl) (by kernel_rfl) ?_ ?_ ?_
    · exact ⟨_, _, _, _, _, _, _, _, _, 0, 0, 0, rfl, HBQ.out.drew, (fun h => by cases h), (fun h => by cases h), (fun h => by cases h), (fun h => by cases h), (fun h => by cases h), (fun h => by cases h), (fun h => by cases h), (fun h => by cases h), (fun h => by cases h), KQ.out.keep (Below.refl _ _).drew, (fun h => by cases h)⟩
    · refine Steps.cons (fun d a wz hI hd hdep K hK => ?_) ?_
      · obtain ⟨u46, u47, u48, u49, u50, u51, u52, u53, u54, zz, y0, y1, rfl, hB, f0, f1, f2, f3, f4, f5, f6, f7, f8, hq, hy⟩ := hI
        go_simp
        refine hK _ _ ⟨_, _, _, _, _, _, _, _, _, zz, y0, y1, rfl, hB, (fun _ => rfl), f1, f2, f3, f4, f5, f6, f7, f8, hq, hy⟩
      refine Steps.cons (fun d a wz hI hd hdep K hK => ?_) ?_
      · obtain ⟨u46, u47, u48, u49, u50, u51, u52, u53, u54, zz, y0, y1, rfl, hB, f0, f1, f2, f3, f4, f5, f6, f7, f8, hq, hy⟩ := hI
        have q0 := f0 (hdep 0 rfl)
        subst q0
        have e0 := hq.2.1.2.2.1
        have e1 := hq.2.1.2.2.2.1
        go_simp
        refine hK _ _ ⟨_, _, _, _, _, _, _, _, _, zz, y0, y1, rfl, hB, f0, (fun _ => rfl), f2, f3, f4, f5, f6, f7, f8, hq, hy⟩
      refine Steps.cons (fun d a wz hI hd hdep K hK => ?_) ?_
      · obtain ⟨u46, u47, u48, u49, u50, u51, u52, u53, u54, zz, y0, y1, rfl, hB, f0, f1, f2, f3, f4, f5, f6, f7, f8, hq, hy⟩ := hI
        go_simp
        refine hK _ _ ⟨_, _, _, _, _, _, _, _, _, zz, y0, y1, rfl, hB, f0, f1, (fun _ => rfl), f3, f4, f5, f6, f7, f8, hq, hy⟩
      refine Steps.cons (fun d a wz hI hd hdep K hK => ?_) ?_
      · obtain ⟨u46, u47, u48, u49, u50, u51, u52, u53, u54, zz, y0, y1, rfl, hB, f0, f1, f2, f3, f4, f5, f6, f7, f8, hq, hy⟩ := hI
        have q2 := f2 (hdep 2 rfl)
        subst q2
        have e0 := hq.2.1.2.2.2.2.2.2.1
        have e1 := hq.2.1.2.2.2.2.2.2.2
        go_simp
        refine hK _ _ ⟨_, _, _, _, _, _, _, _, _, zz, y0, y1, rfl, hB, f0, f1, f2, (fun _ => rfl), f4, f5, f6, f7, f8, hq, hy⟩
      refine Steps.cons (fun d a wz hI hd hdep K hK => ?_) ?_
      · obtain ⟨u46, u47, u48, u49, u50, u51, u52, u53, u54, zz, y0, y1, rfl, hB, f0, f1, f2, f3, f4, f5, f6, f7, f8, hq, hy⟩ := hI
        have q1 := f1 (hdep 1 rfl)
        subst q1
        have q3 := f3 (hdep 3 rfl)
        subst q3
        go_simp
        refine (iPlus _ _ _ _ _).mono ?_
        rintro e w1 ⟨rfl, hb⟩
        refine hK _ _ ⟨_, _, _, _, _, _, _, _, _, zz, y0, y1, rfl, (hB.trans (hb.mono hB.size)), f0, f1, f2, f3, (fun _ => rfl), f5, f6, f7, f8, (hq.keep hb), hy⟩
      refine Steps.cons (fun d a wz hI hd hdep K hK => ?_) ?_
      · obtain ⟨u46, u47, u48, u49, u50, u51, u52, u53, u54, zz, y0, y1, rfl, hB, f0, f1, f2, f3, f4, f5, f6, f7, f8, hq, hy⟩ := hI
        go_simp
        refine hK _ _ ⟨_, _, _, _, _, _, _, _, _, zz, y0, y1, rfl, hB, f0, f1, f2, f3, f4, (fun _ => rfl), f6, f7, f8, hq, hy⟩
      refine Steps.cons (fun d a wz hI hd hdep K hK => ?_) ?_
      · obtain ⟨u46, u47, u48, u49, u50, u51, u52, u53, u54, zz, y0, y1, rfl, hB, f0, f1, f2, f3, f4, f5, f6, f7, f8, hq, hy⟩ := hI
        have q5 := f5 (hdep 5 rfl)
        subst q5
        have e0 := hq.2.1.1
        have e1 := hq.2.1.2.1
        go_simp
        refine hK _ _ ⟨_, _, _, _, _, _, _, _, _, zz, y0, y1, rfl, hB, f0, f1, f2, f3, f4, f5, (fun _ => rfl), f7, f8, hq, hy⟩
      refine Steps.cons (fun d a wz hI hd hdep K hK => ?_) ?_
      · obtain ⟨u46, u47, u48, u49, u50, u51, u52, u53, u54, zz, y0, y1, rfl, hB, f0, f1, f2, f3, f4, f5, f6, f7, f8, hq, hy⟩ := hI
        have q4 := f4 (hdep 4 rfl)
        subst q4
        have q6 := f6 (hdep 6 rfl)
        subst q6
        go_simp
        refine (iMinusB _ _ _ _ _).mono ?_
        rintro e w1 ⟨rfl, hb⟩
        refine hK _ _ ⟨_, _, _, _, _, _, _, _, _, zz, y0, y1, rfl, (hB.trans (hb.mono hB.size)), f0, f1, f2, f3, f4, f5, f6, (fun _ => by rw [e1, e2]), f8, (hq.keep hb), hy⟩
      refine Steps.cons (fun d a wz hI hd hdep K hK => ?_) ?_
      · obtain ⟨u46, u47, u48, u49, u50, u51, u52, u53, u54, zz, y0, y1, rfl, hB, f0, f1, f2, f3, f4, f5, f6, f7, f8, hq, hy⟩ := hI
        go_simp
        refine hK _ _ ⟨_, _, _, _, _, _, _, _, _, zz, y0, y1, rfl, hB, f0, f1, f2, f3, f4, f5, f6, f7, (fun _ => rfl), hq, hy⟩
      refine Steps.cons (fun d a wz hI hd hdep K hK => ?_) ?_
      · obtain ⟨u46, u47, u48, u49, u50, u51, u52, u53, u54, zz, y0, y1, rfl, hB, f0, f1, f2, f3, f4, f5, f6, f7, f8, hq, hy⟩ := hI
        have q8 := f8 (hdep 8 rfl)
        subst q8
        have q7 := f7 (hdep 7 rfl)
        subst q7
        have hq0 := hq
        obtain ⟨hz, ⟨_, _, _, _, _, _, _, _⟩, hfz⟩ := hq
        have z0 := hfz 4 (by omega)
        have z1 := hfz 5 (by omega)
        go_simp
        refine hK _ _ ⟨_, _, _, _, _, _, _, _, _, zz, (cornC ax bx cx n), (cornC ay b' cy n), rfl, ((hB.setCell lq _).setCell lq _), f0, f1, f2, f3, f4, f5, f6, f7, f8, ((hq0.set4).set5), (fun _ => ⟨rfl, rfl⟩)⟩
      exact Steps.nil
    · intro d a wz hI hall
      obtain ⟨u46, u47, u48, u49, u50, u51, u52, u53, u54, zz, y0, y1, rfl, hB, f0, f1, f2, f3, f4, f5, f6, f7, f8, hq, hy⟩ := hI
      have q0 := f0 (hall 0 (by decide))
      subst q0
      have q1 := f1 (hall 1 (by decide))
      subst q1
      have q2 := f2 (hall 2 (by decide))
      subst q2
      have q3 := f3 (hall 3 (by decide))
      subst q3
      have q4 := f4 (hall 4 (by decide))
      subst q4
      have q5 := f5 (hall 5 (by decide))
      subst q5
      have q6 := f6 (hall 6 (by decide))
      subst q6
      have q7 := f7 (hall 7 (by decide))
      subst q7
      have q8 := f8 (hall 8 (by decide))
      subst q8
      obtain ⟨rfl, rfl⟩ := hy (hall 9 (by decide))
      (try dsimp only)
      go_wp2_with fail
      go_meet
      case rel => exact ⟨hq, hB⟩
  obtain ⟨KQn, HBQn⟩ := hcut
  obtain ⟨w5, rfl⟩ : ∃ w5 : World, w5 = wc := ⟨_, rfl⟩
  clear KQ HBQ e1 e2
  have KQ := KQn
  have HBQ := HBQn
  clear KQn HBQn
  have HBF : Hid (Below W.heap.size W w5) := HBW1.out.trans (HBQ.out.mono HBW1.out.size)
  have K8 : Hid (Box8 w5 (w.heap.size + 3) 0 0 0 0 0 0 0 0) := K4.out.keep HBF.out
  clear K1 K2 K3 K4 KU KV KU2 KV2
  go_wp2_with (first | ((with_reducible refine wpList_store_mid ?_ 42 (.tmp 8) (.tmp 55) ?_ (w.heap.size + 3) 0 #[.int .i64 (cornA ax bx cx n), .int .i64 (cornA ay b' cy n), .int .i64 (cornB ax bx cx n), .int .i64 (cornB ay b' cy n), .int .i64 (cornC ax bx cx n), .int .i64 (cornC ay b' cy n), .int .i64 (cornD ax bx cx n), .int .i64 (cornD ay b' cy n)] ?_ ?_ ?_ ?_ ?_ ?_); exact rfl; exact rfl; exact rfl; exact rfl; exact Box8.there K8.out; exact infoQuad; (simp [Value.oneCell']); generalize hW3 : World.setCells _ _ _ _ = W3; have HW3 := Lib.hid hW3; clear hW3) | ((with_reducible refine ld_quad ?_ (.tmp 11) ?_ bq ?_ [.int .i64 (cornA ax bx cx n), .int .i64 (cornA ay b' cy n), .int .i64 (cornB ax bx cx n), .int .i64 (cornB ay b' cy n), .int .i64 (cornC ax bx cx n), .int .i64 (cornC ay b' cy n), .int .i64 (cornD ax bx cx n), .int .i64 (cornD ay b' cy n)] ?_ ?_ ?_); exact rfl; exact rfl; exact rfl; exact rfl; exact Box8.range KQ.out))
  have hk8 := K8.out.stored HW3.out
  obtain ⟨_, ⟨c0, c1, c2, c3, c4, c5, c6, c7⟩, _⟩ := hk8
  have hBB : Below w.heap.size w w5 := HB0.out.trans (HBF.out.mono HB0.out.size)
  have hB3 := below_setCells [.int .i64 (cornA ax bx cx n), .int .i64 (cornA ay b' cy n), .int .i64 (cornB ax bx cx n), .int .i64 (cornB ay b' cy n), .int .i64 (cornC ax bx cx n), .int .i64 (cornC ay b' cy n), .int .i64 (cornD ax bx cx n), .int .i64 (cornD ay b' cy n)] 0 hBB (show w.heap.size ≤ w.heap.size + 3 by omega)
  have e3 : World.setCells w5 (w.heap.size + 3) 0 [.int .i64 (cornA ax bx cx n), .int .i64 (cornA ay b' cy n), .int .i64 (cornB ax bx cx n), .int .i64 (cornB ay b' cy n), .int .i64 (cornC ax bx cx n), .int .i64 (cornC ay b' cy n), .int .i64 (cornD ax bx cx n), .int .i64 (cornD ay b' cy n)] = W3 := HW3.out
  rw [e3] at hB3
  refine bodyPost_ret (v := .agg #[.int .i64 (cornA ax bx cx n), .int .i64 (cornA ay b' cy n), .int .i64 (cornB ax bx cx n), .int .i64 (cornB ay b' cy n), .int .i64 (cornC ax bx cx n), .int .i64 (cornC ay b' cy n), .int .i64 (cornD ax bx cx n), .int .i64 (cornD ay b' cy n)]) (by simp only [results, Try.results73]; simp [go_sem, c0, c1, c2, c3, c4, c5, c6, c7]) rfl ?_
  exact ⟨rfl, hB3⟩
end Go.Proofs.Ytdbecdgiafjkfaa
