/-
  DERIVED. The corners of a symbol: spec and impl.
-/
import Derived.Test.YtdbecdgiafjkfaaCorn
import Derived.Test.YtdbecdgiafjkfaaRast2
import Derived.Test.YtdbecdgiafjkfaaQ8
import Derived.Deep.Cut
import Derived.Deep.DeepFit
import Derived.BigQuiet
namespace Go.Proofs.Ytdbecdgiafjkfaa
open Go.RowKit
set_option linter.unusedVariables false
def cornA (a b c n : Int) : Int := wrap64 (a - floorV (wrap64 (7 * wrap64 (wrap64 (b - a) + wrap64 (c - a)))) (2 * (n - 7)))
def cornB (a b c n : Int) : Int := wrap64 (cornA a b c n + floorV (wrap64 (n * wrap64 (b - a))) (n - 7))
def cornD (a b c n : Int) : Int := wrap64 (cornA a b c n + floorV (wrap64 (n * wrap64 (c - a))) (n - 7))
def cornC (a b c n : Int) : Int := wrap64 (wrap64 (cornB a b c n + cornD a b c n) - cornA a b c n)
theorem wrap64_idem (x : Int) : wrap64 (wrap64 x) = wrap64 x := by unfold wrap64; omega
theorem wrap_floor (a b : Int) : wrap64 (0 + floorV a b) = floorV a b := by
  rw [Int.zero_add]
  unfold floorV
  split <;> exact wrap64_idem _
def Box2 (w : World) (b : Nat) (x y : Int) : Prop := b < w.heap.size ∧ w.cell? ⟨b, 0, none⟩ = some (.int .i64 x) ∧ w.cell? ⟨b, 1, none⟩ = some (.int .i64 y)
theorem Box2.kept {w w' : World} {b : Nat} {x y : Int} (h : Box2 w b x y) (hs : w.heap.size ≤ w'.heap.size) (e : w'.heap[b]? = w.heap[b]?) : Box2 w' b x y :=
  ⟨Nat.lt_of_lt_of_le h.1 hs, (World.cell?_of_block (a := ⟨b, 0, none⟩) e).trans h.2.1, (World.cell?_of_block (a := ⟨b, 1, none⟩) e).trans h.2.2⟩
theorem Box2.keep {w w' : World} {b : Nat} {x y : Int} (h : Box2 w b x y) (hb : Below w.heap.size w w') : Box2 w' b x y := h.kept hb.size (hb.block b h.1)
theorem Box2.below {w w' : World} {b B : Nat} {x y : Int} (h : Box2 w b x y) (hb : Below B w w') (hB : b < B) : Box2 w' b x y := h.kept hb.size (hb.block b hB)
theorem Box2.far {w : World} {b c i : Nat} {v : Value} {x y : Int} (h : Box2 w b x y) (hc : b ≠ c) : Box2 (w.setCell ⟨c, i, none⟩ v) b x y := h.kept (by simp) (Below.heap_setCell w ⟨c, i, none⟩ v b hc)
theorem Box2.new (w : World) (t : TypeId) (x y : Int) : Box2 (w.alloc (.cells #[.int .i64 x, .int .i64 y] t)) w.heap.size x y := ⟨by simp, by simp, by simp⟩
/-- the boxes of three spots and a result of eight cells. -/
theorem corn_boxes (ax ay bx b' cx cy : Int) (w W : World) (hb : Below (w.heap.size + 4) ((((w.alloc (.cells #[.int .i64 ax, .int .i64 ay] 35)).alloc (.cells #[.int .i64 bx, .int .i64 b'] 35)).alloc (.cells #[.int .i64 cx, .int .i64 cy] 35)).alloc (.cells #[.int .i64 0, .int .i64 0, .int .i64 0, .int .i64 0, .int .i64 0, .int .i64 0, .int .i64 0, .int .i64 0] 42)) W) :
    Box2 W w.heap.size ax ay ∧ Box2 W (w.heap.size + 1) bx b' ∧ Box2 W (w.heap.size + 2) cx cy ∧ Box8 W (w.heap.size + 3) 0 0 0 0 0 0 0 0 := by
  have k1 := Box2.new w 35 ax ay
  have k2 := Box2.new (w.alloc (.cells #[.int .i64 ax, .int .i64 ay] 35)) 35 bx b'
  have k3 := Box2.new ((w.alloc (.cells #[.int .i64 ax, .int .i64 ay] 35)).alloc (.cells #[.int .i64 bx, .int .i64 b'] 35)) 35 cx cy
  have k4 := Box8.new (((w.alloc (.cells #[.int .i64 ax, .int .i64 ay] 35)).alloc (.cells #[.int .i64 bx, .int .i64 b'] 35)).alloc (.cells #[.int .i64 cx, .int .i64 cy] 35)) 42 0 0 0 0 0 0 0 0
  simp only [World.size_alloc] at k2 k3 k4
  have al := fun (W : World) (o : Obj) => (Below.refl W.heap.size W).alloc (Nat.le_refl _) o
  exact ⟨(((k1.keep (al _ _)).keep (al _ _)).keep (al _ _)).below hb (by omega), ((k2.keep (al _ _)).keep (al _ _)).below hb (by omega), (k3.keep (al _ _)).below hb (by omega), k4.below hb (by omega)⟩
set_option maxRecDepth 20000 in
set_option maxHeartbeats 4000000 in
theorem sCorners (ax ay bx b' cx cy n : Int) (w : World) (h1 : 17 ≤ n) (h2 : n ≤ 41) : Calls Try.prog 70 #[.agg #[.int .i64 ax, .int .i64 ay], .agg #[.int .i64 bx, .int .i64 b'], .agg #[.int .i64 cx, .int .i64 cy], .int .i64 n] w
    fun e w' => e = .returned (.agg #[.int .i64 (cornA ax bx cx n), .int .i64 (cornA ay b' cy n), .int .i64 (cornB ax bx cx n), .int .i64 (cornB ay b' cy n), .int .i64 (cornC ax bx cx n), .int .i64 (cornC ay b' cy n), .int .i64 (cornD ax bx cx n), .int .i64 (cornD ay b' cy n)]) ∧ Below w.heap.size w w' := by
  go_enter Try.func70, Try.ntmps70
  go_wp2_with fail
  go_quiet (fail)
  go_wp2_with fail
  obtain ⟨W, hW⟩ : ∃ W : World, W = ((((w.alloc (.cells #[.int .i64 ax, .int .i64 ay] 35)).alloc (.cells #[.int .i64 bx, .int .i64 b'] 35)).alloc (.cells #[.int .i64 cx, .int .i64 cy] 35)).alloc (.cells #[.int .i64 0, .int .i64 0, .int .i64 0, .int .i64 0, .int .i64 0, .int .i64 0, .int .i64 0, .int .i64 0] 42)).drewN nq := ⟨_, rfl⟩
  have hbx := corn_boxes ax ay bx b' cx cy w W (by rw [hW]; repeat' (first | (with_reducible exact Below.refl _ _) | (with_reducible assumption) | (with_reducible refine Below.alloc ?_ ?_ _) | (with_reducible refine Below.setCell ?_ ?_ _) | (with_reducible refine Below.drew ?_) | (with_reducible refine below_drewN ?_ _) | (with_reducible refine below_via (by with_reducible assumption) ?_ ?_) | go_size))
  have HB0 : Hid (Below w.heap.size w W) := by rw [hW]; unfold Hid; repeat' (first | (with_reducible exact Below.refl _ _) | (with_reducible assumption) | (with_reducible refine Below.alloc ?_ ?_ _) | (with_reducible refine Below.setCell ?_ ?_ _) | (with_reducible refine Below.drew ?_) | (with_reducible refine below_drewN ?_ _) | (with_reducible refine below_via (by with_reducible assumption) ?_ ?_) | go_size)
  have hz0 : W.heap.size = w.heap.size + 4 := by rw [hW]; simp
  rw [← hW]
  clear hW
  obtain ⟨k1, k2, k3, k4⟩ := hbx
  have K1 := Lib.hid k1
  have K2 := Lib.hid k2
  have K3 := Lib.hid k3
  have K4 := Lib.hid k4
  clear k1 k2 k3 k4
  refine (sPlus _ _ _ _ _ _ _ (by omega)).mono ?_
  rw [wrap_floor, wrap_floor]
  rintro e w1 ⟨rfl, hb1⟩
  have hz1 := hb1.size
  obtain ⟨_, _, _⟩ := K1.out.keep hb1
  have eA : wrap64 (ax - floorV (wrap64 (7 * wrap64 (wrap64 (bx - ax) + wrap64 (cx - ax)))) (2 * (n - 7))) = cornA ax bx cx n := rfl
  have eA' : wrap64 (ay - floorV (wrap64 (7 * wrap64 (wrap64 (b' - ay) + wrap64 (cy - ay)))) (2 * (n - 7))) = cornA ay b' cy n := rfl
  go_wp2_with fail
  obtain ⟨W2, hW2⟩ : ∃ W2 : World, W2 = (w1.alloc (.cells #[.int .i64 (floorV (wrap64 (7 * wrap64 (wrap64 (bx - ax) + wrap64 (cx - ax)))) (2 * (n - 7))), .int .i64 (floorV (wrap64 (7 * wrap64 (wrap64 (b' - ay) + wrap64 (cy - ay)))) (2 * (n - 7)))] 35)).alloc (.cells #[.int .i64 (cornA ax bx cx n), .int .i64 (cornA ay b' cy n)] 35) := ⟨_, rfl⟩
  have hbW : Below w1.heap.size w1 W2 := by rw [hW2]; repeat' (first | (with_reducible exact Below.refl _ _) | (with_reducible assumption) | (with_reducible refine Below.alloc ?_ ?_ _) | (with_reducible refine Below.setCell ?_ ?_ _) | (with_reducible refine Below.drew ?_) | (with_reducible refine below_drewN ?_ _) | (with_reducible refine below_via (by with_reducible assumption) ?_ ?_) | go_size)
  have hz2 : W2.heap.size = w1.heap.size + 2 := by rw [hW2]; simp
  have k5 : Hid (Box2 W2 (w1.heap.size + 1) (cornA ax bx cx n) (cornA ay b' cy n)) := by
    rw [hW2]
    have := Box2.new (w1.alloc (.cells #[.int .i64 (floorV (wrap64 (7 * wrap64 (wrap64 (bx - ax) + wrap64 (cx - ax)))) (2 * (n - 7))), .int .i64 (floorV (wrap64 (7 * wrap64 (wrap64 (b' - ay) + wrap64 (cy - ay)))) (2 * (n - 7)))] 35)) 35 (cornA ax bx cx n) (cornA ay b' cy n)
    simp only [World.size_alloc] at this
    exact this
  have HB2 : Hid (Below w.heap.size w W2) := HB0.out.trans ((hb1.mono HB0.out.size).trans (hbW.mono (by have := HB0.out.size; omega)))
  have K4b : Hid (Box8 W2 (w.heap.size + 3) 0 0 0 0 0 0 0 0) := (K4.out.keep hb1).keep hbW
  rw [← hW2]
  clear hW2 hbW hb1 K1 K2 K3 K4 HB0 eA eA'
  have eB : wrap64 (cornA ax bx cx n + floorV (wrap64 (n * wrap64 (bx - ax))) (n - 7)) = cornB ax bx cx n := rfl
  have eB' : wrap64 (cornA ay b' cy n + floorV (wrap64 (n * wrap64 (b' - ay))) (n - 7)) = cornB ay b' cy n := rfl
  have eD : wrap64 (cornA ax bx cx n + floorV (wrap64 (n * wrap64 (cx - ax))) (n - 7)) = cornD ax bx cx n := rfl
  have eD' : wrap64 (cornA ay b' cy n + floorV (wrap64 (n * wrap64 (cy - ay))) (n - 7)) = cornD ay b' cy n := rfl
  have eC : wrap64 (wrap64 (cornB ax bx cx n + cornD ax bx cx n) - cornA ax bx cx n) = cornC ax bx cx n := rfl
  have eC' : wrap64 (wrap64 (cornB ay b' cy n + cornD ay b' cy n) - cornA ay b' cy n) = cornC ay b' cy n := rfl
  refine (sPlus _ _ _ _ _ _ _ (by omega)).mono ?_
  rw [eB, eB']
  rintro e w3 ⟨rfl, hb3⟩
  have hz3 := hb3.size
  obtain ⟨_, _, _⟩ := k5.out.keep hb3
  go_wp2_with fail
  refine (sPlus _ _ _ _ _ _ _ (by omega)).mono ?_
  rw [eD, eD']
  rintro e w4 ⟨rfl, hb4⟩
  have hz4 := hb4.size; try simp at hz4
  obtain ⟨_, _, _⟩ := (k5.out.keep (by repeat' (first | (with_reducible exact Below.refl _ _) | (with_reducible assumption) | (with_reducible refine Below.alloc ?_ ?_ _) | (with_reducible refine Below.setCell ?_ ?_ _) | (with_reducible refine Below.drew ?_) | (with_reducible refine below_drewN ?_ _) | (with_reducible refine below_via (by with_reducible assumption) ?_ ?_) | go_size)) : Box2 w4 _ _ _)
  obtain ⟨_, _, _⟩ := ((Box2.new w3 35 (cornB ax bx cx n) (cornB ay b' cy n)).keep hb4 : Box2 w4 _ _ _)
  have HB4 : Hid (Below W2.heap.size W2 w4) := by unfold Hid; repeat' (first | (with_reducible exact Below.refl _ _) | (with_reducible assumption) | (with_reducible refine Below.alloc ?_ ?_ _) | (with_reducible refine Below.setCell ?_ ?_ _) | (with_reducible refine Below.drew ?_) | (with_reducible refine below_drewN ?_ _) | (with_reducible refine below_via (by with_reducible assumption) ?_ ?_) | go_size)
  have K4c : Hid (Box8 w4 (w.heap.size + 3) 0 0 0 0 0 0 0 0) := K4b.out.keep HB4.out
  clear hb3 hb4
  have x1 : w1.heap.size < w4.heap.size := by omega
  have x2 : w1.heap.size + 1 < w4.heap.size + 1 := by omega
  have x3 : w3.heap.size < w4.heap.size + 1 := by omega
  have x4 : w1.heap.size + 1 < w4.heap.size := by omega
  have x5 : w3.heap.size < w4.heap.size := by omega
  go_wp2_with ((with_reducible refine wpList_store_mid ?_ 42 (.tmp 8) (.tmp 95) ?_ (w.heap.size + 3) 0 #[.int .i64 (cornA ax bx cx n), .int .i64 (cornA ay b' cy n), .int .i64 (cornB ax bx cx n), .int .i64 (cornB ay b' cy n), .int .i64 (cornC ax bx cx n), .int .i64 (cornC ay b' cy n), .int .i64 (cornD ax bx cx n), .int .i64 (cornD ay b' cy n)] ?_ ?_ ?_ ?_ ?_ ?_); exact rfl; exact rfl; exact rfl; exact rfl; exact Box8.there (K4c.out.keep (by repeat' (first | (with_reducible exact Below.refl _ _) | (with_reducible assumption) | (with_reducible refine Below.alloc ?_ ?_ _) | (with_reducible refine Below.setCell ?_ ?_ _) | (with_reducible refine Below.drew ?_) | (with_reducible refine below_drewN ?_ _) | (with_reducible refine below_via (by with_reducible assumption) ?_ ?_) | go_size))); exact infoQuad; (simp [Value.oneCell']); generalize hW3 : World.setCells _ _ _ _ = W3; have HW3 := Lib.hid hW3; clear hW3)
  have hal : Below w4.heap.size w4 ((w4.alloc (.cells #[.int .i64 (cornD ax bx cx n), .int .i64 (cornD ay b' cy n)] 35)).alloc (.cells #[.int .i64 (cornC ax bx cx n), .int .i64 (cornC ay b' cy n)] 35)) := by repeat' (first | (with_reducible exact Below.refl _ _) | (with_reducible assumption) | (with_reducible refine Below.alloc ?_ ?_ _) | (with_reducible refine Below.setCell ?_ ?_ _) | (with_reducible refine Below.drew ?_) | (with_reducible refine below_drewN ?_ _) | (with_reducible refine below_via (by with_reducible assumption) ?_ ?_) | go_size)
  have hk8 := (K4c.out.keep hal).stored HW3.out
  obtain ⟨_, ⟨c0, c1, c2, c3, c4, c5, c6, c7⟩, _⟩ := hk8
  have hBB : Below w.heap.size w ((w4.alloc (.cells #[.int .i64 (cornD ax bx cx n), .int .i64 (cornD ay b' cy n)] 35)).alloc (.cells #[.int .i64 (cornC ax bx cx n), .int .i64 (cornC ay b' cy n)] 35)) := HB2.out.trans ((HB4.out.mono HB2.out.size).trans (hal.mono (by omega)))
  have hB3 := below_setCells [.int .i64 (cornA ax bx cx n), .int .i64 (cornA ay b' cy n), .int .i64 (cornB ax bx cx n), .int .i64 (cornB ay b' cy n), .int .i64 (cornC ax bx cx n), .int .i64 (cornC ay b' cy n), .int .i64 (cornD ax bx cx n), .int .i64 (cornD ay b' cy n)] 0 hBB (show w.heap.size ≤ w.heap.size + 3 by omega)
  have e3 : World.setCells ((w4.alloc (.cells #[.int .i64 (cornD ax bx cx n), .int .i64 (cornD ay b' cy n)] 35)).alloc (.cells #[.int .i64 (cornC ax bx cx n), .int .i64 (cornC ay b' cy n)] 35)) (w.heap.size + 3) 0 [.int .i64 (cornA ax bx cx n), .int .i64 (cornA ay b' cy n), .int .i64 (cornB ax bx cx n), .int .i64 (cornB ay b' cy n), .int .i64 (cornC ax bx cx n), .int .i64 (cornC ay b' cy n), .int .i64 (cornD ax bx cx n), .int .i64 (cornD ay b' cy n)] = W3 := HW3.out
  rw [e3] at hB3
  refine bodyPost_ret (v := .agg #[.int .i64 (cornA ax bx cx n), .int .i64 (cornA ay b' cy n), .int .i64 (cornB ax bx cx n), .int .i64 (cornB ay b' cy n), .int .i64 (cornC ax bx cx n), .int .i64 (cornC ay b' cy n), .int .i64 (cornD ax bx cx n), .int .i64 (cornD ay b' cy n)]) (by simp only [results, Try.results70]; simp [go_sem, c0, c1, c2, c3, c4, c5, c6, c7]) rfl ?_
  exact ⟨rfl, hB3⟩
end Go.Proofs.Ytdbecdgiafjkfaa
