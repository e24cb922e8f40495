/-
  DERIVED. OrderSpots: the contracts of spec and impl.
-/
import Derived.Test.YtdbecdgiafjkfaaOrd3
import Derived.Test.YtdbecdgiafjkfaaSpot3
import Derived.Conc.MuLone
namespace Go.Proofs.Ytdbecdgiafjkfaa
open Go.RowKit
set_option linter.unusedVariables false
def ordOut (px py qx qy rx ry : Int) : Int × Int × Int × Int × Int × Int × Int :=
  if spots3B px py qx qy rx ry then if turnV px py qx qy rx ry = 0 then (0, 0, 0, 0, 0, 0, 5) else
    ((ordOf px py qx qy rx ry).1, (ordOf px py qx qy rx ry).2.1, (ordOf px py qx qy rx ry).2.2.1, (ordOf px py qx qy rx ry).2.2.2.1, (ordOf px py qx qy rx ry).2.2.2.2.1, (ordOf px py qx qy rx ry).2.2.2.2.2, 0) else (0, 0, 0, 0, 0, 0, 1)
/-- the boxes of three spots and of three results. -/
theorem sp_boxes (px py qx qy rx ry : Int) (w W : World) (hb : Below (w.heap.size + 6) ((((((w.alloc (.cells #[.int .i64 px, .int .i64 py] 35)).alloc (.cells #[.int .i64 qx, .int .i64 qy] 35)).alloc (.cells #[.int .i64 rx, .int .i64 ry] 35)).alloc (.cells #[.int .i64 0, .int .i64 0] 35)).alloc (.cells #[.int .i64 0, .int .i64 0] 35)).alloc (.cells #[.int .i64 0, .int .i64 0] 35)) W) :
    Box2 W w.heap.size px py ∧ Box2 W (w.heap.size + 1) qx qy ∧ Box2 W (w.heap.size + 1 + 1) rx ry ∧ Spt W (w.heap.size + 1 + 1 + 1) false 0 0 ∧ Spt W (w.heap.size + 1 + 1 + 1 + 1) false 0 0 ∧ Spt W (w.heap.size + 1 + 1 + 1 + 1 + 1) false 0 0 := by
  have al := fun (W : World) (o : Obj) => (Below.refl W.heap.size W).alloc (Nat.le_refl _) o
  have k1 := Box2.new w 35 px py
  have k2 := Box2.new (w.alloc (.cells #[.int .i64 px, .int .i64 py] 35)) 35 qx qy
  have k3 := Box2.new ((w.alloc (.cells #[.int .i64 px, .int .i64 py] 35)).alloc (.cells #[.int .i64 qx, .int .i64 qy] 35)) 35 rx ry
  have k4 := Spt.new (((w.alloc (.cells #[.int .i64 px, .int .i64 py] 35)).alloc (.cells #[.int .i64 qx, .int .i64 qy] 35)).alloc (.cells #[.int .i64 rx, .int .i64 ry] 35)) 35 0 0 0 0 false rfl
  have k5 := Spt.new ((((w.alloc (.cells #[.int .i64 px, .int .i64 py] 35)).alloc (.cells #[.int .i64 qx, .int .i64 qy] 35)).alloc (.cells #[.int .i64 rx, .int .i64 ry] 35)).alloc (.cells #[.int .i64 0, .int .i64 0] 35)) 35 0 0 0 0 false rfl
  have k6 := Spt.new (((((w.alloc (.cells #[.int .i64 px, .int .i64 py] 35)).alloc (.cells #[.int .i64 qx, .int .i64 qy] 35)).alloc (.cells #[.int .i64 rx, .int .i64 ry] 35)).alloc (.cells #[.int .i64 0, .int .i64 0] 35)).alloc (.cells #[.int .i64 0, .int .i64 0] 35)) 35 0 0 0 0 false rfl
  simp only [World.size_alloc] at k2 k3 k4 k5 k6
  exact ⟨(((((k1.keep (al _ _)).keep (al _ _)).keep (al _ _)).keep (al _ _)).keep (al _ _)).below hb (by omega), ((((k2.keep (al _ _)).keep (al _ _)).keep (al _ _)).keep (al _ _)).below hb (by omega), (((k3.keep (al _ _)).keep (al _ _)).keep (al _ _)).below hb (by omega), ((k4.keep (al _ _)).keep (al _ _)).below hb (by omega), (k5.keep (al _ _)).below hb (by omega), k6.below hb (by omega)⟩
theorem ret_ord {x1 x2 x3 x4 x5 x6 x7 y1 y2 y3 y4 y5 y6 y7 : Int} (h : ((x1, x2, x3, x4, x5, x6, x7) : Int × Int × Int × Int × Int × Int × Int) = (y1, y2, y3, y4, y5, y6, y7)) :
    Ending.returned (.tuple #[.agg #[.int .i64 x1, .int .i64 x2], .agg #[.int .i64 x3, .int .i64 x4], .agg #[.int .i64 x5, .int .i64 x6], .int .i64 x7]) = .returned (.tuple #[.agg #[.int .i64 y1, .int .i64 y2], .agg #[.int .i64 y3, .int .i64 y4], .agg #[.int .i64 y5, .int .i64 y6], .int .i64 y7]) := by
  simp only [Prod.mk.injEq] at h
  obtain ⟨rfl, rfl, rfl, rfl, rfl, rfl, rfl⟩ := h
  rfl
set_option maxRecDepth 20000 in
set_option maxHeartbeats 4000000 in
theorem sOrderSpots (px py qx qy rx ry : Int) (w : World) (a1 a2 a3 a4 a5 a6 code : Int) (hd : ordOut px py qx qy rx ry = (a1, a2, a3, a4, a5, a6, code)) : Calls Try.prog 19 #[.agg #[.int .i64 px, .int .i64 py], .agg #[.int .i64 qx, .int .i64 qy], .agg #[.int .i64 rx, .int .i64 ry]] w
    fun e w' => e = .returned (.tuple #[.agg #[.int .i64 a1, .int .i64 a2], .agg #[.int .i64 a3, .int .i64 a4], .agg #[.int .i64 a5, .int .i64 a6], .int .i64 code]) ∧ Below w.heap.size w w' := by
  have HD := Lib.hid hd
  clear hd
  cases hs : spots3B px py qx qy rx ry
  · have HE : Hid (ordOut px py qx qy rx ry = (0, 0, 0, 0, 0, 0, 1)) := by unfold Hid ordOut; rw [hs]; rfl
    go_enter Try.func19, Try.ntmps19
    go_wp2_with fail
    refine (sTurnOf _ _ _ _ _ _ _).mono ?_
    rw [hs]
    first | simp only [selI_true] | simp only [selI_false]
    rintro e w1 ⟨rfl, hb1⟩
    have hz1 := hb1.size; try simp at hz1
    obtain ⟨p1, p2, p3, p4, p5, p6⟩ := sp_boxes px py qx qy rx ry w w1 (by repeat' (first | (with_reducible exact Below.refl _ _) | (with_reducible assumption) | (with_reducible refine Below.alloc ?_ ?_ _) | (with_reducible refine Below.setCell ?_ ?_ _) | (with_reducible refine Below.drew ?_) | (with_reducible refine below_drewN ?_ _) | (with_reducible refine below_via (by with_reducible assumption) ?_ ?_) | go_size))
    obtain ⟨_, _, _⟩ := p1
    obtain ⟨_, _, _⟩ := p2
    obtain ⟨_, _, _⟩ := p3
    obtain ⟨_, uf60, uf61, _, _, u60, u61, _⟩ := p4
    obtain ⟨_, uf70, uf71, _, _, u70, u71, _⟩ := p5
    obtain ⟨_, uf80, uf81, _, _, u80, u81, _⟩ := p6
    go_wp2
    refine bodyPost_ret (v := .tuple #[.agg #[.int .i64 0, .int .i64 0], .agg #[.int .i64 0, .int .i64 0], .agg #[.int .i64 0, .int .i64 0], .int .i64 1]) (by simp [results, Try.results19, go_sem, *]) rfl ?_
    exact ⟨ret_ord (HE.out.symm.trans HD.out), by repeat' (first | (with_reducible exact Below.refl _ _) | (with_reducible assumption) | (with_reducible refine Below.alloc ?_ ?_ _) | (with_reducible refine Below.setCell ?_ ?_ _) | (with_reducible refine Below.drew ?_) | (with_reducible refine below_drewN ?_ _) | (with_reducible refine below_via (by with_reducible assumption) ?_ ?_) | go_size)⟩
  by_cases ht : turnV px py qx qy rx ry = 0
  · have HE : Hid (ordOut px py qx qy rx ry = (0, 0, 0, 0, 0, 0, 5)) := by unfold Hid ordOut; rw [hs, if_pos ht]; rfl
    go_enter Try.func19, Try.ntmps19
    go_wp2_with fail
    refine (sTurnOf _ _ _ _ _ _ _).mono ?_
    rw [hs]
    first | simp only [selI_true] | simp only [selI_false]
    rw [ht]
    rintro e w1 ⟨rfl, hb1⟩
    have hz1 := hb1.size; try simp at hz1
    obtain ⟨p1, p2, p3, p4, p5, p6⟩ := sp_boxes px py qx qy rx ry w w1 (by repeat' (first | (with_reducible exact Below.refl _ _) | (with_reducible assumption) | (with_reducible refine Below.alloc ?_ ?_ _) | (with_reducible refine Below.setCell ?_ ?_ _) | (with_reducible refine Below.drew ?_) | (with_reducible refine below_drewN ?_ _) | (with_reducible refine below_via (by with_reducible assumption) ?_ ?_) | go_size))
    obtain ⟨_, _, _⟩ := p1
    obtain ⟨_, _, _⟩ := p2
    obtain ⟨_, _, _⟩ := p3
    obtain ⟨_, uf60, uf61, _, _, u60, u61, _⟩ := p4
    obtain ⟨_, uf70, uf71, _, _, u70, u71, _⟩ := p5
    obtain ⟨_, uf80, uf81, _, _, u80, u81, _⟩ := p6
    go_wp2
    refine bodyPost_ret (v := .tuple #[.agg #[.int .i64 0, .int .i64 0], .agg #[.int .i64 0, .int .i64 0], .agg #[.int .i64 0, .int .i64 0], .int .i64 5]) (by simp [results, Try.results19, go_sem, *]) rfl ?_
    exact ⟨ret_ord (HE.out.symm.trans HD.out), by repeat' (first | (with_reducible exact Below.refl _ _) | (with_reducible assumption) | (with_reducible refine Below.alloc ?_ ?_ _) | (with_reducible refine Below.setCell ?_ ?_ _) | (with_reducible refine Below.drew ?_) | (with_reducible refine below_drewN ?_ _) | (with_reducible refine below_via (by with_reducible assumption) ?_ ?_) | go_size)⟩
  obtain ⟨c1, c2, c3, c4, c5, c6, hc⟩ : ∃ c1 c2 c3 c4 c5 c6, ordOf px py qx qy rx ry = (c1, c2, c3, c4, c5, c6) := ⟨_, _, _, _, _, _, rfl⟩
  have HE : Hid (ordOut px py qx qy rx ry = (c1, c2, c3, c4, c5, c6, 0)) := by unfold Hid ordOut; rw [hs, if_neg ht, hc]; rfl
  have HC := Lib.hid hc
  clear hc
  have htb : (turnV px py qx qy rx ry == 0) = false := by simpa using ht
  go_enter Try.func19, Try.ntmps19
  go_wp2_with fail
  refine (sTurnOf _ _ _ _ _ _ _).mono ?_
  rw [hs]
  first | simp only [selI_true] | simp only [selI_false]
  rintro e w1 ⟨rfl, hb1⟩
  have hz1 := hb1.size; try simp at hz1
  obtain ⟨p1, p2, p3, p4, p5, p6⟩ := sp_boxes px py qx qy rx ry w w1 (by repeat' (first | (with_reducible exact Below.refl _ _) | (with_reducible assumption) | (with_reducible refine Below.alloc ?_ ?_ _) | (with_reducible refine Below.setCell ?_ ?_ _) | (with_reducible refine Below.drew ?_) | (with_reducible refine below_drewN ?_ _) | (with_reducible refine below_via (by with_reducible assumption) ?_ ?_) | go_size))
  obtain ⟨_, _, _⟩ := p1
  obtain ⟨_, _, _⟩ := p2
  obtain ⟨_, _, _⟩ := p3
  obtain ⟨_, uf60, uf61, _, _, u60, u61, _⟩ := p4
  obtain ⟨_, uf70, uf71, _, _, u70, u71, _⟩ := p5
  obtain ⟨_, uf80, uf81, _, _, u80, u81, _⟩ := p6
  go_wp2_with fail
  refine (sOrder px py qx qy rx ry _ c1 c2 c3 c4 c5 c6 HC.out).mono ?_
  rintro e w3 ⟨rfl, hb3⟩
  have hz3 := hb3.size; try simp at hz3
  go_wp2_with fail
  obtain ⟨W, hW⟩ : ∃ W : World, W = ((w3.alloc (.cells #[.int .i64 c1, .int .i64 c2] 35)).alloc (.cells #[.int .i64 c3, .int .i64 c4] 35)).alloc (.cells #[.int .i64 c5, .int .i64 c6] 35) := ⟨_, rfl⟩
  have hbW : Below (w.heap.size + 6) ((((((w.alloc (.cells #[.int .i64 px, .int .i64 py] 35)).alloc (.cells #[.int .i64 qx, .int .i64 qy] 35)).alloc (.cells #[.int .i64 rx, .int .i64 ry] 35)).alloc (.cells #[.int .i64 0, .int .i64 0] 35)).alloc (.cells #[.int .i64 0, .int .i64 0] 35)).alloc (.cells #[.int .i64 0, .int .i64 0] 35)) W := by rw [hW]; repeat' (first | (with_reducible exact Below.refl _ _) | (with_reducible assumption) | (with_reducible refine Below.alloc ?_ ?_ _) | (with_reducible refine Below.setCell ?_ ?_ _) | (with_reducible refine Below.drew ?_) | (with_reducible refine below_drewN ?_ _) | (with_reducible refine below_via (by with_reducible assumption) ?_ ?_) | go_size)
  have hB : Below w.heap.size w W := by rw [hW]; repeat' (first | (with_reducible exact Below.refl _ _) | (with_reducible assumption) | (with_reducible refine Below.alloc ?_ ?_ _) | (with_reducible refine Below.setCell ?_ ?_ _) | (with_reducible refine Below.drew ?_) | (with_reducible refine below_drewN ?_ _) | (with_reducible refine below_via (by with_reducible assumption) ?_ ?_) | go_size)
  have hzz : w.heap.size + 6 ≤ w3.heap.size := by omega
  have al := fun (W : World) (o : Obj) => (Below.refl W.heap.size W).alloc (Nat.le_refl _) o
  have z1 : Box2 W w3.heap.size c1 c2 := by rw [hW]; exact ((Box2.new w3 35 _ _).keep (al _ _)).keep (al _ _)
  have z2 : Box2 W (w3.heap.size + 1) c3 c4 := by
    rw [hW]
    have := Box2.new (w3.alloc (.cells #[.int .i64 c1, .int .i64 c2] 35)) 35 c3 c4
    simp only [World.size_alloc] at this
    exact this.keep (al _ _)
  have z3 : Box2 W (w3.heap.size + 1 + 1) c5 c6 := by
    rw [hW]
    have := Box2.new ((w3.alloc (.cells #[.int .i64 c1, .int .i64 c2] 35)).alloc (.cells #[.int .i64 c3, .int .i64 c4] 35)) 35 c5 c6
    simp only [World.size_alloc] at this
    exact this
  rw [← hW]
  clear hW al
  obtain ⟨-, -, -, p4, p5, p6⟩ := sp_boxes px py qx qy rx ry w W hbW
  clear hbW
  obtain ⟨_, uf60, uf61, _, _, u60, u61, _⟩ := p4
  obtain ⟨_, uf70, uf71, _, _, u70, u71, _⟩ := p5
  obtain ⟨_, uf80, uf81, _, _, u80, u81, _⟩ := p6
  obtain ⟨g1, hg1⟩ : ∃ g1, g1 = w3.heap.size := ⟨_, rfl⟩
  obtain ⟨g2, hg2⟩ : ∃ g2, g2 = w3.heap.size + 1 := ⟨_, rfl⟩
  obtain ⟨g3, hg3⟩ : ∃ g3, g3 = w3.heap.size + 1 + 1 := ⟨_, rfl⟩
  rw [← hg3] at z3 ⊢
  rw [← hg2] at z2 ⊢
  rw [← hg1] at z1 ⊢
  obtain ⟨_, _, _⟩ := z1
  obtain ⟨_, _, _⟩ := z2
  obtain ⟨_, _, _⟩ := z3
  have n1 : (g1 ≠ w.heap.size + 1 + 1 + 1 ∧ g1 ≠ w.heap.size + 1 + 1 + 1 + 1 ∧ g1 ≠ w.heap.size + 1 + 1 + 1 + 1 + 1) ∧ (w.heap.size + 1 + 1 + 1 ≠ g1 ∧ w.heap.size + 1 + 1 + 1 + 1 ≠ g1 ∧ w.heap.size + 1 + 1 + 1 + 1 + 1 ≠ g1) := by omega
  have n2 : (g2 ≠ w.heap.size + 1 + 1 + 1 ∧ g2 ≠ w.heap.size + 1 + 1 + 1 + 1 ∧ g2 ≠ w.heap.size + 1 + 1 + 1 + 1 + 1) ∧ (w.heap.size + 1 + 1 + 1 ≠ g2 ∧ w.heap.size + 1 + 1 + 1 + 1 ≠ g2 ∧ w.heap.size + 1 + 1 + 1 + 1 + 1 ≠ g2) := by omega
  have n3 : (g3 ≠ w.heap.size + 1 + 1 + 1 ∧ g3 ≠ w.heap.size + 1 + 1 + 1 + 1 ∧ g3 ≠ w.heap.size + 1 + 1 + 1 + 1 + 1) ∧ (w.heap.size + 1 + 1 + 1 ≠ g3 ∧ w.heap.size + 1 + 1 + 1 + 1 ≠ g3 ∧ w.heap.size + 1 + 1 + 1 + 1 + 1 ≠ g3) := by omega
  clear hg1 hg2 hg3
  obtain ⟨⟨_, _, _⟩, _, _, _⟩ := n1
  obtain ⟨⟨_, _, _⟩, _, _, _⟩ := n2
  obtain ⟨⟨_, _, _⟩, _, _, _⟩ := n3
  go_region_held3 (fun w' => w'.cell? ⟨g1, 0, none⟩ = some (.int .i64 c1) ∧ w'.cell? ⟨g1, 1, none⟩ = some (.int .i64 c2) ∧ w'.cell? ⟨g2, 0, none⟩ = some (.int .i64 c3) ∧ w'.cell? ⟨g2, 1, none⟩ = some (.int .i64 c4) ∧ w'.cell? ⟨g3, 0, none⟩ = some (.int .i64 c5) ∧ w'.cell? ⟨g3, 1, none⟩ = some (.int .i64 c6)) (go_keep) (fail)
  all_goals
    go_wp2
    refine bodyPost_ret (v := .tuple #[.agg #[.int .i64 c1, .int .i64 c2], .agg #[.int .i64 c3, .int .i64 c4], .agg #[.int .i64 c5, .int .i64 c6], .int .i64 0]) (by simp [results, Try.results19, go_sem, *]) rfl ?_
    exact ⟨ret_ord (HE.out.symm.trans HD.out), by repeat' (first | (with_reducible exact Below.refl _ _) | (with_reducible assumption) | (with_reducible refine Below.alloc ?_ ?_ _) | (with_reducible refine Below.setCell ?_ ?_ _) | (with_reducible refine Below.drew ?_) | (with_reducible refine below_drewN ?_ _) | (with_reducible refine below_via (by with_reducible assumption) ?_ ?_) | go_size)⟩
set_option maxRecDepth 20000 in
set_option maxHeartbeats 4000000 in
theorem iOrderSpots (px py qx qy rx ry : Int) (w : World) (a1 a2 a3 a4 a5 a6 code : Int) (hd : ordOut px py qx qy rx ry = (a1, a2, a3, a4, a5, a6, code)) : Calls Try.prog 21 #[.agg #[.int .i64 px, .int .i64 py], .agg #[.int .i64 qx, .int .i64 qy], .agg #[.int .i64 rx, .int .i64 ry]] w
    fun e w' => e = .returned (.tuple #[.agg #[.int .i64 a1, .int .i64 a2], .agg #[.int .i64 a3, .int .i64 a4], .agg #[.int .i64 a5, .int .i64 a6], .int .i64 code]) ∧ Below w.heap.size w w' := by
  have HD := Lib.hid hd
  clear hd
  cases hs : spots3B px py qx qy rx ry
  · have HE : Hid (ordOut px py qx qy rx ry = (0, 0, 0, 0, 0, 0, 1)) := by unfold Hid ordOut; rw [hs]; rfl
    go_enter Try.func21, Try.ntmps21
    go_wp2_with fail
    go_call (iSpots3 _ px py qx qy rx ry _) as e w1 ⟨rfl, hb1⟩
    rw [hs]
    have hz1 := hb1.size; try simp at hz1
    obtain ⟨p1, p2, p3, p4, p5, p6⟩ := sp_boxes px py qx qy rx ry w w1 (by repeat' (first | (with_reducible exact Below.refl _ _) | (with_reducible assumption) | (with_reducible refine Below.alloc ?_ ?_ _) | (with_reducible refine Below.setCell ?_ ?_ _) | (with_reducible refine Below.drew ?_) | (with_reducible refine below_drewN ?_ _) | (with_reducible refine below_via (by with_reducible assumption) ?_ ?_) | go_size))
    obtain ⟨_, _, _⟩ := p1
    obtain ⟨_, _, _⟩ := p2
    obtain ⟨_, _, _⟩ := p3
    obtain ⟨_, uf60, uf61, _, _, u60, u61, _⟩ := p4
    obtain ⟨_, uf70, uf71, _, _, u70, u71, _⟩ := p5
    obtain ⟨_, uf80, uf81, _, _, u80, u81, _⟩ := p6
    go_wp2
    refine bodyPost_ret (v := .tuple #[.agg #[.int .i64 0, .int .i64 0], .agg #[.int .i64 0, .int .i64 0], .agg #[.int .i64 0, .int .i64 0], .int .i64 1]) (by simp [results, Try.results21, go_sem, *]) rfl ?_
    exact ⟨ret_ord (HE.out.symm.trans HD.out), by repeat' (first | (with_reducible exact Below.refl _ _) | (with_reducible assumption) | (with_reducible refine Below.alloc ?_ ?_ _) | (with_reducible refine Below.setCell ?_ ?_ _) | (with_reducible refine Below.drew ?_) | (with_reducible refine below_drewN ?_ _) | (with_reducible refine below_via (by with_reducible assumption) ?_ ?_) | go_size)⟩
  by_cases ht : turnV px py qx qy rx ry = 0
  · have HE : Hid (ordOut px py qx qy rx ry = (0, 0, 0, 0, 0, 0, 5)) := by unfold Hid ordOut; rw [hs, if_pos ht]; rfl
    go_enter Try.func21, Try.ntmps21
    go_wp2_with fail
    go_call (iSpots3 _ px py qx qy rx ry _) as e w1 ⟨rfl, hb1⟩
    rw [hs]
    have hz1 := hb1.size; try simp at hz1
    obtain ⟨p1, p2, p3, p4, p5, p6⟩ := sp_boxes px py qx qy rx ry w w1 (by repeat' (first | (with_reducible exact Below.refl _ _) | (with_reducible assumption) | (with_reducible refine Below.alloc ?_ ?_ _) | (with_reducible refine Below.setCell ?_ ?_ _) | (with_reducible refine Below.drew ?_) | (with_reducible refine below_drewN ?_ _) | (with_reducible refine below_via (by with_reducible assumption) ?_ ?_) | go_size))
    obtain ⟨_, _, _⟩ := p1
    obtain ⟨_, _, _⟩ := p2
    obtain ⟨_, _, _⟩ := p3
    obtain ⟨_, uf60, uf61, _, _, u60, u61, _⟩ := p4
    obtain ⟨_, uf70, uf71, _, _, u70, u71, _⟩ := p5
    obtain ⟨_, uf80, uf81, _, _, u80, u81, _⟩ := p6
    go_wp2_with fail
    refine (iTurn _ _ _ _ _ _ _).mono ?_
    rw [ht]
    rintro e w2 ⟨rfl, hb2⟩
    have hz2 := hb2.size; try simp at hz2
    obtain ⟨p1, p2, p3, p4, p5, p6⟩ := sp_boxes px py qx qy rx ry w w2 (by repeat' (first | (with_reducible exact Below.refl _ _) | (with_reducible assumption) | (with_reducible refine Below.alloc ?_ ?_ _) | (with_reducible refine Below.setCell ?_ ?_ _) | (with_reducible refine Below.drew ?_) | (with_reducible refine below_drewN ?_ _) | (with_reducible refine below_via (by with_reducible assumption) ?_ ?_) | go_size))
    obtain ⟨_, _, _⟩ := p1
    obtain ⟨_, _, _⟩ := p2
    obtain ⟨_, _, _⟩ := p3
    obtain ⟨_, uf60, uf61, _, _, u60, u61, _⟩ := p4
    obtain ⟨_, uf70, uf71, _, _, u70, u71, _⟩ := p5
    obtain ⟨_, uf80, uf81, _, _, u80, u81, _⟩ := p6
    go_wp2
    refine bodyPost_ret (v := .tuple #[.agg #[.int .i64 0, .int .i64 0], .agg #[.int .i64 0, .int .i64 0], .agg #[.int .i64 0, .int .i64 0], .int .i64 5]) (by simp [results, Try.results21, go_sem, *]) rfl ?_
    exact ⟨ret_ord (HE.out.symm.trans HD.out), by repeat' (first | (with_reducible exact Below.refl _ _) | (with_reducible assumption) | (with_reducible refine Below.alloc ?_ ?_ _) | (with_reducible refine Below.setCell ?_ ?_ _) | (with_reducible refine Below.drew ?_) | (with_reducible refine below_drewN ?_ _) | (with_reducible refine below_via (by with_reducible assumption) ?_ ?_) | go_size)⟩
  obtain ⟨c1, c2, c3, c4, c5, c6, hc⟩ : ∃ c1 c2 c3 c4 c5 c6, ordOf px py qx qy rx ry = (c1, c2, c3, c4, c5, c6) := ⟨_, _, _, _, _, _, rfl⟩
  have HE : Hid (ordOut px py qx qy rx ry = (c1, c2, c3, c4, c5, c6, 0)) := by unfold Hid ordOut; rw [hs, if_neg ht, hc]; rfl
  have HC := Lib.hid hc
  clear hc
  have htb : (turnV px py qx qy rx ry == 0) = false := by simpa using ht
  go_enter Try.func21, Try.ntmps21
  go_wp2_with fail
  go_call (iSpots3 _ px py qx qy rx ry _) as e w1 ⟨rfl, hb1⟩
  rw [hs]
  have hz1 := hb1.size; try simp at hz1
  obtain ⟨p1, p2, p3, p4, p5, p6⟩ := sp_boxes px py qx qy rx ry w w1 (by repeat' (first | (with_reducible exact Below.refl _ _) | (with_reducible assumption) | (with_reducible refine Below.alloc ?_ ?_ _) | (with_reducible refine Below.setCell ?_ ?_ _) | (with_reducible refine Below.drew ?_) | (with_reducible refine below_drewN ?_ _) | (with_reducible refine below_via (by with_reducible assumption) ?_ ?_) | go_size))
  obtain ⟨_, _, _⟩ := p1
  obtain ⟨_, _, _⟩ := p2
  obtain ⟨_, _, _⟩ := p3
  obtain ⟨_, uf60, uf61, _, _, u60, u61, _⟩ := p4
  obtain ⟨_, uf70, uf71, _, _, u70, u71, _⟩ := p5
  obtain ⟨_, uf80, uf81, _, _, u80, u81, _⟩ := p6
  go_wp2_with fail
  refine (iTurn _ _ _ _ _ _ _).mono ?_
  rintro e w2 ⟨rfl, hb2⟩
  have hz2 := hb2.size; try simp at hz2
  obtain ⟨p1, p2, p3, p4, p5, p6⟩ := sp_boxes px py qx qy rx ry w w2 (by repeat' (first | (with_reducible exact Below.refl _ _) | (with_reducible assumption) | (with_reducible refine Below.alloc ?_ ?_ _) | (with_reducible refine Below.setCell ?_ ?_ _) | (with_reducible refine Below.drew ?_) | (with_reducible refine below_drewN ?_ _) | (with_reducible refine below_via (by with_reducible assumption) ?_ ?_) | go_size))
  obtain ⟨_, _, _⟩ := p1
  obtain ⟨_, _, _⟩ := p2
  obtain ⟨_, _, _⟩ := p3
  obtain ⟨_, uf60, uf61, _, _, u60, u61, _⟩ := p4
  obtain ⟨_, uf70, uf71, _, _, u70, u71, _⟩ := p5
  obtain ⟨_, uf80, uf81, _, _, u80, u81, _⟩ := p6
  go_wp2_with fail
  refine (iOrder px py qx qy rx ry _ c1 c2 c3 c4 c5 c6 HC.out).mono ?_
  rintro e w3 ⟨rfl, hb3⟩
  have hz3 := hb3.size; try simp at hz3
  go_wp2_with fail
  obtain ⟨W, hW⟩ : ∃ W : World, W = ((w3.alloc (.cells #[.int .i64 c1, .int .i64 c2] 35)).alloc (.cells #[.int .i64 c3, .int .i64 c4] 35)).alloc (.cells #[.int .i64 c5, .int .i64 c6] 35) := ⟨_, rfl⟩
  have hbW : Below (w.heap.size + 6) ((((((w.alloc (.cells #[.int .i64 px, .int .i64 py] 35)).alloc (.cells #[.int .i64 qx, .int .i64 qy] 35)).alloc (.cells #[.int .i64 rx, .int .i64 ry] 35)).alloc (.cells #[.int .i64 0, .int .i64 0] 35)).alloc (.cells #[.int .i64 0, .int .i64 0] 35)).alloc (.cells #[.int .i64 0, .int .i64 0] 35)) W := by rw [hW]; repeat' (first | (with_reducible exact Below.refl _ _) | (with_reducible assumption) | (with_reducible refine Below.alloc ?_ ?_ _) | (with_reducible refine Below.setCell ?_ ?_ _) | (with_reducible refine Below.drew ?_) | (with_reducible refine below_drewN ?_ _) | (with_reducible refine below_via (by with_reducible assumption) ?_ ?_) | go_size)
  have hB : Below w.heap.size w W := by rw [hW]; repeat' (first | (with_reducible exact Below.refl _ _) | (with_reducible assumption) | (with_reducible refine Below.alloc ?_ ?_ _) | (with_reducible refine Below.setCell ?_ ?_ _) | (with_reducible refine Below.drew ?_) | (with_reducible refine below_drewN ?_ _) | (with_reducible refine below_via (by with_reducible assumption) ?_ ?_) | go_size)
  have hzz : w.heap.size + 6 ≤ w3.heap.size := by omega
  have al := fun (W : World) (o : Obj) => (Below.refl W.heap.size W).alloc (Nat.le_refl _) o
  have z1 : Box2 W w3.heap.size c1 c2 := by rw [hW]; exact ((Box2.new w3 35 _ _).keep (al _ _)).keep (al _ _)
  have z2 : Box2 W (w3.heap.size + 1) c3 c4 := by
    rw [hW]
    have := Box2.new (w3.alloc (.cells #[.int .i64 c1, .int .i64 c2] 35)) 35 c3 c4
    simp only [World.size_alloc] at this
    exact this.keep (al _ _)
  have z3 : Box2 W (w3.heap.size + 1 + 1) c5 c6 := by
    rw [hW]
    have := Box2.new ((w3.alloc (.cells #[.int .i64 c1, .int .i64 c2] 35)).alloc (.cells #[.int .i64 c3, .int .i64 c4] 35)) 35 c5 c6
    simp only [World.size_alloc] at this
    exact this
  rw [← hW]
  clear hW al
  obtain ⟨-, -, -, p4, p5, p6⟩ := sp_boxes px py qx qy rx ry w W hbW
  clear hbW
  obtain ⟨_, uf60, uf61, _, _, u60, u61, _⟩ := p4
  obtain ⟨_, uf70, uf71, _, _, u70, u71, _⟩ := p5
  obtain ⟨_, uf80, uf81, _, _, u80, u81, _⟩ := p6
  obtain ⟨g1, hg1⟩ : ∃ g1, g1 = w3.heap.size := ⟨_, rfl⟩
  obtain ⟨g2, hg2⟩ : ∃ g2, g2 = w3.heap.size + 1 := ⟨_, rfl⟩
  obtain ⟨g3, hg3⟩ : ∃ g3, g3 = w3.heap.size + 1 + 1 := ⟨_, rfl⟩
  rw [← hg3] at z3 ⊢
  rw [← hg2] at z2 ⊢
  rw [← hg1] at z1 ⊢
  obtain ⟨_, _, _⟩ := z1
  obtain ⟨_, _, _⟩ := z2
  obtain ⟨_, _, _⟩ := z3
  have n1 : (g1 ≠ w.heap.size + 1 + 1 + 1 ∧ g1 ≠ w.heap.size + 1 + 1 + 1 + 1 ∧ g1 ≠ w.heap.size + 1 + 1 + 1 + 1 + 1) ∧ (w.heap.size + 1 + 1 + 1 ≠ g1 ∧ w.heap.size + 1 + 1 + 1 + 1 ≠ g1 ∧ w.heap.size + 1 + 1 + 1 + 1 + 1 ≠ g1) := by omega
  have n2 : (g2 ≠ w.heap.size + 1 + 1 + 1 ∧ g2 ≠ w.heap.size + 1 + 1 + 1 + 1 ∧ g2 ≠ w.heap.size + 1 + 1 + 1 + 1 + 1) ∧ (w.heap.size + 1 + 1 + 1 ≠ g2 ∧ w.heap.size + 1 + 1 + 1 + 1 ≠ g2 ∧ w.heap.size + 1 + 1 + 1 + 1 + 1 ≠ g2) := by omega
  have n3 : (g3 ≠ w.heap.size + 1 + 1 + 1 ∧ g3 ≠ w.heap.size + 1 + 1 + 1 + 1 ∧ g3 ≠ w.heap.size + 1 + 1 + 1 + 1 + 1) ∧ (w.heap.size + 1 + 1 + 1 ≠ g3 ∧ w.heap.size + 1 + 1 + 1 + 1 ≠ g3 ∧ w.heap.size + 1 + 1 + 1 + 1 + 1 ≠ g3) := by omega
  clear hg1 hg2 hg3
  obtain ⟨⟨_, _, _⟩, _, _, _⟩ := n1
  obtain ⟨⟨_, _, _⟩, _, _, _⟩ := n2
  obtain ⟨⟨_, _, _⟩, _, _, _⟩ := n3
  go_region_held3 (fun w' => w'.cell? ⟨g1, 0, none⟩ = some (.int .i64 c1) ∧ w'.cell? ⟨g1, 1, none⟩ = some (.int .i64 c2) ∧ w'.cell? ⟨g2, 0, none⟩ = some (.int .i64 c3) ∧ w'.cell? ⟨g2, 1, none⟩ = some (.int .i64 c4) ∧ w'.cell? ⟨g3, 0, none⟩ = some (.int .i64 c5) ∧ w'.cell? ⟨g3, 1, none⟩ = some (.int .i64 c6)) (go_keep) (fail)
  all_goals
    go_wp2
    refine bodyPost_ret (v := .tuple #[.agg #[.int .i64 c1, .int .i64 c2], .agg #[.int .i64 c3, .int .i64 c4], .agg #[.int .i64 c5, .int .i64 c6], .int .i64 0]) (by simp [results, Try.results21, go_sem, *]) rfl ?_
    exact ⟨ret_ord (HE.out.symm.trans HD.out), by repeat' (first | (with_reducible exact Below.refl _ _) | (with_reducible assumption) | (with_reducible refine Below.alloc ?_ ?_ _) | (with_reducible refine Below.setCell ?_ ?_ _) | (with_reducible refine Below.drew ?_) | (with_reducible refine below_drewN ?_ _) | (with_reducible refine below_via (by with_reducible assumption) ?_ ?_) | go_size)⟩
end Go.Proofs.Ytdbecdgiafjkfaa
