/-
  DERIVED. Three spots drawn for OrderSpots.
-/
import Derived.Test.YtdbecdgiafjkfaaDSpot
import Derived.Test.YtdbecdgiafjkfaaDPaste
import Derived.Test.YtdbecdgiafjkfaaCorn3
namespace Go.Proofs.Ytdbecdgiafjkfaa
open Go.RowKit
set_option linter.unusedVariables false
theorem Box2.nxt {w w1 : World} {b g : Nat} {x y : Int} (h : Box2 w b x y) (hg : w.grownBy w1 (some g)) (hb : b ≠ g) : Box2 w1 b x y := h.kept hg.size (hg.block b h.1 (fun e => by injection e with e; exact hb e))
theorem Spt.nxt {w w1 : World} {b g : Nat} {s : Bool} {x y : Int} (h : Spt w b s x y) (hg : w.grownBy w1 (some g)) (hb : b ≠ g) : Spt w1 b s x y := h.kept hg.size (hg.block b h.1 (fun e => by injection e with e; exact hb e))
def DrawnOrd (w : World) (e : Ending) (w' : World) : Prop := ∃ x1 y1 x2 y2 x3 y3 : Int, e = .returned (.tuple #[.agg #[.int .i64 x1, .int .i64 y1], .agg #[.int .i64 x2, .int .i64 y2], .agg #[.int .i64 x3, .int .i64 y3]]) ∧ Below w.heap.size w w'
set_option maxRecDepth 100000 in
set_option maxHeartbeats 8000000 in
theorem dOrd (a : Option Addr) (n cp : Nat) (w : World) (h : BytesIn w a n w.heap.size) (hn : n ≤ 1048576) : Calls Try.prog 31 #[.slice a n cp] w (DrawnOrd w) := by
  go_enter Try.func31, Try.ntmps31
  go_wp2_with fail
  obtain ⟨W0, hW0⟩ : ∃ W0 : World, W0 = ((w.alloc (.cells #[.int .i64 0, .int .i64 0] 35)).alloc (.cells #[.int .i64 0, .int .i64 0] 35)).alloc (.cells #[.int .i64 0, .int .i64 0] 35) := ⟨_, rfl⟩
  have al := fun (W : World) (o : Obj) => (Below.refl W.heap.size W).alloc (Nat.le_refl _) o
  have r2 : Hid (Spt W0 w.heap.size false 0 0) := by rw [hW0]; exact ((Spt.new w 35 0 0 0 0 false rfl).keep (al _ _)).keep (al _ _)
  have r3 : Hid (Spt W0 (w.heap.size + 1) false 0 0) := by
    rw [hW0]
    have := Spt.new (w.alloc (.cells #[.int .i64 0, .int .i64 0] 35)) 35 0 0 0 0 false rfl
    simp only [World.size_alloc] at this
    exact this.keep (al _ _)
  have r4 : Hid (Spt W0 (w.heap.size + 1 + 1) false 0 0) := by
    rw [hW0]
    have := Spt.new ((w.alloc (.cells #[.int .i64 0, .int .i64 0] 35)).alloc (.cells #[.int .i64 0, .int .i64 0] 35)) 35 0 0 0 0 false rfl
    simp only [World.size_alloc] at this
    exact this
  have HK0 : Hid (Below w.heap.size w W0) := by rw [hW0]; unfold Hid; repeat' (first | (with_reducible exact Below.refl _ _) | (with_reducible assumption) | (with_reducible refine Below.alloc ?_ ?_ _) | (with_reducible refine Below.setCell ?_ ?_ _) | (with_reducible refine Below.drew ?_) | (with_reducible refine below_drewN ?_ _) | (with_reducible refine below_via (by with_reducible assumption) ?_ ?_) | go_size)
  have hz0 : W0.heap.size = w.heap.size + 3 := by rw [hW0]; simp
  have HBY : Hid (BytesIn W0 a n W0.heap.size) := (h.kept (fun b hb => HK0.out.block b hb)).up (by omega)
  rw [← hW0]
  clear hW0 al h
  refine (sFrom a n cp _ HBY.out hn).mono ?_
  rintro e w1 ⟨g, rfl, hgl, hs1, hb1⟩
  have hz1 := hb1.size
  have HS1 := Lib.hid hs1
  have hgw := hs1.lt
  have R2 := Lib.hid (r2.out.keep hb1)
  have R3 := Lib.hid (r3.out.keep hb1)
  have R4 := Lib.hid (r4.out.keep hb1)
  have HB1 := Lib.hid (HK0.out.trans (hb1.mono HK0.out.size))
  clear hs1 hb1 HBY r2 r3 r4 HK0
  go_wp2_with fail
  refine (dSpot g _ HS1.out).mono ?_
  rintro e w2 ⟨x, y, rfl, -, -, -, -, hs2, hg2⟩
  have hz2 := hg2.size
  have R2 := Lib.hid (R2.out.nxt hg2 (by omega))
  have R3 := Lib.hid (R3.out.nxt hg2 (by omega))
  have R4 := Lib.hid (R4.out.nxt hg2 (by omega))
  have HB2 := Lib.hid (below_nxt2 HB1.out hg2 (by omega))
  have al := (Below.refl w2.heap.size w2).alloc (Nat.le_refl _) (.cells #[.int .i64 x, .int .i64 y] 35)
  have P2 := Lib.hid (Box2.new w2 35 x y)
  have HS2 := Lib.hid (hs2.keep al)
  have R2 := Lib.hid (R2.out.keep al)
  have R3 := Lib.hid (R3.out.keep al)
  have R4 := Lib.hid (R4.out.keep al)
  have HB2 := Lib.hid (HB2.out.trans (al.mono HB2.out.size))
  clear al hs2 hg2 HS1
  go_wp2_with fail
  refine (sNext g 100 _ HS2.out).mono ?_
  rintro e w3 ⟨u, rfl, u0, u1, -, hs3, hg3⟩
  have u2 := u1 (by omega)
  have hz3 := hg3.size; try simp at hz3
  have HS3 := Lib.hid hs3
  have P3 := Lib.hid (P2.out.nxt hg3 (by omega))
  have R2 := Lib.hid (R2.out.nxt hg3 (by omega))
  have R3 := Lib.hid (R3.out.nxt hg3 (by omega))
  have R4 := Lib.hid (R4.out.nxt hg3 (by omega))
  have HB3 := Lib.hid (below_nxt2 HB2.out hg3 (by omega))
  clear hs3 hg3 u1 HS2 P2
  go_wp2_with fail
  refine (sNext g 9 _ HS3.out).mono ?_
  rintro e w4 ⟨v, rfl, v0, v1, -, hs4, hg4⟩
  have v2 := v1 (by omega)
  have hz4 := hg4.size
  have HS4 := Lib.hid hs4
  have P4 := Lib.hid (P3.out.nxt hg4 (by omega))
  have R2 := Lib.hid (R2.out.nxt hg4 (by omega))
  have R3 := Lib.hid (R3.out.nxt hg4 (by omega))
  have R4 := Lib.hid (R4.out.nxt hg4 (by omega))
  have HB4 := Lib.hid (below_nxt2 HB3.out hg4 (by omega))
  have p4 := P4.out
  obtain ⟨_, _, _⟩ := p4
  clear hs4 hg4 v1 HS3 P3
  go_wp2_with fail
  obtain ⟨W4, hW4⟩ : ∃ W4 : World, W4 = (w4.alloc (.cells #[.int .i64 (wrap64 (x + (20 + u))), .int .i64 (wrap64 (y + (v - 4)))] 35)).alloc (.cells #[.int .i64 (wrap64 (x - (v - 4))), .int .i64 (wrap64 (y + (20 + u)))] 35) := ⟨_, rfl⟩
  have al := fun (W : World) (o : Obj) => (Below.refl W.heap.size W).alloc (Nat.le_refl _) o
  have hbW : Below w4.heap.size w4 W4 := by rw [hW4]; repeat' (first | (with_reducible exact Below.refl _ _) | (with_reducible assumption) | (with_reducible refine Below.alloc ?_ ?_ _) | (with_reducible refine Below.setCell ?_ ?_ _) | (with_reducible refine Below.drew ?_) | (with_reducible refine below_drewN ?_ _) | (with_reducible refine below_via (by with_reducible assumption) ?_ ?_) | go_size)
  have hz5 : W4.heap.size = w4.heap.size + 2 := by rw [hW4]; simp
  have P9 : Hid (Box2 W4 w4.heap.size (wrap64 (x + (20 + u))) (wrap64 (y + (v - 4)))) := by rw [hW4]; exact (Box2.new w4 35 _ _).keep (al _ _)
  have PA : Hid (Box2 W4 (w4.heap.size + 1) (wrap64 (x - (v - 4))) (wrap64 (y + (20 + u)))) := by
    rw [hW4]
    have := Box2.new (w4.alloc (.cells #[.int .i64 (wrap64 (x + (20 + u))), .int .i64 (wrap64 (y + (v - 4)))] 35)) 35 (wrap64 (x - (v - 4))) (wrap64 (y + (20 + u)))
    simp only [World.size_alloc] at this
    exact this
  have P5 := Lib.hid (P4.out.keep hbW)
  have HS5 := Lib.hid (HS4.out.keep hbW)
  have R2 := Lib.hid (R2.out.keep hbW)
  have R3 := Lib.hid (R3.out.keep hbW)
  have R4 := Lib.hid (R4.out.keep hbW)
  have HB5 := Lib.hid (HB4.out.trans (hbW.mono HB4.out.size))
  rw [← hW4]
  clear hW4 al hbW P4 HS4
  refine (sNext g 4 _ HS5.out).mono ?_
  rintro e w6 ⟨k, rfl, k0, k1, -, hs6, hg6⟩
  have k2 := k1 (by omega)
  have hz6 := hg6.size
  have HS6 := Lib.hid hs6
  have P6 := Lib.hid (P5.out.nxt hg6 (by omega))
  have P9 := Lib.hid (P9.out.nxt hg6 (by omega))
  have PA := Lib.hid (PA.out.nxt hg6 (by omega))
  have R2 := Lib.hid (R2.out.nxt hg6 (by omega))
  have R3 := Lib.hid (R3.out.nxt hg6 (by omega))
  have R4 := Lib.hid (R4.out.nxt hg6 (by omega))
  have HB6 := Lib.hid (below_nxt2 HB5.out hg6 (by omega))
  have p6 := P6.out
  have p9 := P9.out
  have pA := PA.out
  obtain ⟨_, _, _⟩ := p6
  obtain ⟨_, _, _⟩ := p9
  obtain ⟨_, _, _⟩ := pA
  have r2 := R2.out
  have r3 := R3.out
  have r4 := R4.out
  obtain ⟨_, uf60, uf61, _, _, u60, u61, _⟩ := r2
  obtain ⟨_, uf70, uf71, _, _, u70, u71, _⟩ := r3
  obtain ⟨_, uf80, uf81, _, _, u80, u81, _⟩ := r4
  clear hs6 hg6 k1 HS5 P5
  obtain ⟨g2, hg2⟩ : ∃ g2, g2 = w2.heap.size := ⟨_, rfl⟩
  obtain ⟨g4, hg4⟩ : ∃ g4, g4 = w4.heap.size := ⟨_, rfl⟩
  have m1 : (w.heap.size ≠ g2 ∧ w.heap.size + 1 ≠ g2 ∧ w.heap.size + 1 + 1 ≠ g2) ∧ (g2 ≠ w.heap.size ∧ g2 ≠ w.heap.size + 1 ∧ g2 ≠ w.heap.size + 1 + 1) := by omega
  have m2 : (w.heap.size ≠ g4 ∧ w.heap.size + 1 ≠ g4 ∧ w.heap.size + 1 + 1 ≠ g4) ∧ (g4 ≠ w.heap.size ∧ g4 ≠ w.heap.size + 1 ∧ g4 ≠ w.heap.size + 1 + 1) := by omega
  have m3 : (w.heap.size ≠ g4 + 1 ∧ w.heap.size + 1 ≠ g4 + 1 ∧ w.heap.size + 1 + 1 ≠ g4 + 1) ∧ (g4 + 1 ≠ w.heap.size ∧ g4 + 1 ≠ w.heap.size + 1 ∧ g4 + 1 ≠ w.heap.size + 1 + 1) := by omega
  rw [hg2] at m1
  rw [hg4] at m2 m3
  clear hg2 hg4
  obtain ⟨⟨_, _, _⟩, _, _, _⟩ := m1
  obtain ⟨⟨_, _, _⟩, _, _, _⟩ := m2
  obtain ⟨⟨_, _, _⟩, _, _, _⟩ := m3
  rcases (show k = 0 ∨ k = 1 ∨ k = 2 ∨ k = 3 by omega) with rfl | rfl | rfl | rfl
  · go_wp2_with fail
    go_region_held3 (fun w' => w'.cell? ⟨w2.heap.size, 0, none⟩ = some (.int .i64 x) ∧ w'.cell? ⟨w2.heap.size, 1, none⟩ = some (.int .i64 y) ∧ w'.cell? ⟨w4.heap.size, 0, none⟩ = some (.int .i64 (wrap64 (x + (20 + u)))) ∧ w'.cell? ⟨w4.heap.size, 1, none⟩ = some (.int .i64 (wrap64 (y + (v - 4)))) ∧ w'.cell? ⟨w4.heap.size + 1, 0, none⟩ = some (.int .i64 (wrap64 (x - (v - 4)))) ∧ w'.cell? ⟨w4.heap.size + 1, 1, none⟩ = some (.int .i64 (wrap64 (y + (20 + u))))) (go_keep) (fail)
    all_goals
      go_wp2
      refine bodyPost_ret (v := .tuple #[.agg #[.int .i64 (wrap64 (x + (20 + u))), .int .i64 (wrap64 (y + (v - 4)))], .agg #[.int .i64 (wrap64 (x - (v - 4))), .int .i64 (wrap64 (y + (20 + u)))], .agg #[.int .i64 x, .int .i64 y]]) (by simp [results, Try.results31, go_sem, *]) rfl ?_
      exact ⟨_, _, _, _, _, _, rfl, by have hbo := HB6.out; repeat' (first | (with_reducible exact Below.refl _ _) | (with_reducible assumption) | (with_reducible refine Below.alloc ?_ ?_ _) | (with_reducible refine Below.setCell ?_ ?_ _) | (with_reducible refine Below.drew ?_) | (with_reducible refine below_drewN ?_ _) | (with_reducible refine below_via (by with_reducible assumption) ?_ ?_) | go_size)⟩
  · go_wp2_with fail
    go_region_held3 (fun w' => w'.cell? ⟨w2.heap.size, 0, none⟩ = some (.int .i64 x) ∧ w'.cell? ⟨w2.heap.size, 1, none⟩ = some (.int .i64 y) ∧ w'.cell? ⟨w4.heap.size, 0, none⟩ = some (.int .i64 (wrap64 (x + (20 + u)))) ∧ w'.cell? ⟨w4.heap.size, 1, none⟩ = some (.int .i64 (wrap64 (y + (v - 4)))) ∧ w'.cell? ⟨w4.heap.size + 1, 0, none⟩ = some (.int .i64 (wrap64 (x - (v - 4)))) ∧ w'.cell? ⟨w4.heap.size + 1, 1, none⟩ = some (.int .i64 (wrap64 (y + (20 + u))))) (go_keep) (fail)
    all_goals
      go_wp2
      refine bodyPost_ret (v := .tuple #[.agg #[.int .i64 (wrap64 (x - (v - 4))), .int .i64 (wrap64 (y + (20 + u)))], .agg #[.int .i64 x, .int .i64 y], .agg #[.int .i64 (wrap64 (x + (20 + u))), .int .i64 (wrap64 (y + (v - 4)))]]) (by simp [results, Try.results31, go_sem, *]) rfl ?_
      exact ⟨_, _, _, _, _, _, rfl, by have hbo := HB6.out; repeat' (first | (with_reducible exact Below.refl _ _) | (with_reducible assumption) | (with_reducible refine Below.alloc ?_ ?_ _) | (with_reducible refine Below.setCell ?_ ?_ _) | (with_reducible refine Below.drew ?_) | (with_reducible refine below_drewN ?_ _) | (with_reducible refine below_via (by with_reducible assumption) ?_ ?_) | go_size)⟩
  · have dr := (Below.refl w6.heap.size w6).drew
    have HSd := Lib.hid (HS6.out.keep dr)
    have P6d := Lib.hid (P6.out.keep dr)
    have P9d := Lib.hid (P9.out.keep dr)
    have R2d := Lib.hid (R2.out.keep dr)
    have R3d := Lib.hid (R3.out.keep dr)
    have R4d := Lib.hid (R4.out.keep dr)
    have HBd := Lib.hid (HB6.out.trans (dr.mono HB6.out.size))
    clear dr
    go_wp2_with fail
    go_region_held3 (fun w' => w'.cell? ⟨w2.heap.size, 0, none⟩ = some (.int .i64 x) ∧ w'.cell? ⟨w2.heap.size, 1, none⟩ = some (.int .i64 y) ∧ w'.cell? ⟨w4.heap.size, 0, none⟩ = some (.int .i64 (wrap64 (x + (20 + u)))) ∧ w'.cell? ⟨w4.heap.size, 1, none⟩ = some (.int .i64 (wrap64 (y + (v - 4))))) (go_keep) (first | (go_at_call 80; refine (dSpot g _ (by with_reducible exact HSd.out)).mono ?_; rintro e w' ⟨x5, y5, rfl, -, -, -, -, hs, hg⟩; have q1 := P6d.out.nxt hg (by omega); have q2 := P9d.out.nxt hg (by omega); obtain ⟨_, _, _⟩ := q1; obtain ⟨_, _, _⟩ := q2; have hbl := Lib.hid (below_nxt2 HBd.out hg (by omega)); have v2 := R2d.out.nxt hg (by omega); have v3 := R3d.out.nxt hg (by omega); have v4 := R4d.out.nxt hg (by omega); obtain ⟨_, _, _, _, _, _, _, _⟩ := v2; obtain ⟨_, _, _, _, _, _, _, _⟩ := v3; obtain ⟨_, _, _, _, _, _, _, _⟩ := v4; clear hs hg))
    all_goals
      go_wp2
      refine bodyPost_ret (v := .tuple #[.agg #[.int .i64 x, .int .i64 y], .agg #[.int .i64 (wrap64 (x + (20 + u))), .int .i64 (wrap64 (y + (v - 4)))], .agg #[.int .i64 x5, .int .i64 y5]]) (by simp [results, Try.results31, go_sem, *]) rfl ?_
      exact ⟨_, _, _, _, _, _, rfl, by have hbo := hbl.out; repeat' (first | (with_reducible exact Below.refl _ _) | (with_reducible assumption) | (with_reducible refine Below.alloc ?_ ?_ _) | (with_reducible refine Below.setCell ?_ ?_ _) | (with_reducible refine Below.drew ?_) | (with_reducible refine below_drewN ?_ _) | (with_reducible refine below_via (by with_reducible assumption) ?_ ?_) | go_size)⟩
  · go_wp2_with fail
    go_region_held3 (fun w' => w'.cell? ⟨w2.heap.size, 0, none⟩ = some (.int .i64 x) ∧ w'.cell? ⟨w2.heap.size, 1, none⟩ = some (.int .i64 y) ∧ w'.cell? ⟨w4.heap.size, 0, none⟩ = some (.int .i64 (wrap64 (x + (20 + u)))) ∧ w'.cell? ⟨w4.heap.size, 1, none⟩ = some (.int .i64 (wrap64 (y + (v - 4)))) ∧ w'.cell? ⟨w4.heap.size + 1, 0, none⟩ = some (.int .i64 (wrap64 (x - (v - 4)))) ∧ w'.cell? ⟨w4.heap.size + 1, 1, none⟩ = some (.int .i64 (wrap64 (y + (20 + u))))) (go_keep) (fail)
    all_goals
      go_wp2
      refine bodyPost_ret (v := .tuple #[.agg #[.int .i64 x, .int .i64 y], .agg #[.int .i64 (wrap64 (x + (20 + u))), .int .i64 (wrap64 (y + (v - 4)))], .agg #[.int .i64 (wrap64 (x - (v - 4))), .int .i64 (wrap64 (y + (20 + u)))]]) (by simp [results, Try.results31, go_sem, *]) rfl ?_
      exact ⟨_, _, _, _, _, _, rfl, by have hbo := HB6.out; repeat' (first | (with_reducible exact Below.refl _ _) | (with_reducible assumption) | (with_reducible refine Below.alloc ?_ ?_ _) | (with_reducible refine Below.setCell ?_ ?_ _) | (with_reducible refine Below.drew ?_) | (with_reducible refine below_drewN ?_ _) | (with_reducible refine below_via (by with_reducible assumption) ?_ ?_) | go_size)⟩
end Go.Proofs.Ytdbecdgiafjkfaa
