/-
  DERIVED. The walk of FnExactCornersOf.
-/
import Derived.Test.YtdbecdgiafjkfaaCorn4
import Derived.Test.YtdbecdgiafjkfaaQEq
import Derived.Test.YtdbecdgiafjkfaaRast2
import Derived.Deep.Cut
namespace Go.Proofs.Ytdbecdgiafjkfaa
open Go.RowKit
set_option linter.unusedVariables false
/-- a box of eight cells; what it holds, once it was stored. -/
def Opt8 (w : World) (b : Nat) (s : Bool) (x0 x1 x2 x3 x4 x5 x6 x7 : Int) : Prop := ∃ z0 z1 z2 z3 z4 z5 z6 z7 : Int, Box8 w b z0 z1 z2 z3 z4 z5 z6 z7 ∧ (s = true → z0 = x0 ∧ z1 = x1 ∧ z2 = x2 ∧ z3 = x3 ∧ z4 = x4 ∧ z5 = x5 ∧ z6 = x6 ∧ z7 = x7)
theorem Opt8.keep {w w' : World} {b : Nat} {s : Bool} {x0 x1 x2 x3 x4 x5 x6 x7 : Int} (h : Opt8 w b s x0 x1 x2 x3 x4 x5 x6 x7) (hb : Below w.heap.size w w') : Opt8 w' b s x0 x1 x2 x3 x4 x5 x6 x7 := by
  obtain ⟨z0, z1, z2, z3, z4, z5, z6, z7, h1, h2⟩ := h
  exact ⟨z0, z1, z2, z3, z4, z5, z6, z7, h1.keep hb, h2⟩
theorem Opt8.lt {w : World} {b : Nat} {s : Bool} {x0 x1 x2 x3 x4 x5 x6 x7 : Int} (h : Opt8 w b s x0 x1 x2 x3 x4 x5 x6 x7) : b < w.heap.size := by
  obtain ⟨z0, z1, z2, z3, z4, z5, z6, z7, h1, h2⟩ := h
  exact h1.1
theorem Opt8.new (w : World) (t : TypeId) {s : Bool} {x0 x1 x2 x3 x4 x5 x6 x7 : Int} (hs : s = false) : Opt8 (w.alloc (.cells #[.int .i64 0, .int .i64 0, .int .i64 0, .int .i64 0, .int .i64 0, .int .i64 0, .int .i64 0, .int .i64 0] t)) w.heap.size s x0 x1 x2 x3 x4 x5 x6 x7 :=
  ⟨0, 0, 0, 0, 0, 0, 0, 0, Box8.new w t 0 0 0 0 0 0 0 0, fun h => by rw [hs] at h; cases h⟩
theorem Opt8.store {w : World} {b : Nat} {s s' : Bool} {x0 x1 x2 x3 x4 x5 x6 x7 : Int} (h : Opt8 w b s x0 x1 x2 x3 x4 x5 x6 x7) : Opt8 ((((((((w.setCell ⟨b, 0, none⟩ (.int .i64 x0)).setCell ⟨b, 1, none⟩ (.int .i64 x1)).setCell ⟨b, 2, none⟩ (.int .i64 x2)).setCell ⟨b, 3, none⟩ (.int .i64 x3)).setCell ⟨b, 4, none⟩ (.int .i64 x4)).setCell ⟨b, 5, none⟩ (.int .i64 x5)).setCell ⟨b, 6, none⟩ (.int .i64 x6)).setCell ⟨b, 7, none⟩ (.int .i64 x7)) b s' x0 x1 x2 x3 x4 x5 x6 x7 := by
  obtain ⟨z0, z1, z2, z3, z4, z5, z6, z7, h1, h2⟩ := h
  exact ⟨x0, x1, x2, x3, x4, x5, x6, x7, h1.store8, fun _ => ⟨rfl, rfl, rfl, rfl, rfl, rfl, rfl, rfl⟩⟩
theorem Opt8.box {w : World} {b : Nat} {x0 x1 x2 x3 x4 x5 x6 x7 : Int} (h : Opt8 w b true x0 x1 x2 x3 x4 x5 x6 x7) : Box8 w b x0 x1 x2 x3 x4 x5 x6 x7 := by
  obtain ⟨z0, z1, z2, z3, z4, z5, z6, z7, h1, h2⟩ := h
  obtain ⟨rfl, rfl, rfl, rfl, rfl, rfl, rfl, rfl⟩ := h2 rfl
  exact h1
set_option maxRecDepth 20000 in
set_option maxHeartbeats 4000000 in
theorem walk_FnExactCornersOf (aA_X : Int) (aA_Y : Int) (aB_X : Int) (aB_Y : Int) (aC_X : Int) (aC_Y : Int) (aN : Int) (w : World) (f_aA_X : (Lit.int .i64 aA_X).wf = true) (f_aA_Y : (Lit.int .i64 aA_Y).wf = true) (f_aB_X : (Lit.int .i64 aB_X).wf = true) (f_aB_Y : (Lit.int .i64 aB_Y).wf = true) (f_aC_X : (Lit.int .i64 aC_X).wf = true) (f_aC_Y : (Lit.int .i64 aC_Y).wf = true) (f_aN : (Lit.int .i64 aN).wf = true) :
    Calls Try.prog 5 #[.agg #[.int .i64 aA_X, .int .i64 aA_Y], .agg #[.int .i64 aB_X, .int .i64 aB_Y], .agg #[.int .i64 aC_X, .int .i64 aC_Y], .int .i64 aN] w fun e w' => e = .returned (.bool true) ∧ Below w.heap.size w w' := by
  clear f_aA_X f_aA_Y f_aB_X f_aB_Y f_aC_X f_aC_Y f_aN
  obtain ⟨a1, a2, a3, a4, a5, a6, a7, a8, code, hd⟩ : ∃ a1 a2 a3 a4 a5 a6 a7 a8 code, cornOut aA_X aA_Y aB_X aB_Y aC_X aC_Y aN = (a1, a2, a3, a4, a5, a6, a7, a8, code) := ⟨_, _, _, _, _, _, _, _, _, rfl⟩
  have HD := Lib.hid hd
  clear hd
  go_enter Try.func5, Try.ntmps5
  go_wp2_with fail
  obtain ⟨W, hW⟩ : ∃ W : World, W = ((w.alloc (.cells #[.int .i64 aA_X, .int .i64 aA_Y] 34)).alloc (.cells #[.int .i64 aB_X, .int .i64 aB_Y] 34)).alloc (.cells #[.int .i64 aC_X, .int .i64 aC_Y] 34) := ⟨_, rfl⟩
  have HB0 : Hid (Below w.heap.size w W) := by rw [hW]; unfold Hid; repeat' (first | (with_reducible exact Below.refl _ _) | (with_reducible assumption) | (with_reducible refine Below.alloc ?_ ?_ _) | (with_reducible refine Below.setCell ?_ ?_ _) | (with_reducible refine Below.drew ?_) | (with_reducible refine below_drewN ?_ _) | (with_reducible refine below_via (by with_reducible assumption) ?_ ?_) | go_size)
  have hz0 : W.heap.size = w.heap.size + 3 := by rw [hW]; simp
  have al := fun (W : World) (o : Obj) => (Below.refl W.heap.size W).alloc (Nat.le_refl _) o
  have k1 : Hid (Box2 W w.heap.size aA_X aA_Y) := by rw [hW]; exact ((Box2.new w 34 _ _).keep (al _ _)).keep (al _ _)
  have k2 : Hid (Box2 W (w.heap.size + 1) aB_X aB_Y) := by
    rw [hW]
    have := Box2.new (w.alloc (.cells #[.int .i64 aA_X, .int .i64 aA_Y] 34)) 34 aB_X aB_Y
    simp only [World.size_alloc] at this
    exact this.keep (al _ _)
  have k3 : Hid (Box2 W (w.heap.size + 1 + 1) aC_X aC_Y) := by
    rw [hW]
    have := Box2.new ((w.alloc (.cells #[.int .i64 aA_X, .int .i64 aA_Y] 34)).alloc (.cells #[.int .i64 aB_X, .int .i64 aB_Y] 34)) 34 aC_X aC_Y
    simp only [World.size_alloc] at this
    exact this
  clear al
  rw [← hW]
  clear hW
  have l1 := k1.out
  have l2 := k2.out
  have l3 := k3.out
  obtain ⟨_, _, _⟩ := l1
  obtain ⟨_, _, _⟩ := l2
  obtain ⟨_, _, _⟩ := l3
  go_wp2_with fail
  go_cut [9, 10] from 13 (fun p c wx => ∃ bq : Nat, p = .pointer (some ⟨bq, 0, none⟩) ∧ c = .int .i64 code ∧ Hid (Box8 wx bq a1 a2 a3 a4 a5 a6 a7 a8) ∧ Hid (Below W.heap.size W wx) ∧ W.heap.size ≤ bq)
  case first =>
    refine wp_region_inv (fun d a wz => ∃ (u14 u15 u16 u17 u18 u19 u20 u21 u13 u22 u23 u9 u10 : Value) (b11 : Nat), a = ({ tmps := #[(.agg #[.int .i64 aA_X, .int .i64 aA_Y]), (.agg #[.int .i64 aB_X, .int .i64 aB_Y]), (.agg #[.int .i64 aC_X, .int .i64 aC_Y]), (.int .i64 aN), (.pointer (some ⟨w.heap.size, 0, none⟩)), (.pointer (some ⟨w.heap.size + 1, 0, none⟩)), (.pointer (some ⟨w.heap.size + 1 + 1, 0, none⟩)), undef, (.bool false), u9, u10, undef, undef, u13, u14, u15, u16, u17, u18, u19, u20, u21, u22, u23, undef, undef, undef, undef, undef, undef, undef, undef, undef, undef, undef, undef, undef, undef, undef, undef, undef, undef, undef, undef], defers := [] } : Act) ∧ Below W.heap.size W wz ∧ (d 0 = true → u14 = (.agg #[.int .i64 aA_X, .int .i64 aA_Y])) ∧ (d 1 = true → u15 = (.agg #[.int .i64 aA_X, .int .i64 aA_Y])) ∧ (d 2 = true → u16 = (.agg #[.int .i64 aB_X, .int .i64 aB_Y])) ∧ (d 3 = true → u17 = (.agg #[.int .i64 aB_X, .int .i64 aB_Y])) ∧ (d 4 = true → u18 = (.agg #[.int .i64 aC_X, .int .i64 aC_Y])) ∧ (d 5 = true → u19 = (.agg #[.int .i64 aC_X, .int .i64 aC_Y])) ∧ (d 6 = true → u20 = (.int .i64 aN)) ∧ (d 7 = true → u21 = (.tuple #[(.agg #[.int .i64 a1, .int .i64 a2, .int .i64 a3, .int .i64 a4, .int .i64 a5, .int .i64 a6, .int .i64 a7, .int .i64 a8]), .int .i64 code])) ∧ (d 8 = true → u13 = (.tuple #[(.agg #[.int .i64 a1, .int .i64 a2, .int .i64 a3, .int .i64 a4, .int .i64 a5, .int .i64 a6, .int .i64 a7, .int .i64 a8]), .int .i64 code])) ∧ (d 9 = true → u22 = (.agg #[.int .i64 a1, .int .i64 a2, .int .i64 a3, .int .i64 a4, .int .i64 a5, .int .i64 a6, .int .i64 a7, .int .i64 a8])) ∧ (d 10 = true → u23 = (.int .i64 code)) ∧ (d 11 = true → u9 = .pointer (some ⟨b11, 0, none⟩) ∧ W.heap.size ≤ b11 ∧ Opt8 wz b11 (d 12) a1 a2 a3 a4 a5 a6 a7 a8) ∧ (d 12 = true → d 11 = true) ∧ (d 13 = true → u10 = (.int .i64 code))) (by kernel_rfl) (by kernel_rfl) ?_ ?_ ?_
    · exact ⟨_, _, _, _, _, _, _, _, _, _, _, _, _, 0, rfl, (Below.refl _ _).drew, (fun h => by cases h), (fun h => by cases h), (fun h => by cases h), (fun h => by cases h), (fun h => by cases h), (fun h => by cases h), (fun h => by cases h), (fun h => by cases h), (fun h => by cases h), (fun h => by cases h), (fun h => by cases h), (fun h => by cases h), (fun h => by cases h), (fun h => by cases h)⟩
    · refine Steps.cons (fun d a wz hI hd hdep K hK => ?_) ?_
      · obtain ⟨u14, u15, u16, u17, u18, u19, u20, u21, u13, u22, u23, u9, u10, b11, rfl, hB, f0, f1, f2, f3, f4, f5, f6, f7, f8, f9, f10, f11, s11, f13⟩ := hI
        have e0 := (k1.out.below hB (by omega)).2.1
        have e1 := (k1.out.below hB (by omega)).2.2
        go_simp
        refine hK _ _ ⟨_, _, _, _, _, _, _, _, _, _, _, _, _, b11, rfl, hB, (fun _ => rfl), f1, f2, f3, f4, f5, f6, f7, f8, f9, f10, f11, s11, f13⟩
      refine Steps.cons (fun d a wz hI hd hdep K hK => ?_) ?_
      · obtain ⟨u14, u15, u16, u17, u18, u19, u20, u21, u13, u22, u23, u9, u10, b11, rfl, hB, f0, f1, f2, f3, f4, f5, f6, f7, f8, f9, f10, f11, s11, f13⟩ := hI
        have q0 := f0 (hdep 0 rfl)
        subst q0
        go_simp
        refine (toSpot _ _ _).mono ?_
        rintro e w1 ⟨rfl, hb⟩
        refine hK _ _ ⟨_, _, _, _, _, _, _, _, _, _, _, _, _, b11, rfl, (hB.trans (hb.mono hB.size)), f0, (fun _ => rfl), f2, f3, f4, f5, f6, f7, f8, f9, f10, (fun h => ⟨(f11 h).1, (f11 h).2.1, (f11 h).2.2.keep hb⟩), s11, f13⟩
      refine Steps.cons (fun d a wz hI hd hdep K hK => ?_) ?_
      · obtain ⟨u14, u15, u16, u17, u18, u19, u20, u21, u13, u22, u23, u9, u10, b11, rfl, hB, f0, f1, f2, f3, f4, f5, f6, f7, f8, f9, f10, f11, s11, f13⟩ := hI
        have e0 := (k2.out.below hB (by omega)).2.1
        have e1 := (k2.out.below hB (by omega)).2.2
        go_simp
        refine hK _ _ ⟨_, _, _, _, _, _, _, _, _, _, _, _, _, b11, rfl, hB, f0, f1, (fun _ => rfl), f3, f4, f5, f6, f7, f8, f9, f10, f11, s11, f13⟩
      refine Steps.cons (fun d a wz hI hd hdep K hK => ?_) ?_
      · obtain ⟨u14, u15, u16, u17, u18, u19, u20, u21, u13, u22, u23, u9, u10, b11, rfl, hB, f0, f1, f2, f3, f4, f5, f6, f7, f8, f9, f10, f11, s11, f13⟩ := hI
        have q2 := f2 (hdep 2 rfl)
        subst q2
        go_simp
        refine (toSpot _ _ _).mono ?_
        rintro e w1 ⟨rfl, hb⟩
        refine hK _ _ ⟨_, _, _, _, _, _, _, _, _, _, _, _, _, b11, rfl, (hB.trans (hb.mono hB.size)), f0, f1, f2, (fun _ => rfl), f4, f5, f6, f7, f8, f9, f10, (fun h => ⟨(f11 h).1, (f11 h).2.1, (f11 h).2.2.keep hb⟩), s11, f13⟩
      refine Steps.cons (fun d a wz hI hd hdep K hK => ?_) ?_
      · obtain ⟨u14, u15, u16, u17, u18, u19, u20, u21, u13, u22, u23, u9, u10, b11, rfl, hB, f0, f1, f2, f3, f4, f5, f6, f7, f8, f9, f10, f11, s11, f13⟩ := hI
        have e0 := (k3.out.below hB (by omega)).2.1
        have e1 := (k3.out.below hB (by omega)).2.2
        go_simp
        refine hK _ _ ⟨_, _, _, _, _, _, _, _, _, _, _, _, _, b11, rfl, hB, f0, f1, f2, f3, (fun _ => rfl), f5, f6, f7, f8, f9, f10, f11, s11, f13⟩
      refine Steps.cons (fun d a wz hI hd hdep K hK => ?_) ?_
      · obtain ⟨u14, u15, u16, u17, u18, u19, u20, u21, u13, u22, u23, u9, u10, b11, rfl, hB, f0, f1, f2, f3, f4, f5, f6, f7, f8, f9, f10, f11, s11, f13⟩ := hI
        have q4 := f4 (hdep 4 rfl)
        subst q4
        go_simp
        refine (toSpot _ _ _).mono ?_
        rintro e w1 ⟨rfl, hb⟩
        refine hK _ _ ⟨_, _, _, _, _, _, _, _, _, _, _, _, _, b11, rfl, (hB.trans (hb.mono hB.size)), f0, f1, f2, f3, f4, (fun _ => rfl), f6, f7, f8, f9, f10, (fun h => ⟨(f11 h).1, (f11 h).2.1, (f11 h).2.2.keep hb⟩), s11, f13⟩
      refine Steps.cons (fun d a wz hI hd hdep K hK => ?_) ?_
      · obtain ⟨u14, u15, u16, u17, u18, u19, u20, u21, u13, u22, u23, u9, u10, b11, rfl, hB, f0, f1, f2, f3, f4, f5, f6, f7, f8, f9, f10, f11, s11, f13⟩ := hI
        go_simp
        refine hK _ _ ⟨_, _, _, _, _, _, _, _, _, _, _, _, _, b11, rfl, hB, f0, f1, f2, f3, f4, f5, (fun _ => rfl), f7, f8, f9, f10, f11, s11, f13⟩
      refine Steps.cons (fun d a wz hI hd hdep K hK => ?_) ?_
      · obtain ⟨u14, u15, u16, u17, u18, u19, u20, u21, u13, u22, u23, u9, u10, b11, rfl, hB, f0, f1, f2, f3, f4, f5, f6, f7, f8, f9, f10, f11, s11, f13⟩ := hI
        have q1 := f1 (hdep 1 rfl)
        subst q1
        have q3 := f3 (hdep 3 rfl)
        subst q3
        have q5 := f5 (hdep 5 rfl)
        subst q5
        have q6 := f6 (hdep 6 rfl)
        subst q6
        go_simp
        refine (sCornersOf aA_X aA_Y aB_X aB_Y aC_X aC_Y aN _ a1 a2 a3 a4 a5 a6 a7 a8 code HD.out).mono ?_
        rintro e w1 ⟨rfl, hb⟩
        refine hK _ _ ⟨_, _, _, _, _, _, _, _, _, _, _, _, _, b11, rfl, (hB.trans (hb.mono hB.size)), f0, f1, f2, f3, f4, f5, f6, (fun _ => rfl), f8, f9, f10, (fun h => ⟨(f11 h).1, (f11 h).2.1, (f11 h).2.2.keep hb⟩), s11, f13⟩
      refine Steps.cons (fun d a wz hI hd hdep K hK => ?_) ?_
      · obtain ⟨u14, u15, u16, u17, u18, u19, u20, u21, u13, u22, u23, u9, u10, b11, rfl, hB, f0, f1, f2, f3, f4, f5, f6, f7, f8, f9, f10, f11, s11, f13⟩ := hI
        have q7 := f7 (hdep 7 rfl)
        subst q7
        go_simp
        refine hK _ _ ⟨_, _, _, _, _, _, _, _, _, _, _, _, _, b11, rfl, hB, f0, f1, f2, f3, f4, f5, f6, f7, (fun _ => rfl), f9, f10, f11, s11, f13⟩
      refine Steps.cons (fun d a wz hI hd hdep K hK => ?_) ?_
      · obtain ⟨u14, u15, u16, u17, u18, u19, u20, u21, u13, u22, u23, u9, u10, b11, rfl, hB, f0, f1, f2, f3, f4, f5, f6, f7, f8, f9, f10, f11, s11, f13⟩ := hI
        have q8 := f8 (hdep 8 rfl)
        subst q8
        go_simp
        refine hK _ _ ⟨_, _, _, _, _, _, _, _, _, _, _, _, _, b11, rfl, hB, f0, f1, f2, f3, f4, f5, f6, f7, f8, (fun _ => rfl), f10, f11, s11, f13⟩
      refine Steps.cons (fun d a wz hI hd hdep K hK => ?_) ?_
      · obtain ⟨u14, u15, u16, u17, u18, u19, u20, u21, u13, u22, u23, u9, u10, b11, rfl, hB, f0, f1, f2, f3, f4, f5, f6, f7, f8, f9, f10, f11, s11, f13⟩ := hI
        have q8 := f8 (hdep 8 rfl)
        subst q8
        go_simp
        refine hK _ _ ⟨_, _, _, _, _, _, _, _, _, _, _, _, _, b11, rfl, hB, f0, f1, f2, f3, f4, f5, f6, f7, f8, f9, (fun _ => rfl), f11, s11, f13⟩
      refine Steps.cons (fun d a wz hI hd hdep K hK => ?_) ?_
      · obtain ⟨u14, u15, u16, u17, u18, u19, u20, u21, u13, u22, u23, u9, u10, b11, rfl, hB, f0, f1, f2, f3, f4, f5, f6, f7, f8, f9, f10, f11, s11, f13⟩ := hI
        have hs : d 12 = false := by
          cases h : d 12 with
          | false => rfl
          | true => have := s11 h; rw [hd] at this; cases this
        have hal := (Below.refl wz.heap.size wz).alloc (Nat.le_refl _) (.cells #[.int .i64 0, .int .i64 0, .int .i64 0, .int .i64 0, .int .i64 0, .int .i64 0, .int .i64 0, .int .i64 0] 42)
        go_simp
        refine hK _ _ ⟨_, _, _, _, _, _, _, _, _, _, _, _, _, wz.heap.size, rfl, (hB.trans (hal.mono hB.size)), f0, f1, f2, f3, f4, f5, f6, f7, f8, f9, f10, (fun _ => ⟨rfl, hB.size, Opt8.new wz 42 hs⟩), (fun _ => rfl), f13⟩
      refine Steps.cons (fun d a wz hI hd hdep K hK => ?_) ?_
      · obtain ⟨u14, u15, u16, u17, u18, u19, u20, u21, u13, u22, u23, u9, u10, b11, rfl, hB, f0, f1, f2, f3, f4, f5, f6, f7, f8, f9, f10, f11, s11, f13⟩ := hI
        have ha := hdep 11 rfl
        obtain ⟨qa, la, sa⟩ := f11 ha
        subst qa
        have qs := f9 (hdep 9 rfl)
        subst qs
        have sb := sa
        obtain ⟨_, _, _, _, _, _, _, _, ⟨z, ⟨_, _, _, _, _, _, _, _⟩, zf⟩, _⟩ := sb
        have zf0 := zf 0 (by omega)
        have zf1 := zf 1 (by omega)
        have zf2 := zf 2 (by omega)
        have zf3 := zf 3 (by omega)
        have zf4 := zf 4 (by omega)
        have zf5 := zf 5 (by omega)
        have zf6 := zf 6 (by omega)
        have zf7 := zf 7 (by omega)
        clear zf
        go_simp
        refine hK _ _ ⟨_, _, _, _, _, _, _, _, _, _, _, _, _, b11, rfl, (((((((((hB.setCell la _).setCell la _).setCell la _).setCell la _).setCell la _).setCell la _).setCell la _).setCell la _)), f0, f1, f2, f3, f4, f5, f6, f7, f8, f9, f10, (fun _ => ⟨rfl, la, sa.store⟩), (fun _ => ha), f13⟩
      refine Steps.cons (fun d a wz hI hd hdep K hK => ?_) ?_
      · obtain ⟨u14, u15, u16, u17, u18, u19, u20, u21, u13, u22, u23, u9, u10, b11, rfl, hB, f0, f1, f2, f3, f4, f5, f6, f7, f8, f9, f10, f11, s11, f13⟩ := hI
        have q10 := f10 (hdep 10 rfl)
        subst q10
        go_simp
        refine hK _ _ ⟨_, _, _, _, _, _, _, _, _, _, _, _, _, b11, rfl, hB, f0, f1, f2, f3, f4, f5, f6, f7, f8, f9, f10, f11, s11, (fun _ => rfl)⟩
      exact Steps.nil
    · intro d a wz hI hall
      obtain ⟨u14, u15, u16, u17, u18, u19, u20, u21, u13, u22, u23, u9, u10, b11, rfl, hB, f0, f1, f2, f3, f4, f5, f6, f7, f8, f9, f10, f11, s11, f13⟩ := hI
      have q0 := f0 (hall 0 (by decide))
      subst q0
      have q1 := f1 (hall 1 (by decide))
      subst q1
      have q2 := f2 (hall 2 (by decide))
      subst q2
      have q3 := f3 (hall 3 (by decide))
      subst q3
      have q4 := f4 (hall 4 (by decide))
      subst q4
      have q5 := f5 (hall 5 (by decide))
      subst q5
      have q6 := f6 (hall 6 (by decide))
      subst q6
      have q7 := f7 (hall 7 (by decide))
      subst q7
      have q8 := f8 (hall 8 (by decide))
      subst q8
      have q9 := f9 (hall 9 (by decide))
      subst q9
      have q10 := f10 (hall 10 (by decide))
      subst q10
      obtain ⟨q11, l11, r11⟩ := f11 (hall 11 (by decide))
      rw [hall 12 (by decide)] at r11
      subst q11
      have q13 := f13 (hall 13 (by decide))
      subst q13
      (try dsimp only)
      go_wp2_with fail
      go_meet
      case rel => exact ⟨b11, rfl, rfl, r11.box, hB, l11⟩
  obtain ⟨bq, rfl, rfl, KQ, hb1, lq⟩ := hcut
  obtain ⟨w1, rfl⟩ : ∃ w1 : World, w1 = wc := ⟨_, rfl⟩
  have HB1 := hb1.out
  have hz1 := HB1.size
  go_wp2_with fail
  go_cut [11, 12] from 13 (fun p c wx => ∃ bq : Nat, p = .pointer (some ⟨bq, 0, none⟩) ∧ c = .int .i64 code ∧ Hid (Box8 wx bq a1 a2 a3 a4 a5 a6 a7 a8) ∧ Hid (Below w1.heap.size w1 wx) ∧ w1.heap.size ≤ bq)
  case first =>
    refine wp_region_inv (fun d a wz => ∃ (u25 u26 u27 u28 u29 u30 u31 u32 u24 u33 u34 u11 u12 : Value) (b11 : Nat), a = ({ tmps := #[(.agg #[.int .i64 aA_X, .int .i64 aA_Y]), (.agg #[.int .i64 aB_X, .int .i64 aB_Y]), (.agg #[.int .i64 aC_X, .int .i64 aC_Y]), (.int .i64 aN), (.pointer (some ⟨w.heap.size, 0, none⟩)), (.pointer (some ⟨w.heap.size + 1, 0, none⟩)), (.pointer (some ⟨w.heap.size + 1 + 1, 0, none⟩)), undef, (.bool false), (.pointer (some ⟨bq, 0, none⟩)), (.int .i64 code), u11, u12, u13, u14, u15, u16, u17, u18, u19, u20, u21, u22, u23, u24, u25, u26, u27, u28, u29, u30, u31, u32, u33, u34, u35, u36, u37, u38, u39, u40, u41, u42, u43], defers := [] } : Act) ∧ Below w1.heap.size w1 wz ∧ (d 0 = true → u25 = (.agg #[.int .i64 aA_X, .int .i64 aA_Y])) ∧ (d 1 = true → u26 = (.agg #[.int .i64 aA_X, .int .i64 aA_Y])) ∧ (d 2 = true → u27 = (.agg #[.int .i64 aB_X, .int .i64 aB_Y])) ∧ (d 3 = true → u28 = (.agg #[.int .i64 aB_X, .int .i64 aB_Y])) ∧ (d 4 = true → u29 = (.agg #[.int .i64 aC_X, .int .i64 aC_Y])) ∧ (d 5 = true → u30 = (.agg #[.int .i64 aC_X, .int .i64 aC_Y])) ∧ (d 6 = true → u31 = (.int .i64 aN)) ∧ (d 7 = true → u32 = (.tuple #[(.agg #[.int .i64 a1, .int .i64 a2, .int .i64 a3, .int .i64 a4, .int .i64 a5, .int .i64 a6, .int .i64 a7, .int .i64 a8]), .int .i64 code])) ∧ (d 8 = true → u24 = (.tuple #[(.agg #[.int .i64 a1, .int .i64 a2, .int .i64 a3, .int .i64 a4, .int .i64 a5, .int .i64 a6, .int .i64 a7, .int .i64 a8]), .int .i64 code])) ∧ (d 9 = true → u33 = (.agg #[.int .i64 a1, .int .i64 a2, .int .i64 a3, .int .i64 a4, .int .i64 a5, .int .i64 a6, .int .i64 a7, .int .i64 a8])) ∧ (d 10 = true → u34 = (.int .i64 code)) ∧ (d 11 = true → u11 = .pointer (some ⟨b11, 0, none⟩) ∧ w1.heap.size ≤ b11 ∧ Opt8 wz b11 (d 12) a1 a2 a3 a4 a5 a6 a7 a8) ∧ (d 12 = true → d 11 = true) ∧ (d 13 = true → u12 = (.int .i64 code))) (by kernel_rfl) (by kernel_rfl) ?_ ?_ ?_
    · exact ⟨_, _, _, _, _, _, _, _, _, _, _, _, _, 0, rfl, (Below.refl _ _).drew, (fun h => by cases h), (fun h => by cases h), (fun h => by cases h), (fun h => by cases h), (fun h => by cases h), (fun h => by cases h), (fun h => by cases h), (fun h => by cases h), (fun h => by cases h), (fun h => by cases h), (fun h => by cases h), (fun h => by cases h), (fun h => by cases h), (fun h => by cases h)⟩
    · refine Steps.cons (fun d a wz hI hd hdep K hK => ?_) ?_
      · obtain ⟨u25, u26, u27, u28, u29, u30, u31, u32, u24, u33, u34, u11, u12, b11, rfl, hB, f0, f1, f2, f3, f4, f5, f6, f7, f8, f9, f10, f11, s11, f13⟩ := hI
        have e0 := ((k1.out.below hb1.out (by omega)).below hB (by omega)).2.1
        have e1 := ((k1.out.below hb1.out (by omega)).below hB (by omega)).2.2
        go_simp
        refine hK _ _ ⟨_, _, _, _, _, _, _, _, _, _, _, _, _, b11, rfl, hB, (fun _ => rfl), f1, f2, f3, f4, f5, f6, f7, f8, f9, f10, f11, s11, f13⟩
      refine Steps.cons (fun d a wz hI hd hdep K hK => ?_) ?_
      · obtain ⟨u25, u26, u27, u28, u29, u30, u31, u32, u24, u33, u34, u11, u12, b11, rfl, hB, f0, f1, f2, f3, f4, f5, f6, f7, f8, f9, f10, f11, s11, f13⟩ := hI
        have q0 := f0 (hdep 0 rfl)
        subst q0
        go_simp
        refine (toSpot _ _ _).mono ?_
        rintro e w1 ⟨rfl, hb⟩
        refine hK _ _ ⟨_, _, _, _, _, _, _, _, _, _, _, _, _, b11, rfl, (hB.trans (hb.mono hB.size)), f0, (fun _ => rfl), f2, f3, f4, f5, f6, f7, f8, f9, f10, (fun h => ⟨(f11 h).1, (f11 h).2.1, (f11 h).2.2.keep hb⟩), s11, f13⟩
      refine Steps.cons (fun d a wz hI hd hdep K hK => ?_) ?_
      · obtain ⟨u25, u26, u27, u28, u29, u30, u31, u32, u24, u33, u34, u11, u12, b11, rfl, hB, f0, f1, f2, f3, f4, f5, f6, f7, f8, f9, f10, f11, s11, f13⟩ := hI
        have e0 := ((k2.out.below hb1.out (by omega)).below hB (by omega)).2.1
        have e1 := ((k2.out.below hb1.out (by omega)).below hB (by omega)).2.2
        go_simp
        refine hK _ _ ⟨_, _, _, _, _, _, _, _, _, _, _, _, _, b11, rfl, hB, f0, f1, (fun _ => rfl), f3, f4, f5, f6, f7, f8, f9, f10, f11, s11, f13⟩
      refine Steps.cons (fun d a wz hI hd hdep K hK => ?_) ?_
      · obtain ⟨u25, u26, u27, u28, u29, u30, u31, u32, u24, u33, u34, u11, u12, b11, rfl, hB, f0, f1, f2, f3, f4, f5, f6, f7, f8, f9, f10, f11, s11, f13⟩ := hI
        have q2 := f2 (hdep 2 rfl)
        subst q2
        go_simp
        refine (toSpot _ _ _).mono ?_
        rintro e w1 ⟨rfl, hb⟩
        refine hK _ _ ⟨_, _, _, _, _, _, _, _, _, _, _, _, _, b11, rfl, (hB.trans (hb.mono hB.size)), f0, f1, f2, (fun _ => rfl), f4, f5, f6, f7, f8, f9, f10, (fun h => ⟨(f11 h).1, (f11 h).2.1, (f11 h).2.2.keep hb⟩), s11, f13⟩
      refine Steps.cons (fun d a wz hI hd hdep K hK => ?_) ?_
      · obtain ⟨u25, u26, u27, u28, u29, u30, u31, u32, u24, u33, u34, u11, u12, b11, rfl, hB, f0, f1, f2, f3, f4, f5, f6, f7, f8, f9, f10, f11, s11, f13⟩ := hI
        have e0 := ((k3.out.below hb1.out (by omega)).below hB (by omega)).2.1
        have e1 := ((k3.out.below hb1.out (by omega)).below hB (by omega)).2.2
        go_simp
        refine hK _ _ ⟨_, _, _, _, _, _, _, _, _, _, _, _, _, b11, rfl, hB, f0, f1, f2, f3, (fun _ => rfl), f5, f6, f7, f8, f9, f10, f11, s11, f13⟩
      refine Steps.cons (fun d a wz hI hd hdep K hK => ?_) ?_
      · obtain ⟨u25, u26, u27, u28, u29, u30, u31, u32, u24, u33, u34, u11, u12, b11, rfl, hB, f0, f1, f2, f3, f4, f5, f6, f7, f8, f9, f10, f11, s11, f13⟩ := hI
        have q4 := f4 (hdep 4 rfl)
        subst q4
        go_simp
        refine (toSpot _ _ _).mono ?_
        rintro e w1 ⟨rfl, hb⟩
        refine hK _ _ ⟨_, _, _, _, _, _, _, _, _, _, _, _, _, b11, rfl, (hB.trans (hb.mono hB.size)), f0, f1, f2, f3, f4, (fun _ => rfl), f6, f7, f8, f9, f10, (fun h => ⟨(f11 h).1, (f11 h).2.1, (f11 h).2.2.keep hb⟩), s11, f13⟩
      refine Steps.cons (fun d a wz hI hd hdep K hK => ?_) ?_
      · obtain ⟨u25, u26, u27, u28, u29, u30, u31, u32, u24, u33, u34, u11, u12, b11, rfl, hB, f0, f1, f2, f3, f4, f5, f6, f7, f8, f9, f10, f11, s11, f13⟩ := hI
        go_simp
        refine hK _ _ ⟨_, _, _, _, _, _, _, _, _, _, _, _, _, b11, rfl, hB, f0, f1, f2, f3, f4, f5, (fun _ => rfl), f7, f8, f9, f10, f11, s11, f13⟩
      refine Steps.cons (fun d a wz hI hd hdep K hK => ?_) ?_
      · obtain ⟨u25, u26, u27, u28, u29, u30, u31, u32, u24, u33, u34, u11, u12, b11, rfl, hB, f0, f1, f2, f3, f4, f5, f6, f7, f8, f9, f10, f11, s11, f13⟩ := hI
        have q1 := f1 (hdep 1 rfl)
        subst q1
        have q3 := f3 (hdep 3 rfl)
        subst q3
        have q5 := f5 (hdep 5 rfl)
        subst q5
        have q6 := f6 (hdep 6 rfl)
        subst q6
        go_simp
        refine (iCornersOf aA_X aA_Y aB_X aB_Y aC_X aC_Y aN _ a1 a2 a3 a4 a5 a6 a7 a8 code HD.out).mono ?_
        rintro e w1 ⟨rfl, hb⟩
        refine hK _ _ ⟨_, _, _, _, _, _, _, _, _, _, _, _, _, b11, rfl, (hB.trans (hb.mono hB.size)), f0, f1, f2, f3, f4, f5, f6, (fun _ => rfl), f8, f9, f10, (fun h => ⟨(f11 h).1, (f11 h).2.1, (f11 h).2.2.keep hb⟩), s11, f13⟩
      refine Steps.cons (fun d a wz hI hd hdep K hK => ?_) ?_
      · obtain ⟨u25, u26, u27, u28, u29, u30, u31, u32, u24, u33, u34, u11, u12, b11, rfl, hB, f0, f1, f2, f3, f4, f5, f6, f7, f8, f9, f10, f11, s11, f13⟩ := hI
        have q7 := f7 (hdep 7 rfl)
        subst q7
        go_simp
        refine hK _ _ ⟨_, _, _, _, _, _, _, _, _, _, _, _, _, b11, rfl, hB, f0, f1, f2, f3, f4, f5, f6, f7, (fun _ => rfl), f9, f10, f11, s11, f13⟩
      refine Steps.cons (fun d a wz hI hd hdep K hK => ?_) ?_
      · obtain ⟨u25, u26, u27, u28, u29, u30, u31, u32, u24, u33, u34, u11, u12, b11, rfl, hB, f0, f1, f2, f3, f4, f5, f6, f7, f8, f9, f10, f11, s11, f13⟩ := hI
        have q8 := f8 (hdep 8 rfl)
        subst q8
        go_simp
        refine hK _ _ ⟨_, _, _, _, _, _, _, _, _, _, _, _, _, b11, rfl, hB, f0, f1, f2, f3, f4, f5, f6, f7, f8, (fun _ => rfl), f10, f11, s11, f13⟩
      refine Steps.cons (fun d a wz hI hd hdep K hK => ?_) ?_
      · obtain ⟨u25, u26, u27, u28, u29, u30, u31, u32, u24, u33, u34, u11, u12, b11, rfl, hB, f0, f1, f2, f3, f4, f5, f6, f7, f8, f9, f10, f11, s11, f13⟩ := hI
        have q8 := f8 (hdep 8 rfl)
        subst q8
        go_simp
        refine hK _ _ ⟨_, _, _, _, _, _, _, _, _, _, _, _, _, b11, rfl, hB, f0, f1, f2, f3, f4, f5, f6, f7, f8, f9, (fun _ => rfl), f11, s11, f13⟩
      refine Steps.cons (fun d a wz hI hd hdep K hK => ?_) ?_
      · obtain ⟨u25, u26, u27, u28, u29, u30, u31, u32, u24, u33, u34, u11, u12, b11, rfl, hB, f0, f1, f2, f3, f4, f5, f6, f7, f8, f9, f10, f11, s11, f13⟩ := hI
        have hs : d 12 = false := by
          cases h : d 12 with
          | false => rfl
          | true => have := s11 h; rw [hd] at this; cases this
        have hal := (Below.refl wz.heap.size wz).alloc (Nat.le_refl _) (.cells #[.int .i64 0, .int .i64 0, .int .i64 0, .int .i64 0, .int .i64 0, .int .i64 0, .int .i64 0, .int .i64 0] 42)
        go_simp
        refine hK _ _ ⟨_, _, _, _, _, _, _, _, _, _, _, _, _, wz.heap.size, rfl, (hB.trans (hal.mono hB.size)), f0, f1, f2, f3, f4, f5, f6, f7, f8, f9, f10, (fun _ => ⟨rfl, hB.size, Opt8.new wz 42 hs⟩), (fun _ => rfl), f13⟩
      refine Steps.cons (fun d a wz hI hd hdep K hK => ?_) ?_
      · obtain ⟨u25, u26, u27, u28, u29, u30, u31, u32, u24, u33, u34, u11, u12, b11, rfl, hB, f0, f1, f2, f3, f4, f5, f6, f7, f8, f9, f10, f11, s11, f13⟩ := hI
        have ha := hdep 11 rfl
        obtain ⟨qa, la, sa⟩ := f11 ha
        subst qa
        have qs := f9 (hdep 9 rfl)
        subst qs
        have sb := sa
        obtain ⟨_, _, _, _, _, _, _, _, ⟨z, ⟨_, _, _, _, _, _, _, _⟩, zf⟩, _⟩ := sb
        have zf0 := zf 0 (by omega)
        have zf1 := zf 1 (by omega)
        have zf2 := zf 2 (by omega)
        have zf3 := zf 3 (by omega)
        have zf4 := zf 4 (by omega)
        have zf5 := zf 5 (by omega)
        have zf6 := zf 6 (by omega)
        have zf7 := zf 7 (by omega)
        clear zf
        go_simp
        refine hK _ _ ⟨_, _, _, _, _, _, _, _, _, _, _, _, _, b11, rfl, (((((((((hB.setCell la _).setCell la _).setCell la _).setCell la _).setCell la _).setCell la _).setCell la _).setCell la _)), f0, f1, f2, f3, f4, f5, f6, f7, f8, f9, f10, (fun _ => ⟨rfl, la, sa.store⟩), (fun _ => ha), f13⟩
      refine Steps.cons (fun d a wz hI hd hdep K hK => ?_) ?_
      · obtain ⟨u25, u26, u27, u28, u29, u30, u31, u32, u24, u33, u34, u11, u12, b11, rfl, hB, f0, f1, f2, f3, f4, f5, f6, f7, f8, f9, f10, f11, s11, f13⟩ := hI
        have q10 := f10 (hdep 10 rfl)
        subst q10
        go_simp
        refine hK _ _ ⟨_, _, _, _, _, _, _, _, _, _, _, _, _, b11, rfl, hB, f0, f1, f2, f3, f4, f5, f6, f7, f8, f9, f10, f11, s11, (fun _ => rfl)⟩
      exact Steps.nil
    · intro d a wz hI hall
      obtain ⟨u25, u26, u27, u28, u29, u30, u31, u32, u24, u33, u34, u11, u12, b11, rfl, hB, f0, f1, f2, f3, f4, f5, f6, f7, f8, f9, f10, f11, s11, f13⟩ := hI
      have q0 := f0 (hall 0 (by decide))
      subst q0
      have q1 := f1 (hall 1 (by decide))
      subst q1
      have q2 := f2 (hall 2 (by decide))
      subst q2
      have q3 := f3 (hall 3 (by decide))
      subst q3
      have q4 := f4 (hall 4 (by decide))
      subst q4
      have q5 := f5 (hall 5 (by decide))
      subst q5
      have q6 := f6 (hall 6 (by decide))
      subst q6
      have q7 := f7 (hall 7 (by decide))
      subst q7
      have q8 := f8 (hall 8 (by decide))
      subst q8
      have q9 := f9 (hall 9 (by decide))
      subst q9
      have q10 := f10 (hall 10 (by decide))
      subst q10
      obtain ⟨q11, l11, r11⟩ := f11 (hall 11 (by decide))
      rw [hall 12 (by decide)] at r11
      subst q11
      have q13 := f13 (hall 13 (by decide))
      subst q13
      (try dsimp only)
      go_wp2_with fail
      go_meet
      case rel => exact ⟨b11, rfl, rfl, r11.box, hB, l11⟩
  obtain ⟨bp, rfl, rfl, KP, hb2, lp⟩ := hcut
  obtain ⟨w2, rfl⟩ : ∃ w2 : World, w2 = wc := ⟨_, rfl⟩
  have KQ2 := Lib.hid (KQ.out.keep hb2.out)
  have HBF : Hid (Below w.heap.size w w2) := HB0.out.trans ((hb1.out.trans (hb2.out.mono hz1)).mono HB0.out.size)
  clear HB0 hb1 hb2 KQ k1 k2 k3
  go_wp2_with (first | ((with_reducible refine ld_quad ?_ (.tmp 11) ?_ bp ?_ [.int .i64 a1, .int .i64 a2, .int .i64 a3, .int .i64 a4, .int .i64 a5, .int .i64 a6, .int .i64 a7, .int .i64 a8] ?_ ?_ ?_); exact rfl; exact rfl; exact rfl; exact rfl; exact Box8.range KP.out) | ((with_reducible refine ld_quad ?_ (.tmp 9) ?_ bq ?_ [.int .i64 a1, .int .i64 a2, .int .i64 a3, .int .i64 a4, .int .i64 a5, .int .i64 a6, .int .i64 a7, .int .i64 a8] ?_ ?_ ?_); exact rfl; exact rfl; exact rfl; exact rfl; exact Box8.range KQ2.out))
  refine (eqQuadT a1 a2 a3 a4 a5 a6 a7 a8 _).mono ?_
  rintro e w3 ⟨rfl, hb3⟩
  have HBZ : Below w.heap.size w w3 := HBF.out.trans (hb3.mono HBF.out.size)
  go_wp2
  go_returns
  exact ⟨rfl, HBZ⟩
end Go.Proofs.Ytdbecdgiafjkfaa
