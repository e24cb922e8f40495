/-
  DERIVED. The walk of FnExactOrderSpots.
-/
import Derived.Test.YtdbecdgiafjkfaaOrd4
import Derived.Test.YtdbecdgiafjkfaaQEq
import Derived.Deep.Cut
namespace Go.Proofs.Ytdbecdgiafjkfaa
open Go.RowKit
set_option linter.unusedVariables false
theorem eqSpotB (x y : Int) (w : World) : Calls Try.prog 22 #[.agg #[.int .i64 x, .int .i64 y], .agg #[.int .i64 x, .int .i64 y]] w fun e w' => e = .returned (.bool true) ∧ Below w.heap.size w w' :=
  (eqSpotX x y w).mono fun e w' h => ⟨h.1, by rw [← h.2]; repeat' (first | (with_reducible exact Below.refl _ _) | (with_reducible assumption) | (with_reducible refine Below.alloc ?_ ?_ _) | (with_reducible refine Below.setCell ?_ ?_ _) | (with_reducible refine Below.drew ?_) | (with_reducible refine below_drewN ?_ _) | (with_reducible refine below_via (by with_reducible assumption) ?_ ?_) | go_size)⟩
set_option maxRecDepth 20000 in
set_option maxHeartbeats 8000000 in
theorem walk_FnExactOrderSpots (aP_X : Int) (aP_Y : Int) (aQ_X : Int) (aQ_Y : Int) (aR_X : Int) (aR_Y : Int) (w : World) (f_aP_X : (Lit.int .i64 aP_X).wf = true) (f_aP_Y : (Lit.int .i64 aP_Y).wf = true) (f_aQ_X : (Lit.int .i64 aQ_X).wf = true) (f_aQ_Y : (Lit.int .i64 aQ_Y).wf = true) (f_aR_X : (Lit.int .i64 aR_X).wf = true) (f_aR_Y : (Lit.int .i64 aR_Y).wf = true) :
    Calls Try.prog 4 #[.agg #[.int .i64 aP_X, .int .i64 aP_Y], .agg #[.int .i64 aQ_X, .int .i64 aQ_Y], .agg #[.int .i64 aR_X, .int .i64 aR_Y]] w fun e w' => e = .returned (.bool true) ∧ Below w.heap.size w w' := by
  clear f_aP_X f_aP_Y f_aQ_X f_aQ_Y f_aR_X f_aR_Y
  obtain ⟨a1, a2, a3, a4, a5, a6, code, hd⟩ : ∃ a1 a2 a3 a4 a5 a6 code, ordOut aP_X aP_Y aQ_X aQ_Y aR_X aR_Y = (a1, a2, a3, a4, a5, a6, code) := ⟨_, _, _, _, _, _, _, rfl⟩
  have HD := Lib.hid hd
  clear hd
  go_enter Try.func4, Try.ntmps4
  go_wp2_with fail
  obtain ⟨W, hW⟩ : ∃ W : World, W = ((w.alloc (.cells #[.int .i64 aP_X, .int .i64 aP_Y] 34)).alloc (.cells #[.int .i64 aQ_X, .int .i64 aQ_Y] 34)).alloc (.cells #[.int .i64 aR_X, .int .i64 aR_Y] 34) := ⟨_, rfl⟩
  have HB0 : Hid (Below w.heap.size w W) := by rw [hW]; unfold Hid; repeat' (first | (with_reducible exact Below.refl _ _) | (with_reducible assumption) | (with_reducible refine Below.alloc ?_ ?_ _) | (with_reducible refine Below.setCell ?_ ?_ _) | (with_reducible refine Below.drew ?_) | (with_reducible refine below_drewN ?_ _) | (with_reducible refine below_via (by with_reducible assumption) ?_ ?_) | go_size)
  have hz0 : W.heap.size = w.heap.size + 3 := by rw [hW]; simp
  have al := fun (W : World) (o : Obj) => (Below.refl W.heap.size W).alloc (Nat.le_refl _) o
  have k1 : Hid (Box2 W w.heap.size aP_X aP_Y) := by rw [hW]; exact ((Box2.new w 34 _ _).keep (al _ _)).keep (al _ _)
  have k2 : Hid (Box2 W (w.heap.size + 1) aQ_X aQ_Y) := by
    rw [hW]
    have := Box2.new (w.alloc (.cells #[.int .i64 aP_X, .int .i64 aP_Y] 34)) 34 aQ_X aQ_Y
    simp only [World.size_alloc] at this
    exact this.keep (al _ _)
  have k3 : Hid (Box2 W (w.heap.size + 1 + 1) aR_X aR_Y) := by
    rw [hW]
    have := Box2.new ((w.alloc (.cells #[.int .i64 aP_X, .int .i64 aP_Y] 34)).alloc (.cells #[.int .i64 aQ_X, .int .i64 aQ_Y] 34)) 34 aR_X aR_Y
    simp only [World.size_alloc] at this
    exact this
  clear al
  rw [← hW]
  clear hW
  have l1 := k1.out
  have l2 := k2.out
  have l3 := k3.out
  obtain ⟨_, _, _⟩ := l1
  obtain ⟨_, _, _⟩ := l2
  obtain ⟨_, _, _⟩ := l3
  go_wp2_with fail
  go_cut [7, 8, 9, 10] from 15 (fun p q s c wx => ∃ b1 b2 b3 : Nat, p = .pointer (some ⟨b1, 0, none⟩) ∧ q = .pointer (some ⟨b2, 0, none⟩) ∧ s = .pointer (some ⟨b3, 0, none⟩) ∧ c = .int .i64 code ∧ Hid (Box2 wx b1 a1 a2) ∧ Hid (Box2 wx b2 a3 a4) ∧ Hid (Box2 wx b3 a5 a6) ∧ Hid (Below W.heap.size W wx))
  case first =>
    refine wp_region_inv (fun d a wz => ∃ (u16 u17 u18 u19 u20 u21 u22 u15 u23 u24 u25 u26 u7 u8 u9 u10 : Value) (b12 b13 b14 : Nat), a = ({ tmps := #[(.agg #[.int .i64 aP_X, .int .i64 aP_Y]), (.agg #[.int .i64 aQ_X, .int .i64 aQ_Y]), (.agg #[.int .i64 aR_X, .int .i64 aR_Y]), (.pointer (some ⟨w.heap.size, 0, none⟩)), (.pointer (some ⟨w.heap.size + 1, 0, none⟩)), (.pointer (some ⟨w.heap.size + 1 + 1, 0, none⟩)), (.bool false), u7, u8, u9, u10, undef, undef, undef, undef, u15, u16, u17, u18, u19, u20, u21, u22, u23, u24, u25, u26, undef, undef, undef, undef, undef, undef, undef, undef, undef, undef, undef, undef, undef, undef, undef, undef, undef, undef, undef, undef, undef, undef, undef, undef, undef, undef, undef, undef, undef, undef, undef, undef, undef], defers := [] } : Act) ∧ Below W.heap.size W wz ∧ (d 0 = true → u16 = (.agg #[.int .i64 aP_X, .int .i64 aP_Y])) ∧ (d 1 = true → u17 = (.agg #[.int .i64 aP_X, .int .i64 aP_Y])) ∧ (d 2 = true → u18 = (.agg #[.int .i64 aQ_X, .int .i64 aQ_Y])) ∧ (d 3 = true → u19 = (.agg #[.int .i64 aQ_X, .int .i64 aQ_Y])) ∧ (d 4 = true → u20 = (.agg #[.int .i64 aR_X, .int .i64 aR_Y])) ∧ (d 5 = true → u21 = (.agg #[.int .i64 aR_X, .int .i64 aR_Y])) ∧ (d 6 = true → u22 = (.tuple #[(.agg #[.int .i64 a1, .int .i64 a2]), (.agg #[.int .i64 a3, .int .i64 a4]), (.agg #[.int .i64 a5, .int .i64 a6]), .int .i64 code])) ∧ (d 7 = true → u15 = (.tuple #[(.agg #[.int .i64 a1, .int .i64 a2]), (.agg #[.int .i64 a3, .int .i64 a4]), (.agg #[.int .i64 a5, .int .i64 a6]), .int .i64 code])) ∧ (d 8 = true → u23 = (.agg #[.int .i64 a1, .int .i64 a2])) ∧ (d 9 = true → u24 = (.agg #[.int .i64 a3, .int .i64 a4])) ∧ (d 10 = true → u25 = (.agg #[.int .i64 a5, .int .i64 a6])) ∧ (d 11 = true → u26 = (.int .i64 code)) ∧ (d 12 = true → u7 = .pointer (some ⟨b12, 0, none⟩) ∧ W.heap.size ≤ b12 ∧ Spt wz b12 (d 15) a1 a2) ∧ (d 15 = true → d 12 = true) ∧ (d 13 = true → u8 = .pointer (some ⟨b13, 0, none⟩) ∧ W.heap.size ≤ b13 ∧ Spt wz b13 (d 16) a3 a4) ∧ (d 16 = true → d 13 = true) ∧ (d 14 = true → u9 = .pointer (some ⟨b14, 0, none⟩) ∧ W.heap.size ≤ b14 ∧ Spt wz b14 (d 17) a5 a6) ∧ (d 17 = true → d 14 = true) ∧ (d 18 = true → u10 = (.int .i64 code)) ∧ (d 12 = true → d 13 = true → b12 ≠ b13) ∧ (d 12 = true → d 14 = true → b12 ≠ b14) ∧ (d 13 = true → d 14 = true → b13 ≠ b14)) (by kernel_rfl) (by kernel_rfl) ?_ ?_ ?_
    · exact ⟨_, _, _, _, _, _, _, _, _, _, _, _, _, _, _, _, 0, 0, 0, rfl, (Below.refl _ _).drew, (fun h => by cases h), (fun h => by cases h), (fun h => by cases h), (fun h => by cases h), (fun h => by cases h), (fun h => by cases h), (fun h => by cases h), (fun h => by cases h), (fun h => by cases h), (fun h => by cases h), (fun h => by cases h), (fun h => by cases h), (fun h => by cases h), (fun h => by cases h), (fun h => by cases h), (fun h => by cases h), (fun h => by cases h), (fun h => by cases h), (fun h => by cases h), (fun h => by cases h), (fun h => by cases h), (fun h => by cases h)⟩
    · refine Steps.cons (fun d a wz hI hd hdep K hK => ?_) ?_
      · obtain ⟨u16, u17, u18, u19, u20, u21, u22, u15, u23, u24, u25, u26, u7, u8, u9, u10, b12, b13, b14, rfl, hB, f0, f1, f2, f3, f4, f5, f6, f7, f8, f9, f10, f11, f12, s12, f13, s13, f14, s14, f18, g12_13, g12_14, g13_14⟩ := hI
        have e0 := (k1.out.below hB (by omega)).2.1
        have e1 := (k1.out.below hB (by omega)).2.2
        go_simp
        refine hK _ _ ⟨_, _, _, _, _, _, _, _, _, _, _, _, _, _, _, _, b12, b13, b14, rfl, hB, (fun _ => rfl), f1, f2, f3, f4, f5, f6, f7, f8, f9, f10, f11, f12, s12, f13, s13, f14, s14, f18, g12_13, g12_14, g13_14⟩
      refine Steps.cons (fun d a wz hI hd hdep K hK => ?_) ?_
      · obtain ⟨u16, u17, u18, u19, u20, u21, u22, u15, u23, u24, u25, u26, u7, u8, u9, u10, b12, b13, b14, rfl, hB, f0, f1, f2, f3, f4, f5, f6, f7, f8, f9, f10, f11, f12, s12, f13, s13, f14, s14, f18, g12_13, g12_14, g13_14⟩ := hI
        have q0 := f0 (hdep 0 rfl)
        subst q0
        go_simp
        refine (toSpot _ _ _).mono ?_
        rintro e w1 ⟨rfl, hb⟩
        refine hK _ _ ⟨_, _, _, _, _, _, _, _, _, _, _, _, _, _, _, _, b12, b13, b14, rfl, (hB.trans (hb.mono hB.size)), f0, (fun _ => rfl), f2, f3, f4, f5, f6, f7, f8, f9, f10, f11, (fun h => ⟨(f12 h).1, (f12 h).2.1, (f12 h).2.2.keep hb⟩), s12, (fun h => ⟨(f13 h).1, (f13 h).2.1, (f13 h).2.2.keep hb⟩), s13, (fun h => ⟨(f14 h).1, (f14 h).2.1, (f14 h).2.2.keep hb⟩), s14, f18, g12_13, g12_14, g13_14⟩
      refine Steps.cons (fun d a wz hI hd hdep K hK => ?_) ?_
      · obtain ⟨u16, u17, u18, u19, u20, u21, u22, u15, u23, u24, u25, u26, u7, u8, u9, u10, b12, b13, b14, rfl, hB, f0, f1, f2, f3, f4, f5, f6, f7, f8, f9, f10, f11, f12, s12, f13, s13, f14, s14, f18, g12_13, g12_14, g13_14⟩ := hI
        have e0 := (k2.out.below hB (by omega)).2.1
        have e1 := (k2.out.below hB (by omega)).2.2
        go_simp
        refine hK _ _ ⟨_, _, _, _, _, _, _, _, _, _, _, _, _, _, _, _, b12, b13, b14, rfl, hB, f0, f1, (fun _ => rfl), f3, f4, f5, f6, f7, f8, f9, f10, f11, f12, s12, f13, s13, f14, s14, f18, g12_13, g12_14, g13_14⟩
      refine Steps.cons (fun d a wz hI hd hdep K hK => ?_) ?_
      · obtain ⟨u16, u17, u18, u19, u20, u21, u22, u15, u23, u24, u25, u26, u7, u8, u9, u10, b12, b13, b14, rfl, hB, f0, f1, f2, f3, f4, f5, f6, f7, f8, f9, f10, f11, f12, s12, f13, s13, f14, s14, f18, g12_13, g12_14, g13_14⟩ := hI
        have q2 := f2 (hdep 2 rfl)
        subst q2
        go_simp
        refine (toSpot _ _ _).mono ?_
        rintro e w1 ⟨rfl, hb⟩
        refine hK _ _ ⟨_, _, _, _, _, _, _, _, _, _, _, _, _, _, _, _, b12, b13, b14, rfl, (hB.trans (hb.mono hB.size)), f0, f1, f2, (fun _ => rfl), f4, f5, f6, f7, f8, f9, f10, f11, (fun h => ⟨(f12 h).1, (f12 h).2.1, (f12 h).2.2.keep hb⟩), s12, (fun h => ⟨(f13 h).1, (f13 h).2.1, (f13 h).2.2.keep hb⟩), s13, (fun h => ⟨(f14 h).1, (f14 h).2.1, (f14 h).2.2.keep hb⟩), s14, f18, g12_13, g12_14, g13_14⟩
      refine Steps.cons (fun d a wz hI hd hdep K hK => ?_) ?_
      · obtain ⟨u16, u17, u18, u19, u20, u21, u22, u15, u23, u24, u25, u26, u7, u8, u9, u10, b12, b13, b14, rfl, hB, f0, f1, f2, f3, f4, f5, f6, f7, f8, f9, f10, f11, f12, s12, f13, s13, f14, s14, f18, g12_13, g12_14, g13_14⟩ := hI
        have e0 := (k3.out.below hB (by omega)).2.1
        have e1 := (k3.out.below hB (by omega)).2.2
        go_simp
        refine hK _ _ ⟨_, _, _, _, _, _, _, _, _, _, _, _, _, _, _, _, b12, b13, b14, rfl, hB, f0, f1, f2, f3, (fun _ => rfl), f5, f6, f7, f8, f9, f10, f11, f12, s12, f13, s13, f14, s14, f18, g12_13, g12_14, g13_14⟩
      refine Steps.cons (fun d a wz hI hd hdep K hK => ?_) ?_
      · obtain ⟨u16, u17, u18, u19, u20, u21, u22, u15, u23, u24, u25, u26, u7, u8, u9, u10, b12, b13, b14, rfl, hB, f0, f1, f2, f3, f4, f5, f6, f7, f8, f9, f10, f11, f12, s12, f13, s13, f14, s14, f18, g12_13, g12_14, g13_14⟩ := hI
        have q4 := f4 (hdep 4 rfl)
        subst q4
        go_simp
        refine (toSpot _ _ _).mono ?_
        rintro e w1 ⟨rfl, hb⟩
        refine hK _ _ ⟨_, _, _, _, _, _, _, _, _, _, _, _, _, _, _, _, b12, b13, b14, rfl, (hB.trans (hb.mono hB.size)), f0, f1, f2, f3, f4, (fun _ => rfl), f6, f7, f8, f9, f10, f11, (fun h => ⟨(f12 h).1, (f12 h).2.1, (f12 h).2.2.keep hb⟩), s12, (fun h => ⟨(f13 h).1, (f13 h).2.1, (f13 h).2.2.keep hb⟩), s13, (fun h => ⟨(f14 h).1, (f14 h).2.1, (f14 h).2.2.keep hb⟩), s14, f18, g12_13, g12_14, g13_14⟩
      refine Steps.cons (fun d a wz hI hd hdep K hK => ?_) ?_
      · obtain ⟨u16, u17, u18, u19, u20, u21, u22, u15, u23, u24, u25, u26, u7, u8, u9, u10, b12, b13, b14, rfl, hB, f0, f1, f2, f3, f4, f5, f6, f7, f8, f9, f10, f11, f12, s12, f13, s13, f14, s14, f18, g12_13, g12_14, g13_14⟩ := hI
        have q1 := f1 (hdep 1 rfl)
        subst q1
        have q3 := f3 (hdep 3 rfl)
        subst q3
        have q5 := f5 (hdep 5 rfl)
        subst q5
        go_simp
        refine (sOrderSpots aP_X aP_Y aQ_X aQ_Y aR_X aR_Y _ a1 a2 a3 a4 a5 a6 code HD.out).mono ?_
        rintro e w1 ⟨rfl, hb⟩
        refine hK _ _ ⟨_, _, _, _, _, _, _, _, _, _, _, _, _, _, _, _, b12, b13, b14, rfl, (hB.trans (hb.mono hB.size)), f0, f1, f2, f3, f4, f5, (fun _ => rfl), f7, f8, f9, f10, f11, (fun h => ⟨(f12 h).1, (f12 h).2.1, (f12 h).2.2.keep hb⟩), s12, (fun h => ⟨(f13 h).1, (f13 h).2.1, (f13 h).2.2.keep hb⟩), s13, (fun h => ⟨(f14 h).1, (f14 h).2.1, (f14 h).2.2.keep hb⟩), s14, f18, g12_13, g12_14, g13_14⟩
      refine Steps.cons (fun d a wz hI hd hdep K hK => ?_) ?_
      · obtain ⟨u16, u17, u18, u19, u20, u21, u22, u15, u23, u24, u25, u26, u7, u8, u9, u10, b12, b13, b14, rfl, hB, f0, f1, f2, f3, f4, f5, f6, f7, f8, f9, f10, f11, f12, s12, f13, s13, f14, s14, f18, g12_13, g12_14, g13_14⟩ := hI
        have q6 := f6 (hdep 6 rfl)
        subst q6
        go_simp
        refine hK _ _ ⟨_, _, _, _, _, _, _, _, _, _, _, _, _, _, _, _, b12, b13, b14, rfl, hB, f0, f1, f2, f3, f4, f5, f6, (fun _ => rfl), f8, f9, f10, f11, f12, s12, f13, s13, f14, s14, f18, g12_13, g12_14, g13_14⟩
      refine Steps.cons (fun d a wz hI hd hdep K hK => ?_) ?_
      · obtain ⟨u16, u17, u18, u19, u20, u21, u22, u15, u23, u24, u25, u26, u7, u8, u9, u10, b12, b13, b14, rfl, hB, f0, f1, f2, f3, f4, f5, f6, f7, f8, f9, f10, f11, f12, s12, f13, s13, f14, s14, f18, g12_13, g12_14, g13_14⟩ := hI
        have q7 := f7 (hdep 7 rfl)
        subst q7
        go_simp
        refine hK _ _ ⟨_, _, _, _, _, _, _, _, _, _, _, _, _, _, _, _, b12, b13, b14, rfl, hB, f0, f1, f2, f3, f4, f5, f6, f7, (fun _ => rfl), f9, f10, f11, f12, s12, f13, s13, f14, s14, f18, g12_13, g12_14, g13_14⟩
      refine Steps.cons (fun d a wz hI hd hdep K hK => ?_) ?_
      · obtain ⟨u16, u17, u18, u19, u20, u21, u22, u15, u23, u24, u25, u26, u7, u8, u9, u10, b12, b13, b14, rfl, hB, f0, f1, f2, f3, f4, f5, f6, f7, f8, f9, f10, f11, f12, s12, f13, s13, f14, s14, f18, g12_13, g12_14, g13_14⟩ := hI
        have q7 := f7 (hdep 7 rfl)
        subst q7
        go_simp
        refine hK _ _ ⟨_, _, _, _, _, _, _, _, _, _, _, _, _, _, _, _, b12, b13, b14, rfl, hB, f0, f1, f2, f3, f4, f5, f6, f7, f8, (fun _ => rfl), f10, f11, f12, s12, f13, s13, f14, s14, f18, g12_13, g12_14, g13_14⟩
      refine Steps.cons (fun d a wz hI hd hdep K hK => ?_) ?_
      · obtain ⟨u16, u17, u18, u19, u20, u21, u22, u15, u23, u24, u25, u26, u7, u8, u9, u10, b12, b13, b14, rfl, hB, f0, f1, f2, f3, f4, f5, f6, f7, f8, f9, f10, f11, f12, s12, f13, s13, f14, s14, f18, g12_13, g12_14, g13_14⟩ := hI
        have q7 := f7 (hdep 7 rfl)
        subst q7
        go_simp
        refine hK _ _ ⟨_, _, _, _, _, _, _, _, _, _, _, _, _, _, _, _, b12, b13, b14, rfl, hB, f0, f1, f2, f3, f4, f5, f6, f7, f8, f9, (fun _ => rfl), f11, f12, s12, f13, s13, f14, s14, f18, g12_13, g12_14, g13_14⟩
      refine Steps.cons (fun d a wz hI hd hdep K hK => ?_) ?_
      · obtain ⟨u16, u17, u18, u19, u20, u21, u22, u15, u23, u24, u25, u26, u7, u8, u9, u10, b12, b13, b14, rfl, hB, f0, f1, f2, f3, f4, f5, f6, f7, f8, f9, f10, f11, f12, s12, f13, s13, f14, s14, f18, g12_13, g12_14, g13_14⟩ := hI
        have q7 := f7 (hdep 7 rfl)
        subst q7
        go_simp
        refine hK _ _ ⟨_, _, _, _, _, _, _, _, _, _, _, _, _, _, _, _, b12, b13, b14, rfl, hB, f0, f1, f2, f3, f4, f5, f6, f7, f8, f9, f10, (fun _ => rfl), f12, s12, f13, s13, f14, s14, f18, g12_13, g12_14, g13_14⟩
      refine Steps.cons (fun d a wz hI hd hdep K hK => ?_) ?_
      · obtain ⟨u16, u17, u18, u19, u20, u21, u22, u15, u23, u24, u25, u26, u7, u8, u9, u10, b12, b13, b14, rfl, hB, f0, f1, f2, f3, f4, f5, f6, f7, f8, f9, f10, f11, f12, s12, f13, s13, f14, s14, f18, g12_13, g12_14, g13_14⟩ := hI
        have hs : d 15 = false := by
          cases h : d 15 with
          | false => rfl
          | true => have := s12 h; rw [hd] at this; cases this
        have hal := (Below.refl wz.heap.size wz).alloc (Nat.le_refl _) (.cells #[.int .i64 0, .int .i64 0] 35)
        go_simp
        refine hK _ _ ⟨_, _, _, _, _, _, _, _, _, _, _, _, _, _, _, _, wz.heap.size, b13, b14, rfl, (hB.trans (hal.mono hB.size)), f0, f1, f2, f3, f4, f5, f6, f7, f8, f9, f10, f11, (fun _ => ⟨rfl, hB.size, Spt.new wz 35 0 0 _ _ _ hs⟩), (fun _ => rfl), (fun h => ⟨(f13 h).1, (f13 h).2.1, (f13 h).2.2.keep hal⟩), s13, (fun h => ⟨(f14 h).1, (f14 h).2.1, (f14 h).2.2.keep hal⟩), s14, f18, (fun _ h => Ne.symm (Nat.ne_of_lt (f13 h).2.2.1)), (fun _ h => Ne.symm (Nat.ne_of_lt (f14 h).2.2.1)), g13_14⟩
      refine Steps.cons (fun d a wz hI hd hdep K hK => ?_) ?_
      · obtain ⟨u16, u17, u18, u19, u20, u21, u22, u15, u23, u24, u25, u26, u7, u8, u9, u10, b12, b13, b14, rfl, hB, f0, f1, f2, f3, f4, f5, f6, f7, f8, f9, f10, f11, f12, s12, f13, s13, f14, s14, f18, g12_13, g12_14, g13_14⟩ := hI
        have hs : d 16 = false := by
          cases h : d 16 with
          | false => rfl
          | true => have := s13 h; rw [hd] at this; cases this
        have hal := (Below.refl wz.heap.size wz).alloc (Nat.le_refl _) (.cells #[.int .i64 0, .int .i64 0] 35)
        go_simp
        refine hK _ _ ⟨_, _, _, _, _, _, _, _, _, _, _, _, _, _, _, _, b12, wz.heap.size, b14, rfl, (hB.trans (hal.mono hB.size)), f0, f1, f2, f3, f4, f5, f6, f7, f8, f9, f10, f11, (fun h => ⟨(f12 h).1, (f12 h).2.1, (f12 h).2.2.keep hal⟩), s12, (fun _ => ⟨rfl, hB.size, Spt.new wz 35 0 0 _ _ _ hs⟩), (fun _ => rfl), (fun h => ⟨(f14 h).1, (f14 h).2.1, (f14 h).2.2.keep hal⟩), s14, f18, (fun h _ => Nat.ne_of_lt (f12 h).2.2.1), g12_14, (fun _ h => Ne.symm (Nat.ne_of_lt (f14 h).2.2.1))⟩
      refine Steps.cons (fun d a wz hI hd hdep K hK => ?_) ?_
      · obtain ⟨u16, u17, u18, u19, u20, u21, u22, u15, u23, u24, u25, u26, u7, u8, u9, u10, b12, b13, b14, rfl, hB, f0, f1, f2, f3, f4, f5, f6, f7, f8, f9, f10, f11, f12, s12, f13, s13, f14, s14, f18, g12_13, g12_14, g13_14⟩ := hI
        have hs : d 17 = false := by
          cases h : d 17 with
          | false => rfl
          | true => have := s14 h; rw [hd] at this; cases this
        have hal := (Below.refl wz.heap.size wz).alloc (Nat.le_refl _) (.cells #[.int .i64 0, .int .i64 0] 35)
        go_simp
        refine hK _ _ ⟨_, _, _, _, _, _, _, _, _, _, _, _, _, _, _, _, b12, b13, wz.heap.size, rfl, (hB.trans (hal.mono hB.size)), f0, f1, f2, f3, f4, f5, f6, f7, f8, f9, f10, f11, (fun h => ⟨(f12 h).1, (f12 h).2.1, (f12 h).2.2.keep hal⟩), s12, (fun h => ⟨(f13 h).1, (f13 h).2.1, (f13 h).2.2.keep hal⟩), s13, (fun _ => ⟨rfl, hB.size, Spt.new wz 35 0 0 _ _ _ hs⟩), (fun _ => rfl), f18, g12_13, (fun h _ => Nat.ne_of_lt (f12 h).2.2.1), (fun h _ => Nat.ne_of_lt (f13 h).2.2.1)⟩
      refine Steps.cons (fun d a wz hI hd hdep K hK => ?_) ?_
      · obtain ⟨u16, u17, u18, u19, u20, u21, u22, u15, u23, u24, u25, u26, u7, u8, u9, u10, b12, b13, b14, rfl, hB, f0, f1, f2, f3, f4, f5, f6, f7, f8, f9, f10, f11, f12, s12, f13, s13, f14, s14, f18, g12_13, g12_14, g13_14⟩ := hI
        have ha := hdep 12 rfl
        obtain ⟨qa, la, sa⟩ := f12 ha
        subst qa
        have qs := f8 (hdep 8 rfl)
        subst qs
        have sb := sa
        obtain ⟨z0, z1, z2, c0, c1, z3, z4, _⟩ := sb
        go_simp
        refine hK _ _ ⟨_, _, _, _, _, _, _, _, _, _, _, _, _, _, _, _, b12, b13, b14, rfl, (((hB.setCell la _).setCell la _)), f0, f1, f2, f3, f4, f5, f6, f7, f8, f9, f10, f11, (fun _ => ⟨rfl, la, sa.store⟩), (fun _ => ha), (fun h => ⟨(f13 h).1, (f13 h).2.1, (((f13 h).2.2.far (Ne.symm (g12_13 ha h))).far (Ne.symm (g12_13 ha h)))⟩), s13, (fun h => ⟨(f14 h).1, (f14 h).2.1, (((f14 h).2.2.far (Ne.symm (g12_14 ha h))).far (Ne.symm (g12_14 ha h)))⟩), s14, f18, g12_13, g12_14, g13_14⟩
      refine Steps.cons (fun d a wz hI hd hdep K hK => ?_) ?_
      · obtain ⟨u16, u17, u18, u19, u20, u21, u22, u15, u23, u24, u25, u26, u7, u8, u9, u10, b12, b13, b14, rfl, hB, f0, f1, f2, f3, f4, f5, f6, f7, f8, f9, f10, f11, f12, s12, f13, s13, f14, s14, f18, g12_13, g12_14, g13_14⟩ := hI
        have ha := hdep 13 rfl
        obtain ⟨qa, la, sa⟩ := f13 ha
        subst qa
        have qs := f9 (hdep 9 rfl)
        subst qs
        have sb := sa
        obtain ⟨z0, z1, z2, c0, c1, z3, z4, _⟩ := sb
        go_simp
        refine hK _ _ ⟨_, _, _, _, _, _, _, _, _, _, _, _, _, _, _, _, b12, b13, b14, rfl, (((hB.setCell la _).setCell la _)), f0, f1, f2, f3, f4, f5, f6, f7, f8, f9, f10, f11, (fun h => ⟨(f12 h).1, (f12 h).2.1, (((f12 h).2.2.far (g12_13 h ha)).far (g12_13 h ha))⟩), s12, (fun _ => ⟨rfl, la, sa.store⟩), (fun _ => ha), (fun h => ⟨(f14 h).1, (f14 h).2.1, (((f14 h).2.2.far (Ne.symm (g13_14 ha h))).far (Ne.symm (g13_14 ha h)))⟩), s14, f18, g12_13, g12_14, g13_14⟩
      refine Steps.cons (fun d a wz hI hd hdep K hK => ?_) ?_
      · obtain ⟨u16, u17, u18, u19, u20, u21, u22, u15, u23, u24, u25, u26, u7, u8, u9, u10, b12, b13, b14, rfl, hB, f0, f1, f2, f3, f4, f5, f6, f7, f8, f9, f10, f11, f12, s12, f13, s13, f14, s14, f18, g12_13, g12_14, g13_14⟩ := hI
        have ha := hdep 14 rfl
        obtain ⟨qa, la, sa⟩ := f14 ha
        subst qa
        have qs := f10 (hdep 10 rfl)
        subst qs
        have sb := sa
        obtain ⟨z0, z1, z2, c0, c1, z3, z4, _⟩ := sb
        go_simp
        refine hK _ _ ⟨_, _, _, _, _, _, _, _, _, _, _, _, _, _, _, _, b12, b13, b14, rfl, (((hB.setCell la _).setCell la _)), f0, f1, f2, f3, f4, f5, f6, f7, f8, f9, f10, f11, (fun h => ⟨(f12 h).1, (f12 h).2.1, (((f12 h).2.2.far (g12_14 h ha)).far (g12_14 h ha))⟩), s12, (fun h => ⟨(f13 h).1, (f13 h).2.1, (((f13 h).2.2.far (g13_14 h ha)).far (g13_14 h ha))⟩), s13, (fun _ => ⟨rfl, la, sa.store⟩), (fun _ => ha), f18, g12_13, g12_14, g13_14⟩
      refine Steps.cons (fun d a wz hI hd hdep K hK => ?_) ?_
      · obtain ⟨u16, u17, u18, u19, u20, u21, u22, u15, u23, u24, u25, u26, u7, u8, u9, u10, b12, b13, b14, rfl, hB, f0, f1, f2, f3, f4, f5, f6, f7, f8, f9, f10, f11, f12, s12, f13, s13, f14, s14, f18, g12_13, g12_14, g13_14⟩ := hI
        have q11 := f11 (hdep 11 rfl)
        subst q11
        go_simp
        refine hK _ _ ⟨_, _, _, _, _, _, _, _, _, _, _, _, _, _, _, _, b12, b13, b14, rfl, hB, f0, f1, f2, f3, f4, f5, f6, f7, f8, f9, f10, f11, f12, s12, f13, s13, f14, s14, (fun _ => rfl), g12_13, g12_14, g13_14⟩
      exact Steps.nil
    · intro d a wz hI hall
      obtain ⟨u16, u17, u18, u19, u20, u21, u22, u15, u23, u24, u25, u26, u7, u8, u9, u10, b12, b13, b14, rfl, hB, f0, f1, f2, f3, f4, f5, f6, f7, f8, f9, f10, f11, f12, s12, f13, s13, f14, s14, f18, g12_13, g12_14, g13_14⟩ := hI
      have q0 := f0 (hall 0 (by decide))
      subst q0
      have q1 := f1 (hall 1 (by decide))
      subst q1
      have q2 := f2 (hall 2 (by decide))
      subst q2
      have q3 := f3 (hall 3 (by decide))
      subst q3
      have q4 := f4 (hall 4 (by decide))
      subst q4
      have q5 := f5 (hall 5 (by decide))
      subst q5
      have q6 := f6 (hall 6 (by decide))
      subst q6
      have q7 := f7 (hall 7 (by decide))
      subst q7
      have q8 := f8 (hall 8 (by decide))
      subst q8
      have q9 := f9 (hall 9 (by decide))
      subst q9
      have q10 := f10 (hall 10 (by decide))
      subst q10
      have q11 := f11 (hall 11 (by decide))
      subst q11
      obtain ⟨q12, l12, r12⟩ := f12 (hall 12 (by decide))
      rw [hall 15 (by decide)] at r12
      subst q12
      obtain ⟨q13, l13, r13⟩ := f13 (hall 13 (by decide))
      rw [hall 16 (by decide)] at r13
      subst q13
      obtain ⟨q14, l14, r14⟩ := f14 (hall 14 (by decide))
      rw [hall 17 (by decide)] at r14
      subst q14
      have q18 := f18 (hall 18 (by decide))
      subst q18
      have n12_13 := g12_13 (hall 12 (by decide)) (hall 13 (by decide))
      have n12_14 := g12_14 (hall 12 (by decide)) (hall 14 (by decide))
      have n13_14 := g13_14 (hall 13 (by decide)) (hall 14 (by decide))
      (try dsimp only)
      go_wp2_with fail
      go_meet
      case rel => exact ⟨b12, b13, b14, rfl, rfl, rfl, rfl, r12.box, r13.box, r14.box, hB⟩
  obtain ⟨d1, d2, d3, rfl, rfl, rfl, rfl, D1, D2, D3, hb1⟩ := hcut
  obtain ⟨w1, rfl⟩ : ∃ w1 : World, w1 = wc := ⟨_, rfl⟩
  have hz1 := hb1.out.size
  go_wp2_with fail
  go_cut [11, 12, 13, 14] from 15 (fun p q s c wx => ∃ b1 b2 b3 : Nat, p = .pointer (some ⟨b1, 0, none⟩) ∧ q = .pointer (some ⟨b2, 0, none⟩) ∧ s = .pointer (some ⟨b3, 0, none⟩) ∧ c = .int .i64 code ∧ Hid (Box2 wx b1 a1 a2) ∧ Hid (Box2 wx b2 a3 a4) ∧ Hid (Box2 wx b3 a5 a6) ∧ Hid (Below w1.heap.size w1 wx))
  case first =>
    refine wp_region_inv (fun d a wz => ∃ (u28 u29 u30 u31 u32 u33 u34 u27 u35 u36 u37 u38 u11 u12 u13 u14 : Value) (b12 b13 b14 : Nat), a = ({ tmps := #[(.agg #[.int .i64 aP_X, .int .i64 aP_Y]), (.agg #[.int .i64 aQ_X, .int .i64 aQ_Y]), (.agg #[.int .i64 aR_X, .int .i64 aR_Y]), (.pointer (some ⟨w.heap.size, 0, none⟩)), (.pointer (some ⟨w.heap.size + 1, 0, none⟩)), (.pointer (some ⟨w.heap.size + 1 + 1, 0, none⟩)), (.bool false), (.pointer (some ⟨d1, 0, none⟩)), (.pointer (some ⟨d2, 0, none⟩)), (.pointer (some ⟨d3, 0, none⟩)), (.int .i64 code), u11, u12, u13, u14, u15, u16, u17, u18, u19, u20, u21, u22, u23, u24, u25, u26, u27, u28, u29, u30, u31, u32, u33, u34, u35, u36, u37, u38, u39, u40, u41, u42, u43, u44, u45, u46, u47, u48, u49, u50, u51, u52, u53, u54, u55, u56, u57, u58, u59], defers := [] } : Act) ∧ Below w1.heap.size w1 wz ∧ (d 0 = true → u28 = (.agg #[.int .i64 aP_X, .int .i64 aP_Y])) ∧ (d 1 = true → u29 = (.agg #[.int .i64 aP_X, .int .i64 aP_Y])) ∧ (d 2 = true → u30 = (.agg #[.int .i64 aQ_X, .int .i64 aQ_Y])) ∧ (d 3 = true → u31 = (.agg #[.int .i64 aQ_X, .int .i64 aQ_Y])) ∧ (d 4 = true → u32 = (.agg #[.int .i64 aR_X, .int .i64 aR_Y])) ∧ (d 5 = true → u33 = (.agg #[.int .i64 aR_X, .int .i64 aR_Y])) ∧ (d 6 = true → u34 = (.tuple #[(.agg #[.int .i64 a1, .int .i64 a2]), (.agg #[.int .i64 a3, .int .i64 a4]), (.agg #[.int .i64 a5, .int .i64 a6]), .int .i64 code])) ∧ (d 7 = true → u27 = (.tuple #[(.agg #[.int .i64 a1, .int .i64 a2]), (.agg #[.int .i64 a3, .int .i64 a4]), (.agg #[.int .i64 a5, .int .i64 a6]), .int .i64 code])) ∧ (d 8 = true → u35 = (.agg #[.int .i64 a1, .int .i64 a2])) ∧ (d 9 = true → u36 = (.agg #[.int .i64 a3, .int .i64 a4])) ∧ (d 10 = true → u37 = (.agg #[.int .i64 a5, .int .i64 a6])) ∧ (d 11 = true → u38 = (.int .i64 code)) ∧ (d 12 = true → u11 = .pointer (some ⟨b12, 0, none⟩) ∧ w1.heap.size ≤ b12 ∧ Spt wz b12 (d 15) a1 a2) ∧ (d 15 = true → d 12 = true) ∧ (d 13 = true → u12 = .pointer (some ⟨b13, 0, none⟩) ∧ w1.heap.size ≤ b13 ∧ Spt wz b13 (d 16) a3 a4) ∧ (d 16 = true → d 13 = true) ∧ (d 14 = true → u13 = .pointer (some ⟨b14, 0, none⟩) ∧ w1.heap.size ≤ b14 ∧ Spt wz b14 (d 17) a5 a6) ∧ (d 17 = true → d 14 = true) ∧ (d 18 = true → u14 = (.int .i64 code)) ∧ (d 12 = true → d 13 = true → b12 ≠ b13) ∧ (d 12 = true → d 14 = true → b12 ≠ b14) ∧ (d 13 = true → d 14 = true → b13 ≠ b14)) (by kernel_rfl) (by kernel_rfl) ?_ ?_ ?_
    · exact ⟨_, _, _, _, _, _, _, _, _, _, _, _, _, _, _, _, 0, 0, 0, rfl, (Below.refl _ _).drew, (fun h => by cases h), (fun h => by cases h), (fun h => by cases h), (fun h => by cases h), (fun h => by cases h), (fun h => by cases h), (fun h => by cases h), (fun h => by cases h), (fun h => by cases h), (fun h => by cases h), (fun h => by cases h), (fun h => by cases h), (fun h => by cases h), (fun h => by cases h), (fun h => by cases h), (fun h => by cases h), (fun h => by cases h), (fun h => by cases h), (fun h => by cases h), (fun h => by cases h), (fun h => by cases h), (fun h => by cases h)⟩
    · refine Steps.cons (fun d a wz hI hd hdep K hK => ?_) ?_
      · obtain ⟨u28, u29, u30, u31, u32, u33, u34, u27, u35, u36, u37, u38, u11, u12, u13, u14, b12, b13, b14, rfl, hB, f0, f1, f2, f3, f4, f5, f6, f7, f8, f9, f10, f11, f12, s12, f13, s13, f14, s14, f18, g12_13, g12_14, g13_14⟩ := hI
        have e0 := ((k1.out.below hb1.out (by omega)).below hB (by omega)).2.1
        have e1 := ((k1.out.below hb1.out (by omega)).below hB (by omega)).2.2
        go_simp
        refine hK _ _ ⟨_, _, _, _, _, _, _, _, _, _, _, _, _, _, _, _, b12, b13, b14, rfl, hB, (fun _ => rfl), f1, f2, f3, f4, f5, f6, f7, f8, f9, f10, f11, f12, s12, f13, s13, f14, s14, f18, g12_13, g12_14, g13_14⟩
      refine Steps.cons (fun d a wz hI hd hdep K hK => ?_) ?_
      · obtain ⟨u28, u29, u30, u31, u32, u33, u34, u27, u35, u36, u37, u38, u11, u12, u13, u14, b12, b13, b14, rfl, hB, f0, f1, f2, f3, f4, f5, f6, f7, f8, f9, f10, f11, f12, s12, f13, s13, f14, s14, f18, g12_13, g12_14, g13_14⟩ := hI
        have q0 := f0 (hdep 0 rfl)
        subst q0
        go_simp
        refine (toSpot _ _ _).mono ?_
        rintro e w1 ⟨rfl, hb⟩
        refine hK _ _ ⟨_, _, _, _, _, _, _, _, _, _, _, _, _, _, _, _, b12, b13, b14, rfl, (hB.trans (hb.mono hB.size)), f0, (fun _ => rfl), f2, f3, f4, f5, f6, f7, f8, f9, f10, f11, (fun h => ⟨(f12 h).1, (f12 h).2.1, (f12 h).2.2.keep hb⟩), s12, (fun h => ⟨(f13 h).1, (f13 h).2.1, (f13 h).2.2.keep hb⟩), s13, (fun h => ⟨(f14 h).1, (f14 h).2.1, (f14 h).2.2.keep hb⟩), s14, f18, g12_13, g12_14, g13_14⟩
      refine Steps.cons (fun d a wz hI hd hdep K hK => ?_) ?_
      · obtain ⟨u28, u29, u30, u31, u32, u33, u34, u27, u35, u36, u37, u38, u11, u12, u13, u14, b12, b13, b14, rfl, hB, f0, f1, f2, f3, f4, f5, f6, f7, f8, f9, f10, f11, f12, s12, f13, s13, f14, s14, f18, g12_13, g12_14, g13_14⟩ := hI
        have e0 := ((k2.out.below hb1.out (by omega)).below hB (by omega)).2.1
        have e1 := ((k2.out.below hb1.out (by omega)).below hB (by omega)).2.2
        go_simp
        refine hK _ _ ⟨_, _, _, _, _, _, _, _, _, _, _, _, _, _, _, _, b12, b13, b14, rfl, hB, f0, f1, (fun _ => rfl), f3, f4, f5, f6, f7, f8, f9, f10, f11, f12, s12, f13, s13, f14, s14, f18, g12_13, g12_14, g13_14⟩
      refine Steps.cons (fun d a wz hI hd hdep K hK => ?_) ?_
      · obtain ⟨u28, u29, u30, u31, u32, u33, u34, u27, u35, u36, u37, u38, u11, u12, u13, u14, b12, b13, b14, rfl, hB, f0, f1, f2, f3, f4, f5, f6, f7, f8, f9, f10, f11, f12, s12, f13, s13, f14, s14, f18, g12_13, g12_14, g13_14⟩ := hI
        have q2 := f2 (hdep 2 rfl)
        subst q2
        go_simp
        refine (toSpot _ _ _).mono ?_
        rintro e w1 ⟨rfl, hb⟩
        refine hK _ _ ⟨_, _, _, _, _, _, _, _, _, _, _, _, _, _, _, _, b12, b13, b14, rfl, (hB.trans (hb.mono hB.size)), f0, f1, f2, (fun _ => rfl), f4, f5, f6, f7, f8, f9, f10, f11, (fun h => ⟨(f12 h).1, (f12 h).2.1, (f12 h).2.2.keep hb⟩), s12, (fun h => ⟨(f13 h).1, (f13 h).2.1, (f13 h).2.2.keep hb⟩), s13, (fun h => ⟨(f14 h).1, (f14 h).2.1, (f14 h).2.2.keep hb⟩), s14, f18, g12_13, g12_14, g13_14⟩
      refine Steps.cons (fun d a wz hI hd hdep K hK => ?_) ?_
      · obtain ⟨u28, u29, u30, u31, u32, u33, u34, u27, u35, u36, u37, u38, u11, u12, u13, u14, b12, b13, b14, rfl, hB, f0, f1, f2, f3, f4, f5, f6, f7, f8, f9, f10, f11, f12, s12, f13, s13, f14, s14, f18, g12_13, g12_14, g13_14⟩ := hI
        have e0 := ((k3.out.below hb1.out (by omega)).below hB (by omega)).2.1
        have e1 := ((k3.out.below hb1.out (by omega)).below hB (by omega)).2.2
        go_simp
        refine hK _ _ ⟨_, _, _, _, _, _, _, _, _, _, _, _, _, _, _, _, b12, b13, b14, rfl, hB, f0, f1, f2, f3, (fun _ => rfl), f5, f6, f7, f8, f9, f10, f11, f12, s12, f13, s13, f14, s14, f18, g12_13, g12_14, g13_14⟩
      refine Steps.cons (fun d a wz hI hd hdep K hK => ?_) ?_
      · obtain ⟨u28, u29, u30, u31, u32, u33, u34, u27, u35, u36, u37, u38, u11, u12, u13, u14, b12, b13, b14, rfl, hB, f0, f1, f2, f3, f4, f5, f6, f7, f8, f9, f10, f11, f12, s12, f13, s13, f14, s14, f18, g12_13, g12_14, g13_14⟩ := hI
        have q4 := f4 (hdep 4 rfl)
        subst q4
        go_simp
        refine (toSpot _ _ _).mono ?_
        rintro e w1 ⟨rfl, hb⟩
        refine hK _ _ ⟨_, _, _, _, _, _, _, _, _, _, _, _, _, _, _, _, b12, b13, b14, rfl, (hB.trans (hb.mono hB.size)), f0, f1, f2, f3, f4, (fun _ => rfl), f6, f7, f8, f9, f10, f11, (fun h => ⟨(f12 h).1, (f12 h).2.1, (f12 h).2.2.keep hb⟩), s12, (fun h => ⟨(f13 h).1, (f13 h).2.1, (f13 h).2.2.keep hb⟩), s13, (fun h => ⟨(f14 h).1, (f14 h).2.1, (f14 h).2.2.keep hb⟩), s14, f18, g12_13, g12_14, g13_14⟩
      refine Steps.cons (fun d a wz hI hd hdep K hK => ?_) ?_
      · obtain ⟨u28, u29, u30, u31, u32, u33, u34, u27, u35, u36, u37, u38, u11, u12, u13, u14, b12, b13, b14, rfl, hB, f0, f1, f2, f3, f4, f5, f6, f7, f8, f9, f10, f11, f12, s12, f13, s13, f14, s14, f18, g12_13, g12_14, g13_14⟩ := hI
        have q1 := f1 (hdep 1 rfl)
        subst q1
        have q3 := f3 (hdep 3 rfl)
        subst q3
        have q5 := f5 (hdep 5 rfl)
        subst q5
        go_simp
        refine (iOrderSpots aP_X aP_Y aQ_X aQ_Y aR_X aR_Y _ a1 a2 a3 a4 a5 a6 code HD.out).mono ?_
        rintro e w1 ⟨rfl, hb⟩
        refine hK _ _ ⟨_, _, _, _, _, _, _, _, _, _, _, _, _, _, _, _, b12, b13, b14, rfl, (hB.trans (hb.mono hB.size)), f0, f1, f2, f3, f4, f5, (fun _ => rfl), f7, f8, f9, f10, f11, (fun h => ⟨(f12 h).1, (f12 h).2.1, (f12 h).2.2.keep hb⟩), s12, (fun h => ⟨(f13 h).1, (f13 h).2.1, (f13 h).2.2.keep hb⟩), s13, (fun h => ⟨(f14 h).1, (f14 h).2.1, (f14 h).2.2.keep hb⟩), s14, f18, g12_13, g12_14, g13_14⟩
      refine Steps.cons (fun d a wz hI hd hdep K hK => ?_) ?_
      · obtain ⟨u28, u29, u30, u31, u32, u33, u34, u27, u35, u36, u37, u38, u11, u12, u13, u14, b12, b13, b14, rfl, hB, f0, f1, f2, f3, f4, f5, f6, f7, f8, f9, f10, f11, f12, s12, f13, s13, f14, s14, f18, g12_13, g12_14, g13_14⟩ := hI
        have q6 := f6 (hdep 6 rfl)
        subst q6
        go_simp
        refine hK _ _ ⟨_, _, _, _, _, _, _, _, _, _, _, _, _, _, _, _, b12, b13, b14, rfl, hB, f0, f1, f2, f3, f4, f5, f6, (fun _ => rfl), f8, f9, f10, f11, f12, s12, f13, s13, f14, s14, f18, g12_13, g12_14, g13_14⟩
      refine Steps.cons (fun d a wz hI hd hdep K hK => ?_) ?_
      · obtain ⟨u28, u29, u30, u31, u32, u33, u34, u27, u35, u36, u37, u38, u11, u12, u13, u14, b12, b13, b14, rfl, hB, f0, f1, f2, f3, f4, f5, f6, f7, f8, f9, f10, f11, f12, s12, f13, s13, f14, s14, f18, g12_13, g12_14, g13_14⟩ := hI
        have q7 := f7 (hdep 7 rfl)
        subst q7
        go_simp
        refine hK _ _ ⟨_, _, _, _, _, _, _, _, _, _, _, _, _, _, _, _, b12, b13, b14, rfl, hB, f0, f1, f2, f3, f4, f5, f6, f7, (fun _ => rfl), f9, f10, f11, f12, s12, f13, s13, f14, s14, f18, g12_13, g12_14, g13_14⟩
      refine Steps.cons (fun d a wz hI hd hdep K hK => ?_) ?_
      · obtain ⟨u28, u29, u30, u31, u32, u33, u34, u27, u35, u36, u37, u38, u11, u12, u13, u14, b12, b13, b14, rfl, hB, f0, f1, f2, f3, f4, f5, f6, f7, f8, f9, f10, f11, f12, s12, f13, s13, f14, s14, f18, g12_13, g12_14, g13_14⟩ := hI
        have q7 := f7 (hdep 7 rfl)
        subst q7
        go_simp
        refine hK _ _ ⟨_, _, _, _, _, _, _, _, _, _, _, _, _, _, _, _, b12, b13, b14, rfl, hB, f0, f1, f2, f3, f4, f5, f6, f7, f8, (fun _ => rfl), f10, f11, f12, s12, f13, s13, f14, s14, f18, g12_13, g12_14, g13_14⟩
      refine Steps.cons (fun d a wz hI hd hdep K hK => ?_) ?_
      · obtain ⟨u28, u29, u30, u31, u32, u33, u34, u27, u35, u36, u37, u38, u11, u12, u13, u14, b12, b13, b14, rfl, hB, f0, f1, f2, f3, f4, f5, f6, f7, f8, f9, f10, f11, f12, s12, f13, s13, f14, s14, f18, g12_13, g12_14, g13_14⟩ := hI
        have q7 := f7 (hdep 7 rfl)
        subst q7
        go_simp
        refine hK _ _ ⟨_, _, _, _, _, _, _, _, _, _, _, _, _, _, _, _, b12, b13, b14, rfl, hB, f0, f1, f2, f3, f4, f5, f6, f7, f8, f9, (fun _ => rfl), f11, f12, s12, f13, s13, f14, s14, f18, g12_13, g12_14, g13_14⟩
      refine Steps.cons (fun d a wz hI hd hdep K hK => ?_) ?_
      · obtain ⟨u28, u29, u30, u31, u32, u33, u34, u27, u35, u36, u37, u38, u11, u12, u13, u14, b12, b13, b14, rfl, hB, f0, f1, f2, f3, f4, f5, f6, f7, f8, f9, f10, f11, f12, s12, f13, s13, f14, s14, f18, g12_13, g12_14, g13_14⟩ := hI
        have q7 := f7 (hdep 7 rfl)
        subst q7
        go_simp
        refine hK _ _ ⟨_, _, _, _, _, _, _, _, _, _, _, _, _, _, _, _, b12, b13, b14, rfl, hB, f0, f1, f2, f3, f4, f5, f6, f7, f8, f9, f10, (fun _ => rfl), f12, s12, f13, s13, f14, s14, f18, g12_13, g12_14, g13_14⟩
      refine Steps.cons (fun d a wz hI hd hdep K hK => ?_) ?_
      · obtain ⟨u28, u29, u30, u31, u32, u33, u34, u27, u35, u36, u37, u38, u11, u12, u13, u14, b12, b13, b14, rfl, hB, f0, f1, f2, f3, f4, f5, f6, f7, f8, f9, f10, f11, f12, s12, f13, s13, f14, s14, f18, g12_13, g12_14, g13_14⟩ := hI
        have hs : d 15 = false := by
          cases h : d 15 with
          | false => rfl
          | true => have := s12 h; rw [hd] at this; cases this
        have hal := (Below.refl wz.heap.size wz).alloc (Nat.le_refl _) (.cells #[.int .i64 0, .int .i64 0] 35)
        go_simp
        refine hK _ _ ⟨_, _, _, _, _, _, _, _, _, _, _, _, _, _, _, _, wz.heap.size, b13, b14, rfl, (hB.trans (hal.mono hB.size)), f0, f1, f2, f3, f4, f5, f6, f7, f8, f9, f10, f11, (fun _ => ⟨rfl, hB.size, Spt.new wz 35 0 0 _ _ _ hs⟩), (fun _ => rfl), (fun h => ⟨(f13 h).1, (f13 h).2.1, (f13 h).2.2.keep hal⟩), s13, (fun h => ⟨(f14 h).1, (f14 h).2.1, (f14 h).2.2.keep hal⟩), s14, f18, (fun _ h => Ne.symm (Nat.ne_of_lt (f13 h).2.2.1)), (fun _ h => Ne.symm (Nat.ne_of_lt (f14 h).2.2.1)), g13_14⟩
      refine Steps.cons (fun d a wz hI hd hdep K hK => ?_) ?_
      · obtain ⟨u28, u29, u30, u31, u32, u33, u34, u27, u35, u36, u37, u38, u11, u12, u13, u14, b12, b13, b14, rfl, hB, f0, f1, f2, f3, f4, f5, f6, f7, f8, f9, f10, f11, f12, s12, f13, s13, f14, s14, f18, g12_13, g12_14, g13_14⟩ := hI
        have hs : d 16 = false := by
          cases h : d 16 with
          | false => rfl
          | true => have := s13 h; rw [hd] at this; cases this
        have hal := (Below.refl wz.heap.size wz).alloc (Nat.le_refl _) (.cells #[.int .i64 0, .int .i64 0] 35)
        go_simp
        refine hK _ _ ⟨_, _, _, _, _, _, _, _, _, _, _, _, _, _, _, _, b12, wz.heap.size, b14, rfl, (hB.trans (hal.mono hB.size)), f0, f1, f2, f3, f4, f5, f6, f7, f8, f9, f10, f11, (fun h => ⟨(f12 h).1, (f12 h).2.1, (f12 h).2.2.keep hal⟩), s12, (fun _ => ⟨rfl, hB.size, Spt.new wz 35 0 0 _ _ _ hs⟩), (fun _ => rfl), (fun h => ⟨(f14 h).1, (f14 h).2.1, (f14 h).2.2.keep hal⟩), s14, f18, (fun h _ => Nat.ne_of_lt (f12 h).2.2.1), g12_14, (fun _ h => Ne.symm (Nat.ne_of_lt (f14 h).2.2.1))⟩
      refine Steps.cons (fun d a wz hI hd hdep K hK => ?_) ?_
      · obtain ⟨u28, u29, u30, u31, u32, u33, u34, u27, u35, u36, u37, u38, u11, u12, u13, u14, b12, b13, b14, rfl, hB, f0, f1, f2, f3, f4, f5, f6, f7, f8, f9, f10, f11, f12, s12, f13, s13, f14, s14, f18, g12_13, g12_14, g13_14⟩ := hI
        have hs : d 17 = false := by
          cases h : d 17 with
          | false => rfl
          | true => have := s14 h; rw [hd] at this; cases this
        have hal := (Below.refl wz.heap.size wz).alloc (Nat.le_refl _) (.cells #[.int .i64 0, .int .i64 0] 35)
        go_simp
        refine hK _ _ ⟨_, _, _, _, _, _, _, _, _, _, _, _, _, _, _, _, b12, b13, wz.heap.size, rfl, (hB.trans (hal.mono hB.size)), f0, f1, f2, f3, f4, f5, f6, f7, f8, f9, f10, f11, (fun h => ⟨(f12 h).1, (f12 h).2.1, (f12 h).2.2.keep hal⟩), s12, (fun h => ⟨(f13 h).1, (f13 h).2.1, (f13 h).2.2.keep hal⟩), s13, (fun _ => ⟨rfl, hB.size, Spt.new wz 35 0 0 _ _ _ hs⟩), (fun _ => rfl), f18, g12_13, (fun h _ => Nat.ne_of_lt (f12 h).2.2.1), (fun h _ => Nat.ne_of_lt (f13 h).2.2.1)⟩
      refine Steps.cons (fun d a wz hI hd hdep K hK => ?_) ?_
      · obtain ⟨u28, u29, u30, u31, u32, u33, u34, u27, u35, u36, u37, u38, u11, u12, u13, u14, b12, b13, b14, rfl, hB, f0, f1, f2, f3, f4, f5, f6, f7, f8, f9, f10, f11, f12, s12, f13, s13, f14, s14, f18, g12_13, g12_14, g13_14⟩ := hI
        have ha := hdep 12 rfl
        obtain ⟨qa, la, sa⟩ := f12 ha
        subst qa
        have qs := f8 (hdep 8 rfl)
        subst qs
        have sb := sa
        obtain ⟨z0, z1, z2, c0, c1, z3, z4, _⟩ := sb
        go_simp
        refine hK _ _ ⟨_, _, _, _, _, _, _, _, _, _, _, _, _, _, _, _, b12, b13, b14, rfl, (((hB.setCell la _).setCell la _)), f0, f1, f2, f3, f4, f5, f6, f7, f8, f9, f10, f11, (fun _ => ⟨rfl, la, sa.store⟩), (fun _ => ha), (fun h => ⟨(f13 h).1, (f13 h).2.1, (((f13 h).2.2.far (Ne.symm (g12_13 ha h))).far (Ne.symm (g12_13 ha h)))⟩), s13, (fun h => ⟨(f14 h).1, (f14 h).2.1, (((f14 h).2.2.far (Ne.symm (g12_14 ha h))).far (Ne.symm (g12_14 ha h)))⟩), s14, f18, g12_13, g12_14, g13_14⟩
      refine Steps.cons (fun d a wz hI hd hdep K hK => ?_) ?_
      · obtain ⟨u28, u29, u30, u31, u32, u33, u34, u27, u35, u36, u37, u38, u11, u12, u13, u14, b12, b13, b14, rfl, hB, f0, f1, f2, f3, f4, f5, f6, f7, f8, f9, f10, f11, f12, s12, f13, s13, f14, s14, f18, g12_13, g12_14, g13_14⟩ := hI
        have ha := hdep 13 rfl
        obtain ⟨qa, la, sa⟩ := f13 ha
        subst qa
        have qs := f9 (hdep 9 rfl)
        subst qs
        have sb := sa
        obtain ⟨z0, z1, z2, c0, c1, z3, z4, _⟩ := sb
        go_simp
        refine hK _ _ ⟨_, _, _, _, _, _, _, _, _, _, _, _, _, _, _, _, b12, b13, b14, rfl, (((hB.setCell la _).setCell la _)), f0, f1, f2, f3, f4, f5, f6, f7, f8, f9, f10, f11, (fun h => ⟨(f12 h).1, (f12 h).2.1, (((f12 h).2.2.far (g12_13 h ha)).far (g12_13 h ha))⟩), s12, (fun _ => ⟨rfl, la, sa.store⟩), (fun _ => ha), (fun h => ⟨(f14 h).1, (f14 h).2.1, (((f14 h).2.2.far (Ne.symm (g13_14 ha h))).far (Ne.symm (g13_14 ha h)))⟩), s14, f18, g12_13, g12_14, g13_14⟩
      refine Steps.cons (fun d a wz hI hd hdep K hK => ?_) ?_
      · obtain ⟨u28, u29, u30, u31, u32, u33, u34, u27, u35, u36, u37, u38, u11, u12, u13, u14, b12, b13, b14, rfl, hB, f0, f1, f2, f3, f4, f5, f6, f7, f8, f9, f10, f11, f12, s12, f13, s13, f14, s14, f18, g12_13, g12_14, g13_14⟩ := hI
        have ha := hdep 14 rfl
        obtain ⟨qa, la, sa⟩ := f14 ha
        subst qa
        have qs := f10 (hdep 10 rfl)
        subst qs
        have sb := sa
        obtain ⟨z0, z1, z2, c0, c1, z3, z4, _⟩ := sb
        go_simp
        refine hK _ _ ⟨_, _, _, _, _, _, _, _, _, _, _, _, _, _, _, _, b12, b13, b14, rfl, (((hB.setCell la _).setCell la _)), f0, f1, f2, f3, f4, f5, f6, f7, f8, f9, f10, f11, (fun h => ⟨(f12 h).1, (f12 h).2.1, (((f12 h).2.2.far (g12_14 h ha)).far (g12_14 h ha))⟩), s12, (fun h => ⟨(f13 h).1, (f13 h).2.1, (((f13 h).2.2.far (g13_14 h ha)).far (g13_14 h ha))⟩), s13, (fun _ => ⟨rfl, la, sa.store⟩), (fun _ => ha), f18, g12_13, g12_14, g13_14⟩
      refine Steps.cons (fun d a wz hI hd hdep K hK => ?_) ?_
      · obtain ⟨u28, u29, u30, u31, u32, u33, u34, u27, u35, u36, u37, u38, u11, u12, u13, u14, b12, b13, b14, rfl, hB, f0, f1, f2, f3, f4, f5, f6, f7, f8, f9, f10, f11, f12, s12, f13, s13, f14, s14, f18, g12_13, g12_14, g13_14⟩ := hI
        have q11 := f11 (hdep 11 rfl)
        subst q11
        go_simp
        refine hK _ _ ⟨_, _, _, _, _, _, _, _, _, _, _, _, _, _, _, _, b12, b13, b14, rfl, hB, f0, f1, f2, f3, f4, f5, f6, f7, f8, f9, f10, f11, f12, s12, f13, s13, f14, s14, (fun _ => rfl), g12_13, g12_14, g13_14⟩
      exact Steps.nil
    · intro d a wz hI hall
      obtain ⟨u28, u29, u30, u31, u32, u33, u34, u27, u35, u36, u37, u38, u11, u12, u13, u14, b12, b13, b14, rfl, hB, f0, f1, f2, f3, f4, f5, f6, f7, f8, f9, f10, f11, f12, s12, f13, s13, f14, s14, f18, g12_13, g12_14, g13_14⟩ := hI
      have q0 := f0 (hall 0 (by decide))
      subst q0
      have q1 := f1 (hall 1 (by decide))
      subst q1
      have q2 := f2 (hall 2 (by decide))
      subst q2
      have q3 := f3 (hall 3 (by decide))
      subst q3
      have q4 := f4 (hall 4 (by decide))
      subst q4
      have q5 := f5 (hall 5 (by decide))
      subst q5
      have q6 := f6 (hall 6 (by decide))
      subst q6
      have q7 := f7 (hall 7 (by decide))
      subst q7
      have q8 := f8 (hall 8 (by decide))
      subst q8
      have q9 := f9 (hall 9 (by decide))
      subst q9
      have q10 := f10 (hall 10 (by decide))
      subst q10
      have q11 := f11 (hall 11 (by decide))
      subst q11
      obtain ⟨q12, l12, r12⟩ := f12 (hall 12 (by decide))
      rw [hall 15 (by decide)] at r12
      subst q12
      obtain ⟨q13, l13, r13⟩ := f13 (hall 13 (by decide))
      rw [hall 16 (by decide)] at r13
      subst q13
      obtain ⟨q14, l14, r14⟩ := f14 (hall 14 (by decide))
      rw [hall 17 (by decide)] at r14
      subst q14
      have q18 := f18 (hall 18 (by decide))
      subst q18
      have n12_13 := g12_13 (hall 12 (by decide)) (hall 13 (by decide))
      have n12_14 := g12_14 (hall 12 (by decide)) (hall 14 (by decide))
      have n13_14 := g13_14 (hall 13 (by decide)) (hall 14 (by decide))
      (try dsimp only)
      go_wp2_with fail
      go_meet
      case rel => exact ⟨b12, b13, b14, rfl, rfl, rfl, rfl, r12.box, r13.box, r14.box, hB⟩
  obtain ⟨e1, e2, e3, rfl, rfl, rfl, rfl, E1, E2, E3, hb2⟩ := hcut
  obtain ⟨w2, rfl⟩ : ∃ w2 : World, w2 = wc := ⟨_, rfl⟩
  have F1 := Lib.hid (D1.out.keep hb2.out)
  have F2 := Lib.hid (D2.out.keep hb2.out)
  have F3 := Lib.hid (D3.out.keep hb2.out)
  have HBF : Hid (Below w.heap.size w w2) := HB0.out.trans ((hb1.out.trans (hb2.out.mono hz1)).mono HB0.out.size)
  clear HB0 hb1 hb2 D1 D2 D3 k1 k2 k3
  obtain ⟨_, _, _⟩ := E1.out
  obtain ⟨_, _, _⟩ := F1.out
  go_wp2_with fail
  refine (eqSpotB a1 a2 _).mono ?_
  rintro e w3 ⟨rfl, hb3⟩
  obtain ⟨_, _, _⟩ := E2.out.keep hb3
  obtain ⟨_, _, _⟩ := F2.out.keep hb3
  have hz3 := hb3.size
  go_wp2_with fail
  refine (eqSpotB a3 a4 _).mono ?_
  rintro e w4 ⟨rfl, hb4⟩
  have hb24 : Below w2.heap.size w2 w4 := hb3.trans (hb4.mono hz3)
  obtain ⟨_, _, _⟩ := E3.out.keep hb24
  obtain ⟨_, _, _⟩ := F3.out.keep hb24
  have hz4 := hb24.size
  go_wp2_with fail
  refine (eqSpotB a5 a6 _).mono ?_
  rintro e w5 ⟨rfl, hb5⟩
  have hb25 : Below w2.heap.size w2 w5 := hb24.trans (hb5.mono hz4)
  have HBZ : Below w.heap.size w w5 := HBF.out.trans (hb25.mono HBF.out.size)
  go_wp2
  go_returns
  exact ⟨rfl, HBZ⟩
end Go.Proofs.Ytdbecdgiafjkfaa
