/-
  DERIVED. PrintGrid: is a pixel dark? spec and impl.
-/
import Derived.Test.YtfiddbmjgncabaaPrD
import Derived.Deep.Cut
import Derived.Deep.RegionHeld3
import Derived.BigQuiet
namespace Go.Proofs.Ytfiddbmjgncabaa
open Go.RowKit
set_option linter.unusedVariables false
def pxB (R C : Int) (zs : List Int) (p t q u y x : Int) : Bool :=
  if darkB R C zs (y.tdiv t - q) (x.tdiv p - q) = true then (darkB R C zs (y.tdiv t - q) (x.tdiv p - q + 1) || decide (x.tmod p < p + u)) else (decide (x.tmod p < u) && darkB R C zs (y.tdiv t - q) (x.tdiv p - q - 1))
set_option maxRecDepth 20000 in
set_option maxHeartbeats 4000000 in
theorem sPix (R C p t q u d l : Int) (a : Option Addr) (n cp : Nat) (zs : List Int) (y x : Nat) (w : World) (h : Rd w a n zs) (R1 : 1 ≤ R) (R2 : R ≤ 400) (C1 : 1 ≤ C) (C2 : C ≤ 400) (hn : (n : Int) = R * C)
    (p1 : 1 ≤ p) (p2 : p ≤ 12) (t1 : 1 ≤ t) (t2 : t ≤ 12) (q1 : 0 ≤ q) (q2 : q ≤ 16) (u1 : 1 - p ≤ u) (u2 : u ≤ p - 1) (y1 : y ≤ 400) (x1 : x ≤ 400) :
    Calls Try.prog 71 #[.agg #[.int .i64 R, .int .i64 C, .slice a n cp], .agg #[.int .i64 p, .int .i64 t, .int .i64 q, .int .i64 u, .int .i64 d, .int .i64 l], .int .i64 (y : Int), .int .i64 (x : Int)] w fun e w' => e = .returned (.bool (pxB R C zs p t q u y x)) ∧ Below w.heap.size w w' := by
  obtain ⟨tn, rfl⟩ := Int.eq_ofNat_of_zero_le (show 0 ≤ t by omega)
  obtain ⟨pn, rfl⟩ := Int.eq_ofNat_of_zero_le (show 0 ≤ p by omega)
  have HH := Lib.hid h
  have HN := Lib.hid hn
  clear h hn
  have e1 : Int.tdiv (y : Int) (tn : Int) = ((y / tn : Nat) : Int) := rfl
  have e2 : Int.tdiv (x : Int) (pn : Int) = ((x / pn : Nat) : Int) := rfl
  have e3 : Int.tmod (x : Int) (pn : Int) = ((x % pn : Nat) : Int) := rfl
  have b1 : y / tn ≤ y := Nat.div_le_self _ _
  have b2 : x / pn ≤ x := Nat.div_le_self _ _
  have b3 : x % pn < pn := Nat.mod_lt _ (by omega)
  have HPX : Hid (pxB R C zs (pn : Int) (tn : Int) q u (y : Int) (x : Int) = if darkB R C zs (((y / tn : Nat) : Int) - q) (((x / pn : Nat) : Int) - q) = true then (darkB R C zs (((y / tn : Nat) : Int) - q) (((x / pn : Nat) : Int) - q + 1) || decide (((x % pn : Nat) : Int) < (pn : Int) + u)) else (decide (((x % pn : Nat) : Int) < u) && darkB R C zs (((y / tn : Nat) : Int) - q) (((x / pn : Nat) : Int) - q - 1))) := rfl
  obtain ⟨r0, hr0⟩ : ∃ r, y / tn = r := ⟨_, rfl⟩
  obtain ⟨c0, hc0⟩ : ∃ r, x / pn = r := ⟨_, rfl⟩
  obtain ⟨k0, hk0⟩ : ∃ r, x % pn = r := ⟨_, rfl⟩
  rw [hr0] at e1 b1 HPX
  rw [hc0] at e2 b2 HPX
  rw [hk0] at e3 b3 HPX
  clear hr0 hc0 hk0
  have n1 : ¬ tn = 0 := by omega
  have n2 : ¬ pn = 0 := by omega
  have g1 : IntKind.i64.wrap (r0 : Int) = (r0 : Int) := IntWalk.i64_in _ (by omega)
  have g2 : IntKind.i64.wrap (c0 : Int) = (c0 : Int) := IntWalk.i64_in _ (by omega)
  have g3 : IntKind.i64.wrap ((r0 : Int) - q) = (r0 : Int) - q := IntWalk.i64_in _ (by omega)
  have g4 : IntKind.i64.wrap ((c0 : Int) - q) = (c0 : Int) - q := IntWalk.i64_in _ (by omega)
  have bG := Lib.hid (Box3.new w 29 (.int .i64 R) (.int .i64 C) (.slice a n cp))
  have bX := Lib.hid (Box6.new (w.alloc (.cells #[.int .i64 R, .int .i64 C, .slice a n cp] 29)) 34 (pn : Int) (tn : Int) q u d l)
  go_enter Try.func71, Try.ntmps71
  go_wp2_with fail
  obtain ⟨W, hW⟩ : ∃ W : World, W = (w.alloc (.cells #[.int .i64 R, .int .i64 C, .slice a n cp] 29)).alloc (.cells #[.int .i64 (pn : Int), .int .i64 (tn : Int), .int .i64 q, .int .i64 u, .int .i64 d, .int .i64 l] 34) := ⟨_, rfl⟩
  have kG : Hid (Box3 W w.heap.size (.int .i64 R) (.int .i64 C) (.slice a n cp)) := by rw [hW]; exact bG.out.keep ((Below.refl _ _).alloc (Nat.le_refl _) _)
  have kX : Hid (Box6 W (w.heap.size + 1) (pn : Int) (tn : Int) q u d l) := by
    rw [hW]
    have := bX.out
    simp only [World.size_alloc] at this
    exact this
  have hBW : Below w.heap.size w W := by rw [hW]; repeat' (first | (with_reducible exact Below.refl _ _) | (with_reducible assumption) | (with_reducible refine Below.alloc ?_ ?_ _) | (with_reducible refine Below.setCell ?_ ?_ _) | (with_reducible refine Below.drew ?_) | (with_reducible refine below_drewN ?_ _) | (with_reducible refine below_via (by with_reducible assumption) ?_ ?_) | go_size)
  have hzW : w.heap.size + 2 ≤ W.heap.size := by rw [hW]; simp
  rw [← hW]
  clear hW bG bX
  have hkx := kX.out
  obtain ⟨_, _, _, _, _, _, _⟩ := hkx
  go_cut [9, 10, 11] from 12 (fun p q' s wx => p = .int .i64 ((r0 : Int) - q) ∧ q' = .int .i64 ((c0 : Int) - q) ∧ s = .int .i64 (k0 : Int) ∧ Hid (Below W.heap.size W wx))
  case first =>
    go_quiet (fail)
    go_wp2
    go_meet
    case rel => exact ⟨rfl, rfl, rfl, by unfold Hid; repeat' (first | (with_reducible exact Below.refl _ _) | (with_reducible assumption) | (with_reducible refine Below.alloc ?_ ?_ _) | (with_reducible refine Below.setCell ?_ ?_ _) | (with_reducible refine Below.drew ?_) | (with_reducible refine below_drewN ?_ _) | (with_reducible refine below_via (by with_reducible assumption) ?_ ?_) | go_size)⟩
  obtain ⟨rfl, rfl, rfl, hbc⟩ := hcut
  obtain ⟨w1, rfl⟩ : ∃ w1 : World, w1 = wc := ⟨_, rfl⟩
  have hb1 := hbc.out
  have hz1 := hb1.size
  have k1 := kG.out.keep hb1
  have x1' := kX.out.keep hb1
  obtain ⟨_, _, _, _⟩ := k1
  obtain ⟨_, _, _, _, _, _, _⟩ := x1'
  clear hbc e1 e2 e3 g1 g2 g3 g4 n1 n2
  have g5 : IntKind.i64.wrap ((c0 : Int) - q + 1) = (c0 : Int) - q + 1 := IntWalk.i64_in _ (by omega)
  have g6 : IntKind.i64.wrap ((c0 : Int) - q - 1) = (c0 : Int) - q - 1 := IntWalk.i64_in _ (by omega)
  go_wp2_with fail
  refine (sDark1 R C a n cp zs _ _ _ (HH.out.below (by repeat' (first | (with_reducible exact Below.refl _ _) | (with_reducible assumption) | (with_reducible refine Below.alloc ?_ ?_ _) | (with_reducible refine Below.setCell ?_ ?_ _) | (with_reducible refine Below.drew ?_) | (with_reducible refine below_drewN ?_ _) | (with_reducible refine below_via (by with_reducible assumption) ?_ ?_) | go_size))) R1 R2 C1 C2 HN.out).mono ?_
  rintro e w2 ⟨rfl, hb2⟩
  have hz2 := hb2.size
  have k2 := (kG.out.keep (by repeat' (first | (with_reducible exact Below.refl _ _) | (with_reducible assumption) | (with_reducible refine Below.alloc ?_ ?_ _) | (with_reducible refine Below.setCell ?_ ?_ _) | (with_reducible refine Below.drew ?_) | (with_reducible refine below_drewN ?_ _) | (with_reducible refine below_via (by with_reducible assumption) ?_ ?_) | go_size)) : Box3 w2 _ _ _ _)
  have x2' := (kX.out.keep (by repeat' (first | (with_reducible exact Below.refl _ _) | (with_reducible assumption) | (with_reducible refine Below.alloc ?_ ?_ _) | (with_reducible refine Below.setCell ?_ ?_ _) | (with_reducible refine Below.drew ?_) | (with_reducible refine below_drewN ?_ _) | (with_reducible refine below_via (by with_reducible assumption) ?_ ?_) | go_size)) : Box6 w2 _ _ _ _ _ _ _)
  obtain ⟨_, _, _, _⟩ := k2
  obtain ⟨_, _, _, _, _, _, _⟩ := x2'
  cases hd : darkB R C zs ((r0 : Int) - q) ((c0 : Int) - q)
  · rw [hd] at HPX
    by_cases hk : (k0 : Int) < u
    · have HE : Hid (pxB R C zs (pn : Int) (tn : Int) q u (y : Int) (x : Int) = darkB R C zs ((r0 : Int) - q) ((c0 : Int) - q - 1)) := by unfold Hid; rw [HPX.out]; simp [hk]
      go_wp2_with fail
      refine (sDark1 R C a n cp zs _ _ _ (HH.out.below (by repeat' (first | (with_reducible exact Below.refl _ _) | (with_reducible assumption) | (with_reducible refine Below.alloc ?_ ?_ _) | (with_reducible refine Below.setCell ?_ ?_ _) | (with_reducible refine Below.drew ?_) | (with_reducible refine below_drewN ?_ _) | (with_reducible refine below_via (by with_reducible assumption) ?_ ?_) | go_size))) R1 R2 C1 C2 HN.out).mono ?_
      rintro e w3 ⟨rfl, hb3⟩
      go_wp2
      go_returns
      exact ⟨by rw [HE.out] <;> rfl, by repeat' (first | (with_reducible exact Below.refl _ _) | (with_reducible assumption) | (with_reducible refine Below.alloc ?_ ?_ _) | (with_reducible refine Below.setCell ?_ ?_ _) | (with_reducible refine Below.drew ?_) | (with_reducible refine below_drewN ?_ _) | (with_reducible refine below_via (by with_reducible assumption) ?_ ?_) | go_size)⟩
    · have HE : Hid (pxB R C zs (pn : Int) (tn : Int) q u (y : Int) (x : Int) = false) := by unfold Hid; rw [HPX.out]; simp [hk]
      go_wp2
      go_returns
      exact ⟨by rw [HE.out] <;> rfl, by repeat' (first | (with_reducible exact Below.refl _ _) | (with_reducible assumption) | (with_reducible refine Below.alloc ?_ ?_ _) | (with_reducible refine Below.setCell ?_ ?_ _) | (with_reducible refine Below.drew ?_) | (with_reducible refine below_drewN ?_ _) | (with_reducible refine below_via (by with_reducible assumption) ?_ ?_) | go_size)⟩
  · rw [hd] at HPX
    go_wp2_with fail
    refine (sDark1 R C a n cp zs _ _ _ (HH.out.below (by repeat' (first | (with_reducible exact Below.refl _ _) | (with_reducible assumption) | (with_reducible refine Below.alloc ?_ ?_ _) | (with_reducible refine Below.setCell ?_ ?_ _) | (with_reducible refine Below.drew ?_) | (with_reducible refine below_drewN ?_ _) | (with_reducible refine below_via (by with_reducible assumption) ?_ ?_) | go_size))) R1 R2 C1 C2 HN.out).mono ?_
    rintro e w3 ⟨rfl, hb3⟩
    have hz3 := hb3.size
    have x3' := (kX.out.keep (by repeat' (first | (with_reducible exact Below.refl _ _) | (with_reducible assumption) | (with_reducible refine Below.alloc ?_ ?_ _) | (with_reducible refine Below.setCell ?_ ?_ _) | (with_reducible refine Below.drew ?_) | (with_reducible refine below_drewN ?_ _) | (with_reducible refine below_via (by with_reducible assumption) ?_ ?_) | go_size)) : Box6 w3 _ _ _ _ _ _ _)
    obtain ⟨_, _, _, _, _, _, _⟩ := x3'
    cases hd2 : darkB R C zs ((r0 : Int) - q) ((c0 : Int) - q + 1)
    · rw [hd2] at HPX
      by_cases hu : u < 0
      · have g7 : IntKind.i64.wrap ((pn : Int) + u) = (pn : Int) + u := IntWalk.i64_in _ (by omega)
        have HE : Hid (pxB R C zs (pn : Int) (tn : Int) q u (y : Int) (x : Int) = decide ((k0 : Int) < (pn : Int) + u)) := by unfold Hid; rw [HPX.out]; simp
        go_wp2
        go_returns
        exact ⟨by rw [HE.out] <;> rfl, by repeat' (first | (with_reducible exact Below.refl _ _) | (with_reducible assumption) | (with_reducible refine Below.alloc ?_ ?_ _) | (with_reducible refine Below.setCell ?_ ?_ _) | (with_reducible refine Below.drew ?_) | (with_reducible refine below_drewN ?_ _) | (with_reducible refine below_via (by with_reducible assumption) ?_ ?_) | go_size)⟩
      · have HE : Hid (pxB R C zs (pn : Int) (tn : Int) q u (y : Int) (x : Int) = true) := by unfold Hid; rw [HPX.out]; simp; omega
        have hk : (k0 : Int) < (pn : Int) := by omega
        go_wp2
        go_returns
        exact ⟨by rw [HE.out] <;> rfl, by repeat' (first | (with_reducible exact Below.refl _ _) | (with_reducible assumption) | (with_reducible refine Below.alloc ?_ ?_ _) | (with_reducible refine Below.setCell ?_ ?_ _) | (with_reducible refine Below.drew ?_) | (with_reducible refine below_drewN ?_ _) | (with_reducible refine below_via (by with_reducible assumption) ?_ ?_) | go_size)⟩
    · rw [hd2] at HPX
      have HE : Hid (pxB R C zs (pn : Int) (tn : Int) q u (y : Int) (x : Int) = true) := by unfold Hid; rw [HPX.out]; simp
      go_wp2
      go_returns
      exact ⟨by rw [HE.out] <;> rfl, by repeat' (first | (with_reducible exact Below.refl _ _) | (with_reducible assumption) | (with_reducible refine Below.alloc ?_ ?_ _) | (with_reducible refine Below.setCell ?_ ?_ _) | (with_reducible refine Below.drew ?_) | (with_reducible refine below_drewN ?_ _) | (with_reducible refine below_via (by with_reducible assumption) ?_ ?_) | go_size)⟩
end Go.Proofs.Ytfiddbmjgncabaa
