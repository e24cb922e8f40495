/-
  DERIVED. PrintGrid: the grey value of a pixel: impl.
-/
import Derived.Test.YtfiddbmjgncabaaPrX
namespace Go.Proofs.Ytfiddbmjgncabaa
open Go.RowKit
set_option linter.unusedVariables false
/-- The box of a press. -/
def Box11 (w : World) (b : Nat) (sr sc p t q u d l R C : Int) (a : Option Addr) (n cp : Nat) : Prop := b < w.heap.size ∧ w.cell? ⟨b, 0, none⟩ = some (.int .i64 sr) ∧ w.cell? ⟨b, 1, none⟩ = some (.int .i64 sc) ∧ w.cell? ⟨b, 2, none⟩ = some (.int .i64 p) ∧ w.cell? ⟨b, 3, none⟩ = some (.int .i64 t) ∧ w.cell? ⟨b, 4, none⟩ = some (.int .i64 q) ∧ w.cell? ⟨b, 5, none⟩ = some (.int .i64 u) ∧ w.cell? ⟨b, 6, none⟩ = some (.int .i64 d) ∧ w.cell? ⟨b, 7, none⟩ = some (.int .i64 l) ∧ w.cell? ⟨b, 8, none⟩ = some (.int .i64 R) ∧ w.cell? ⟨b, 9, none⟩ = some (.int .i64 C) ∧ w.cell? ⟨b, 10, none⟩ = some (.slice a n cp)
theorem Box11.keep {w w' : World} {b : Nat} {sr sc p t q u d l R C : Int} {a : Option Addr} {n cp : Nat} (h : Box11 w b sr sc p t q u d l R C a n cp) (hb : Below w.heap.size w w') : Box11 w' b sr sc p t q u d l R C a n cp := by
  obtain ⟨h0, c0, c1, c2, c3, c4, c5, c6, c7, c8, c9, c10⟩ := h
  exact ⟨Nat.lt_of_lt_of_le h0 hb.size, (hb.cell (p := ⟨b, 0, none⟩) h0).trans c0, (hb.cell (p := ⟨b, 1, none⟩) h0).trans c1, (hb.cell (p := ⟨b, 2, none⟩) h0).trans c2, (hb.cell (p := ⟨b, 3, none⟩) h0).trans c3, (hb.cell (p := ⟨b, 4, none⟩) h0).trans c4, (hb.cell (p := ⟨b, 5, none⟩) h0).trans c5, (hb.cell (p := ⟨b, 6, none⟩) h0).trans c6, (hb.cell (p := ⟨b, 7, none⟩) h0).trans c7, (hb.cell (p := ⟨b, 8, none⟩) h0).trans c8, (hb.cell (p := ⟨b, 9, none⟩) h0).trans c9, (hb.cell (p := ⟨b, 10, none⟩) h0).trans c10⟩
theorem Box11.new (w : World) (ty : TypeId) (sr sc p t q u d l R C : Int) (a : Option Addr) (n cp : Nat) : Box11 (w.alloc (.cells #[.int .i64 sr, .int .i64 sc, .int .i64 p, .int .i64 t, .int .i64 q, .int .i64 u, .int .i64 d, .int .i64 l, .int .i64 R, .int .i64 C, .slice a n cp] ty)) w.heap.size sr sc p t q u d l R C a n cp := ⟨by simp, by simp, by simp, by simp, by simp, by simp, by simp, by simp, by simp, by simp, by simp, by simp⟩
set_option maxRecDepth 20000 in
set_option maxHeartbeats 4000000 in
theorem iPixP (sr sc R C p t q u d l : Int) (a : Option Addr) (n cp : Nat) (zs : List Int) (y x : Nat) (w : World) (h : Rd w a n zs) (R1 : 1 ≤ R) (R2 : R ≤ 400) (C1 : 1 ≤ C) (C2 : C ≤ 400) (hn : (n : Int) = R * C)
    (p1 : 1 ≤ p) (p2 : p ≤ 12) (t1 : 1 ≤ t) (t2 : t ≤ 12) (q1 : 0 ≤ q) (q2 : q ≤ 16) (u1 : 1 - p ≤ u) (u2 : u ≤ p - 1) (y1 : y ≤ 400) (x1 : x ≤ 400) (v : Int) (hv : (if pxB R C zs p t q u y x = true then d else l) = v) :
    Calls Try.prog 76 #[.agg #[.int .i64 sr, .int .i64 sc, .int .i64 p, .int .i64 t, .int .i64 q, .int .i64 u, .int .i64 d, .int .i64 l, .int .i64 R, .int .i64 C, .slice a n cp], .int .i64 (y : Int), .int .i64 (x : Int)] w fun e w' => e = .returned (.int .i64 v) ∧ Below w.heap.size w w' := by
  obtain ⟨tn, rfl⟩ := Int.eq_ofNat_of_zero_le (show 0 ≤ t by omega)
  obtain ⟨pn, rfl⟩ := Int.eq_ofNat_of_zero_le (show 0 ≤ p by omega)
  have HH := Lib.hid h
  have HN := Lib.hid hn
  have HV := Lib.hid hv
  clear h hn hv
  have e1 : Int.tdiv (y : Int) (tn : Int) = ((y / tn : Nat) : Int) := rfl
  have e2 : Int.tdiv (x : Int) (pn : Int) = ((x / pn : Nat) : Int) := rfl
  have e3 : Int.tmod (x : Int) (pn : Int) = ((x % pn : Nat) : Int) := rfl
  have b1 : y / tn ≤ y := Nat.div_le_self _ _
  have b2 : x / pn ≤ x := Nat.div_le_self _ _
  have b3 : x % pn < pn := Nat.mod_lt _ (by omega)
  have HPX : Hid (pxB R C zs (pn : Int) (tn : Int) q u (y : Int) (x : Int) = if darkB R C zs (((y / tn : Nat) : Int) - q) (((x / pn : Nat) : Int) - q) = true then (darkB R C zs (((y / tn : Nat) : Int) - q) (((x / pn : Nat) : Int) - q + 1) || decide (((x % pn : Nat) : Int) < (pn : Int) + u)) else (decide (((x % pn : Nat) : Int) < u) && darkB R C zs (((y / tn : Nat) : Int) - q) (((x / pn : Nat) : Int) - q - 1))) := rfl
  obtain ⟨r0, hr0⟩ : ∃ r, y / tn = r := ⟨_, rfl⟩
  obtain ⟨c0, hc0⟩ : ∃ r, x / pn = r := ⟨_, rfl⟩
  obtain ⟨k0, hk0⟩ : ∃ r, x % pn = r := ⟨_, rfl⟩
  rw [hr0] at e1 b1 HPX
  rw [hc0] at e2 b2 HPX
  rw [hk0] at e3 b3 HPX
  clear hr0 hc0 hk0
  have n1 : ¬ tn = 0 := by omega
  have n2 : ¬ pn = 0 := by omega
  have g1 : IntKind.i64.wrap (r0 : Int) = (r0 : Int) := IntWalk.i64_in _ (by omega)
  have g2 : IntKind.i64.wrap (c0 : Int) = (c0 : Int) := IntWalk.i64_in _ (by omega)
  have g3 : IntKind.i64.wrap ((r0 : Int) - q) = (r0 : Int) - q := IntWalk.i64_in _ (by omega)
  have g4 : IntKind.i64.wrap ((c0 : Int) - q) = (c0 : Int) - q := IntWalk.i64_in _ (by omega)
  have bX := Lib.hid (Box11.new w 94 sr sc (pn : Int) (tn : Int) q u d l R C a n cp)
  go_enter Try.func76, Try.ntmps76
  go_wp2_with fail
  obtain ⟨W, hW⟩ : ∃ W : World, W = w.alloc (.cells #[.int .i64 sr, .int .i64 sc, .int .i64 (pn : Int), .int .i64 (tn : Int), .int .i64 q, .int .i64 u, .int .i64 d, .int .i64 l, .int .i64 R, .int .i64 C, .slice a n cp] 94) := ⟨_, rfl⟩
  have kX : Hid (Box11 W w.heap.size sr sc (pn : Int) (tn : Int) q u d l R C a n cp) := by rw [hW]; exact bX.out
  have hBW : Below w.heap.size w W := by rw [hW]; repeat' (first | (with_reducible exact Below.refl _ _) | (with_reducible assumption) | (with_reducible refine Below.alloc ?_ ?_ _) | (with_reducible refine Below.setCell ?_ ?_ _) | (with_reducible refine Below.drew ?_) | (with_reducible refine below_drewN ?_ _) | (with_reducible refine below_via (by with_reducible assumption) ?_ ?_) | go_size)
  have hzW : w.heap.size + 1 ≤ W.heap.size := by rw [hW]; simp
  rw [← hW]
  clear hW bX
  have hkx := kX.out
  obtain ⟨_, _, _, _, _, _, _, _, _, _, _, _⟩ := hkx
  go_cut [7, 8, 9] from 11 (fun p q' s wx => p = .int .i64 ((r0 : Int) - q) ∧ q' = .int .i64 ((c0 : Int) - q) ∧ s = .int .i64 (k0 : Int) ∧ Hid (Below W.heap.size W wx))
  case first =>
    go_quiet (fail)
    go_wp2
    go_meet
    case rel => exact ⟨rfl, rfl, rfl, by unfold Hid; repeat' (first | (with_reducible exact Below.refl _ _) | (with_reducible assumption) | (with_reducible refine Below.alloc ?_ ?_ _) | (with_reducible refine Below.setCell ?_ ?_ _) | (with_reducible refine Below.drew ?_) | (with_reducible refine below_drewN ?_ _) | (with_reducible refine below_via (by with_reducible assumption) ?_ ?_) | go_size)⟩
  obtain ⟨rfl, rfl, rfl, hbc⟩ := hcut
  obtain ⟨w1, rfl⟩ : ∃ w1 : World, w1 = wc := ⟨_, rfl⟩
  have hb1 := hbc.out
  have hz1 := hb1.size
  have x1' := kX.out.keep hb1
  obtain ⟨_, _, _, _, _, _, _, _, _, _, _, _⟩ := x1'
  clear hbc e1 e2 e3 g1 g2 g3 g4 n1 n2
  have g5 : IntKind.i64.wrap ((c0 : Int) - q + 1) = (c0 : Int) - q + 1 := IntWalk.i64_in _ (by omega)
  have g6 : IntKind.i64.wrap ((c0 : Int) - q - 1) = (c0 : Int) - q - 1 := IntWalk.i64_in _ (by omega)
  have g7 : IntKind.i64.wrap ((pn : Int) + u) = (pn : Int) + u := IntWalk.i64_in _ (by omega)
  go_wp2_with fail
  refine (iDark1 sr sc (pn : Int) (tn : Int) q u d l R C a n cp zs _ _ _ (HH.out.below (by repeat' (first | (with_reducible exact Below.refl _ _) | (with_reducible assumption) | (with_reducible refine Below.alloc ?_ ?_ _) | (with_reducible refine Below.setCell ?_ ?_ _) | (with_reducible refine Below.drew ?_) | (with_reducible refine below_drewN ?_ _) | (with_reducible refine below_via (by with_reducible assumption) ?_ ?_) | go_size))) R1 R2 C1 C2 HN.out).mono ?_
  rintro e w2 ⟨rfl, hb2⟩
  have hz2 := hb2.size
  have x2' := (kX.out.keep (by repeat' (first | (with_reducible exact Below.refl _ _) | (with_reducible assumption) | (with_reducible refine Below.alloc ?_ ?_ _) | (with_reducible refine Below.setCell ?_ ?_ _) | (with_reducible refine Below.drew ?_) | (with_reducible refine below_drewN ?_ _) | (with_reducible refine below_via (by with_reducible assumption) ?_ ?_) | go_size)) : Box11 w2 _ _ _ _ _ _ _ _ _ _ _ _ _ _)
  obtain ⟨_, _, _, _, _, _, _, _, _, _, _, _⟩ := x2'
  cases hd : darkB R C zs ((r0 : Int) - q) ((c0 : Int) - q)
  · rw [hd] at HPX
    by_cases hk : (k0 : Int) < u
    · have HE : Hid (pxB R C zs (pn : Int) (tn : Int) q u (y : Int) (x : Int) = darkB R C zs ((r0 : Int) - q) ((c0 : Int) - q - 1)) := by unfold Hid; rw [HPX.out]; simp [hk]
      go_wp2_with fail
      refine (iDark1 sr sc (pn : Int) (tn : Int) q u d l R C a n cp zs _ _ _ (HH.out.below (by repeat' (first | (with_reducible exact Below.refl _ _) | (with_reducible assumption) | (with_reducible refine Below.alloc ?_ ?_ _) | (with_reducible refine Below.setCell ?_ ?_ _) | (with_reducible refine Below.drew ?_) | (with_reducible refine below_drewN ?_ _) | (with_reducible refine below_via (by with_reducible assumption) ?_ ?_) | go_size))) R1 R2 C1 C2 HN.out).mono ?_
      rintro e w3 ⟨rfl, hb3⟩
      have hz3 := hb3.size
      have x3' := (kX.out.keep (by repeat' (first | (with_reducible exact Below.refl _ _) | (with_reducible assumption) | (with_reducible refine Below.alloc ?_ ?_ _) | (with_reducible refine Below.setCell ?_ ?_ _) | (with_reducible refine Below.drew ?_) | (with_reducible refine below_drewN ?_ _) | (with_reducible refine below_via (by with_reducible assumption) ?_ ?_) | go_size)) : Box11 w3 _ _ _ _ _ _ _ _ _ _ _ _ _ _)
      obtain ⟨_, _, _, _, _, _, _, _, _, _, _, _⟩ := x3'
      cases hd3 : darkB R C zs ((r0 : Int) - q) ((c0 : Int) - q - 1)
      · rw [hd3] at HE
        go_wp2
        go_returns
        exact ⟨by rw [← (show l = v by have h := HV.out; rw [HE.out] at h; simpa using h)] <;> rfl, by repeat' (first | (with_reducible exact Below.refl _ _) | (with_reducible assumption) | (with_reducible refine Below.alloc ?_ ?_ _) | (with_reducible refine Below.setCell ?_ ?_ _) | (with_reducible refine Below.drew ?_) | (with_reducible refine below_drewN ?_ _) | (with_reducible refine below_via (by with_reducible assumption) ?_ ?_) | go_size)⟩
      · rw [hd3] at HE
        go_wp2
        go_returns
        exact ⟨by rw [← (show d = v by have h := HV.out; rw [HE.out] at h; simpa using h)] <;> rfl, by repeat' (first | (with_reducible exact Below.refl _ _) | (with_reducible assumption) | (with_reducible refine Below.alloc ?_ ?_ _) | (with_reducible refine Below.setCell ?_ ?_ _) | (with_reducible refine Below.drew ?_) | (with_reducible refine below_drewN ?_ _) | (with_reducible refine below_via (by with_reducible assumption) ?_ ?_) | go_size)⟩
    · have HE : Hid (pxB R C zs (pn : Int) (tn : Int) q u (y : Int) (x : Int) = false) := by unfold Hid; rw [HPX.out]; simp [hk]
      go_wp2
      go_returns
      exact ⟨by rw [← (show l = v by have h := HV.out; rw [HE.out] at h; simpa using h)] <;> rfl, by repeat' (first | (with_reducible exact Below.refl _ _) | (with_reducible assumption) | (with_reducible refine Below.alloc ?_ ?_ _) | (with_reducible refine Below.setCell ?_ ?_ _) | (with_reducible refine Below.drew ?_) | (with_reducible refine below_drewN ?_ _) | (with_reducible refine below_via (by with_reducible assumption) ?_ ?_) | go_size)⟩
  · rw [hd] at HPX
    by_cases hk : (k0 : Int) < (pn : Int) + u
    · have HE : Hid (pxB R C zs (pn : Int) (tn : Int) q u (y : Int) (x : Int) = true) := by unfold Hid; rw [HPX.out]; simp [hk]
      have hk' : ¬ (pn : Int) + u ≤ (k0 : Int) := by omega
      go_wp2
      go_returns
      exact ⟨by rw [← (show d = v by have h := HV.out; rw [HE.out] at h; simpa using h)] <;> rfl, by repeat' (first | (with_reducible exact Below.refl _ _) | (with_reducible assumption) | (with_reducible refine Below.alloc ?_ ?_ _) | (with_reducible refine Below.setCell ?_ ?_ _) | (with_reducible refine Below.drew ?_) | (with_reducible refine below_drewN ?_ _) | (with_reducible refine below_via (by with_reducible assumption) ?_ ?_) | go_size)⟩
    · have hk' : (pn : Int) + u ≤ (k0 : Int) := by omega
      go_wp2_with fail
      refine (iDark1 sr sc (pn : Int) (tn : Int) q u d l R C a n cp zs _ _ _ (HH.out.below (by repeat' (first | (with_reducible exact Below.refl _ _) | (with_reducible assumption) | (with_reducible refine Below.alloc ?_ ?_ _) | (with_reducible refine Below.setCell ?_ ?_ _) | (with_reducible refine Below.drew ?_) | (with_reducible refine below_drewN ?_ _) | (with_reducible refine below_via (by with_reducible assumption) ?_ ?_) | go_size))) R1 R2 C1 C2 HN.out).mono ?_
      rintro e w3 ⟨rfl, hb3⟩
      have hz3 := hb3.size
      have x3' := (kX.out.keep (by repeat' (first | (with_reducible exact Below.refl _ _) | (with_reducible assumption) | (with_reducible refine Below.alloc ?_ ?_ _) | (with_reducible refine Below.setCell ?_ ?_ _) | (with_reducible refine Below.drew ?_) | (with_reducible refine below_drewN ?_ _) | (with_reducible refine below_via (by with_reducible assumption) ?_ ?_) | go_size)) : Box11 w3 _ _ _ _ _ _ _ _ _ _ _ _ _ _)
      obtain ⟨_, _, _, _, _, _, _, _, _, _, _, _⟩ := x3'
      cases hd2 : darkB R C zs ((r0 : Int) - q) ((c0 : Int) - q + 1)
      · rw [hd2] at HPX
        have HE : Hid (pxB R C zs (pn : Int) (tn : Int) q u (y : Int) (x : Int) = false) := by unfold Hid; rw [HPX.out]; simp; omega
        go_wp2
        go_returns
        exact ⟨by rw [← (show l = v by have h := HV.out; rw [HE.out] at h; simpa using h)] <;> rfl, by repeat' (first | (with_reducible exact Below.refl _ _) | (with_reducible assumption) | (with_reducible refine Below.alloc ?_ ?_ _) | (with_reducible refine Below.setCell ?_ ?_ _) | (with_reducible refine Below.drew ?_) | (with_reducible refine below_drewN ?_ _) | (with_reducible refine below_via (by with_reducible assumption) ?_ ?_) | go_size)⟩
      · rw [hd2] at HPX
        have HE : Hid (pxB R C zs (pn : Int) (tn : Int) q u (y : Int) (x : Int) = true) := by unfold Hid; rw [HPX.out]; simp
        go_wp2
        go_returns
        exact ⟨by rw [← (show d = v by have h := HV.out; rw [HE.out] at h; simpa using h)] <;> rfl, by repeat' (first | (with_reducible exact Below.refl _ _) | (with_reducible assumption) | (with_reducible refine Below.alloc ?_ ?_ _) | (with_reducible refine Below.setCell ?_ ?_ _) | (with_reducible refine Below.drew ?_) | (with_reducible refine below_drewN ?_ _) | (with_reducible refine below_via (by with_reducible assumption) ?_ ?_) | go_size)⟩
end Go.Proofs.Ytfiddbmjgncabaa
