/-
  DERIVED. PrintGrid: is a module dark? spec and impl.
-/
import Derived.Test.YtfiddbmjgncabaaPix
import Derived.Test.YtfiddbmjgncabaaGridB
import Derived.Test.YtfiddbmjgncabaaPrint6
namespace Go.Proofs.Ytfiddbmjgncabaa
open Go.RowKit
set_option linter.unusedVariables false
def darkB (R C : Int) (zs : List Int) (r c : Int) : Bool := inB r 0 (R - 1) && (inB c 0 (C - 1) && (pixV C zs r c == 1))
theorem darkB_no1 {R C : Int} {zs : List Int} {r c : Int} (h : inB r 0 (R - 1) = false) : darkB R C zs r c = false := by simp [darkB, h]
theorem darkB_no2 {R C : Int} {zs : List Int} {r c : Int} (h : inB c 0 (C - 1) = false) : darkB R C zs r c = false := by simp [darkB, h]
theorem darkB_in {R C : Int} {zs : List Int} {r c x : Int} (h : inB r 0 (R - 1) = true) (h' : inB c 0 (C - 1) = true) (hx : pixV C zs r c = x) : darkB R C zs r c = (x == 1) := by simp [darkB, h, h', hx]
set_option maxHeartbeats 2000000 in
theorem sDark1 (R C : Int) (a : Option Addr) (n cp : Nat) (zs : List Int) (r c : Int) (w : World) (h : Rd w a n zs) (R1 : 1 ≤ R) (R2 : R ≤ 400) (C1 : 1 ≤ C) (C2 : C ≤ 400) (hn : (n : Int) = R * C) :
    Calls Try.prog 109 #[.agg #[.int .i64 R, .int .i64 C, .slice a n cp], .int .i64 r, .int .i64 c] w fun e w' => e = .returned (.bool (darkB R C zs r c)) ∧ Below w.heap.size w w' := by
  rcases inCases r 0 (R - 1) with h1 | ⟨h1, x1, x2⟩
  · have HE := Lib.hid (darkB_no1 (C := C) (zs := zs) (c := c) h1)
    clear hn
    go_enter Try.func109, Try.ntmps109
    go_wp2_with (go_at_call 95; refine (sIn _ _ _ _).mono ?_; rintro e w' ⟨rfl, rfl⟩)
    go_returns
    exact ⟨by rw [HE.out] <;> rfl, by repeat' (first | (with_reducible exact Below.refl _ _) | (with_reducible assumption) | (with_reducible refine Below.alloc ?_ ?_ _) | (with_reducible refine Below.setCell ?_ ?_ _) | (with_reducible refine Below.drew ?_) | (with_reducible refine below_drewN ?_ _) | (with_reducible refine below_via (by with_reducible assumption) ?_ ?_) | go_size)⟩
  rcases inCases c 0 (C - 1) with h2 | ⟨h2, x3, x4⟩
  · have HE := Lib.hid (darkB_no2 (R := R) (zs := zs) (r := r) h2)
    clear hn
    go_enter Try.func109, Try.ntmps109
    go_wp2_with (go_at_call 95; refine (sIn _ _ _ _).mono ?_; rintro e w' ⟨rfl, rfl⟩)
    go_returns
    exact ⟨by rw [HE.out] <;> rfl, by repeat' (first | (with_reducible exact Below.refl _ _) | (with_reducible assumption) | (with_reducible refine Below.alloc ?_ ?_ _) | (with_reducible refine Below.setCell ?_ ?_ _) | (with_reducible refine Below.drew ?_) | (with_reducible refine below_drewN ?_ _) | (with_reducible refine below_via (by with_reducible assumption) ?_ ?_) | go_size)⟩
  obtain ⟨p1, p2, p3, p4⟩ := pix_place x1 (show r < R by omega) x3 (show c < C by omega) R2 C2 hn
  obtain ⟨b, off, rfl, hb, hcell⟩ := h.2 (by omega)
  have hx : w.cell? ⟨b, off + (r * C + c).toNat, none⟩ = some (.int .i64 (pixV C zs r c)) := hcell _ (by omega)
  obtain ⟨x, hxv⟩ : ∃ x, pixV C zs r c = x := ⟨_, rfl⟩
  rw [hxv] at hx
  have HE := Lib.hid (darkB_in h1 h2 hxv)
  have hb1 : b < w.heap.size + 1 := by omega
  clear hcell hn hxv h
  go_enter Try.func109, Try.ntmps109
  go_wp2_with (go_at_call 95; refine (sIn _ _ _ _).mono ?_; rintro e w' ⟨rfl, rfl⟩)
  go_returns
  exact ⟨by rw [HE.out] <;> rfl, by repeat' (first | (with_reducible exact Below.refl _ _) | (with_reducible assumption) | (with_reducible refine Below.alloc ?_ ?_ _) | (with_reducible refine Below.setCell ?_ ?_ _) | (with_reducible refine Below.drew ?_) | (with_reducible refine below_drewN ?_ _) | (with_reducible refine below_via (by with_reducible assumption) ?_ ?_) | go_size)⟩
set_option maxHeartbeats 2000000 in
theorem iHas (R C : Int) (a : Option Addr) (n cp : Nat) (r c : Int) (w : World) (R1 : 1 ≤ R) (R2 : R ≤ 400) (C1 : 1 ≤ C) (C2 : C ≤ 400) :
    Calls Try.prog 130 #[.agg #[.int .i64 R, .int .i64 C, .slice a n cp], .agg #[.int .i64 r, .int .i64 c]] w fun e w' => e = .returned (.bool (inB r 0 (R - 1) && inB c 0 (C - 1))) ∧ Below w.heap.size w w' := by
  rcases inCases r 0 (R - 1) with h1 | ⟨h1, x1, x2⟩
  · go_enter Try.func130, Try.ntmps130
    go_wp2_with (go_at_call 80; refine (iIn _ _ _ _).mono ?_; rintro e w' ⟨rfl, rfl⟩)
    go_returns
    exact ⟨by simp [h1], by repeat' (first | (with_reducible exact Below.refl _ _) | (with_reducible assumption) | (with_reducible refine Below.alloc ?_ ?_ _) | (with_reducible refine Below.setCell ?_ ?_ _) | (with_reducible refine Below.drew ?_) | (with_reducible refine below_drewN ?_ _) | (with_reducible refine below_via (by with_reducible assumption) ?_ ?_) | go_size)⟩
  · go_enter Try.func130, Try.ntmps130
    go_wp2_with (go_at_call 80; refine (iIn _ _ _ _).mono ?_; rintro e w' ⟨rfl, rfl⟩)
    go_returns
    exact ⟨by simp [h1], by repeat' (first | (with_reducible exact Below.refl _ _) | (with_reducible assumption) | (with_reducible refine Below.alloc ?_ ?_ _) | (with_reducible refine Below.setCell ?_ ?_ _) | (with_reducible refine Below.drew ?_) | (with_reducible refine below_drewN ?_ _) | (with_reducible refine below_via (by with_reducible assumption) ?_ ?_) | go_size)⟩
set_option maxHeartbeats 2000000 in
theorem iAt (R C : Int) (a : Option Addr) (n cp : Nat) (zs : List Int) (r c : Int) (w : World) (h : Rd w a n zs) (x1 : 0 ≤ r) (x2 : r < R) (x3 : 0 ≤ c) (x4 : c < C) (R2 : R ≤ 400) (C2 : C ≤ 400) (hn : (n : Int) = R * C) :
    Calls Try.prog 131 #[.agg #[.int .i64 R, .int .i64 C, .slice a n cp], .agg #[.int .i64 r, .int .i64 c]] w fun e w' => e = .returned (.int .i64 (pixV C zs r c)) ∧ Below w.heap.size w w' := by
  obtain ⟨p1, p2, p3, p4⟩ := pix_place x1 x2 x3 x4 R2 C2 hn
  obtain ⟨b, off, rfl, hb, hcell⟩ := h.2 (by omega)
  have hx : w.cell? ⟨b, off + (r * C + c).toNat, none⟩ = some (.int .i64 (pixV C zs r c)) := hcell _ (by omega)
  have hb1 : b < w.heap.size + 1 := by omega
  have hb2 : b < w.heap.size + 1 + 1 := by omega
  clear hcell hn h
  go_enter Try.func131, Try.ntmps131
  go_wp2
  go_returns
  exact ⟨rfl, by repeat' (first | (with_reducible exact Below.refl _ _) | (with_reducible assumption) | (with_reducible refine Below.alloc ?_ ?_ _) | (with_reducible refine Below.setCell ?_ ?_ _) | (with_reducible refine Below.drew ?_) | (with_reducible refine below_drewN ?_ _) | (with_reducible refine below_via (by with_reducible assumption) ?_ ?_) | go_size)⟩
set_option maxHeartbeats 4000000 in
theorem iDark1 (sr sc p t q u d l R C : Int) (a : Option Addr) (n cp : Nat) (zs : List Int) (r c : Int) (w : World) (h : Rd w a n zs) (R1 : 1 ≤ R) (R2 : R ≤ 400) (C1 : 1 ≤ C) (C2 : C ≤ 400) (hn : (n : Int) = R * C) :
    Calls Try.prog 110 #[.agg #[.int .i64 sr, .int .i64 sc, .int .i64 p, .int .i64 t, .int .i64 q, .int .i64 u, .int .i64 d, .int .i64 l, .int .i64 R, .int .i64 C, .slice a n cp], .int .i64 r, .int .i64 c] w fun e w' => e = .returned (.bool (darkB R C zs r c)) ∧ Below w.heap.size w w' := by
  have HH := Lib.hid h
  have HN := Lib.hid hn
  clear h hn
  rcases inCases r 0 (R - 1) with h1 | ⟨h1, x1, x2⟩
  · have HE := Lib.hid (darkB_no1 (C := C) (zs := zs) (c := c) h1)
    have hf : (inB r 0 (R - 1) && inB c 0 (C - 1)) = false := by rw [h1]; rfl
    clear h1
    go_enter Try.func110, Try.ntmps110
    go_wp2_with fail
    refine (iHas R C a n cp r c _ R1 R2 C1 C2).mono ?_
    rw [hf]
    rintro e w1 ⟨rfl, hb1⟩
    go_wp2
    go_returns
    exact ⟨by rw [HE.out] <;> rfl, by repeat' (first | (with_reducible exact Below.refl _ _) | (with_reducible assumption) | (with_reducible refine Below.alloc ?_ ?_ _) | (with_reducible refine Below.setCell ?_ ?_ _) | (with_reducible refine Below.drew ?_) | (with_reducible refine below_drewN ?_ _) | (with_reducible refine below_via (by with_reducible assumption) ?_ ?_) | go_size)⟩
  rcases inCases c 0 (C - 1) with h2 | ⟨h2, x3, x4⟩
  · have HE := Lib.hid (darkB_no2 (R := R) (zs := zs) (r := r) h2)
    have hf : (inB r 0 (R - 1) && inB c 0 (C - 1)) = false := by rw [h2]; simp
    clear h1 h2
    go_enter Try.func110, Try.ntmps110
    go_wp2_with fail
    refine (iHas R C a n cp r c _ R1 R2 C1 C2).mono ?_
    rw [hf]
    rintro e w1 ⟨rfl, hb1⟩
    go_wp2
    go_returns
    exact ⟨by rw [HE.out] <;> rfl, by repeat' (first | (with_reducible exact Below.refl _ _) | (with_reducible assumption) | (with_reducible refine Below.alloc ?_ ?_ _) | (with_reducible refine Below.setCell ?_ ?_ _) | (with_reducible refine Below.drew ?_) | (with_reducible refine below_drewN ?_ _) | (with_reducible refine below_via (by with_reducible assumption) ?_ ?_) | go_size)⟩
  obtain ⟨x, hxv⟩ : ∃ x, pixV C zs r c = x := ⟨_, rfl⟩
  have HE := Lib.hid (darkB_in h1 h2 hxv)
  have hf : (inB r 0 (R - 1) && inB c 0 (C - 1)) = true := by rw [h1, h2]; rfl
  have HX := Lib.hid hxv
  clear h1 h2 hxv
  go_enter Try.func110, Try.ntmps110
  go_wp2_with fail
  refine (iHas R C a n cp r c _ R1 R2 C1 C2).mono ?_
  rw [hf]
  rintro e w1 ⟨rfl, hb1⟩
  obtain ⟨hc, hfz⟩ := bcell hb1
  have hz := hb1.size
  simp at hz
  have hz1 : w.heap.size < w1.heap.size := by omega
  have hz2 : w.heap.size + 1 < w1.heap.size := by omega
  go_wp2_with fail
  refine (iAt R C a n cp zs r c _ (HH.out.below (by repeat' (first | (with_reducible exact Below.refl _ _) | (with_reducible assumption) | (with_reducible refine Below.alloc ?_ ?_ _) | (with_reducible refine Below.setCell ?_ ?_ _) | (with_reducible refine Below.drew ?_) | (with_reducible refine below_drewN ?_ _) | (with_reducible refine below_via (by with_reducible assumption) ?_ ?_) | go_size))) x1 (by omega) x3 (by omega) R2 C2 HN.out).mono ?_
  rw [HX.out]
  rintro e w2 ⟨rfl, hb2⟩
  go_wp2
  go_returns
  exact ⟨by rw [HE.out] <;> rfl, by repeat' (first | (with_reducible exact Below.refl _ _) | (with_reducible assumption) | (with_reducible refine Below.alloc ?_ ?_ _) | (with_reducible refine Below.setCell ?_ ?_ _) | (with_reducible refine Below.drew ?_) | (with_reducible refine below_drewN ?_ _) | (with_reducible refine below_via (by with_reducible assumption) ?_ ?_) | go_size)⟩
end Go.Proofs.Ytfiddbmjgncabaa
