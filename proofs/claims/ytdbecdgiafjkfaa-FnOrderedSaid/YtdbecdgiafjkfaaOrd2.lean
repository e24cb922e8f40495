/-
  DERIVED. Three spots in order: spec and impl.
-/
import Derived.Test.YtdbecdgiafjkfaaCorn3
import Derived.Test.YtdbecdgiafjkfaaSquare
namespace Go.Proofs.Ytdbecdgiafjkfaa
open Go.RowKit
set_option linter.unusedVariables false
def rot3 : Nat → Int → Int → Int → Int
  | 0, p, _, _ => p
  | 1, _, q, _ => q
  | _, _, _, r => r
def ord1 (px py qx qy rx ry : Int) : Nat := if (sqV qx qy rx ry) < (sqV rx ry px py) then 1 else 0
def ord2 (px py qx qy rx ry : Int) : Nat := if ord1 px py qx qy rx ry = 1 then (if (sqV rx ry px py) < (sqV px py qx qy) then 2 else 1) else (if (sqV qx qy rx ry) < (sqV px py qx qy) then 2 else 0)
theorem ord2_le (px py qx qy rx ry : Int) : ord2 px py qx qy rx ry = 0 ∨ ord2 px py qx qy rx ry = 1 ∨ ord2 px py qx qy rx ry = 2 := by
  unfold ord2
  split <;> split <;> simp
def ordOf (px py qx qy rx ry : Int) : Int × Int × Int × Int × Int × Int :=
  if turnV (rot3 (ord2 px py qx qy rx ry) px qx rx) (rot3 (ord2 px py qx qy rx ry) py qy ry) (rot3 (ord2 px py qx qy rx ry) qx rx px) (rot3 (ord2 px py qx qy rx ry) qy ry py) (rot3 (ord2 px py qx qy rx ry) rx px qx) (rot3 (ord2 px py qx qy rx ry) ry py qy) < 0
  then (rot3 (ord2 px py qx qy rx ry) px qx rx, rot3 (ord2 px py qx qy rx ry) py qy ry, rot3 (ord2 px py qx qy rx ry) rx px qx, rot3 (ord2 px py qx qy rx ry) ry py qy, rot3 (ord2 px py qx qy rx ry) qx rx px, rot3 (ord2 px py qx qy rx ry) qy ry py)
  else (rot3 (ord2 px py qx qy rx ry) px qx rx, rot3 (ord2 px py qx qy rx ry) py qy ry, rot3 (ord2 px py qx qy rx ry) qx rx px, rot3 (ord2 px py qx qy rx ry) qy ry py, rot3 (ord2 px py qx qy rx ry) rx px qx, rot3 (ord2 px py qx qy rx ry) ry py qy)
/-- six cells in a block. -/
def Arr6 (w : World) (b : Nat) (x0 x1 x2 x3 x4 x5 : Int) : Prop := b < w.heap.size ∧ w.cell? ⟨b, 0, none⟩ = some (.int .i64 x0) ∧ w.cell? ⟨b, 1, none⟩ = some (.int .i64 x1) ∧ w.cell? ⟨b, 2, none⟩ = some (.int .i64 x2) ∧ w.cell? ⟨b, 3, none⟩ = some (.int .i64 x3) ∧ w.cell? ⟨b, 4, none⟩ = some (.int .i64 x4) ∧ w.cell? ⟨b, 5, none⟩ = some (.int .i64 x5)
theorem Arr6.below {w w' : World} {b B : Nat} {x0 x1 x2 x3 x4 x5 : Int} (h : Arr6 w b x0 x1 x2 x3 x4 x5) (hb : Below B w w') (hB : b < B) : Arr6 w' b x0 x1 x2 x3 x4 x5 := by
  obtain ⟨h0, a0, a1, a2, a3, a4, a5⟩ := h
  have g : ∀ i, w'.cell? ⟨b, i, none⟩ = w.cell? ⟨b, i, none⟩ := fun i => hb.cell (p := ⟨b, i, none⟩) hB
  exact ⟨Nat.lt_of_lt_of_le h0 hb.size, (g 0).trans a0, (g 1).trans a1, (g 2).trans a2, (g 3).trans a3, (g 4).trans a4, (g 5).trans a5⟩
theorem Arr6.new (w : World) (t : TypeId) (x0 x1 x2 x3 x4 x5 : Int) : Arr6 (w.alloc (.cells #[.int .i64 x0, .int .i64 x1, .int .i64 x2, .int .i64 x3, .int .i64 x4, .int .i64 x5] t)) w.heap.size x0 x1 x2 x3 x4 x5 :=
  ⟨by simp, by simp, by simp, by simp, by simp, by simp, by simp⟩
theorem Spt.below {w w' : World} {b B : Nat} {s : Bool} {x y : Int} (h : Spt w b s x y) (hb : Below B w w') (hB : b < B) : Spt w' b s x y := h.kept hb.size (hb.block b hB)
theorem sSquareB (px py qx qy : Int) (w : World) : Calls Try.prog 103 #[.agg #[.int .i64 px, .int .i64 py], .agg #[.int .i64 qx, .int .i64 qy]] w
    fun e w' => e = .returned (.int .i64 (sqV px py qx qy)) ∧ Below w.heap.size w w' := (sSquare px py qx qy w).mono fun e w' h => ⟨h.1, by rw [← h.2]; repeat' (first | (with_reducible exact Below.refl _ _) | (with_reducible assumption) | (with_reducible refine Below.alloc ?_ ?_ _) | (with_reducible refine Below.setCell ?_ ?_ _) | (with_reducible refine Below.drew ?_) | (with_reducible refine below_drewN ?_ _) | (with_reducible refine below_via (by with_reducible assumption) ?_ ?_) | go_size)⟩
theorem iSquareB (x y : Int) (w : World) : Calls Try.prog 106 #[.agg #[.int .i64 x, .int .i64 y]] w
    fun e w' => e = .returned (.int .i64 (sq2V x y)) ∧ Below w.heap.size w w' := (iSquare x y w).mono fun e w' h => ⟨h.1, by rw [← h.2]; repeat' (first | (with_reducible exact Below.refl _ _) | (with_reducible assumption) | (with_reducible refine Below.alloc ?_ ?_ _) | (with_reducible refine Below.setCell ?_ ?_ _) | (with_reducible refine Below.drew ?_) | (with_reducible refine below_drewN ?_ _) | (with_reducible refine below_via (by with_reducible assumption) ?_ ?_) | go_size)⟩
/-- the boxes of three spots, of three results, and six cells. -/
theorem ord_boxes (px py qx qy rx ry : Int) (t : TypeId) (w W : World) (hb : Below (w.heap.size + 7) (((((((w.alloc (.cells #[.int .i64 px, .int .i64 py] 35)).alloc (.cells #[.int .i64 qx, .int .i64 qy] 35)).alloc (.cells #[.int .i64 rx, .int .i64 ry] 35)).alloc (.cells #[.int .i64 0, .int .i64 0] 35)).alloc (.cells #[.int .i64 0, .int .i64 0] 35)).alloc (.cells #[.int .i64 0, .int .i64 0] 35)).alloc (.cells #[.int .i64 px, .int .i64 py, .int .i64 qx, .int .i64 qy, .int .i64 rx, .int .i64 ry] t)) W) :
    Spt W (w.heap.size + 1 + 1 + 1) false 0 0 ∧ Spt W (w.heap.size + 1 + 1 + 1 + 1) false 0 0 ∧ Spt W (w.heap.size + 1 + 1 + 1 + 1 + 1) false 0 0 ∧ Arr6 W (w.heap.size + 1 + 1 + 1 + 1 + 1 + 1) px py qx qy rx ry := by
  have al := fun (W : World) (o : Obj) => (Below.refl W.heap.size W).alloc (Nat.le_refl _) o
  have k4 := Spt.new (((w.alloc (.cells #[.int .i64 px, .int .i64 py] 35)).alloc (.cells #[.int .i64 qx, .int .i64 qy] 35)).alloc (.cells #[.int .i64 rx, .int .i64 ry] 35)) 35 0 0 0 0 false rfl
  have k5 := Spt.new ((((w.alloc (.cells #[.int .i64 px, .int .i64 py] 35)).alloc (.cells #[.int .i64 qx, .int .i64 qy] 35)).alloc (.cells #[.int .i64 rx, .int .i64 ry] 35)).alloc (.cells #[.int .i64 0, .int .i64 0] 35)) 35 0 0 0 0 false rfl
  have k6 := Spt.new (((((w.alloc (.cells #[.int .i64 px, .int .i64 py] 35)).alloc (.cells #[.int .i64 qx, .int .i64 qy] 35)).alloc (.cells #[.int .i64 rx, .int .i64 ry] 35)).alloc (.cells #[.int .i64 0, .int .i64 0] 35)).alloc (.cells #[.int .i64 0, .int .i64 0] 35)) 35 0 0 0 0 false rfl
  have k7 := Arr6.new ((((((w.alloc (.cells #[.int .i64 px, .int .i64 py] 35)).alloc (.cells #[.int .i64 qx, .int .i64 qy] 35)).alloc (.cells #[.int .i64 rx, .int .i64 ry] 35)).alloc (.cells #[.int .i64 0, .int .i64 0] 35)).alloc (.cells #[.int .i64 0, .int .i64 0] 35)).alloc (.cells #[.int .i64 0, .int .i64 0] 35)) t px py qx qy rx ry
  simp only [World.size_alloc] at k4 k5 k6 k7
  exact ⟨(((k4.keep (al _ _)).keep (al _ _)).keep (al _ _)).below hb (by omega), ((k5.keep (al _ _)).keep (al _ _)).below hb (by omega), (k6.keep (al _ _)).below hb (by omega), k7.below hb (by omega)⟩
set_option maxRecDepth 20000 in
set_option maxHeartbeats 8000000 in
theorem sOrder (px py qx qy rx ry : Int) (w : World) (a1 a2 a3 a4 a5 a6 : Int) (hd : ordOf px py qx qy rx ry = (a1, a2, a3, a4, a5, a6)) : Calls Try.prog 64 #[.agg #[.int .i64 px, .int .i64 py], .agg #[.int .i64 qx, .int .i64 qy], .agg #[.int .i64 rx, .int .i64 ry]] w
    fun e w' => e = .returned (.tuple #[.agg #[.int .i64 a1, .int .i64 a2], .agg #[.int .i64 a3, .int .i64 a4], .agg #[.int .i64 a5, .int .i64 a6]]) ∧ Below w.heap.size w w' := by
  have HD := Lib.hid hd
  clear hd
  go_enter Try.func64, Try.ntmps64
  go_wp2_with fail
  obtain ⟨W, hW⟩ : ∃ W : World, W = (((((((w.alloc (.cells #[.int .i64 px, .int .i64 py] 35)).alloc (.cells #[.int .i64 qx, .int .i64 qy] 35)).alloc (.cells #[.int .i64 rx, .int .i64 ry] 35)).alloc (.cells #[.int .i64 0, .int .i64 0] 35)).alloc (.cells #[.int .i64 0, .int .i64 0] 35)).alloc (.cells #[.int .i64 0, .int .i64 0] 35)).alloc (.cells #[.int .i64 px, .int .i64 py, .int .i64 qx, .int .i64 qy, .int .i64 rx, .int .i64 ry] 35)) := ⟨_, rfl⟩
  have hbx := ord_boxes px py qx qy rx ry _ w W (by rw [hW]; exact Below.refl _ _)
  have HB0 : Hid (Below w.heap.size w W) := by rw [hW]; unfold Hid; repeat' (first | (with_reducible exact Below.refl _ _) | (with_reducible assumption) | (with_reducible refine Below.alloc ?_ ?_ _) | (with_reducible refine Below.setCell ?_ ?_ _) | (with_reducible refine Below.drew ?_) | (with_reducible refine below_drewN ?_ _) | (with_reducible refine below_via (by with_reducible assumption) ?_ ?_) | go_size)
  have hz0 : W.heap.size = w.heap.size + 7 := by rw [hW]; simp
  rw [← hW]
  clear hW
  obtain ⟨k3, k4, k5, k6⟩ := hbx
  have K3 := Lib.hid k3
  have K4 := Lib.hid k4
  have K5 := Lib.hid k5
  have KA := Lib.hid k6
  clear k3 k4 k5 k6
  have q1 : IntKind.i64.wrap 1 = 1 := by decide
  have q2 : IntKind.i64.wrap 2 = 2 := by decide
  have q3 : IntKind.i64.wrap 3 = 3 := by decide
  have q4 : IntKind.i64.wrap 4 = 4 := by decide
  go_loopw [10, 11] (fun b i wr => ((i = .int .i64 1 ∧ b = .int .i64 0) ∨ (i = .int .i64 2 ∧ b = .int .i64 0 ∧ ¬ (sqV qx qy rx ry) < (sqV rx ry px py)) ∨ (i = .int .i64 2 ∧ b = .int .i64 1 ∧ (sqV qx qy rx ry) < (sqV rx ry px py)) ∨ (i = .int .i64 3 ∧ b = .int .i64 0 ∧ ord2 px py qx qy rx ry = 0) ∨ (i = .int .i64 3 ∧ b = .int .i64 1 ∧ ord2 px py qx qy rx ry = 1) ∨ (i = .int .i64 3 ∧ b = .int .i64 2 ∧ ord2 px py qx qy rx ry = 2)) ∧ Hid (Below W.heap.size W wr)) (fun _ i _ => 3 - (intOf i).toNat)
  case atStart => exact ⟨.inl ⟨rfl, rfl⟩, Below.refl _ _⟩
  case round =>
    obtain ⟨hk, hbr⟩ := hrel
    have hbw := hbr.out
    have hzw := hbw.size
    have HSr : Hid (∀ w', Below wr.heap.size wr w' → Below wr.heap.size wr w' ∧ w'.cell? ⟨w.heap.size + 1 + 1 + 1 + 1 + 1 + 1, 0, none⟩ = some (.int .i64 px) ∧ w'.cell? ⟨w.heap.size + 1 + 1 + 1 + 1 + 1 + 1, 1, none⟩ = some (.int .i64 py) ∧ w'.cell? ⟨w.heap.size + 1 + 1 + 1 + 1 + 1 + 1, 2, none⟩ = some (.int .i64 qx) ∧ w'.cell? ⟨w.heap.size + 1 + 1 + 1 + 1 + 1 + 1, 3, none⟩ = some (.int .i64 qy) ∧ w'.cell? ⟨w.heap.size + 1 + 1 + 1 + 1 + 1 + 1, 4, none⟩ = some (.int .i64 rx) ∧ w'.cell? ⟨w.heap.size + 1 + 1 + 1 + 1 + 1 + 1, 5, none⟩ = some (.int .i64 ry)) := fun w' h => ⟨h, ((KA.out.below hbr.out (by omega)).below h (by omega)).2.1, ((KA.out.below hbr.out (by omega)).below h (by omega)).2.2.1, ((KA.out.below hbr.out (by omega)).below h (by omega)).2.2.2.1, ((KA.out.below hbr.out (by omega)).below h (by omega)).2.2.2.2.1, ((KA.out.below hbr.out (by omega)).below h (by omega)).2.2.2.2.2.1, ((KA.out.below hbr.out (by omega)).below h (by omega)).2.2.2.2.2.2⟩
    rcases hk with ⟨rfl, rfl⟩ | ⟨rfl, rfl, h01⟩ | ⟨rfl, rfl, h01⟩ | ⟨rfl, rfl, h02⟩ | ⟨rfl, rfl, h02⟩ | ⟨rfl, rfl, h02⟩
    · go_wp2_with fail
      go_region_held3 (fun w' => Below wr.heap.size wr w' ∧ w'.cell? ⟨w.heap.size + 1 + 1 + 1 + 1 + 1 + 1, 0, none⟩ = some (.int .i64 px) ∧ w'.cell? ⟨w.heap.size + 1 + 1 + 1 + 1 + 1 + 1, 1, none⟩ = some (.int .i64 py) ∧ w'.cell? ⟨w.heap.size + 1 + 1 + 1 + 1 + 1 + 1, 2, none⟩ = some (.int .i64 qx) ∧ w'.cell? ⟨w.heap.size + 1 + 1 + 1 + 1 + 1 + 1, 3, none⟩ = some (.int .i64 qy) ∧ w'.cell? ⟨w.heap.size + 1 + 1 + 1 + 1 + 1 + 1, 4, none⟩ = some (.int .i64 rx) ∧ w'.cell? ⟨w.heap.size + 1 + 1 + 1 + 1 + 1 + 1, 5, none⟩ = some (.int .i64 ry)) (exact HSr.out _ (by repeat' (first | (with_reducible exact Below.refl _ _) | (with_reducible assumption) | (with_reducible refine Below.alloc ?_ ?_ _) | (with_reducible refine Below.setCell ?_ ?_ _) | (with_reducible refine Below.drew ?_) | (with_reducible refine below_drewN ?_ _) | (with_reducible refine below_via (by with_reducible assumption) ?_ ?_) | go_size))) (first | (go_at_call 103; refine (sSquareB _ _ _ _ _).mono ?_; rintro e w' ⟨rfl, hb⟩; have hz := hb.size; (try simp at hz)))
      all_goals
        have hB : Hid (Below W.heap.size W w') := by
          have hq : Below wr.heap.size wr w' := by repeat' (first | (with_reducible exact Below.refl _ _) | (with_reducible assumption) | (with_reducible refine Below.alloc ?_ ?_ _) | (with_reducible refine Below.setCell ?_ ?_ _) | (with_reducible refine Below.drew ?_) | (with_reducible refine below_drewN ?_ _) | (with_reducible refine below_via (by with_reducible assumption) ?_ ?_) | go_size)
          exact hbw.trans (hq.mono hzw)
        by_cases hlt : (sqV qx qy rx ry) < (sqV rx ry px py)
        · have HX : Hid ((sqV qx qy rx ry) < (sqV rx ry px py)) := hlt
          go_wp2
          go_roundw
          case rel => exact ⟨.inr (.inr (.inl ⟨by go_num, by go_num, HX.out⟩)), hB⟩
          case measure => simp [intOf]
        · have HX : Hid (¬ (sqV qx qy rx ry) < (sqV rx ry px py)) := hlt
          go_wp2
          go_roundw
          case rel => exact ⟨.inr (.inl ⟨by go_num, by go_num, HX.out⟩), hB⟩
          case measure => simp [intOf]
    · have H01 := Lib.hid h01
      clear h01
      go_wp2_with fail
      go_region_held3 (fun w' => Below wr.heap.size wr w' ∧ w'.cell? ⟨w.heap.size + 1 + 1 + 1 + 1 + 1 + 1, 0, none⟩ = some (.int .i64 px) ∧ w'.cell? ⟨w.heap.size + 1 + 1 + 1 + 1 + 1 + 1, 1, none⟩ = some (.int .i64 py) ∧ w'.cell? ⟨w.heap.size + 1 + 1 + 1 + 1 + 1 + 1, 2, none⟩ = some (.int .i64 qx) ∧ w'.cell? ⟨w.heap.size + 1 + 1 + 1 + 1 + 1 + 1, 3, none⟩ = some (.int .i64 qy) ∧ w'.cell? ⟨w.heap.size + 1 + 1 + 1 + 1 + 1 + 1, 4, none⟩ = some (.int .i64 rx) ∧ w'.cell? ⟨w.heap.size + 1 + 1 + 1 + 1 + 1 + 1, 5, none⟩ = some (.int .i64 ry)) (exact HSr.out _ (by repeat' (first | (with_reducible exact Below.refl _ _) | (with_reducible assumption) | (with_reducible refine Below.alloc ?_ ?_ _) | (with_reducible refine Below.setCell ?_ ?_ _) | (with_reducible refine Below.drew ?_) | (with_reducible refine below_drewN ?_ _) | (with_reducible refine below_via (by with_reducible assumption) ?_ ?_) | go_size))) (first | (go_at_call 103; refine (sSquareB _ _ _ _ _).mono ?_; rintro e w' ⟨rfl, hb⟩; have hz := hb.size; (try simp at hz)))
      all_goals
        have hB : Hid (Below W.heap.size W w') := by
          have hq : Below wr.heap.size wr w' := by repeat' (first | (with_reducible exact Below.refl _ _) | (with_reducible assumption) | (with_reducible refine Below.alloc ?_ ?_ _) | (with_reducible refine Below.setCell ?_ ?_ _) | (with_reducible refine Below.drew ?_) | (with_reducible refine below_drewN ?_ _) | (with_reducible refine below_via (by with_reducible assumption) ?_ ?_) | go_size)
          exact hbw.trans (hq.mono hzw)
        by_cases hlt : (sqV qx qy rx ry) < (sqV px py qx qy)
        · have HX : Hid (ord2 px py qx qy rx ry = 2) := by have h1 : ord1 px py qx qy rx ry = 0 := (by unfold ord1; rw [if_neg (show ¬ (sqV qx qy rx ry) < (sqV rx ry px py) by have := H01.out; omega)]); unfold Hid ord2; rw [if_neg (show ¬ ord1 px py qx qy rx ry = 1 by rw [h1]; decide), if_pos hlt]
          go_wp2
          go_roundw
          case rel => exact ⟨.inr (.inr (.inr (.inr (.inr ⟨by go_num, by go_num, HX.out⟩)))), hB⟩
          case measure => simp [intOf]
        · have HX : Hid (ord2 px py qx qy rx ry = 0) := by have h1 : ord1 px py qx qy rx ry = 0 := (by unfold ord1; rw [if_neg (show ¬ (sqV qx qy rx ry) < (sqV rx ry px py) by have := H01.out; omega)]); unfold Hid ord2; rw [if_neg (show ¬ ord1 px py qx qy rx ry = 1 by rw [h1]; decide), if_neg hlt]
          go_wp2
          go_roundw
          case rel => exact ⟨.inr (.inr (.inr (.inl ⟨by go_num, by go_num, HX.out⟩))), hB⟩
          case measure => simp [intOf]
    · have H01 := Lib.hid h01
      clear h01
      go_wp2_with fail
      go_region_held3 (fun w' => Below wr.heap.size wr w' ∧ w'.cell? ⟨w.heap.size + 1 + 1 + 1 + 1 + 1 + 1, 0, none⟩ = some (.int .i64 px) ∧ w'.cell? ⟨w.heap.size + 1 + 1 + 1 + 1 + 1 + 1, 1, none⟩ = some (.int .i64 py) ∧ w'.cell? ⟨w.heap.size + 1 + 1 + 1 + 1 + 1 + 1, 2, none⟩ = some (.int .i64 qx) ∧ w'.cell? ⟨w.heap.size + 1 + 1 + 1 + 1 + 1 + 1, 3, none⟩ = some (.int .i64 qy) ∧ w'.cell? ⟨w.heap.size + 1 + 1 + 1 + 1 + 1 + 1, 4, none⟩ = some (.int .i64 rx) ∧ w'.cell? ⟨w.heap.size + 1 + 1 + 1 + 1 + 1 + 1, 5, none⟩ = some (.int .i64 ry)) (exact HSr.out _ (by repeat' (first | (with_reducible exact Below.refl _ _) | (with_reducible assumption) | (with_reducible refine Below.alloc ?_ ?_ _) | (with_reducible refine Below.setCell ?_ ?_ _) | (with_reducible refine Below.drew ?_) | (with_reducible refine below_drewN ?_ _) | (with_reducible refine below_via (by with_reducible assumption) ?_ ?_) | go_size))) (first | (go_at_call 103; refine (sSquareB _ _ _ _ _).mono ?_; rintro e w' ⟨rfl, hb⟩; have hz := hb.size; (try simp at hz)))
      all_goals
        have hB : Hid (Below W.heap.size W w') := by
          have hq : Below wr.heap.size wr w' := by repeat' (first | (with_reducible exact Below.refl _ _) | (with_reducible assumption) | (with_reducible refine Below.alloc ?_ ?_ _) | (with_reducible refine Below.setCell ?_ ?_ _) | (with_reducible refine Below.drew ?_) | (with_reducible refine below_drewN ?_ _) | (with_reducible refine below_via (by with_reducible assumption) ?_ ?_) | go_size)
          exact hbw.trans (hq.mono hzw)
        by_cases hlt : (sqV rx ry px py) < (sqV px py qx qy)
        · have HX : Hid (ord2 px py qx qy rx ry = 2) := by have h1 : ord1 px py qx qy rx ry = 1 := (by unfold ord1; rw [if_pos H01.out]); unfold Hid ord2; rw [if_pos h1, if_pos hlt]
          go_wp2
          go_roundw
          case rel => exact ⟨.inr (.inr (.inr (.inr (.inr ⟨by go_num, by go_num, HX.out⟩)))), hB⟩
          case measure => simp [intOf]
        · have HX : Hid (ord2 px py qx qy rx ry = 1) := by have h1 : ord1 px py qx qy rx ry = 1 := (by unfold ord1; rw [if_pos H01.out]); unfold Hid ord2; rw [if_pos h1, if_neg hlt]
          go_wp2
          go_roundw
          case rel => exact ⟨.inr (.inr (.inr (.inr (.inl ⟨by go_num, by go_num, HX.out⟩)))), hB⟩
          case measure => simp [intOf]
    · have HE : Hid (ordOf px py qx qy rx ry = if turnV px py qx qy rx ry < 0 then (px, py, rx, ry, qx, qy) else (px, py, qx, qy, rx, ry)) := by unfold Hid ordOf; rw [h02]; rfl
      clear h02
      go_wp2_with fail
      go_cut [12, 13, 14] from 15 (fun p q s wx => ∃ b1 b2 b3 : Nat, p = .pointer (some ⟨b1, 0, none⟩) ∧ q = .pointer (some ⟨b2, 0, none⟩) ∧ s = .pointer (some ⟨b3, 0, none⟩) ∧ Hid (Spt wx b1 true px py) ∧ Hid (Spt wx b2 true qx qy) ∧ Hid (Spt wx b3 true rx ry) ∧ Hid (Below wr.heap.size wr wx) ∧ (wr.heap.size ≤ b1 ∧ wr.heap.size ≤ b2 ∧ wr.heap.size ≤ b3) ∧ b1 ≠ b2 ∧ b1 ≠ b3 ∧ b2 ≠ b3)
      case first =>
        go_region_held3 (fun w' => Below wr.heap.size wr w' ∧ w'.cell? ⟨w.heap.size + 1 + 1 + 1 + 1 + 1 + 1, 0, none⟩ = some (.int .i64 px) ∧ w'.cell? ⟨w.heap.size + 1 + 1 + 1 + 1 + 1 + 1, 1, none⟩ = some (.int .i64 py) ∧ w'.cell? ⟨w.heap.size + 1 + 1 + 1 + 1 + 1 + 1, 2, none⟩ = some (.int .i64 qx) ∧ w'.cell? ⟨w.heap.size + 1 + 1 + 1 + 1 + 1 + 1, 3, none⟩ = some (.int .i64 qy) ∧ w'.cell? ⟨w.heap.size + 1 + 1 + 1 + 1 + 1 + 1, 4, none⟩ = some (.int .i64 rx) ∧ w'.cell? ⟨w.heap.size + 1 + 1 + 1 + 1 + 1 + 1, 5, none⟩ = some (.int .i64 ry)) (exact HSr.out _ (by repeat' (first | (with_reducible exact Below.refl _ _) | (with_reducible assumption) | (with_reducible refine Below.alloc ?_ ?_ _) | (with_reducible refine Below.setCell ?_ ?_ _) | (with_reducible refine Below.drew ?_) | (with_reducible refine below_drewN ?_ _) | (with_reducible refine below_via (by with_reducible assumption) ?_ ?_) | go_size))) (first | (go_at_call 103; refine (sSquareB _ _ _ _ _).mono ?_; rintro e w' ⟨rfl, hb⟩; have hz := hb.size; (try simp at hz)))
        all_goals
          go_wp2_with fail
          go_meet
          case rel =>
            refine ⟨_, _, _, rfl, rfl, rfl, ⟨by simp <;> omega, by simp [go_sem], by simp [go_sem], _, _, by simp [go_sem] <;> rfl, by simp [go_sem] <;> rfl, fun _ => ⟨rfl, rfl⟩⟩, ⟨by simp <;> omega, by simp [go_sem], by simp [go_sem], _, _, by simp [go_sem] <;> rfl, by simp [go_sem] <;> rfl, fun _ => ⟨rfl, rfl⟩⟩, ⟨by simp <;> omega, by simp [go_sem], by simp [go_sem], _, _, by simp [go_sem] <;> rfl, by simp [go_sem] <;> rfl, fun _ => ⟨rfl, rfl⟩⟩, by unfold Hid; repeat' (first | (with_reducible exact Below.refl _ _) | (with_reducible assumption) | (with_reducible refine Below.alloc ?_ ?_ _) | (with_reducible refine Below.setCell ?_ ?_ _) | (with_reducible refine Below.drew ?_) | (with_reducible refine below_drewN ?_ _) | (with_reducible refine below_via (by with_reducible assumption) ?_ ?_) | go_size), ?_, ?_, ?_, ?_⟩
            all_goals (first | omega | (simp; done) | (simp; omega))
      obtain ⟨b1, b2, b3, rfl, rfl, rfl, S1, S2, S3, hb1, ⟨l1, l2, l3⟩, n12, n13, n23⟩ := hcut
      obtain ⟨w1, rfl⟩ : ∃ w1 : World, w1 = wc := ⟨_, rfl⟩
      have HBW : Hid (Below W.heap.size W w1) := hbw.trans (hb1.out.mono hzw)
      have hz1 := HBW.out.size
      have R6 : Hid (Spt w1 (w.heap.size + 1 + 1 + 1) false 0 0) := K3.out.keep HBW.out
      have R7 : Hid (Spt w1 (w.heap.size + 1 + 1 + 1 + 1) false 0 0) := K4.out.keep HBW.out
      have R8 : Hid (Spt w1 (w.heap.size + 1 + 1 + 1 + 1 + 1) false 0 0) := K5.out.keep HBW.out
      have HBO : Hid (Below w.heap.size w w1) := HB0.out.trans (HBW.out.mono HB0.out.size)
      clear K3 K4 K5 KA hb1 hbw hbr HSr
      obtain ⟨_, _, _⟩ := S1.out.box
      obtain ⟨_, _, _⟩ := S2.out.box
      obtain ⟨_, _, _⟩ := S3.out.box
      go_wp2_with fail
      refine (sTurn _ _ _ _ _ _ _).mono ?_
      rintro e w2 ⟨rfl, hb2⟩
      have T1 := S1.out.keep hb2
      have T2 := S2.out.keep hb2
      have T3 := S3.out.keep hb2
      have U6 := R6.out.keep hb2
      have U7 := R7.out.keep hb2
      have U8 := R8.out.keep hb2
      have HBX : Hid (Below w.heap.size w w2) := HBO.out.trans (hb2.mono HBO.out.size)
      have hz2 := hb2.size
      clear S1 S2 S3 R6 R7 R8 HBO HBW hb2
      obtain ⟨_, tf10, tf11, _, _, e10, e11, t1⟩ := T1
      obtain ⟨_, tf20, tf21, _, _, e20, e21, t2⟩ := T2
      obtain ⟨_, tf30, tf31, _, _, e30, e31, t3⟩ := T3
      obtain ⟨rfl, rfl⟩ := t1 rfl
      obtain ⟨rfl, rfl⟩ := t2 rfl
      obtain ⟨rfl, rfl⟩ := t3 rfl
      obtain ⟨_, uf60, uf61, _, _, u60, u61, _⟩ := U6
      obtain ⟨_, uf70, uf71, _, _, u70, u71, _⟩ := U7
      obtain ⟨_, uf80, uf81, _, _, u80, u81, _⟩ := U8
      have n1 : b1 ≠ w.heap.size + 1 + 1 + 1 ∧ b1 ≠ w.heap.size + 1 + 1 + 1 + 1 ∧ b1 ≠ w.heap.size + 1 + 1 + 1 + 1 + 1 := by omega
      have n2 : b2 ≠ w.heap.size + 1 + 1 + 1 ∧ b2 ≠ w.heap.size + 1 + 1 + 1 + 1 ∧ b2 ≠ w.heap.size + 1 + 1 + 1 + 1 + 1 := by omega
      have n3 : b3 ≠ w.heap.size + 1 + 1 + 1 ∧ b3 ≠ w.heap.size + 1 + 1 + 1 + 1 ∧ b3 ≠ w.heap.size + 1 + 1 + 1 + 1 + 1 := by omega
      have n1' : w.heap.size + 1 + 1 + 1 ≠ b1 ∧ w.heap.size + 1 + 1 + 1 + 1 ≠ b1 ∧ w.heap.size + 1 + 1 + 1 + 1 + 1 ≠ b1 := by omega
      have n2' : w.heap.size + 1 + 1 + 1 ≠ b2 ∧ w.heap.size + 1 + 1 + 1 + 1 ≠ b2 ∧ w.heap.size + 1 + 1 + 1 + 1 + 1 ≠ b2 := by omega
      have n3' : w.heap.size + 1 + 1 + 1 ≠ b3 ∧ w.heap.size + 1 + 1 + 1 + 1 ≠ b3 ∧ w.heap.size + 1 + 1 + 1 + 1 + 1 ≠ b3 := by omega
      have n12' := n12.symm
      have n13' := n13.symm
      have n23' := n23.symm
      obtain ⟨_, _, _⟩ := n1
      obtain ⟨_, _, _⟩ := n2
      obtain ⟨_, _, _⟩ := n3
      obtain ⟨_, _, _⟩ := n1'
      obtain ⟨_, _, _⟩ := n2'
      obtain ⟨_, _, _⟩ := n3'
      by_cases ht : turnV px py qx qy rx ry < 0
      · have HE2 := HE.out
        rw [if_pos ht] at HE2
        have HE3 := HE2.symm.trans HD.out
        simp only [Prod.mk.injEq] at HE3
        obtain ⟨rfl, rfl, rfl, rfl, rfl, rfl⟩ := HE3
        clear HE2
        go_wp2_with fail
        go_region_held3 (fun w' => w'.cell? ⟨b1, 0, none⟩ = some (.int .i64 px) ∧ w'.cell? ⟨b1, 1, none⟩ = some (.int .i64 py) ∧ w'.cell? ⟨b2, 0, none⟩ = some (.int .i64 qx) ∧ w'.cell? ⟨b2, 1, none⟩ = some (.int .i64 qy) ∧ w'.cell? ⟨b3, 0, none⟩ = some (.int .i64 rx) ∧ w'.cell? ⟨b3, 1, none⟩ = some (.int .i64 ry)) (go_keep) (fail)
        all_goals
          go_wp2
          refine bodyPost_ret (v := .tuple #[.agg #[.int .i64 px, .int .i64 py], .agg #[.int .i64 rx, .int .i64 ry], .agg #[.int .i64 qx, .int .i64 qy]]) (by simp [results, Try.results64, go_sem, *]) rfl ?_
          exact ⟨rfl, by have hbo := HBX.out; repeat' (first | (with_reducible exact Below.refl _ _) | (with_reducible assumption) | (with_reducible refine Below.alloc ?_ ?_ _) | (with_reducible refine Below.setCell ?_ ?_ _) | (with_reducible refine Below.drew ?_) | (with_reducible refine below_drewN ?_ _) | (with_reducible refine below_via (by with_reducible assumption) ?_ ?_) | go_size)⟩
      · have HE2 := HE.out
        rw [if_neg ht] at HE2
        have HE3 := HE2.symm.trans HD.out
        simp only [Prod.mk.injEq] at HE3
        obtain ⟨rfl, rfl, rfl, rfl, rfl, rfl⟩ := HE3
        clear HE2
        go_wp2_with fail
        go_region_held3 (fun w' => w'.cell? ⟨b1, 0, none⟩ = some (.int .i64 px) ∧ w'.cell? ⟨b1, 1, none⟩ = some (.int .i64 py) ∧ w'.cell? ⟨b2, 0, none⟩ = some (.int .i64 qx) ∧ w'.cell? ⟨b2, 1, none⟩ = some (.int .i64 qy) ∧ w'.cell? ⟨b3, 0, none⟩ = some (.int .i64 rx) ∧ w'.cell? ⟨b3, 1, none⟩ = some (.int .i64 ry)) (go_keep) (fail)
        all_goals
          go_wp2
          refine bodyPost_ret (v := .tuple #[.agg #[.int .i64 px, .int .i64 py], .agg #[.int .i64 qx, .int .i64 qy], .agg #[.int .i64 rx, .int .i64 ry]]) (by simp [results, Try.results64, go_sem, *]) rfl ?_
          exact ⟨rfl, by have hbo := HBX.out; repeat' (first | (with_reducible exact Below.refl _ _) | (with_reducible assumption) | (with_reducible refine Below.alloc ?_ ?_ _) | (with_reducible refine Below.setCell ?_ ?_ _) | (with_reducible refine Below.drew ?_) | (with_reducible refine below_drewN ?_ _) | (with_reducible refine below_via (by with_reducible assumption) ?_ ?_) | go_size)⟩
    · have HE : Hid (ordOf px py qx qy rx ry = if turnV qx qy rx ry px py < 0 then (qx, qy, px, py, rx, ry) else (qx, qy, rx, ry, px, py)) := by unfold Hid ordOf; rw [h02]; rfl
      clear h02
      go_wp2_with fail
      go_cut [12, 13, 14] from 15 (fun p q s wx => ∃ b1 b2 b3 : Nat, p = .pointer (some ⟨b1, 0, none⟩) ∧ q = .pointer (some ⟨b2, 0, none⟩) ∧ s = .pointer (some ⟨b3, 0, none⟩) ∧ Hid (Spt wx b1 true qx qy) ∧ Hid (Spt wx b2 true rx ry) ∧ Hid (Spt wx b3 true px py) ∧ Hid (Below wr.heap.size wr wx) ∧ (wr.heap.size ≤ b1 ∧ wr.heap.size ≤ b2 ∧ wr.heap.size ≤ b3) ∧ b1 ≠ b2 ∧ b1 ≠ b3 ∧ b2 ≠ b3)
      case first =>
        go_region_held3 (fun w' => Below wr.heap.size wr w' ∧ w'.cell? ⟨w.heap.size + 1 + 1 + 1 + 1 + 1 + 1, 0, none⟩ = some (.int .i64 px) ∧ w'.cell? ⟨w.heap.size + 1 + 1 + 1 + 1 + 1 + 1, 1, none⟩ = some (.int .i64 py) ∧ w'.cell? ⟨w.heap.size + 1 + 1 + 1 + 1 + 1 + 1, 2, none⟩ = some (.int .i64 qx) ∧ w'.cell? ⟨w.heap.size + 1 + 1 + 1 + 1 + 1 + 1, 3, none⟩ = some (.int .i64 qy) ∧ w'.cell? ⟨w.heap.size + 1 + 1 + 1 + 1 + 1 + 1, 4, none⟩ = some (.int .i64 rx) ∧ w'.cell? ⟨w.heap.size + 1 + 1 + 1 + 1 + 1 + 1, 5, none⟩ = some (.int .i64 ry)) (exact HSr.out _ (by repeat' (first | (with_reducible exact Below.refl _ _) | (with_reducible assumption) | (with_reducible refine Below.alloc ?_ ?_ _) | (with_reducible refine Below.setCell ?_ ?_ _) | (with_reducible refine Below.drew ?_) | (with_reducible refine below_drewN ?_ _) | (with_reducible refine below_via (by with_reducible assumption) ?_ ?_) | go_size))) (first | (go_at_call 103; refine (sSquareB _ _ _ _ _).mono ?_; rintro e w' ⟨rfl, hb⟩; have hz := hb.size; (try simp at hz)))
        all_goals
          go_wp2_with fail
          go_meet
          case rel =>
            refine ⟨_, _, _, rfl, rfl, rfl, ⟨by simp <;> omega, by simp [go_sem], by simp [go_sem], _, _, by simp [go_sem] <;> rfl, by simp [go_sem] <;> rfl, fun _ => ⟨rfl, rfl⟩⟩, ⟨by simp <;> omega, by simp [go_sem], by simp [go_sem], _, _, by simp [go_sem] <;> rfl, by simp [go_sem] <;> rfl, fun _ => ⟨rfl, rfl⟩⟩, ⟨by simp <;> omega, by simp [go_sem], by simp [go_sem], _, _, by simp [go_sem] <;> rfl, by simp [go_sem] <;> rfl, fun _ => ⟨rfl, rfl⟩⟩, by unfold Hid; repeat' (first | (with_reducible exact Below.refl _ _) | (with_reducible assumption) | (with_reducible refine Below.alloc ?_ ?_ _) | (with_reducible refine Below.setCell ?_ ?_ _) | (with_reducible refine Below.drew ?_) | (with_reducible refine below_drewN ?_ _) | (with_reducible refine below_via (by with_reducible assumption) ?_ ?_) | go_size), ?_, ?_, ?_, ?_⟩
            all_goals (first | omega | (simp; done) | (simp; omega))
      obtain ⟨b1, b2, b3, rfl, rfl, rfl, S1, S2, S3, hb1, ⟨l1, l2, l3⟩, n12, n13, n23⟩ := hcut
      obtain ⟨w1, rfl⟩ : ∃ w1 : World, w1 = wc := ⟨_, rfl⟩
      have HBW : Hid (Below W.heap.size W w1) := hbw.trans (hb1.out.mono hzw)
      have hz1 := HBW.out.size
      have R6 : Hid (Spt w1 (w.heap.size + 1 + 1 + 1) false 0 0) := K3.out.keep HBW.out
      have R7 : Hid (Spt w1 (w.heap.size + 1 + 1 + 1 + 1) false 0 0) := K4.out.keep HBW.out
      have R8 : Hid (Spt w1 (w.heap.size + 1 + 1 + 1 + 1 + 1) false 0 0) := K5.out.keep HBW.out
      have HBO : Hid (Below w.heap.size w w1) := HB0.out.trans (HBW.out.mono HB0.out.size)
      clear K3 K4 K5 KA hb1 hbw hbr HSr
      obtain ⟨_, _, _⟩ := S1.out.box
      obtain ⟨_, _, _⟩ := S2.out.box
      obtain ⟨_, _, _⟩ := S3.out.box
      go_wp2_with fail
      refine (sTurn _ _ _ _ _ _ _).mono ?_
      rintro e w2 ⟨rfl, hb2⟩
      have T1 := S1.out.keep hb2
      have T2 := S2.out.keep hb2
      have T3 := S3.out.keep hb2
      have U6 := R6.out.keep hb2
      have U7 := R7.out.keep hb2
      have U8 := R8.out.keep hb2
      have HBX : Hid (Below w.heap.size w w2) := HBO.out.trans (hb2.mono HBO.out.size)
      have hz2 := hb2.size
      clear S1 S2 S3 R6 R7 R8 HBO HBW hb2
      obtain ⟨_, tf10, tf11, _, _, e10, e11, t1⟩ := T1
      obtain ⟨_, tf20, tf21, _, _, e20, e21, t2⟩ := T2
      obtain ⟨_, tf30, tf31, _, _, e30, e31, t3⟩ := T3
      obtain ⟨rfl, rfl⟩ := t1 rfl
      obtain ⟨rfl, rfl⟩ := t2 rfl
      obtain ⟨rfl, rfl⟩ := t3 rfl
      obtain ⟨_, uf60, uf61, _, _, u60, u61, _⟩ := U6
      obtain ⟨_, uf70, uf71, _, _, u70, u71, _⟩ := U7
      obtain ⟨_, uf80, uf81, _, _, u80, u81, _⟩ := U8
      have n1 : b1 ≠ w.heap.size + 1 + 1 + 1 ∧ b1 ≠ w.heap.size + 1 + 1 + 1 + 1 ∧ b1 ≠ w.heap.size + 1 + 1 + 1 + 1 + 1 := by omega
      have n2 : b2 ≠ w.heap.size + 1 + 1 + 1 ∧ b2 ≠ w.heap.size + 1 + 1 + 1 + 1 ∧ b2 ≠ w.heap.size + 1 + 1 + 1 + 1 + 1 := by omega
      have n3 : b3 ≠ w.heap.size + 1 + 1 + 1 ∧ b3 ≠ w.heap.size + 1 + 1 + 1 + 1 ∧ b3 ≠ w.heap.size + 1 + 1 + 1 + 1 + 1 := by omega
      have n1' : w.heap.size + 1 + 1 + 1 ≠ b1 ∧ w.heap.size + 1 + 1 + 1 + 1 ≠ b1 ∧ w.heap.size + 1 + 1 + 1 + 1 + 1 ≠ b1 := by omega
      have n2' : w.heap.size + 1 + 1 + 1 ≠ b2 ∧ w.heap.size + 1 + 1 + 1 + 1 ≠ b2 ∧ w.heap.size + 1 + 1 + 1 + 1 + 1 ≠ b2 := by omega
      have n3' : w.heap.size + 1 + 1 + 1 ≠ b3 ∧ w.heap.size + 1 + 1 + 1 + 1 ≠ b3 ∧ w.heap.size + 1 + 1 + 1 + 1 + 1 ≠ b3 := by omega
      have n12' := n12.symm
      have n13' := n13.symm
      have n23' := n23.symm
      obtain ⟨_, _, _⟩ := n1
      obtain ⟨_, _, _⟩ := n2
      obtain ⟨_, _, _⟩ := n3
      obtain ⟨_, _, _⟩ := n1'
      obtain ⟨_, _, _⟩ := n2'
      obtain ⟨_, _, _⟩ := n3'
      by_cases ht : turnV qx qy rx ry px py < 0
      · have HE2 := HE.out
        rw [if_pos ht] at HE2
        have HE3 := HE2.symm.trans HD.out
        simp only [Prod.mk.injEq] at HE3
        obtain ⟨rfl, rfl, rfl, rfl, rfl, rfl⟩ := HE3
        clear HE2
        go_wp2_with fail
        go_region_held3 (fun w' => w'.cell? ⟨b1, 0, none⟩ = some (.int .i64 qx) ∧ w'.cell? ⟨b1, 1, none⟩ = some (.int .i64 qy) ∧ w'.cell? ⟨b2, 0, none⟩ = some (.int .i64 rx) ∧ w'.cell? ⟨b2, 1, none⟩ = some (.int .i64 ry) ∧ w'.cell? ⟨b3, 0, none⟩ = some (.int .i64 px) ∧ w'.cell? ⟨b3, 1, none⟩ = some (.int .i64 py)) (go_keep) (fail)
        all_goals
          go_wp2
          refine bodyPost_ret (v := .tuple #[.agg #[.int .i64 qx, .int .i64 qy], .agg #[.int .i64 px, .int .i64 py], .agg #[.int .i64 rx, .int .i64 ry]]) (by simp [results, Try.results64, go_sem, *]) rfl ?_
          exact ⟨rfl, by have hbo := HBX.out; repeat' (first | (with_reducible exact Below.refl _ _) | (with_reducible assumption) | (with_reducible refine Below.alloc ?_ ?_ _) | (with_reducible refine Below.setCell ?_ ?_ _) | (with_reducible refine Below.drew ?_) | (with_reducible refine below_drewN ?_ _) | (with_reducible refine below_via (by with_reducible assumption) ?_ ?_) | go_size)⟩
      · have HE2 := HE.out
        rw [if_neg ht] at HE2
        have HE3 := HE2.symm.trans HD.out
        simp only [Prod.mk.injEq] at HE3
        obtain ⟨rfl, rfl, rfl, rfl, rfl, rfl⟩ := HE3
        clear HE2
        go_wp2_with fail
        go_region_held3 (fun w' => w'.cell? ⟨b1, 0, none⟩ = some (.int .i64 qx) ∧ w'.cell? ⟨b1, 1, none⟩ = some (.int .i64 qy) ∧ w'.cell? ⟨b2, 0, none⟩ = some (.int .i64 rx) ∧ w'.cell? ⟨b2, 1, none⟩ = some (.int .i64 ry) ∧ w'.cell? ⟨b3, 0, none⟩ = some (.int .i64 px) ∧ w'.cell? ⟨b3, 1, none⟩ = some (.int .i64 py)) (go_keep) (fail)
        all_goals
          go_wp2
          refine bodyPost_ret (v := .tuple #[.agg #[.int .i64 qx, .int .i64 qy], .agg #[.int .i64 rx, .int .i64 ry], .agg #[.int .i64 px, .int .i64 py]]) (by simp [results, Try.results64, go_sem, *]) rfl ?_
          exact ⟨rfl, by have hbo := HBX.out; repeat' (first | (with_reducible exact Below.refl _ _) | (with_reducible assumption) | (with_reducible refine Below.alloc ?_ ?_ _) | (with_reducible refine Below.setCell ?_ ?_ _) | (with_reducible refine Below.drew ?_) | (with_reducible refine below_drewN ?_ _) | (with_reducible refine below_via (by with_reducible assumption) ?_ ?_) | go_size)⟩
    · have HE : Hid (ordOf px py qx qy rx ry = if turnV rx ry px py qx qy < 0 then (rx, ry, qx, qy, px, py) else (rx, ry, px, py, qx, qy)) := by unfold Hid ordOf; rw [h02]; rfl
      clear h02
      go_wp2_with fail
      go_cut [12, 13, 14] from 15 (fun p q s wx => ∃ b1 b2 b3 : Nat, p = .pointer (some ⟨b1, 0, none⟩) ∧ q = .pointer (some ⟨b2, 0, none⟩) ∧ s = .pointer (some ⟨b3, 0, none⟩) ∧ Hid (Spt wx b1 true rx ry) ∧ Hid (Spt wx b2 true px py) ∧ Hid (Spt wx b3 true qx qy) ∧ Hid (Below wr.heap.size wr wx) ∧ (wr.heap.size ≤ b1 ∧ wr.heap.size ≤ b2 ∧ wr.heap.size ≤ b3) ∧ b1 ≠ b2 ∧ b1 ≠ b3 ∧ b2 ≠ b3)
      case first =>
        go_region_held3 (fun w' => Below wr.heap.size wr w' ∧ w'.cell? ⟨w.heap.size + 1 + 1 + 1 + 1 + 1 + 1, 0, none⟩ = some (.int .i64 px) ∧ w'.cell? ⟨w.heap.size + 1 + 1 + 1 + 1 + 1 + 1, 1, none⟩ = some (.int .i64 py) ∧ w'.cell? ⟨w.heap.size + 1 + 1 + 1 + 1 + 1 + 1, 2, none⟩ = some (.int .i64 qx) ∧ w'.cell? ⟨w.heap.size + 1 + 1 + 1 + 1 + 1 + 1, 3, none⟩ = some (.int .i64 qy) ∧ w'.cell? ⟨w.heap.size + 1 + 1 + 1 + 1 + 1 + 1, 4, none⟩ = some (.int .i64 rx) ∧ w'.cell? ⟨w.heap.size + 1 + 1 + 1 + 1 + 1 + 1, 5, none⟩ = some (.int .i64 ry)) (exact HSr.out _ (by repeat' (first | (with_reducible exact Below.refl _ _) | (with_reducible assumption) | (with_reducible refine Below.alloc ?_ ?_ _) | (with_reducible refine Below.setCell ?_ ?_ _) | (with_reducible refine Below.drew ?_) | (with_reducible refine below_drewN ?_ _) | (with_reducible refine below_via (by with_reducible assumption) ?_ ?_) | go_size))) (first | (go_at_call 103; refine (sSquareB _ _ _ _ _).mono ?_; rintro e w' ⟨rfl, hb⟩; have hz := hb.size; (try simp at hz)))
        all_goals
          go_wp2_with fail
          go_meet
          case rel =>
            refine ⟨_, _, _, rfl, rfl, rfl, ⟨by simp <;> omega, by simp [go_sem], by simp [go_sem], _, _, by simp [go_sem] <;> rfl, by simp [go_sem] <;> rfl, fun _ => ⟨rfl, rfl⟩⟩, ⟨by simp <;> omega, by simp [go_sem], by simp [go_sem], _, _, by simp [go_sem] <;> rfl, by simp [go_sem] <;> rfl, fun _ => ⟨rfl, rfl⟩⟩, ⟨by simp <;> omega, by simp [go_sem], by simp [go_sem], _, _, by simp [go_sem] <;> rfl, by simp [go_sem] <;> rfl, fun _ => ⟨rfl, rfl⟩⟩, by unfold Hid; repeat' (first | (with_reducible exact Below.refl _ _) | (with_reducible assumption) | (with_reducible refine Below.alloc ?_ ?_ _) | (with_reducible refine Below.setCell ?_ ?_ _) | (with_reducible refine Below.drew ?_) | (with_reducible refine below_drewN ?_ _) | (with_reducible refine below_via (by with_reducible assumption) ?_ ?_) | go_size), ?_, ?_, ?_, ?_⟩
            all_goals (first | omega | (simp; done) | (simp; omega))
      obtain ⟨b1, b2, b3, rfl, rfl, rfl, S1, S2, S3, hb1, ⟨l1, l2, l3⟩, n12, n13, n23⟩ := hcut
      obtain ⟨w1, rfl⟩ : ∃ w1 : World, w1 = wc := ⟨_, rfl⟩
      have HBW : Hid (Below W.heap.size W w1) := hbw.trans (hb1.out.mono hzw)
      have hz1 := HBW.out.size
      have R6 : Hid (Spt w1 (w.heap.size + 1 + 1 + 1) false 0 0) := K3.out.keep HBW.out
      have R7 : Hid (Spt w1 (w.heap.size + 1 + 1 + 1 + 1) false 0 0) := K4.out.keep HBW.out
      have R8 : Hid (Spt w1 (w.heap.size + 1 + 1 + 1 + 1 + 1) false 0 0) := K5.out.keep HBW.out
      have HBO : Hid (Below w.heap.size w w1) := HB0.out.trans (HBW.out.mono HB0.out.size)
      clear K3 K4 K5 KA hb1 hbw hbr HSr
      obtain ⟨_, _, _⟩ := S1.out.box
      obtain ⟨_, _, _⟩ := S2.out.box
      obtain ⟨_, _, _⟩ := S3.out.box
      go_wp2_with fail
      refine (sTurn _ _ _ _ _ _ _).mono ?_
      rintro e w2 ⟨rfl, hb2⟩
      have T1 := S1.out.keep hb2
      have T2 := S2.out.keep hb2
      have T3 := S3.out.keep hb2
      have U6 := R6.out.keep hb2
      have U7 := R7.out.keep hb2
      have U8 := R8.out.keep hb2
      have HBX : Hid (Below w.heap.size w w2) := HBO.out.trans (hb2.mono HBO.out.size)
      have hz2 := hb2.size
      clear S1 S2 S3 R6 R7 R8 HBO HBW hb2
      obtain ⟨_, tf10, tf11, _, _, e10, e11, t1⟩ := T1
      obtain ⟨_, tf20, tf21, _, _, e20, e21, t2⟩ := T2
      obtain ⟨_, tf30, tf31, _, _, e30, e31, t3⟩ := T3
      obtain ⟨rfl, rfl⟩ := t1 rfl
      obtain ⟨rfl, rfl⟩ := t2 rfl
      obtain ⟨rfl, rfl⟩ := t3 rfl
      obtain ⟨_, uf60, uf61, _, _, u60, u61, _⟩ := U6
      obtain ⟨_, uf70, uf71, _, _, u70, u71, _⟩ := U7
      obtain ⟨_, uf80, uf81, _, _, u80, u81, _⟩ := U8
      have n1 : b1 ≠ w.heap.size + 1 + 1 + 1 ∧ b1 ≠ w.heap.size + 1 + 1 + 1 + 1 ∧ b1 ≠ w.heap.size + 1 + 1 + 1 + 1 + 1 := by omega
      have n2 : b2 ≠ w.heap.size + 1 + 1 + 1 ∧ b2 ≠ w.heap.size + 1 + 1 + 1 + 1 ∧ b2 ≠ w.heap.size + 1 + 1 + 1 + 1 + 1 := by omega
      have n3 : b3 ≠ w.heap.size + 1 + 1 + 1 ∧ b3 ≠ w.heap.size + 1 + 1 + 1 + 1 ∧ b3 ≠ w.heap.size + 1 + 1 + 1 + 1 + 1 := by omega
      have n1' : w.heap.size + 1 + 1 + 1 ≠ b1 ∧ w.heap.size + 1 + 1 + 1 + 1 ≠ b1 ∧ w.heap.size + 1 + 1 + 1 + 1 + 1 ≠ b1 := by omega
      have n2' : w.heap.size + 1 + 1 + 1 ≠ b2 ∧ w.heap.size + 1 + 1 + 1 + 1 ≠ b2 ∧ w.heap.size + 1 + 1 + 1 + 1 + 1 ≠ b2 := by omega
      have n3' : w.heap.size + 1 + 1 + 1 ≠ b3 ∧ w.heap.size + 1 + 1 + 1 + 1 ≠ b3 ∧ w.heap.size + 1 + 1 + 1 + 1 + 1 ≠ b3 := by omega
      have n12' := n12.symm
      have n13' := n13.symm
      have n23' := n23.symm
      obtain ⟨_, _, _⟩ := n1
      obtain ⟨_, _, _⟩ := n2
      obtain ⟨_, _, _⟩ := n3
      obtain ⟨_, _, _⟩ := n1'
      obtain ⟨_, _, _⟩ := n2'
      obtain ⟨_, _, _⟩ := n3'
      by_cases ht : turnV rx ry px py qx qy < 0
      · have HE2 := HE.out
        rw [if_pos ht] at HE2
        have HE3 := HE2.symm.trans HD.out
        simp only [Prod.mk.injEq] at HE3
        obtain ⟨rfl, rfl, rfl, rfl, rfl, rfl⟩ := HE3
        clear HE2
        go_wp2_with fail
        go_region_held3 (fun w' => w'.cell? ⟨b1, 0, none⟩ = some (.int .i64 rx) ∧ w'.cell? ⟨b1, 1, none⟩ = some (.int .i64 ry) ∧ w'.cell? ⟨b2, 0, none⟩ = some (.int .i64 px) ∧ w'.cell? ⟨b2, 1, none⟩ = some (.int .i64 py) ∧ w'.cell? ⟨b3, 0, none⟩ = some (.int .i64 qx) ∧ w'.cell? ⟨b3, 1, none⟩ = some (.int .i64 qy)) (go_keep) (fail)
        all_goals
          go_wp2
          refine bodyPost_ret (v := .tuple #[.agg #[.int .i64 rx, .int .i64 ry], .agg #[.int .i64 qx, .int .i64 qy], .agg #[.int .i64 px, .int .i64 py]]) (by simp [results, Try.results64, go_sem, *]) rfl ?_
          exact ⟨rfl, by have hbo := HBX.out; repeat' (first | (with_reducible exact Below.refl _ _) | (with_reducible assumption) | (with_reducible refine Below.alloc ?_ ?_ _) | (with_reducible refine Below.setCell ?_ ?_ _) | (with_reducible refine Below.drew ?_) | (with_reducible refine below_drewN ?_ _) | (with_reducible refine below_via (by with_reducible assumption) ?_ ?_) | go_size)⟩
      · have HE2 := HE.out
        rw [if_neg ht] at HE2
        have HE3 := HE2.symm.trans HD.out
        simp only [Prod.mk.injEq] at HE3
        obtain ⟨rfl, rfl, rfl, rfl, rfl, rfl⟩ := HE3
        clear HE2
        go_wp2_with fail
        go_region_held3 (fun w' => w'.cell? ⟨b1, 0, none⟩ = some (.int .i64 rx) ∧ w'.cell? ⟨b1, 1, none⟩ = some (.int .i64 ry) ∧ w'.cell? ⟨b2, 0, none⟩ = some (.int .i64 px) ∧ w'.cell? ⟨b2, 1, none⟩ = some (.int .i64 py) ∧ w'.cell? ⟨b3, 0, none⟩ = some (.int .i64 qx) ∧ w'.cell? ⟨b3, 1, none⟩ = some (.int .i64 qy)) (go_keep) (fail)
        all_goals
          go_wp2
          refine bodyPost_ret (v := .tuple #[.agg #[.int .i64 rx, .int .i64 ry], .agg #[.int .i64 px, .int .i64 py], .agg #[.int .i64 qx, .int .i64 qy]]) (by simp [results, Try.results64, go_sem, *]) rfl ?_
          exact ⟨rfl, by have hbo := HBX.out; repeat' (first | (with_reducible exact Below.refl _ _) | (with_reducible assumption) | (with_reducible refine Below.alloc ?_ ?_ _) | (with_reducible refine Below.setCell ?_ ?_ _) | (with_reducible refine Below.drew ?_) | (with_reducible refine below_drewN ?_ _) | (with_reducible refine below_via (by with_reducible assumption) ?_ ?_) | go_size)⟩
end Go.Proofs.Ytdbecdgiafjkfaa
