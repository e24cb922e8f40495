/-
  DERIVED. IsQuad: contracts and law.
-/
import Derived.Test.YtdbecdgiafjkfaaSpot3
namespace Go.Proofs.Ytdbecdgiafjkfaa
open Go.RowKit
set_option linter.unusedVariables false

def posT (px py qx qy rx ry : Int) : Bool := decide (0 < turnV px py qx qy rx ry)
def quadB (ax ay bx b' cx cy dx dy : Int) : Bool := spotB ax ay && (spotB bx b' && (spotB cx cy && (spotB dx dy && (posT ax ay bx b' cx cy && (posT bx b' cx cy dx dy && (posT cx cy dx dy ax ay && posT dx dy ax ay bx b'))))))
theorem tCases (n : Int) : (decide (0 < n) = false ∧ n ≤ 0) ∨ (decide (0 < n) = true ∧ 0 < n) := by
  rcases Int.lt_or_le 0 n with h | h
  · exact .inr ⟨by simpa using h, h⟩
  · exact .inl ⟨by simpa using h, h⟩
theorem fourT (p q r s : Int) : (decide (0 < p) = false ∧ p ≤ 0) ∨ ((decide (0 < p) = true ∧ 0 < p) ∧ (decide (0 < q) = false ∧ q ≤ 0)) ∨ ((decide (0 < p) = true ∧ 0 < p) ∧ (decide (0 < q) = true ∧ 0 < q) ∧ (decide (0 < r) = false ∧ r ≤ 0)) ∨
    ((decide (0 < p) = true ∧ 0 < p) ∧ (decide (0 < q) = true ∧ 0 < q) ∧ (decide (0 < r) = true ∧ 0 < r) ∧ (decide (0 < s) = false ∧ s ≤ 0)) ∨ ((decide (0 < p) = true ∧ 0 < p) ∧ (decide (0 < q) = true ∧ 0 < q) ∧ (decide (0 < r) = true ∧ 0 < r) ∧ (decide (0 < s) = true ∧ 0 < s)) := by
  rcases tCases p with h | h <;> rcases tCases q with k | k <;> rcases tCases r with l | l <;> rcases tCases s with m | m <;> simp [h, k, l, m]
set_option maxHeartbeats 4000000 in
theorem sIsQuad (ax ay bx b' cx cy dx dy : Int) (w : World) : Calls Try.prog 71 #[.agg #[.int .i64 ax, .int .i64 ay, .int .i64 bx, .int .i64 b', .int .i64 cx, .int .i64 cy, .int .i64 dx, .int .i64 dy]] w
    fun e w' => e = .returned (.bool (quadB ax ay bx b' cx cy dx dy)) ∧ Below w.heap.size w w' := by
  rcases and4 (spotB ax ay) (spotB bx b') (spotB cx cy) (spotB dx dy) with h1 | ⟨h1, h2⟩ | ⟨h1, h2, h3⟩ | ⟨h1, h2, h3, h4⟩ | ⟨h1, h2, h3, h4⟩
  rotate_right
  · rcases fourT (turnV ax ay bx b' cx cy) (turnV bx b' cx cy dx dy) (turnV cx cy dx dy ax ay) (turnV dx dy ax ay bx b') with ⟨k1, _⟩ | ⟨⟨k1, _⟩, ⟨k2, _⟩⟩ | ⟨⟨k1, _⟩, ⟨k2, _⟩, ⟨k3, _⟩⟩ | ⟨⟨k1, _⟩, ⟨k2, _⟩, ⟨k3, _⟩, ⟨k4, _⟩⟩ | ⟨⟨k1, _⟩, ⟨k2, _⟩, ⟨k3, _⟩, ⟨k4, _⟩⟩
    all_goals
      go_enter Try.func71, Try.ntmps71
      go_wp2_with (first | (go_at_call 68; refine (sIsSpot _ _ _).mono ?_; rintro e w' ⟨rfl, hb⟩; obtain ⟨hc, hf⟩ := bcell hb; have hz := hb.size; (try simp at hz); have hz0 : w.heap.size < w'.heap.size := (by omega)) | (go_at_call 102; refine (sTurn _ _ _ _ _ _ _).mono ?_; rintro e w' ⟨rfl, hb⟩; obtain ⟨hc, hf⟩ := bcell hb; have hz := hb.size; (try simp at hz); have hz0 : w.heap.size < w'.heap.size := (by omega)))
      go_returns
      exact ⟨ret_bool (by simp [quadB, posT, *]), by repeat' (first | (with_reducible exact Below.refl _ _) | (with_reducible assumption) | (with_reducible refine Below.alloc ?_ ?_ _) | (with_reducible refine Below.setCell ?_ ?_ _) | (with_reducible refine Below.drew ?_) | (with_reducible refine below_drewN ?_ _) | (with_reducible refine below_via (by with_reducible assumption) ?_ ?_) | go_size)⟩
  all_goals
    go_enter Try.func71, Try.ntmps71
    go_wp2_with (first | (go_at_call 68; refine (sIsSpot _ _ _).mono ?_; rintro e w' ⟨rfl, hb⟩; obtain ⟨hc, hf⟩ := bcell hb; have hz := hb.size; (try simp at hz); have hz0 : w.heap.size < w'.heap.size := (by omega)))
    go_returns
    exact ⟨ret_bool (by simp [quadB, *]), by repeat' (first | (with_reducible exact Below.refl _ _) | (with_reducible assumption) | (with_reducible refine Below.alloc ?_ ?_ _) | (with_reducible refine Below.setCell ?_ ?_ _) | (with_reducible refine Below.drew ?_) | (with_reducible refine below_drewN ?_ _) | (with_reducible refine below_via (by with_reducible assumption) ?_ ?_) | go_size)⟩
set_option maxHeartbeats 1000000 in
theorem iCorners (ax ay bx b' cx cy dx dy : Int) (w : World) : Calls Try.prog 110 #[.agg #[.int .i64 ax, .int .i64 ay, .int .i64 bx, .int .i64 b', .int .i64 cx, .int .i64 cy, .int .i64 dx, .int .i64 dy]] w
    fun e w' => e = .returned (.agg #[.int .i64 ax, .int .i64 ay, .int .i64 bx, .int .i64 b', .int .i64 cx, .int .i64 cy, .int .i64 dx, .int .i64 dy]) ∧ Below w.heap.size w w' := by
  go_enter Try.func110, Try.ntmps110
  go_wp2
  go_returns
  exact ⟨rfl, by repeat' (first | (with_reducible exact Below.refl _ _) | (with_reducible assumption) | (with_reducible refine Below.alloc ?_ ?_ _) | (with_reducible refine Below.setCell ?_ ?_ _) | (with_reducible refine Below.drew ?_) | (with_reducible refine below_drewN ?_ _) | (with_reducible refine below_via (by with_reducible assumption) ?_ ?_) | go_size)⟩
theorem held_list4 (g : Nat) (ax ay bx b' cx cy dx dy : Int) (W0 : World) (hg : g < W0.heap.size) (h0 : W0.cell? ⟨g, 0, none⟩ = some (.int .i64 ax)) (h1 : W0.cell? ⟨g, 1, none⟩ = some (.int .i64 ay)) (h2 : W0.cell? ⟨g, 2, none⟩ = some (.int .i64 bx)) (h3 : W0.cell? ⟨g, 3, none⟩ = some (.int .i64 b')) (h4 : W0.cell? ⟨g, 4, none⟩ = some (.int .i64 cx)) (h5 : W0.cell? ⟨g, 5, none⟩ = some (.int .i64 cy)) (h6 : W0.cell? ⟨g, 6, none⟩ = some (.int .i64 dx)) (h7 : W0.cell? ⟨g, 7, none⟩ = some (.int .i64 dy)) : ∀ w', Below (g + 1) W0 w' → Below (g + 1) W0 w' ∧ g < w'.heap.size ∧ w'.cell? ⟨g, 0, none⟩ = some (.int .i64 ax) ∧ w'.cell? ⟨g, 1, none⟩ = some (.int .i64 ay) ∧ w'.cell? ⟨g, 2, none⟩ = some (.int .i64 bx) ∧ w'.cell? ⟨g, 3, none⟩ = some (.int .i64 b') ∧ w'.cell? ⟨g, 4, none⟩ = some (.int .i64 cx) ∧ w'.cell? ⟨g, 5, none⟩ = some (.int .i64 cy) ∧ w'.cell? ⟨g, 6, none⟩ = some (.int .i64 dx) ∧ w'.cell? ⟨g, 7, none⟩ = some (.int .i64 dy) := by
  intro w' h
  have hs := h.size
  refine ⟨h, by omega, ?_, ?_, ?_, ?_, ?_, ?_, ?_, ?_⟩ <;> (refine (h.cell (p := ⟨_, _, none⟩) (by simp)).trans ?_; assumption)
set_option maxHeartbeats 4000000 in
theorem iIsQuad (ax ay bx b' cx cy dx dy : Int) (w : World) : Calls Try.prog 74 #[.agg #[.int .i64 ax, .int .i64 ay, .int .i64 bx, .int .i64 b', .int .i64 cx, .int .i64 cy, .int .i64 dx, .int .i64 dy]] w
    fun e w' => e = .returned (.bool (quadB ax ay bx b' cx cy dx dy)) ∧ Below w.heap.size w w' := by
  have t1 : Int.tmod 1 4 = 1 := rfl
  have t2 : Int.tmod 2 4 = 2 := rfl
  have t3 : Int.tmod 3 4 = 3 := rfl
  have t4 : Int.tmod 4 4 = 0 := rfl
  have t5 : Int.tmod 5 4 = 1 := rfl
  have q1 : IntKind.i64.wrap 1 = 1 := by decide
  have q2 : IntKind.i64.wrap 2 = 2 := by decide
  have q3 : IntKind.i64.wrap 3 = 3 := by decide
  have q4 : IntKind.i64.wrap 4 = 4 := by decide
  have q5 : IntKind.i64.wrap 5 = 5 := by decide
  have q0 : IntKind.i64.wrap 0 = 0 := by decide
  have i0 : ∀ w, (Instr.index 115 (.agg #[.int .i64 ax, .int .i64 ay, .int .i64 bx, .int .i64 b', .int .i64 cx, .int .i64 cy, .int .i64 dx, .int .i64 dy]) (.int .i64 0)).run Try.prog w = .ok (.agg #[.int .i64 ax, .int .i64 ay]) w := fun _ => by kernel_rfl
  have i1 : ∀ w, (Instr.index 115 (.agg #[.int .i64 ax, .int .i64 ay, .int .i64 bx, .int .i64 b', .int .i64 cx, .int .i64 cy, .int .i64 dx, .int .i64 dy]) (.int .i64 1)).run Try.prog w = .ok (.agg #[.int .i64 bx, .int .i64 b']) w := fun _ => by kernel_rfl
  have i2 : ∀ w, (Instr.index 115 (.agg #[.int .i64 ax, .int .i64 ay, .int .i64 bx, .int .i64 b', .int .i64 cx, .int .i64 cy, .int .i64 dx, .int .i64 dy]) (.int .i64 2)).run Try.prog w = .ok (.agg #[.int .i64 cx, .int .i64 cy]) w := fun _ => by kernel_rfl
  have i3 : ∀ w, (Instr.index 115 (.agg #[.int .i64 ax, .int .i64 ay, .int .i64 bx, .int .i64 b', .int .i64 cx, .int .i64 cy, .int .i64 dx, .int .i64 dy]) (.int .i64 3)).run Try.prog w = .ok (.agg #[.int .i64 dx, .int .i64 dy]) w := fun _ => by kernel_rfl
  rcases and4 (spotB ax ay) (spotB bx b') (spotB cx cy) (spotB dx dy) with h1 | ⟨h1, h2⟩ | ⟨h1, h2, h3⟩ | ⟨h1, h2, h3, h4⟩ | ⟨h1, h2, h3, h4⟩
  rotate_right
  · rcases fourT (turnV ax ay bx b' cx cy) (turnV bx b' cx cy dx dy) (turnV cx cy dx dy ax ay) (turnV dx dy ax ay bx b') with ⟨k1, _⟩ | ⟨⟨k1, _⟩, ⟨k2, _⟩⟩ | ⟨⟨k1, _⟩, ⟨k2, _⟩, ⟨k3, _⟩⟩ | ⟨⟨k1, _⟩, ⟨k2, _⟩, ⟨k3, _⟩, ⟨k4, _⟩⟩ | ⟨⟨k1, _⟩, ⟨k2, _⟩, ⟨k3, _⟩, ⟨k4, _⟩⟩
    all_goals
      go_enter Try.func74, Try.ntmps74
      go_wp2_with fail
      refine (iCorners _ _ _ _ _ _ _ _ _).mono ?_
      rintro e w1 ⟨rfl, hb1⟩
      have hz1 := hb1.size
      simp at hz1
      go_wp2_with fail
      obtain ⟨W, hW⟩ : ∃ W, W = w1.alloc (.cells #[.int .i64 ax, .int .i64 ay, .int .i64 bx, .int .i64 b', .int .i64 cx, .int .i64 cy, .int .i64 dx, .int .i64 dy] 115) := ⟨_, rfl⟩
      have HS := Lib.hid (held_list4 w1.heap.size ax ay bx b' cx cy dx dy W (by rw [hW]; simp) (by rw [hW]; simp) (by rw [hW]; simp) (by rw [hW]; simp) (by rw [hW]; simp) (by rw [hW]; simp) (by rw [hW]; simp) (by rw [hW]; simp) (by rw [hW]; simp))
      have HB : Below w.heap.size w W := by rw [hW]; repeat' (first | (with_reducible exact Below.refl _ _) | (with_reducible assumption) | (with_reducible refine Below.alloc ?_ ?_ _) | (with_reducible refine Below.setCell ?_ ?_ _) | (with_reducible refine Below.drew ?_) | (with_reducible refine below_drewN ?_ _) | (with_reducible refine below_via (by with_reducible assumption) ?_ ?_) | go_size)
      have hzW : W.heap.size = w1.heap.size + 1 := by rw [hW]; simp
      rw [← hW]
      clear hW
      refine wp_loop_rounds 5 ?_
      repeat (rw [rounds_succ]; go_wp2_with (go_at_call 104; refine (iIsSpot _ _ _).mono ?_; rintro e w' ⟨rfl, hb⟩; obtain ⟨hc, hf⟩ := bcell hb; have hz := hb.size; (try simp at hz); have hq : w1.heap.size < w'.heap.size := (by omega)))
      refine wp_loop_rounds 5 ?_
      repeat (rw [rounds_succ]; go_wp2_with fail; try (go_region_held3 (fun w' => Below (w1.heap.size + 1) W w' ∧ w1.heap.size < w'.heap.size ∧ w'.cell? ⟨w1.heap.size, 0, none⟩ = some (.int .i64 ax) ∧ w'.cell? ⟨w1.heap.size, 1, none⟩ = some (.int .i64 ay) ∧ w'.cell? ⟨w1.heap.size, 2, none⟩ = some (.int .i64 bx) ∧ w'.cell? ⟨w1.heap.size, 3, none⟩ = some (.int .i64 b') ∧ w'.cell? ⟨w1.heap.size, 4, none⟩ = some (.int .i64 cx) ∧ w'.cell? ⟨w1.heap.size, 5, none⟩ = some (.int .i64 cy) ∧ w'.cell? ⟨w1.heap.size, 6, none⟩ = some (.int .i64 dx) ∧ w'.cell? ⟨w1.heap.size, 7, none⟩ = some (.int .i64 dy)) (exact HS.out _ (by repeat' (first | (with_reducible exact Below.refl _ _) | (with_reducible assumption) | (with_reducible refine Below.alloc ?_ ?_ _) | (with_reducible refine Below.setCell ?_ ?_ _) | (with_reducible refine Below.drew ?_) | (with_reducible refine below_drewN ?_ _) | (with_reducible refine below_via (by with_reducible assumption) ?_ ?_) | go_size))) (first | (go_at_call 66; refine (iTurn _ _ _ _ _ _ _).mono ?_; rintro e w' ⟨rfl, hb⟩; obtain ⟨hc, hf⟩ := bcell hb; have hz := hb.size; (try simp at hz))); go_wp2_with fail))
      go_returns
      exact ⟨ret_bool (by simp [quadB, posT, *]), by repeat' (first | (with_reducible exact Below.refl _ _) | (with_reducible assumption) | (with_reducible refine Below.alloc ?_ ?_ _) | (with_reducible refine Below.setCell ?_ ?_ _) | (with_reducible refine Below.drew ?_) | (with_reducible refine below_drewN ?_ _) | (with_reducible refine below_via (by with_reducible assumption) ?_ ?_) | go_size)⟩
  all_goals
    go_enter Try.func74, Try.ntmps74
    go_wp2_with (go_at_call 110; refine (iCorners _ _ _ _ _ _ _ _ _).mono ?_; rintro e w' ⟨rfl, hb⟩; obtain ⟨hc, hf⟩ := bcell hb; have hz := hb.size; (try simp at hz); have hz0 : w.heap.size < w'.heap.size := (by omega))
    refine wp_loop_rounds 5 ?_
    repeat any_goals (rw [rounds_succ]; go_wp2_with (go_at_call 104; refine (iIsSpot _ _ _).mono ?_; rintro e w' ⟨rfl, hb⟩; obtain ⟨hc, hf⟩ := bcell hb; have hz := hb.size; (try simp at hz); have hz0 : w.heap.size < w'.heap.size := (by omega)))
    go_returns
    exact ⟨ret_bool (by simp [quadB, *]), by repeat' (first | (with_reducible exact Below.refl _ _) | (with_reducible assumption) | (with_reducible refine Below.alloc ?_ ?_ _) | (with_reducible refine Below.setCell ?_ ?_ _) | (with_reducible refine Below.drew ?_) | (with_reducible refine below_drewN ?_ _) | (with_reducible refine below_via (by with_reducible assumption) ?_ ?_) | go_size)⟩
set_option maxHeartbeats 1000000 in
theorem toSpotX (x y : Int) (w : World) : Calls Try.prog 20 #[.agg #[.int .i64 x, .int .i64 y]] w fun e w' => e = .returned (.agg #[.int .i64 x, .int .i64 y]) ∧
    ((w.alloc (.cells #[.int .i64 x, .int .i64 y] 34)).alloc (.cells #[.int .i64 x, .int .i64 y] 35)).alloc (.cells #[.int .i64 x, .int .i64 y] 35) = w' := by
  go_enter Try.func20, Try.ntmps20
  go_wp2
  go_returns
  exact ⟨rfl, rfl⟩
end Go.Proofs.Ytdbecdgiafjkfaa
