/-
  DERIVED. ModuleBox, PrintSize: contracts and laws.
-/
import Derived.Test.YtfiddbmjgncabaaPrint
import Derived.Test.YtfiddbmjgncabaaSize
import Derived.IntWalk
namespace Go.Proofs.Ytfiddbmjgncabaa
open Go.RowKit
set_option linter.unusedVariables false

def boxB (p t q b d l row col : Int) : Bool := printB p t q b d l && (inB row 0 400 && inB col 0 400)
def boxE (p t q b d l row col : Int) : Int := selI (printB p t q b d l) (selI (inB row 0 400 && inB col 0 400) 0 2) 1
theorem quiet_of_print {p t q b d l : Int} (h : printB p t q b d l = true) : 1 ≤ p ∧ p ≤ 12 ∧ 1 ≤ t ∧ t ≤ 12 ∧ 0 ≤ q ∧ q ≤ 16 := by
  simp [printB, inB] at h; omega
theorem printCases (p t q b d l : Int) : printB p t q b d l = false ∨ (printB p t q b d l = true ∧ 1 ≤ p ∧ p ≤ 12 ∧ 1 ≤ t ∧ t ≤ 12 ∧ 0 ≤ q ∧ q ≤ 16) := by
  cases h : printB p t q b d l
  · exact .inl rfl
  · exact .inr ⟨rfl, quiet_of_print h⟩
theorem ret5 {a b c d e a' b' c' d' e' : Int} (h1 : a = a') (h2 : b = b') (h3 : c = c') (h4 : d = d') (h5 : e = e') :
    Ending.returned (.tuple #[.int .i64 a, .int .i64 b, .int .i64 c, .int .i64 d, .int .i64 e]) = .returned (.tuple #[.int .i64 a', .int .i64 b', .int .i64 c', .int .i64 d', .int .i64 e']) := by rw [h1, h2, h3, h4, h5]
set_option maxHeartbeats 2000000 in
theorem iBox (p t q b d l row col : Int) (w : World) : Calls Try.prog 32 #[.agg #[.int .i64 p, .int .i64 t, .int .i64 q, .int .i64 b, .int .i64 d, .int .i64 l], .int .i64 row, .int .i64 col] w fun e w' =>
    e = .returned (.tuple #[.int .i64 (selI (boxB p t q b d l row col) (wrap64 ((row + q) * t)) 0), .int .i64 (selI (boxB p t q b d l row col) (wrap64 ((col + q) * p)) 0), .int .i64 (selI (boxB p t q b d l row col) t 0), .int .i64 (selI (boxB p t q b d l row col) p 0), .int .i64 (boxE p t q b d l row col)]) ∧ Below w.heap.size w w' := by
  rcases printCases p t q b d l with h1 | ⟨h1, _, _, _, _, _, _⟩ <;> rcases inCases row 0 400 with h2 | ⟨h2, _, _⟩ <;> rcases inCases col 0 400 with h3 | ⟨h3, _, _⟩
  rotate_right
  · have e1 : IntKind.i64.wrap (row + q) = row + q := IntWalk.i64_in _ (by omega)
    have e2 : IntKind.i64.wrap (col + q) = col + q := IntWalk.i64_in _ (by omega)
    go_enter Try.func32, Try.ntmps32
    go_wp2_with (first | (go_at_call 65; refine (iIsPrint _ _ _ _ _ _ _).mono ?_; rintro e w' ⟨rfl, hb⟩; obtain ⟨hc, hf⟩ := bcell hb; have hz := hb.size; (try simp at hz); have hz0 : w.heap.size < w'.heap.size := (by omega)) | (go_at_call 80; refine (iIn _ _ _ _).mono ?_; rintro e w' ⟨rfl, rfl⟩))
    go_quiet (fail)
    go_wp2
    refine bodyPost_ret (results_tmp5 rfl _ _ _) rfl ?_
    exact ⟨ret5 (by simp [boxB, selI, *]) (by simp [boxB, selI, *]) (by simp [boxB, selI, *]) (by simp [boxB, selI, *]) (by simp [boxE, selI, *]), by repeat' (first | (with_reducible exact Below.refl _ _) | (with_reducible assumption) | (with_reducible refine Below.alloc ?_ ?_ _) | (with_reducible refine Below.setCell ?_ ?_ _) | (with_reducible refine Below.drew ?_) | (with_reducible refine below_drewN ?_ _) | (with_reducible refine below_via (by with_reducible assumption) ?_ ?_) | go_size)⟩
  all_goals
    go_enter Try.func32, Try.ntmps32
    go_wp2_with (first | (go_at_call 65; refine (iIsPrint _ _ _ _ _ _ _).mono ?_; rintro e w' ⟨rfl, hb⟩; obtain ⟨hc, hf⟩ := bcell hb; have hz := hb.size; (try simp at hz); have hz0 : w.heap.size < w'.heap.size := (by omega)) | (go_at_call 80; refine (iIn _ _ _ _).mono ?_; rintro e w' ⟨rfl, rfl⟩))
    refine bodyPost_ret (results_tmp5 rfl _ _ _) rfl ?_
    exact ⟨ret5 (by simp [boxB, selI, *]) (by simp [boxB, selI, *]) (by simp [boxB, selI, *]) (by simp [boxB, selI, *]) (by simp [boxE, selI, *]), by repeat' (first | (with_reducible exact Below.refl _ _) | (with_reducible assumption) | (with_reducible refine Below.alloc ?_ ?_ _) | (with_reducible refine Below.setCell ?_ ?_ _) | (with_reducible refine Below.drew ?_) | (with_reducible refine below_drewN ?_ _) | (with_reducible refine below_via (by with_reducible assumption) ?_ ?_) | go_size)⟩
/-- The rows of a print of 'rows' rows (tall modules), and the columns likewise. -/
def sideV (n q t : Int) : Int := wrap64 ((n + 2 * q) * t)
def psB (p t q b d l rows cols : Int) : Bool := printB p t q b d l && ((inB rows 1 400 && inB cols 1 400) && sizeB (sideV rows q t) (sideV cols q p))
def psE (p t q b d l rows cols : Int) : Int := selI (printB p t q b d l) (selI (inB rows 1 400 && inB cols 1 400) (selI (sizeB (sideV rows q t) (sideV cols q p)) 0 3) 2) 1
theorem sideV_eq (n q t : Int) : wrap64 ((n + 2 * q) * t) = sideV n q t := rfl
set_option maxHeartbeats 1000000 in
theorem sPS (rows cols p t q b d l : Int) (w : World) : Calls Try.prog 62 #[.int .i64 rows, .int .i64 cols, .agg #[.int .i64 p, .int .i64 t, .int .i64 q, .int .i64 b, .int .i64 d, .int .i64 l]] w fun e w' =>
    e = .returned (.tuple #[.int .i64 (selI (psB p t q b d l rows cols) (sideV rows q t) 0), .int .i64 (selI (psB p t q b d l rows cols) (sideV cols q p) 0), .int .i64 (psE p t q b d l rows cols)]) ∧ Below w.heap.size w w' := by
  rcases printCases p t q b d l with h1 | ⟨h1, _, _, _, _, _, _⟩ <;> rcases inCases rows 1 400 with h2 | ⟨h2, _, _⟩ <;> rcases inCases cols 1 400 with h3 | ⟨h3, _, _⟩
  rotate_right
  · have e1 : IntKind.i64.wrap (2 * q) = 2 * q := IntWalk.i64_in _ (by omega)
    have e2 : IntKind.i64.wrap (rows + 2 * q) = rows + 2 * q := IntWalk.i64_in _ (by omega)
    have e3 : IntKind.i64.wrap (cols + 2 * q) = cols + 2 * q := IntWalk.i64_in _ (by omega)
    cases h4 : sizeB (sideV rows q t) (sideV cols q p)
    all_goals
      go_enter Try.func62, Try.ntmps62
      go_wp2_with (first | (go_at_call 61; refine (sIsPrint _ _ _ _ _ _ _).mono ?_; rintro e w' ⟨rfl, hb⟩; obtain ⟨hc, hf⟩ := bcell hb; have hz := hb.size; (try simp at hz); have hz0 : w.heap.size < w'.heap.size := (by omega)) | (go_at_call 95; refine (sIn _ _ _ _).mono ?_; rintro e w' ⟨rfl, rfl⟩))
      go_quiet (fail)
      go_wp2_with fail
      rw [sideV_eq, sideV_eq]
      refine (sSize _ _ _).mono ?_
      rintro e w' ⟨rfl, rfl⟩
      go_wp2
      try go_quiet (fail)
      try go_wp2
      go_returns
      exact ⟨ret_ints3 (by simp [psB, selI, *]) (by simp [psB, selI, *]) (by simp [psE, selI, *]), by repeat' (first | (with_reducible exact Below.refl _ _) | (with_reducible assumption) | (with_reducible refine Below.alloc ?_ ?_ _) | (with_reducible refine Below.setCell ?_ ?_ _) | (with_reducible refine Below.drew ?_) | (with_reducible refine below_drewN ?_ _) | (with_reducible refine below_via (by with_reducible assumption) ?_ ?_) | go_size)⟩
  all_goals
    go_enter Try.func62, Try.ntmps62
    go_wp2_with (first | (go_at_call 61; refine (sIsPrint _ _ _ _ _ _ _).mono ?_; rintro e w' ⟨rfl, hb⟩; obtain ⟨hc, hf⟩ := bcell hb; have hz := hb.size; (try simp at hz); have hz0 : w.heap.size < w'.heap.size := (by omega)) | (go_at_call 95; refine (sIn _ _ _ _).mono ?_; rintro e w' ⟨rfl, rfl⟩))
    go_returns
    exact ⟨ret_ints3 (by simp [psB, selI, *]) (by simp [psB, selI, *]) (by simp [psE, selI, *]), by repeat' (first | (with_reducible exact Below.refl _ _) | (with_reducible assumption) | (with_reducible refine Below.alloc ?_ ?_ _) | (with_reducible refine Below.setCell ?_ ?_ _) | (with_reducible refine Below.drew ?_) | (with_reducible refine below_drewN ?_ _) | (with_reducible refine below_via (by with_reducible assumption) ?_ ?_) | go_size)⟩
set_option maxHeartbeats 1000000 in
theorem iSizeOf (p t q b d l rows cols : Int) (w : World) (h1 : 0 ≤ q) (h2 : q ≤ 16) (h3 : 1 ≤ rows) (h4 : rows ≤ 400) (h5 : 1 ≤ cols) (h6 : cols ≤ 400) :
    Calls Try.prog 74 #[.agg #[.int .i64 p, .int .i64 t, .int .i64 q, .int .i64 b, .int .i64 d, .int .i64 l], .int .i64 rows, .int .i64 cols] w fun e w' =>
    e = .returned (.agg #[.int .i64 (sideV rows q t), .int .i64 (sideV cols q p)]) ∧ Below w.heap.size w w' := by
  have e1 : IntKind.i64.wrap (2 * q) = 2 * q := IntWalk.i64_in _ (by omega)
  have e2 : IntKind.i64.wrap (rows + 2 * q) = rows + 2 * q := IntWalk.i64_in _ (by omega)
  have e3 : IntKind.i64.wrap (cols + 2 * q) = cols + 2 * q := IntWalk.i64_in _ (by omega)
  go_enter Try.func74, Try.ntmps74
  go_wp2
  try go_quiet (fail)
  go_wp2
  go_returns
  exact ⟨rfl, by repeat' (first | (with_reducible exact Below.refl _ _) | (with_reducible assumption) | (with_reducible refine Below.alloc ?_ ?_ _) | (with_reducible refine Below.setCell ?_ ?_ _) | (with_reducible refine Below.drew ?_) | (with_reducible refine below_drewN ?_ _) | (with_reducible refine below_via (by with_reducible assumption) ?_ ?_) | go_size)⟩
set_option maxHeartbeats 1000000 in
theorem iFits (r c : Int) (w : World) : Calls Try.prog 107 #[.agg #[.int .i64 r, .int .i64 c]] w fun e w' => e = .returned (.bool (sizeB r c)) ∧ Below w.heap.size w w' := by
  go_enter Try.func107, Try.ntmps107
  go_wp2_with (go_at_call 106; refine (iSize _ _ _).mono ?_; rintro e w' ⟨rfl, rfl⟩)
  go_returns
  exact ⟨rfl, by repeat' (first | (with_reducible exact Below.refl _ _) | (with_reducible assumption) | (with_reducible refine Below.alloc ?_ ?_ _) | (with_reducible refine Below.setCell ?_ ?_ _) | (with_reducible refine Below.drew ?_) | (with_reducible refine below_drewN ?_ _) | (with_reducible refine below_via (by with_reducible assumption) ?_ ?_) | go_size)⟩
set_option maxHeartbeats 1000000 in
theorem iPS (rows cols p t q b d l : Int) (w : World) : Calls Try.prog 66 #[.int .i64 rows, .int .i64 cols, .agg #[.int .i64 p, .int .i64 t, .int .i64 q, .int .i64 b, .int .i64 d, .int .i64 l]] w fun e w' =>
    e = .returned (.tuple #[.int .i64 (selI (psB p t q b d l rows cols) (sideV rows q t) 0), .int .i64 (selI (psB p t q b d l rows cols) (sideV cols q p) 0), .int .i64 (psE p t q b d l rows cols)]) ∧ Below w.heap.size w w' := by
  rcases printCases p t q b d l with h1 | ⟨h1, _, _, _, _, _, _⟩ <;> rcases inCases rows 1 400 with h2 | ⟨h2, _, _⟩ <;> rcases inCases cols 1 400 with h3 | ⟨h3, _, _⟩
  rotate_right
  · cases h4 : sizeB (sideV rows q t) (sideV cols q p)
    all_goals
      go_enter Try.func66, Try.ntmps66
      go_wp2_with (first | (go_at_call 65; refine (iIsPrint _ _ _ _ _ _ _).mono ?_; rintro e w' ⟨rfl, hb⟩; obtain ⟨hc, hf⟩ := bcell hb; have hz := hb.size; (try simp at hz); have hz0 : w.heap.size < w'.heap.size := (by omega)) | (go_at_call 80; refine (iIn _ _ _ _).mono ?_; rintro e w' ⟨rfl, rfl⟩) | (go_at_call 74; go_call (iSizeOf p t q b d l rows cols _) as e w' ⟨rfl, hb⟩; obtain ⟨hc, hf⟩ := bcell hb; have hz := hb.size; (try simp at hz); have hz0 : w.heap.size < w'.heap.size := (by omega)) | (go_at_call 107; refine (iFits _ _ _).mono ?_; rintro e w' ⟨rfl, hb⟩; obtain ⟨hc, hf⟩ := bcell hb; have hz := hb.size; (try simp at hz); have hz0 : w.heap.size < w'.heap.size := (by omega)))
      try go_quiet (fail)
      try go_wp2
      go_returns
      exact ⟨ret_ints3 (by simp [psB, selI, *]) (by simp [psB, selI, *]) (by simp [psE, selI, *]), by repeat' (first | (with_reducible exact Below.refl _ _) | (with_reducible assumption) | (with_reducible refine Below.alloc ?_ ?_ _) | (with_reducible refine Below.setCell ?_ ?_ _) | (with_reducible refine Below.drew ?_) | (with_reducible refine below_drewN ?_ _) | (with_reducible refine below_via (by with_reducible assumption) ?_ ?_) | go_size)⟩
  all_goals
    go_enter Try.func66, Try.ntmps66
    go_wp2_with (first | (go_at_call 65; refine (iIsPrint _ _ _ _ _ _ _).mono ?_; rintro e w' ⟨rfl, hb⟩; obtain ⟨hc, hf⟩ := bcell hb; have hz := hb.size; (try simp at hz); have hz0 : w.heap.size < w'.heap.size := (by omega)) | (go_at_call 80; refine (iIn _ _ _ _).mono ?_; rintro e w' ⟨rfl, rfl⟩))
    go_returns
    exact ⟨ret_ints3 (by simp [psB, selI, *]) (by simp [psB, selI, *]) (by simp [psE, selI, *]), by repeat' (first | (with_reducible exact Below.refl _ _) | (with_reducible assumption) | (with_reducible refine Below.alloc ?_ ?_ _) | (with_reducible refine Below.setCell ?_ ?_ _) | (with_reducible refine Below.drew ?_) | (with_reducible refine below_drewN ?_ _) | (with_reducible refine below_via (by with_reducible assumption) ?_ ?_) | go_size)⟩
end Go.Proofs.Ytfiddbmjgncabaa
