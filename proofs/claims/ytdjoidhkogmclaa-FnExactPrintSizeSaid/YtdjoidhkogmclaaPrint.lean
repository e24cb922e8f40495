/-
  DERIVED. PRINTS: contracts, and the laws BleedBound, IsPrint, PlainPrint, ModuleBox, PrintSize.
-/
import Derived.Test.YtdjoidhkogmclaaNum
namespace Go.Proofs.Ytdjoidhkogmclaa
open Go.RowKit
set_option linter.unusedVariables false

theorem and7 (a b c d e f g : Bool) : a = false ∨ (a = true ∧ b = false) ∨ (a = true ∧ b = true ∧ c = false) ∨ (a = true ∧ b = true ∧ c = true ∧ d = false) ∨ (a = true ∧ b = true ∧ c = true ∧ d = true ∧ e = false) ∨
    (a = true ∧ b = true ∧ c = true ∧ d = true ∧ e = true ∧ f = false) ∨ (a = true ∧ b = true ∧ c = true ∧ d = true ∧ e = true ∧ f = true ∧ g = false) ∨ (a = true ∧ b = true ∧ c = true ∧ d = true ∧ e = true ∧ f = true ∧ g = true) := by
  cases a <;> cases b <;> cases c <;> cases d <;> cases e <;> cases f <;> cases g <;> simp

def printB (p t q b d l : Int) : Bool := inB p 1 12 && (inB t 1 12 && (inB q 0 16 && (inB b (1 - p) (p - 1) && (decide (0 ≤ d) && (decide (d < l) && decide (l ≤ 255))))))
theorem printB_of (p t q b d l : Int) (h1 : inB p 1 12 = true) (h2 : inB t 1 12 = true) (h3 : inB q 0 16 = true) (h4 : inB b (1 - p) (p - 1) = true) : printB p t q b d l = (inB d 0 255 && (inB l 0 255 && decide (d < l))) := by
  simp only [printB, h1, h2, h3, h4, Bool.true_and]
  rw [Bool.eq_iff_iff]; simp [inB]; omega
set_option maxHeartbeats 400000 in
theorem sGrey (n : Int) (w : World) : Calls Try.prog 50 #[.int .i64 n] w fun e w' => e = .returned (.bool (inB n 0 255)) ∧ w = w' := by
  go_enter Try.func50, Try.ntmps50
  go_wp2_with (go_at_call 48; refine (sIn _ _ _ _).mono ?_; rintro e w' ⟨rfl, rfl⟩)
  go_ret
  exact ⟨rfl, rfl⟩
set_option maxHeartbeats 2000000 in
theorem sIsPrint (p t q b d l : Int) (w : World) : Calls Try.prog 20 #[.agg #[.int .i64 p, .int .i64 t, .int .i64 q, .int .i64 b, .int .i64 d, .int .i64 l]] w fun e w' => e = .returned (.bool (printB p t q b d l)) ∧ Below w.heap.size w w' := by
  have hf : (inB p 1 12 = false ∨ inB t 1 12 = false ∨ inB q 0 16 = false ∨ inB b (1 - p) (p - 1) = false) → false = printB p t q b d l := by
    rintro (h | h | h | h) <;> simp [printB, h]
  have ht := printB_of p t q b d l
  have HF := Lib.hid hf
  have HT := Lib.hid ht
  clear hf ht
  rcases and7 (inB p 1 12) (inB t 1 12) (inB q 0 16) (inB b (1 - p) (p - 1)) (inB d 0 255) (inB l 0 255) (decide (d < l)) with h1 | ⟨h1, h2⟩ | ⟨h1, h2, h3⟩ | ⟨h1, h2, h3, h4⟩ | ⟨h1, h2, h3, h4, h5⟩ | ⟨h1, h2, h3, h4, h5, h6⟩ | ⟨h1, h2, h3, h4, h5, h6, h7⟩ | ⟨h1, h2, h3, h4, h5, h6, h7⟩
  all_goals
    try obtain ⟨_, _⟩ := inB_iff.1 h1
    go_enter Try.func20, Try.ntmps20
    go_wp2_with (first | (go_at_call 48; refine (sIn _ _ _ _).mono ?_; rintro e w' ⟨rfl, rfl⟩) | (go_at_call 50; refine (sGrey _ _).mono ?_; rintro e w' ⟨rfl, rfl⟩))
    go_returns
    refine ⟨ret_bool ?_, by repeat' (first | (with_reducible exact Below.refl _ _) | (with_reducible assumption) | (with_reducible refine Below.alloc ?_ ?_ _) | (with_reducible refine Below.setCell ?_ ?_ _) | (with_reducible refine Below.drew ?_) | (with_reducible refine below_drewN ?_ _) | (with_reducible refine below_via (by with_reducible assumption) ?_ ?_) | go_size)⟩
    first
      | (refine HF.out ?_; simp [*]; done)
      | (rw [HT.out h1 h2 h3 h4]; simp [*]; done)
set_option maxHeartbeats 2000000 in
theorem iIsPrint (p t q b d l : Int) (w : World) : Calls Try.prog 22 #[.agg #[.int .i64 p, .int .i64 t, .int .i64 q, .int .i64 b, .int .i64 d, .int .i64 l]] w fun e w' => e = .returned (.bool (printB p t q b d l)) ∧ Below w.heap.size w w' := by
  rcases and7 (inB p 1 12) (inB t 1 12) (inB q 0 16) (inB b (1 - p) (p - 1)) (decide (0 ≤ d)) (decide (d < l)) (decide (l ≤ 255)) with h1 | ⟨h1, h2⟩ | ⟨h1, h2, h3⟩ | ⟨h1, h2, h3, h4⟩ | ⟨h1, h2, h3, h4, h5⟩ | ⟨h1, h2, h3, h4, h5, h6⟩ | ⟨h1, h2, h3, h4, h5, h6, h7⟩ | ⟨h1, h2, h3, h4, h5, h6, h7⟩
  all_goals
    try obtain ⟨_, _⟩ := inB_iff.1 h1
    go_enter Try.func22, Try.ntmps22
    go_wp2_with (go_at_call 49; refine (iIn _ _ _ _).mono ?_; rintro e w' ⟨rfl, rfl⟩)
    go_returns
    refine ⟨ret_bool ?_, by repeat' (first | (with_reducible exact Below.refl _ _) | (with_reducible assumption) | (with_reducible refine Below.alloc ?_ ?_ _) | (with_reducible refine Below.setCell ?_ ?_ _) | (with_reducible refine Below.drew ?_) | (with_reducible refine below_drewN ?_ _) | (with_reducible refine below_via (by with_reducible assumption) ?_ ?_) | go_size)⟩
    simp [printB, *]
set_option maxHeartbeats 400000 in
theorem toPrint (p t q b d l : Int) (w : World) : Calls Try.prog 21 #[.agg #[.int .i64 p, .int .i64 t, .int .i64 q, .int .i64 b, .int .i64 d, .int .i64 l]] w fun e w' => e = .returned (.agg #[.int .i64 p, .int .i64 t, .int .i64 q, .int .i64 b, .int .i64 d, .int .i64 l]) ∧ Below w.heap.size w w' := by
  go_enter Try.func21, Try.ntmps21
  go_wp2
  go_returns
  exact ⟨rfl, by repeat' (first | (with_reducible exact Below.refl _ _) | (with_reducible assumption) | (with_reducible refine Below.alloc ?_ ?_ _) | (with_reducible refine Below.setCell ?_ ?_ _) | (with_reducible refine Below.drew ?_) | (with_reducible refine below_drewN ?_ _) | (with_reducible refine below_via (by with_reducible assumption) ?_ ?_) | go_size)⟩
set_option maxHeartbeats 400000 in
theorem walk_FnExactIsPrint (aX_Pitch : Int) (aX_Tall : Int) (aX_Quiet : Int) (aX_Bleed : Int) (aX_Dark : Int) (aX_Light : Int) (w : World) (f_aX_Pitch : (Lit.int .i64 aX_Pitch).wf = true) (f_aX_Tall : (Lit.int .i64 aX_Tall).wf = true) (f_aX_Quiet : (Lit.int .i64 aX_Quiet).wf = true) (f_aX_Bleed : (Lit.int .i64 aX_Bleed).wf = true) (f_aX_Dark : (Lit.int .i64 aX_Dark).wf = true) (f_aX_Light : (Lit.int .i64 aX_Light).wf = true) :
    Calls Try.prog 5 #[.agg #[.int .i64 aX_Pitch, .int .i64 aX_Tall, .int .i64 aX_Quiet, .int .i64 aX_Bleed, .int .i64 aX_Dark, .int .i64 aX_Light]] w fun e w' => e = .returned (.bool true) ∧ Below w.heap.size w w' := by
  clear f_aX_Pitch f_aX_Tall f_aX_Quiet f_aX_Bleed f_aX_Dark f_aX_Light
  go_enter Try.func5, Try.ntmps5
  go_wp2_with (first
    | (go_at_call 21; refine (toPrint _ _ _ _ _ _ _).mono ?_; rintro e w' ⟨rfl, hb⟩; obtain ⟨hc, hf⟩ := bcell hb; have hz := hb.size; (try simp at hz); have hz0 : w.heap.size < w'.heap.size := by omega)
    | (go_at_call 20; refine (sIsPrint _ _ _ _ _ _ _).mono ?_; rintro e w' ⟨rfl, hb⟩; obtain ⟨hc, hf⟩ := bcell hb; have hz := hb.size; (try simp at hz); have hz0 : w.heap.size < w'.heap.size := by omega)
    | (go_at_call 22; refine (iIsPrint _ _ _ _ _ _ _).mono ?_; rintro e w' ⟨rfl, hb⟩; obtain ⟨hc, hf⟩ := bcell hb; have hz := hb.size; (try simp at hz); have hz0 : w.heap.size < w'.heap.size := by omega))
  go_returns
  exact ⟨rfl, by repeat' (first | (with_reducible exact Below.refl _ _) | (with_reducible assumption) | (with_reducible refine Below.alloc ?_ ?_ _) | (with_reducible refine Below.setCell ?_ ?_ _) | (with_reducible refine Below.drew ?_) | (with_reducible refine below_drewN ?_ _) | (with_reducible refine below_via (by with_reducible assumption) ?_ ?_) | go_size)⟩
set_option maxHeartbeats 400000 in
theorem sPlainPrint (w : World) : Calls Try.prog 23 #[] w fun e w' => e = .returned (.agg #[.int .i64 3, .int .i64 3, .int .i64 4, .int .i64 0, .int .i64 0, .int .i64 255]) ∧ Below w.heap.size w w' := by
  go_enter Try.func23, Try.ntmps23
  go_wp2
  go_returns
  exact ⟨rfl, by repeat' (first | (with_reducible exact Below.refl _ _) | (with_reducible assumption) | (with_reducible refine Below.alloc ?_ ?_ _) | (with_reducible refine Below.setCell ?_ ?_ _) | (with_reducible refine Below.drew ?_) | (with_reducible refine below_drewN ?_ _) | (with_reducible refine below_via (by with_reducible assumption) ?_ ?_) | go_size)⟩
set_option maxHeartbeats 400000 in
theorem iPlainPrint (w : World) : Calls Try.prog 24 #[] w fun e w' => e = .returned (.agg #[.int .i64 3, .int .i64 3, .int .i64 4, .int .i64 0, .int .i64 0, .int .i64 255]) ∧ Below w.heap.size w w' := by
  go_enter Try.func24, Try.ntmps24
  go_wp2
  go_returns
  exact ⟨rfl, by repeat' (first | (with_reducible exact Below.refl _ _) | (with_reducible assumption) | (with_reducible refine Below.alloc ?_ ?_ _) | (with_reducible refine Below.setCell ?_ ?_ _) | (with_reducible refine Below.drew ?_) | (with_reducible refine below_drewN ?_ _) | (with_reducible refine below_via (by with_reducible assumption) ?_ ?_) | go_size)⟩
set_option maxHeartbeats 400000 in
theorem walk_FnExactPlainPrint  (w : World)  :
    Calls Try.prog 6 #[] w fun e w' => e = .returned (.bool true) ∧ Below w.heap.size w w' := by
  go_enter Try.func6, Try.ntmps6
  go_wp2_with (first
    | (go_at_call 23; refine (sPlainPrint _).mono ?_; rintro e w' ⟨rfl, hb⟩; obtain ⟨hc, hf⟩ := bcell hb; have hz := hb.size; (try simp at hz); have hz0 : w.heap.size < w'.heap.size := by omega; have hz1 : w.heap.size + 1 < w'.heap.size := by omega; have hz2 : w.heap.size + 2 < w'.heap.size := by omega)
    | (go_at_call 24; refine (iPlainPrint _).mono ?_; rintro e w' ⟨rfl, hb⟩; obtain ⟨hc, hf⟩ := bcell hb; have hz := hb.size; (try simp at hz); have hz0 : w.heap.size < w'.heap.size := by omega; have hz1 : w.heap.size + 1 < w'.heap.size := by omega; have hz2 : w.heap.size + 2 < w'.heap.size := by omega)
    | go_in)
  go_returns
  exact ⟨rfl, by repeat' (first | (with_reducible exact Below.refl _ _) | (with_reducible assumption) | (with_reducible refine Below.alloc ?_ ?_ _) | (with_reducible refine Below.setCell ?_ ?_ _) | (with_reducible refine Below.drew ?_) | (with_reducible refine below_drewN ?_ _) | (with_reducible refine below_via (by with_reducible assumption) ?_ ?_) | go_size)⟩
def bleedLo (p : Int) : Int := if inB p 1 12 = true then p / 2 + 1 - p else 0
def bleedHi (p : Int) : Int := if inB p 1 12 = true then p / 2 else 0
theorem bleedLo_yes {p : Int} (h : inB p 1 12 = true) : bleedLo p = p / 2 + 1 - p := if_pos h
theorem bleedHi_yes {p : Int} (h : inB p 1 12 = true) : bleedHi p = p / 2 := if_pos h
theorem bleedLo_no {p : Int} (h : inB p 1 12 = false) : bleedLo p = 0 := if_neg (by simp [h])
theorem bleedHi_no {p : Int} (h : inB p 1 12 = false) : bleedHi p = 0 := if_neg (by simp [h])
set_option maxHeartbeats 400000 in
theorem sBleed (p : Int) (w : World) : Calls Try.prog 18 #[.int .i64 p] w fun e w' => e = .returned (.tuple #[.int .i64 (bleedLo p), .int .i64 (bleedHi p)]) ∧ w = w' := by
  cases h : inB p 1 12
  · have H := Lib.hid (And.intro (bleedLo_no h) (bleedHi_no h))
    go_enter Try.func18, Try.ntmps18
    go_wp2_with (go_at_call 48; refine (sIn _ _ _ _).mono ?_; rintro e w' ⟨rfl, rfl⟩)
    go_ret2
    exact ⟨ret_ints2 H.out.1.symm H.out.2.symm, rfl⟩
  · obtain ⟨_, _⟩ := inB_iff.1 h
    have H := Lib.hid (And.intro (bleedLo_yes h) (bleedHi_yes h))
    go_enter Try.func18, Try.ntmps18
    go_wp2_with (go_at_call 48; refine (sIn _ _ _ _).mono ?_; rintro e w' ⟨rfl, rfl⟩)
    go_ret2
    exact ⟨ret_ints2 (by rw [H.out.1]; omega) (by rw [H.out.2]), rfl⟩
set_option maxHeartbeats 400000 in
theorem iBleed (p : Int) (w : World) : Calls Try.prog 19 #[.int .i64 p] w fun e w' => e = .returned (.tuple #[.int .i64 (bleedLo p), .int .i64 (bleedHi p)]) ∧ w = w' := by
  cases h : inB p 1 12
  · have H := Lib.hid (And.intro (bleedLo_no h) (bleedHi_no h))
    go_enter Try.func19, Try.ntmps19
    go_wp2_with (go_at_call 49; refine (iIn _ _ _ _).mono ?_; rintro e w' ⟨rfl, rfl⟩)
    go_ret2
    exact ⟨ret_ints2 H.out.1.symm H.out.2.symm, rfl⟩
  · obtain ⟨_, _⟩ := inB_iff.1 h
    have H := Lib.hid (And.intro (bleedLo_yes h) (bleedHi_yes h))
    go_enter Try.func19, Try.ntmps19
    go_wp2_with (go_at_call 49; refine (iIn _ _ _ _).mono ?_; rintro e w' ⟨rfl, rfl⟩)
    go_ret2
    exact ⟨ret_ints2 (by rw [H.out.1]) (by rw [H.out.2]), rfl⟩
set_option maxHeartbeats 400000 in
theorem walk_FnExactBleedBound (aPitch : Int) (w : World) (f_aPitch : (Lit.int .i64 aPitch).wf = true) :
    Calls Try.prog 4 #[.int .i64 aPitch] w fun e w' => e = .returned (.bool true) ∧ Below w.heap.size w w' := by
  clear f_aPitch
  go_enter Try.func4, Try.ntmps4
  go_wp2_with (first | (go_at_call 18; refine (sBleed _ _).mono ?_; rintro e w' ⟨rfl, rfl⟩) | (go_at_call 19; refine (iBleed _ _).mono ?_; rintro e w' ⟨rfl, rfl⟩))
  go_returns
  exact ⟨rfl, by repeat' (first | (with_reducible exact Below.refl _ _) | (with_reducible assumption) | (with_reducible refine Below.alloc ?_ ?_ _) | (with_reducible refine Below.setCell ?_ ?_ _) | (with_reducible refine Below.drew ?_) | (with_reducible refine below_drewN ?_ _) | (with_reducible refine below_via (by with_reducible assumption) ?_ ?_) | go_size)⟩
end Go.Proofs.Ytdjoidhkogmclaa
