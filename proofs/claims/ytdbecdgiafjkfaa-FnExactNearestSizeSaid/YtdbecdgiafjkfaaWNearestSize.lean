/-
  DERIVED. The walk of FnExactNearestSize.
-/
import Derived.Test.YtdbecdgiafjkfaaNear2
import Derived.Test.YtdbecdgiafjkfaaRast
namespace Go.Proofs.Ytdbecdgiafjkfaa
open Go.RowKit
set_option linter.unusedVariables false
theorem held_nearL (px py qx qy : Int) (w : World) : ∀ w', Below (w.heap.size + 2) ((w.alloc (.cells #[.int .i64 px, .int .i64 py] 34)).alloc (.cells #[.int .i64 qx, .int .i64 qy] 34)) w' → Below (w.heap.size + 2) ((w.alloc (.cells #[.int .i64 px, .int .i64 py] 34)).alloc (.cells #[.int .i64 qx, .int .i64 qy] 34)) w' ∧ w.heap.size < w'.heap.size ∧ w.heap.size + 1 < w'.heap.size ∧ w'.cell? ⟨w.heap.size, 0, none⟩ = some (.int .i64 px) ∧ w'.cell? ⟨w.heap.size, 1, none⟩ = some (.int .i64 py) ∧ w'.cell? ⟨w.heap.size + 1, 0, none⟩ = some (.int .i64 qx) ∧ w'.cell? ⟨w.heap.size + 1, 1, none⟩ = some (.int .i64 qy) := by
  intro w' h
  have hs := h.size
  simp at hs
  refine ⟨h, by omega, by omega, ?_, ?_, ?_, ?_⟩ <;> (refine (h.cell (p := ⟨_, _, none⟩) (by simp)).trans ?_; simp [go_sem])
set_option maxRecDepth 20000 in
set_option maxHeartbeats 8000000 in
theorem walk_FnExactNearestSize (aA_X : Int) (aA_Y : Int) (aB_X : Int) (aB_Y : Int) (aNum : Int) (aDen : Int) (aSizes_a : Option Addr) (aSizes_n aSizes_c : Nat) (aSizes_z : List Int) (w : World) (f_aA_X : (Lit.int .i64 aA_X).wf = true) (f_aA_Y : (Lit.int .i64 aA_Y).wf = true) (f_aB_X : (Lit.int .i64 aB_X).wf = true) (f_aB_Y : (Lit.int .i64 aB_Y).wf = true) (f_aNum : (Lit.int .i64 aNum).wf = true) (f_aDen : (Lit.int .i64 aDen).wf = true) (h_aSizes : Ints .i64 w aSizes_a aSizes_n aSizes_c aSizes_z) :
    Calls Try.prog 6 #[.agg #[.int .i64 aA_X, .int .i64 aA_Y], .agg #[.int .i64 aB_X, .int .i64 aB_Y], .int .i64 aNum, .int .i64 aDen, .slice aSizes_a aSizes_n aSizes_c] w fun e w' => e = .returned (.bool true) ∧ Below w.heap.size w w' := by
  have hm := h_aSizes.max
  have HR := Lib.hid h_aSizes.rd
  have hl := Lib.hid h_aSizes.1
  clear h_aSizes
  clear f_aA_X f_aA_Y f_aB_X f_aB_Y f_aNum f_aDen
  rcases Int.lt_or_le (1048576 : Int) aSizes_n with hbig | hsm
  · go_enter Try.func6, Try.ntmps6
    go_wp2
    go_returns
    exact ⟨rfl, by repeat' (first | (with_reducible exact Below.refl _ _) | (with_reducible assumption) | (with_reducible refine Below.alloc ?_ ?_ _) | (with_reducible refine Below.setCell ?_ ?_ _) | (with_reducible refine Below.drew ?_) | (with_reducible refine below_drewN ?_ _) | (with_reducible refine below_via (by with_reducible assumption) ?_ ?_) | go_size)⟩
  · have hn : aSizes_n ≤ 1048576 := by omega
    obtain ⟨o1, o2, hd⟩ : ∃ o1 o2, nearOut aA_X aA_Y aB_X aB_Y aNum aDen aSizes_n aSizes_z = (o1, o2) := ⟨_, _, rfl⟩
    have HD := Lib.hid hd
    clear hd
    have HS := Lib.hid (held_nearL aA_X aA_Y aB_X aB_Y w)
    go_enter Try.func6, Try.ntmps6
    go_wp2_with fail
    go_region_held3 (fun w' => Below (w.heap.size + 2) ((w.alloc (.cells #[.int .i64 aA_X, .int .i64 aA_Y] 34)).alloc (.cells #[.int .i64 aB_X, .int .i64 aB_Y] 34)) w' ∧ w.heap.size < w'.heap.size ∧ w.heap.size + 1 < w'.heap.size ∧ w'.cell? ⟨w.heap.size, 0, none⟩ = some (.int .i64 aA_X) ∧ w'.cell? ⟨w.heap.size, 1, none⟩ = some (.int .i64 aA_Y) ∧ w'.cell? ⟨w.heap.size + 1, 0, none⟩ = some (.int .i64 aB_X) ∧ w'.cell? ⟨w.heap.size + 1, 1, none⟩ = some (.int .i64 aB_Y)) (exact HS.out _ (by repeat' (first | (with_reducible exact Below.refl _ _) | (with_reducible assumption) | (with_reducible refine Below.alloc ?_ ?_ _) | (with_reducible refine Below.setCell ?_ ?_ _) | (with_reducible refine Below.drew ?_) | (with_reducible refine below_drewN ?_ _) | (with_reducible refine below_via (by with_reducible assumption) ?_ ?_) | go_size))) (first | (go_at_call 20; refine (toSpot _ _ _).mono ?_; rintro e w' ⟨rfl, hb⟩; obtain ⟨hc, hf⟩ := bcell hb; have hz := hb.size; (try simp at hz)) | (go_at_call 27; refine (toInts aSizes_a aSizes_n aSizes_c aSizes_z _ (HR.out.below (by repeat' (first | (with_reducible exact Below.refl _ _) | (with_reducible assumption) | (with_reducible refine Below.alloc ?_ ?_ _) | (with_reducible refine Below.setCell ?_ ?_ _) | (with_reducible refine Below.drew ?_) | (with_reducible refine below_drewN ?_ _) | (with_reducible refine below_via (by with_reducible assumption) ?_ ?_) | go_size))) hn).mono ?_; rintro e w' ⟨g2, rfl, hg2, hk2, hb⟩; have hz := hb.size; (try simp at hz)) | (go_at_call 26; refine (sNearestSize _ _ _ _ _ _ _ aSizes_n aSizes_n aSizes_z _ ((hk2.keep (by repeat' (first | (with_reducible exact Below.refl _ _) | (with_reducible assumption) | (with_reducible refine Below.alloc ?_ ?_ _) | (with_reducible refine Below.setCell ?_ ?_ _) | (with_reducible refine Below.drew ?_) | (with_reducible refine below_drewN ?_ _) | (with_reducible refine below_via (by with_reducible assumption) ?_ ?_) | go_size))).rd hl.out) hn o1 o2 HD.out).mono ?_; rintro e w' ⟨rfl, hb⟩; have hz := hb.size; (try simp at hz)))
    all_goals
      go_wp2_with fail
      refine (toInts aSizes_a aSizes_n aSizes_c aSizes_z _ (HR.out.below (by repeat' (first | (with_reducible exact Below.refl _ _) | (with_reducible assumption) | (with_reducible refine Below.alloc ?_ ?_ _) | (with_reducible refine Below.setCell ?_ ?_ _) | (with_reducible refine Below.drew ?_) | (with_reducible refine below_drewN ?_ _) | (with_reducible refine below_via (by with_reducible assumption) ?_ ?_) | go_size))) hn).mono ?_
      rintro e w4 ⟨g4, rfl, hg4, hk4, hb4⟩
      have hz4 := hb4.size; try simp at hz4
      go_wp2_with fail
      go_region_held3 (fun w' => Below (w.heap.size + 2) ((w.alloc (.cells #[.int .i64 aA_X, .int .i64 aA_Y] 34)).alloc (.cells #[.int .i64 aB_X, .int .i64 aB_Y] 34)) w' ∧ w.heap.size < w'.heap.size ∧ w.heap.size + 1 < w'.heap.size ∧ w'.cell? ⟨w.heap.size, 0, none⟩ = some (.int .i64 aA_X) ∧ w'.cell? ⟨w.heap.size, 1, none⟩ = some (.int .i64 aA_Y) ∧ w'.cell? ⟨w.heap.size + 1, 0, none⟩ = some (.int .i64 aB_X) ∧ w'.cell? ⟨w.heap.size + 1, 1, none⟩ = some (.int .i64 aB_Y)) (exact HS.out _ (by repeat' (first | (with_reducible exact Below.refl _ _) | (with_reducible assumption) | (with_reducible refine Below.alloc ?_ ?_ _) | (with_reducible refine Below.setCell ?_ ?_ _) | (with_reducible refine Below.drew ?_) | (with_reducible refine below_drewN ?_ _) | (with_reducible refine below_via (by with_reducible assumption) ?_ ?_) | go_size))) (first | (go_at_call 20; refine (toSpot _ _ _).mono ?_; rintro e w' ⟨rfl, hb⟩; obtain ⟨hc, hf⟩ := bcell hb; have hz := hb.size; (try simp at hz)) | (go_at_call 28; refine (iNearestSize _ _ _ _ _ _ _ aSizes_n aSizes_n aSizes_z _ ((hk4.keep (by repeat' (first | (with_reducible exact Below.refl _ _) | (with_reducible assumption) | (with_reducible refine Below.alloc ?_ ?_ _) | (with_reducible refine Below.setCell ?_ ?_ _) | (with_reducible refine Below.drew ?_) | (with_reducible refine below_drewN ?_ _) | (with_reducible refine below_via (by with_reducible assumption) ?_ ?_) | go_size))).rd hl.out) hn o1 o2 HD.out).mono ?_; rintro e w' ⟨rfl, hb⟩; have hz := hb.size; (try simp at hz)))
      all_goals
        go_wp2_with fail
        refine (toInts aSizes_a aSizes_n aSizes_c aSizes_z _ (HR.out.below (by repeat' (first | (with_reducible exact Below.refl _ _) | (with_reducible assumption) | (with_reducible refine Below.alloc ?_ ?_ _) | (with_reducible refine Below.setCell ?_ ?_ _) | (with_reducible refine Below.drew ?_) | (with_reducible refine below_drewN ?_ _) | (with_reducible refine below_via (by with_reducible assumption) ?_ ?_) | go_size))) hn).mono ?_
        rintro e w6 ⟨g6, rfl, hg6, hk6, hb6⟩
        have hz6 := hb6.size; try simp at hz6
        go_wp2_with fail
        refine (eqInts _ _ aSizes_n aSizes_n aSizes_n aSizes_n aSizes_z aSizes_z _ ((hk4.keep (by repeat' (first | (with_reducible exact Below.refl _ _) | (with_reducible assumption) | (with_reducible refine Below.alloc ?_ ?_ _) | (with_reducible refine Below.setCell ?_ ?_ _) | (with_reducible refine Below.drew ?_) | (with_reducible refine below_drewN ?_ _) | (with_reducible refine below_via (by with_reducible assumption) ?_ ?_) | go_size))).rd hl.out) (hk6.rd hl.out) hn hn).mono ?_
        rintro e w7 ⟨rfl, hb7⟩
        rw [show eqL aSizes_z aSizes_z = true by simp [eqL]]
        have hz7 := hb7.size; try simp at hz7
        go_wp2
        go_returns
        exact ⟨rfl, by repeat' (first | (with_reducible exact Below.refl _ _) | (with_reducible assumption) | (with_reducible refine Below.alloc ?_ ?_ _) | (with_reducible refine Below.setCell ?_ ?_ _) | (with_reducible refine Below.drew ?_) | (with_reducible refine below_drewN ?_ _) | (with_reducible refine below_via (by with_reducible assumption) ?_ ?_) | go_size)⟩
end Go.Proofs.Ytdbecdgiafjkfaa
