/-
  DERIVED. The walk of FnExactIsLayout.
-/
import Derived.Test.YtdpifddmhbeklaaLay2
namespace Go.Proofs.Ytdpifddmhbeklaa
open Go.RowKit
set_option linter.unusedVariables false
set_option maxHeartbeats 1000000 in
theorem toField (a b c : Int) (w : World) : Calls Try.prog 58 #[.agg #[.int .i64 a, .int .i64 b, .int .i64 c]] w fun e w' => e = .returned (.agg #[.int .i64 a, .int .i64 b, .int .i64 c]) ∧ Below w.heap.size w w' := by
  go_enter Try.func58, Try.ntmps58
  go_wp2
  go_returns
  exact ⟨rfl, by repeat' (first | (with_reducible exact Below.refl _ _) | (with_reducible assumption) | (with_reducible refine Below.alloc ?_ ?_ _) | (with_reducible refine Below.setCell ?_ ?_ _) | (with_reducible refine Below.drew ?_) | (with_reducible refine below_drewN ?_ _) | (with_reducible refine below_via (by with_reducible assumption) ?_ ?_) | go_size)⟩
theorem toFieldX (a b c : Int) (w : World) : Calls Try.prog 58 #[.agg #[.int .i64 a, .int .i64 b, .int .i64 c]] w fun e w' => e = .returned (.agg #[.int .i64 a, .int .i64 b, .int .i64 c]) ∧
    ((w.alloc (.cells #[.int .i64 a, .int .i64 b, .int .i64 c] 23)).alloc (.cells #[.int .i64 a, .int .i64 b, .int .i64 c] 27)).alloc (.cells #[.int .i64 a, .int .i64 b, .int .i64 c] 27) = w' := by
  go_enter Try.func58, Try.ntmps58
  go_wp2
  go_returns
  exact ⟨rfl, rfl⟩
set_option maxRecDepth 20000 in
set_option maxHeartbeats 2000000 in
theorem toLayout (p pw po d k c : Int) (w : World) : Calls Try.prog 15 #[.agg #[.int .i64 p, .int .i64 pw, .int .i64 po, .int .i64 d, .int .i64 k, .int .i64 c]] w fun e w' => e = .returned (.agg #[.int .i64 p, .int .i64 pw, .int .i64 po, .int .i64 d, .int .i64 k, .int .i64 c]) ∧ Below w.heap.size w w' := by
  go_enter Try.func15, Try.ntmps15
  go_wp2_with (go_at_call 58; refine (toFieldX _ _ _ _).mono ?_; rintro e w' ⟨rfl, rfl⟩)
  go_returns
  exact ⟨rfl, by repeat' (first | (with_reducible exact Below.refl _ _) | (with_reducible assumption) | (with_reducible refine Below.alloc ?_ ?_ _) | (with_reducible refine Below.setCell ?_ ?_ _) | (with_reducible refine Below.drew ?_) | (with_reducible refine below_drewN ?_ _) | (with_reducible refine below_via (by with_reducible assumption) ?_ ?_) | go_size)⟩
set_option maxRecDepth 20000 in
set_option maxHeartbeats 4000000 in
theorem walk_FnExactIsLayout (aL_Field_Prime : Int) (aL_Field_Power : Int) (aL_Field_Poly : Int) (aL_Data : Int) (aL_Checks : Int) (aL_Count : Int) (w : World) (f_aL_Field_Prime : (Lit.int .i64 aL_Field_Prime).wf = true) (f_aL_Field_Power : (Lit.int .i64 aL_Field_Power).wf = true) (f_aL_Field_Poly : (Lit.int .i64 aL_Field_Poly).wf = true) (f_aL_Data : (Lit.int .i64 aL_Data).wf = true) (f_aL_Checks : (Lit.int .i64 aL_Checks).wf = true) (f_aL_Count : (Lit.int .i64 aL_Count).wf = true) :
    Calls Try.prog 3 #[.agg #[.int .i64 aL_Field_Prime, .int .i64 aL_Field_Power, .int .i64 aL_Field_Poly, .int .i64 aL_Data, .int .i64 aL_Checks, .int .i64 aL_Count]] w fun e w' => e = .returned (.bool true) ∧ Below w.heap.size w w' := by
  clear f_aL_Field_Prime f_aL_Field_Power f_aL_Field_Poly f_aL_Data f_aL_Checks f_aL_Count
  obtain ⟨b, hb⟩ : ∃ b, layB aL_Field_Prime aL_Field_Power aL_Field_Poly aL_Data aL_Checks aL_Count = b := ⟨_, rfl⟩
  have HBB := Lib.hid hb
  clear hb
  go_enter Try.func3, Try.ntmps3
  go_wp2_with (first | (go_at_call 15; refine (toLayout _ _ _ _ _ _ _).mono ?_; rintro e w' ⟨rfl, hb⟩; obtain ⟨hc, hf⟩ := bcell hb; have hz := hb.size; (try simp at hz); have hz0 : w.heap.size < w'.heap.size := (by omega)) | (go_at_call 14; refine (sIsLayout _ _ _ _ _ _ _).mono ?_; rintro e w' ⟨rfl, hb⟩; rw [HBB.out]; obtain ⟨hc, hf⟩ := bcell hb; have hz := hb.size; (try simp at hz)) | (go_at_call 16; refine (iIsLayout _ _ _ _ _ _ _).mono ?_; rintro e w' ⟨rfl, hb⟩; rw [HBB.out]; obtain ⟨hc, hf⟩ := bcell hb; have hz := hb.size; (try simp at hz)))
  go_returns
  exact ⟨rfl, by repeat' (first | (with_reducible exact Below.refl _ _) | (with_reducible assumption) | (with_reducible refine Below.alloc ?_ ?_ _) | (with_reducible refine Below.setCell ?_ ?_ _) | (with_reducible refine Below.drew ?_) | (with_reducible refine below_drewN ?_ _) | (with_reducible refine below_via (by with_reducible assumption) ?_ ?_) | go_size)⟩
end Go.Proofs.Ytdpifddmhbeklaa
