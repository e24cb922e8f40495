/-
  DERIVED. The walk of FnExactBurstBound.
-/
import Derived.Test.YtdpifddmhbeklaaBurI
import Derived.Test.YtdpifddmhbeklaaLayQ
namespace Go.Proofs.Ytdpifddmhbeklaa
open Go.RowKit
set_option linter.unusedVariables false
theorem burBoth (p pw po d chk c : Int) : ∃ r1 r2 : Int,
    (∀ w, Calls Try.prog 19 #[.agg #[.int .i64 p, .int .i64 pw, .int .i64 po, .int .i64 d, .int .i64 chk, .int .i64 c]] w fun x w' => x = .returned (.tuple #[.int .i64 r1, .int .i64 r2]) ∧ Below w.heap.size w w') ∧
    (∀ w, Calls Try.prog 20 #[.agg #[.int .i64 p, .int .i64 pw, .int .i64 po, .int .i64 d, .int .i64 chk, .int .i64 c]] w fun x w' => x = .returned (.tuple #[.int .i64 r1, .int .i64 r2]) ∧ Below w.heap.size w w') := by
  cases h : layB p pw po d chk c
  · exact ⟨0, 1, fun w => sBurNo p pw po d chk c w h, fun w => iBurNo p pw po d chk c w h⟩
  · obtain ⟨c1, c16, c2, d2, k1, k2, -⟩ := layB_true h
    obtain ⟨C, hC⟩ : ∃ C : Nat, c = (C : Int) := ⟨c.toNat, by omega⟩
    obtain ⟨K, hK⟩ : ∃ K : Nat, chk = (K : Int) := ⟨chk.toNat, by omega⟩
    have hs := fun w => sBurst p pw po d chk c C K w h hC hK
    have hi := fun w => iBurst p pw po d chk c C K w h hC hK
    by_cases hx : ∃ R, Bnd (fst' (ordL d c C K)) (chk / 2) (ordL d c C K).length R
    · obtain ⟨R, hR⟩ := hx
      exact ⟨R, 0, fun w => (hs w).mono fun x w' ⟨R', h1, h2, h3⟩ => by rw [hR.uniq h1]; exact ⟨h2, h3⟩, fun w => (hi w).mono fun x w' ⟨R', h1, h2, h3⟩ => by rw [hR.uniq h1]; exact ⟨h2, h3⟩⟩
    · exact ⟨0, 0, fun w => (hs w).mono fun x w' ⟨R', h1, h2, h3⟩ => absurd ⟨R', h1⟩ hx, fun w => (hi w).mono fun x w' ⟨R', h1, h2, h3⟩ => absurd ⟨R', h1⟩ hx⟩
set_option maxRecDepth 20000 in
set_option maxHeartbeats 4000000 in
theorem walk_FnExactBurstBound (aL_Field_Prime : Int) (aL_Field_Power : Int) (aL_Field_Poly : Int) (aL_Data : Int) (aL_Checks : Int) (aL_Count : Int) (w : World) (f_aL_Field_Prime : (Lit.int .i64 aL_Field_Prime).wf = true) (f_aL_Field_Power : (Lit.int .i64 aL_Field_Power).wf = true) (f_aL_Field_Poly : (Lit.int .i64 aL_Field_Poly).wf = true) (f_aL_Data : (Lit.int .i64 aL_Data).wf = true) (f_aL_Checks : (Lit.int .i64 aL_Checks).wf = true) (f_aL_Count : (Lit.int .i64 aL_Count).wf = true) :
    Calls Try.prog 5 #[.agg #[.int .i64 aL_Field_Prime, .int .i64 aL_Field_Power, .int .i64 aL_Field_Poly, .int .i64 aL_Data, .int .i64 aL_Checks, .int .i64 aL_Count]] w fun e w' => e = .returned (.bool true) ∧ Below w.heap.size w w' := by
  clear f_aL_Field_Prime f_aL_Field_Power f_aL_Field_Poly f_aL_Data f_aL_Checks f_aL_Count
  obtain ⟨r1, r2, hs, hi⟩ := burBoth aL_Field_Prime aL_Field_Power aL_Field_Poly aL_Data aL_Checks aL_Count
  have HS := Lib.hid hs
  have HI := Lib.hid hi
  have t1 : (r1 != r1) = false := by simp
  have t2 : (r2 != r2) = false := by simp
  clear hs hi
  go_enter Try.func5, Try.ntmps5
  go_wp2_with (first | (go_at_call 15; refine (toLayout _ _ _ _ _ _ _).mono ?_; rintro e w' ⟨rfl, hb⟩; obtain ⟨hc, hf⟩ := bcell hb; have hz := hb.size; (try simp at hz); have hz0 : w.heap.size < w'.heap.size := (by omega)) | (go_at_call 19; refine (HS.out _).mono ?_; rintro e w' ⟨rfl, hb⟩; obtain ⟨hc, hf⟩ := bcell hb; have hz := hb.size; (try simp at hz)) | (go_at_call 20; refine (HI.out _).mono ?_; rintro e w' ⟨rfl, hb⟩; obtain ⟨hc, hf⟩ := bcell hb; have hz := hb.size; (try simp at hz)))
  go_returns
  exact ⟨rfl, by repeat' (first | (with_reducible exact Below.refl _ _) | (with_reducible assumption) | (with_reducible refine Below.alloc ?_ ?_ _) | (with_reducible refine Below.setCell ?_ ?_ _) | (with_reducible refine Below.drew ?_) | (with_reducible refine below_drewN ?_ _) | (with_reducible refine below_via (by with_reducible assumption) ?_ ?_) | go_size)⟩
end Go.Proofs.Ytdpifddmhbeklaa
