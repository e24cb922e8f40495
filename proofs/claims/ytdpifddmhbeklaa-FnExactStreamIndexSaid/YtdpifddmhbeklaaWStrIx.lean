/-
  DERIVED. The walk of FnExactStreamIndex.
-/
import Derived.Test.YtdpifddmhbeklaaStrZ
import Derived.Test.YtdpifddmhbeklaaLayQ
namespace Go.Proofs.Ytdpifddmhbeklaa
open Go.RowKit
set_option linter.unusedVariables false
theorem strBoth (p pw po d chk c b e : Int) : ∃ r1 r2 : Int,
    (∀ w, Calls Try.prog 17 #[.agg #[.int .i64 p, .int .i64 pw, .int .i64 po, .int .i64 d, .int .i64 chk, .int .i64 c], .int .i64 b, .int .i64 e] w fun x w' => x = .returned (.tuple #[.int .i64 r1, .int .i64 r2]) ∧ Below w.heap.size w w') ∧
    (∀ w, Calls Try.prog 18 #[.agg #[.int .i64 p, .int .i64 pw, .int .i64 po, .int .i64 d, .int .i64 chk, .int .i64 c], .int .i64 b, .int .i64 e] w fun x w' => x = .returned (.tuple #[.int .i64 r1, .int .i64 r2]) ∧ Below w.heap.size w w') := by
  cases h : layB p pw po d chk c
  · exact ⟨0, 1, fun w => sStrNo p pw po d chk c b e w h, fun w => iStrNo p pw po d chk c b e w h⟩
  · obtain ⟨c1, c16, c2, d2, k1, k2, -⟩ := layB_true h
    obtain ⟨C, hC⟩ : ∃ C : Nat, c = (C : Int) := ⟨c.toNat, by omega⟩
    obtain ⟨K, hK⟩ : ∃ K : Nat, chk = (K : Int) := ⟨chk.toNat, by omega⟩
    have hm := mem_ord' (k := K) hC c1 c2 d2 b e
    cases h1 : inB b 0 (c - 1)
    · have hn : (b, e) ∉ ordL d c C K := fun h3 => by
        have := hm.1 h3
        rcases inB_no h1 with h4 | h4 <;> omega
      have hv : ixV (ordL d c C K) b e = (0, 2) := by unfold ixV; rw [if_neg hn]
      exact ⟨0, 2, fun w => (sStrIx p pw po d chk c b e C K w h hC hK).mono fun x w' hx => by rw [hv] at hx; exact hx, fun w => iStrOut1 p pw po d chk c b e w h h1⟩
    · cases h2 : inB e 0 (shareZ d c b + chk - 1)
      · have hn : (b, e) ∉ ordL d c C K := fun h3 => by
          have := hm.1 h3
          rcases inB_no h2 with h4 | h4 <;> omega
        have hv : ixV (ordL d c C K) b e = (0, 2) := by unfold ixV; rw [if_neg hn]
        exact ⟨0, 2, fun w => (sStrIx p pw po d chk c b e C K w h hC hK).mono fun x w' hx => by rw [hv] at hx; exact hx, fun w => iStrOut2 p pw po d chk c b e w h h1 h2⟩
      · have hn : (b, e) ∈ ordL d c C K := by
          have a1 := inB_iff.1 h1
          have a2 := inB_iff.1 h2
          exact hm.2 ⟨by omega, by omega, by omega, by omega⟩
        have hv : ixV (ordL d c C K) b e = (((ordAt (b, e) (ordL d c C K) : Nat) : Int), 0) := by unfold ixV; rw [if_pos hn]
        exact ⟨_, _, fun w => (sStrIx p pw po d chk c b e C K w h hC hK).mono fun x w' hx => by rw [hv] at hx; exact hx, fun w => iStrIn p pw po d chk c b e C K w h h1 h2 hC hK⟩
set_option maxRecDepth 20000 in
set_option maxHeartbeats 4000000 in
theorem walk_FnExactStreamIndex (aL_Field_Prime : Int) (aL_Field_Power : Int) (aL_Field_Poly : Int) (aL_Data : Int) (aL_Checks : Int) (aL_Count : Int) (aBlock : Int) (aElement : Int) (w : World) (f_aL_Field_Prime : (Lit.int .i64 aL_Field_Prime).wf = true) (f_aL_Field_Power : (Lit.int .i64 aL_Field_Power).wf = true) (f_aL_Field_Poly : (Lit.int .i64 aL_Field_Poly).wf = true) (f_aL_Data : (Lit.int .i64 aL_Data).wf = true) (f_aL_Checks : (Lit.int .i64 aL_Checks).wf = true) (f_aL_Count : (Lit.int .i64 aL_Count).wf = true) (f_aBlock : (Lit.int .i64 aBlock).wf = true) (f_aElement : (Lit.int .i64 aElement).wf = true) :
    Calls Try.prog 4 #[.agg #[.int .i64 aL_Field_Prime, .int .i64 aL_Field_Power, .int .i64 aL_Field_Poly, .int .i64 aL_Data, .int .i64 aL_Checks, .int .i64 aL_Count], .int .i64 aBlock, .int .i64 aElement] w fun e w' => e = .returned (.bool true) ∧ Below w.heap.size w w' := by
  clear f_aL_Field_Prime f_aL_Field_Power f_aL_Field_Poly f_aL_Data f_aL_Checks f_aL_Count f_aBlock f_aElement
  obtain ⟨r1, r2, hs, hi⟩ := strBoth aL_Field_Prime aL_Field_Power aL_Field_Poly aL_Data aL_Checks aL_Count aBlock aElement
  have HS := Lib.hid hs
  have HI := Lib.hid hi
  have t1 : (r1 != r1) = false := by simp
  have t2 : (r2 != r2) = false := by simp
  clear hs hi
  go_enter Try.func4, Try.ntmps4
  go_wp2_with (first | (go_at_call 15; refine (toLayout _ _ _ _ _ _ _).mono ?_; rintro e w' ⟨rfl, hb⟩; obtain ⟨hc, hf⟩ := bcell hb; have hz := hb.size; (try simp at hz); have hz0 : w.heap.size < w'.heap.size := (by omega)) | (go_at_call 17; refine (HS.out _).mono ?_; rintro e w' ⟨rfl, hb⟩; obtain ⟨hc, hf⟩ := bcell hb; have hz := hb.size; (try simp at hz)) | (go_at_call 18; refine (HI.out _).mono ?_; rintro e w' ⟨rfl, hb⟩; obtain ⟨hc, hf⟩ := bcell hb; have hz := hb.size; (try simp at hz)))
  go_returns
  exact ⟨rfl, by repeat' (first | (with_reducible exact Below.refl _ _) | (with_reducible assumption) | (with_reducible refine Below.alloc ?_ ?_ _) | (with_reducible refine Below.setCell ?_ ?_ _) | (with_reducible refine Below.drew ?_) | (with_reducible refine below_drewN ?_ _) | (with_reducible refine below_via (by with_reducible assumption) ?_ ?_) | go_size)⟩
end Go.Proofs.Ytdpifddmhbeklaa
