/-
  DERIVED. StreamIndex: impl.
-/
import Derived.Test.YtdpifddmhbeklaaStrX
namespace Go.Proofs.Ytdpifddmhbeklaa
open Go.RowKit Go.Shelf
set_option linter.unusedVariables false
theorem held_si (p pw po d chk c b e : Int) (w : World) : ∀ w', Below (w.heap.size + 3) (((w.alloc (.cells #[.int .i64 p, .int .i64 pw, .int .i64 po, .int .i64 d, .int .i64 chk, .int .i64 c] 29)).alloc (.cells #[.int .i64 b] 2)).alloc (.cells #[.int .i64 e] 2)) w' → Below (w.heap.size + 3) (((w.alloc (.cells #[.int .i64 p, .int .i64 pw, .int .i64 po, .int .i64 d, .int .i64 chk, .int .i64 c] 29)).alloc (.cells #[.int .i64 b] 2)).alloc (.cells #[.int .i64 e] 2)) w' ∧ w.heap.size < w'.heap.size ∧ w.heap.size + 1 < w'.heap.size ∧ w.heap.size + 1 + 1 < w'.heap.size ∧ w'.cell? ⟨w.heap.size, 0, none⟩ = some (.int .i64 p) ∧ w'.cell? ⟨w.heap.size, 1, none⟩ = some (.int .i64 pw) ∧ w'.cell? ⟨w.heap.size, 2, none⟩ = some (.int .i64 po) ∧ w'.cell? ⟨w.heap.size, 3, none⟩ = some (.int .i64 d) ∧ w'.cell? ⟨w.heap.size, 4, none⟩ = some (.int .i64 chk) ∧ w'.cell? ⟨w.heap.size, 5, none⟩ = some (.int .i64 c) ∧ w'.cell? ⟨w.heap.size + 1, 0, none⟩ = some (.int .i64 b) ∧ w'.cell? ⟨w.heap.size + 1 + 1, 0, none⟩ = some (.int .i64 e) := by
  intro w' h
  have hs := h.size
  simp at hs
  refine ⟨h, by omega, by omega, by omega, ?_, ?_, ?_, ?_, ?_, ?_, ?_, ?_⟩ <;> (refine (h.cell (p := ⟨_, _, none⟩) (by simp)).trans ?_; simp [go_sem])
set_option maxRecDepth 20000 in
set_option maxHeartbeats 4000000 in
theorem iStrOut1 (p pw po d chk c b e : Int) (w : World) (h : layB p pw po d chk c = true) (h1 : inB b 0 (c - 1) = false) :
    Calls Try.prog 18 #[.agg #[.int .i64 p, .int .i64 pw, .int .i64 po, .int .i64 d, .int .i64 chk, .int .i64 c], .int .i64 b, .int .i64 e] w fun x w' => x = .returned (.tuple #[.int .i64 0, .int .i64 2]) ∧ Below w.heap.size w w' := by
  obtain ⟨c1, c16, c2, d2, k1, k2, -⟩ := layB_true h
  obtain ⟨s1, s2⟩ := share_bd (k := b) c1 c2 d2
  have wc : IntKind.i64.wrap (c - 1) = c - 1 := IntWalk.i64_in _ (by omega)
  have ws : IntKind.i64.wrap (shareZ d c b + chk) = shareZ d c b + chk := IntWalk.i64_in _ (by omega)
  have ws1 : IntKind.i64.wrap (shareZ d c b + chk - 1) = shareZ d c b + chk - 1 := IntWalk.i64_in _ (by omega)
  go_enter Try.func18, Try.ntmps18
  go_wp2_with (go_at_call 16; refine (iIsLayout _ _ _ _ _ _ _).mono ?_; rintro x0 w' ⟨rfl, hb⟩; rw [h]; obtain ⟨hc, hf⟩ := bcell hb; have hz := hb.size; (try simp at hz); have hz0 : w.heap.size < w'.heap.size := (by omega); have hz1 : w.heap.size + 1 < w'.heap.size := (by omega); have hz2 : w.heap.size + 1 + 1 < w'.heap.size := (by omega))
  have HB : Hid (Below w.heap.size w w') := by unfold Hid; repeat' (first | (with_reducible exact Below.refl _ _) | (with_reducible assumption) | (with_reducible refine Below.alloc ?_ ?_ _) | (with_reducible refine Below.setCell ?_ ?_ _) | (with_reducible refine Below.drew ?_) | (with_reducible refine below_drewN ?_ _) | (with_reducible refine below_via (by with_reducible assumption) ?_ ?_) | go_size)
  have hcl : ∀ W, Calls Try.prog 59 #[.int .i64 b, .int .i64 0, .int .i64 (c - 1)] W fun e w' => e = .returned (.bool false) ∧ W = w' := fun W => by
    have h := iIn b 0 (c - 1) W
    rw [h1] at h
    exact h
  go_quiet ((go_at_call 59; exact Calls.quiet_of_same ((hcl _).mono fun e w' h => ⟨h.1, h.2.symm⟩)))
  go_wp2
  go_returns
  exact ⟨rfl, below_drewN HB.out _⟩
set_option maxRecDepth 20000 in
set_option maxHeartbeats 4000000 in
theorem iStrOut2 (p pw po d chk c b e : Int) (w : World) (h : layB p pw po d chk c = true) (h1 : inB b 0 (c - 1) = true) (h2 : inB e 0 (shareZ d c b + chk - 1) = false) :
    Calls Try.prog 18 #[.agg #[.int .i64 p, .int .i64 pw, .int .i64 po, .int .i64 d, .int .i64 chk, .int .i64 c], .int .i64 b, .int .i64 e] w fun x w' => x = .returned (.tuple #[.int .i64 0, .int .i64 2]) ∧ Below w.heap.size w w' := by
  obtain ⟨c1, c16, c2, d2, k1, k2, -⟩ := layB_true h
  obtain ⟨s1, s2⟩ := share_bd (k := b) c1 c2 d2
  have wc : IntKind.i64.wrap (c - 1) = c - 1 := IntWalk.i64_in _ (by omega)
  have ws : IntKind.i64.wrap (shareZ d c b + chk) = shareZ d c b + chk := IntWalk.i64_in _ (by omega)
  have ws1 : IntKind.i64.wrap (shareZ d c b + chk - 1) = shareZ d c b + chk - 1 := IntWalk.i64_in _ (by omega)
  go_enter Try.func18, Try.ntmps18
  go_wp2_with (go_at_call 16; refine (iIsLayout _ _ _ _ _ _ _).mono ?_; rintro x0 w' ⟨rfl, hb⟩; rw [h]; obtain ⟨hc, hf⟩ := bcell hb; have hz := hb.size; (try simp at hz); have hz0 : w.heap.size < w'.heap.size := (by omega); have hz1 : w.heap.size + 1 < w'.heap.size := (by omega); have hz2 : w.heap.size + 1 + 1 < w'.heap.size := (by omega))
  have HS := Lib.hid (held_si p pw po d chk c b e w)
  clear hc hf
  go_region_held3 (fun w' => Below (w.heap.size + 3) (((w.alloc (.cells #[.int .i64 p, .int .i64 pw, .int .i64 po, .int .i64 d, .int .i64 chk, .int .i64 c] 29)).alloc (.cells #[.int .i64 b] 2)).alloc (.cells #[.int .i64 e] 2)) w' ∧ w.heap.size < w'.heap.size ∧ w.heap.size + 1 < w'.heap.size ∧ w.heap.size + 1 + 1 < w'.heap.size ∧ w'.cell? ⟨w.heap.size, 0, none⟩ = some (.int .i64 p) ∧ w'.cell? ⟨w.heap.size, 1, none⟩ = some (.int .i64 pw) ∧ w'.cell? ⟨w.heap.size, 2, none⟩ = some (.int .i64 po) ∧ w'.cell? ⟨w.heap.size, 3, none⟩ = some (.int .i64 d) ∧ w'.cell? ⟨w.heap.size, 4, none⟩ = some (.int .i64 chk) ∧ w'.cell? ⟨w.heap.size, 5, none⟩ = some (.int .i64 c) ∧ w'.cell? ⟨w.heap.size + 1, 0, none⟩ = some (.int .i64 b) ∧ w'.cell? ⟨w.heap.size + 1 + 1, 0, none⟩ = some (.int .i64 e)) (exact HS.out _ (by repeat' (first | (with_reducible exact Below.refl _ _) | (with_reducible assumption) | (with_reducible refine Below.alloc ?_ ?_ _) | (with_reducible refine Below.setCell ?_ ?_ _) | (with_reducible refine Below.drew ?_) | (with_reducible refine below_drewN ?_ _) | (with_reducible refine below_via (by with_reducible assumption) ?_ ?_) | go_size))) ((first | (go_at_call 59; refine (iIn _ _ _ _).mono ?_; rintro x0 w' ⟨rfl, rfl⟩; (first | rw [h1] | rw [h2])) | (go_at_call 64; refine (iShare p pw po d chk c b _ c1 c2 d2).mono ?_; rintro e w' ⟨rfl, hb⟩; obtain ⟨hc, hf⟩ := bcell hb; have hz := hb.size; (try simp at hz); have hz0 : w.heap.size < w'.heap.size := (by omega))))
  all_goals
    go_wp2
    go_returns
    exact ⟨rfl, by repeat' (first | (with_reducible exact Below.refl _ _) | (with_reducible assumption) | (with_reducible refine Below.alloc ?_ ?_ _) | (with_reducible refine Below.setCell ?_ ?_ _) | (with_reducible refine Below.drew ?_) | (with_reducible refine below_drewN ?_ _) | (with_reducible refine below_via (by with_reducible assumption) ?_ ?_) | go_size)⟩
end Go.Proofs.Ytdpifddmhbeklaa
