/-
  DERIVED. IsCode, IsLayout: contracts.
-/
import Derived.Test.YtdpifddmhbeklaaFldD
import Derived.BigQuiet
namespace Go.Proofs.Ytdpifddmhbeklaa
open Go.RowKit
set_option linter.unusedVariables false
noncomputable def codeB (p pw po len chk : Int) : Bool := fldB p pw po && inB chk 1 64 && inB len (chk + 1) 255 && decide (len < fszZ p pw)
theorem sSzF {p pw po : Int} (h : fldB p pw po = true) (w : World) : Calls Try.prog 102 #[.agg #[.int .i64 p, .int .i64 pw, .int .i64 po]] w fun e w' => e = .returned (.int .i64 (fszZ p pw)) ∧ Below w.heap.size w w' := by
  rcases fldB_true.1 h with ⟨rfl, -⟩ | ⟨h1, rfl, k, h3, h8, rfl, -⟩
  · exact sSz1 p po w
  · have e : fszZ 2 (k : Int) = 2 ^ k := by unfold fszZ; rw [if_neg h1]; rfl
    rw [e]
    exact sSzB k h3 h8 po w
theorem fsz_bd {p pw po : Int} (h : fldB p pw po = true) : 3 ≤ fszZ p pw ∧ fszZ p pw ≤ 1021 := by
  rcases fldB_true.1 h with ⟨rfl, a, b, -⟩ | ⟨h1, rfl, k, h3, h8, rfl, -⟩
  · unfold fszZ; rw [if_pos rfl]; exact ⟨a, b⟩
  · have e : fszZ 2 (k : Int) = 2 ^ k := by unfold fszZ; rw [if_neg h1]; rfl
    rw [e]
    have hs : (8 : Nat) ≤ 2 ^ k := Nat.pow_le_pow_right (n := 2) (by decide) h3
    have hs2 : (2 : Nat) ^ k ≤ 256 := Nat.pow_le_pow_right (n := 2) (by decide) h8
    have e2 : ((2 ^ k : Nat) : Int) = 2 ^ k := by simp
    omega
theorem held_cd (p pw po len chk : Int) (w : World) : ∀ w', Below (w.heap.size + 1) (w.alloc (.cells #[.int .i64 p, .int .i64 pw, .int .i64 po, .int .i64 len, .int .i64 chk] 81)) w' → Below (w.heap.size + 1) (w.alloc (.cells #[.int .i64 p, .int .i64 pw, .int .i64 po, .int .i64 len, .int .i64 chk] 81)) w' ∧ w.heap.size < w'.heap.size ∧ w'.cell? ⟨w.heap.size, 0, none⟩ = some (.int .i64 p) ∧ w'.cell? ⟨w.heap.size, 1, none⟩ = some (.int .i64 pw) ∧ w'.cell? ⟨w.heap.size, 2, none⟩ = some (.int .i64 po) ∧ w'.cell? ⟨w.heap.size, 3, none⟩ = some (.int .i64 len) ∧ w'.cell? ⟨w.heap.size, 4, none⟩ = some (.int .i64 chk) := by
  intro w' h
  have hs := h.size
  simp at hs
  refine ⟨h, by omega, ?_, ?_, ?_, ?_, ?_⟩ <;> (refine (h.cell (p := ⟨_, _, none⟩) (by simp)).trans ?_; simp [go_sem])
set_option maxRecDepth 20000 in
set_option maxHeartbeats 4000000 in
theorem sIsCode (p pw po len chk : Int) (w : World) : Calls Try.prog 56 #[.agg #[.int .i64 p, .int .i64 pw, .int .i64 po, .int .i64 len, .int .i64 chk]] w fun e w' => e = .returned (.bool (codeB p pw po len chk)) ∧ Below w.heap.size w w' := by
  cases h1 : fldB p pw po
  · have HE : Hid (false = codeB p pw po len chk) := by unfold Hid codeB; rw [h1]; rfl
    go_enter Try.func56, Try.ntmps56
    go_wp2_with (go_at_call 101; refine (sIsField _ _ _ _).mono ?_; rintro e w' ⟨rfl, hb⟩; obtain ⟨hc, hf⟩ := bcell hb; have hz := hb.size; (try simp at hz); have hz0 : w.heap.size < w'.heap.size := (by omega))
    go_returns
    exact ⟨ret_bool HE.out, by repeat' (first | (with_reducible exact Below.refl _ _) | (with_reducible assumption) | (with_reducible refine Below.alloc ?_ ?_ _) | (with_reducible refine Below.setCell ?_ ?_ _) | (with_reducible refine Below.drew ?_) | (with_reducible refine below_drewN ?_ _) | (with_reducible refine below_via (by with_reducible assumption) ?_ ?_) | go_size)⟩
  cases h2 : inB chk 1 64
  · have HE : Hid (false = codeB p pw po len chk) := by unfold Hid codeB; rw [h1, h2]; rfl
    go_enter Try.func56, Try.ntmps56
    go_wp2_with (first | (go_at_call 55; refine (sIn _ _ _ _).mono ?_; rintro e w' ⟨rfl, rfl⟩) | (go_at_call 101; refine (sIsField _ _ _ _).mono ?_; rintro e w' ⟨rfl, hb⟩; obtain ⟨hc, hf⟩ := bcell hb; have hz := hb.size; (try simp at hz); have hz0 : w.heap.size < w'.heap.size := (by omega)))
    go_returns
    exact ⟨ret_bool HE.out, by repeat' (first | (with_reducible exact Below.refl _ _) | (with_reducible assumption) | (with_reducible refine Below.alloc ?_ ?_ _) | (with_reducible refine Below.setCell ?_ ?_ _) | (with_reducible refine Below.drew ?_) | (with_reducible refine below_drewN ?_ _) | (with_reducible refine below_via (by with_reducible assumption) ?_ ?_) | go_size)⟩
  obtain ⟨c1, c2⟩ := inB_iff.1 h2
  have wv : IntKind.i64.wrap (chk + 1) = chk + 1 := IntWalk.i64_in _ (by omega)
  cases h3 : inB len (chk + 1) 255
  · have hcl : ∀ W, Calls Try.prog 55 #[.int .i64 len, .int .i64 (chk + 1), .int .i64 255] W fun e w' => e = .returned (.bool false) ∧ W = w' := fun W => by
      have h := sIn len (chk + 1) 255 W
      rw [h3] at h
      exact h
    have HE : Hid (false = codeB p pw po len chk) := by unfold Hid codeB; rw [h1, h2, h3]; rfl
    go_enter Try.func56, Try.ntmps56
    go_wp2_with (first | (go_at_call 55; refine (sIn _ _ _ _).mono ?_; rintro e w' ⟨rfl, rfl⟩) | (go_at_call 101; refine (sIsField _ _ _ _).mono ?_; rintro e w' ⟨rfl, hb⟩; obtain ⟨hc, hf⟩ := bcell hb; have hz := hb.size; (try simp at hz); have hz0 : w.heap.size < w'.heap.size := (by omega)))
    have HB : Hid (Below w.heap.size w w') := by unfold Hid; repeat' (first | (with_reducible exact Below.refl _ _) | (with_reducible assumption) | (with_reducible refine Below.alloc ?_ ?_ _) | (with_reducible refine Below.setCell ?_ ?_ _) | (with_reducible refine Below.drew ?_) | (with_reducible refine below_drewN ?_ _) | (with_reducible refine below_via (by with_reducible assumption) ?_ ?_) | go_size)
    go_quiet ((go_at_call 55; exact Calls.quiet_of_same ((hcl _).mono fun e w' h => ⟨h.1, h.2.symm⟩)))
    go_wp2
    go_returns
    exact ⟨ret_bool HE.out, below_drewN HB.out _⟩
  · have hcl : ∀ W, Calls Try.prog 55 #[.int .i64 len, .int .i64 (chk + 1), .int .i64 255] W fun e w' => e = .returned (.bool true) ∧ W = w' := fun W => by
      have h := sIn len (chk + 1) 255 W
      rw [h3] at h
      exact h
    have HE : Hid (decide (len < fszZ p pw) = codeB p pw po len chk) := by unfold Hid codeB; rw [h1, h2, h3]; rfl
    go_enter Try.func56, Try.ntmps56
    go_wp2_with (first | (go_at_call 55; refine (sIn _ _ _ _).mono ?_; rintro e w' ⟨rfl, rfl⟩) | (go_at_call 101; refine (sIsField _ _ _ _).mono ?_; rintro e w' ⟨rfl, hb⟩; obtain ⟨hc, hf⟩ := bcell hb; have hz := hb.size; (try simp at hz); have hz0 : w.heap.size < w'.heap.size := (by omega)))
    have HB : Hid (Below w.heap.size w w') := by unfold Hid; repeat' (first | (with_reducible exact Below.refl _ _) | (with_reducible assumption) | (with_reducible refine Below.alloc ?_ ?_ _) | (with_reducible refine Below.setCell ?_ ?_ _) | (with_reducible refine Below.drew ?_) | (with_reducible refine below_drewN ?_ _) | (with_reducible refine below_via (by with_reducible assumption) ?_ ?_) | go_size)
    have HS := Lib.hid (held_cd p pw po len chk w)
    go_region_held3 (fun w' => Below (w.heap.size + 1) (w.alloc (.cells #[.int .i64 p, .int .i64 pw, .int .i64 po, .int .i64 len, .int .i64 chk] 81)) w' ∧ w.heap.size < w'.heap.size ∧ w'.cell? ⟨w.heap.size, 0, none⟩ = some (.int .i64 p) ∧ w'.cell? ⟨w.heap.size, 1, none⟩ = some (.int .i64 pw) ∧ w'.cell? ⟨w.heap.size, 2, none⟩ = some (.int .i64 po) ∧ w'.cell? ⟨w.heap.size, 3, none⟩ = some (.int .i64 len) ∧ w'.cell? ⟨w.heap.size, 4, none⟩ = some (.int .i64 chk)) (exact HS.out _ (by repeat' (first | (with_reducible exact Below.refl _ _) | (with_reducible assumption) | (with_reducible refine Below.alloc ?_ ?_ _) | (with_reducible refine Below.setCell ?_ ?_ _) | (with_reducible refine Below.drew ?_) | (with_reducible refine below_drewN ?_ _) | (with_reducible refine below_via (by with_reducible assumption) ?_ ?_) | go_size))) ((first | (go_at_call 55; refine (sIn _ _ _ _).mono ?_; rintro e w' ⟨rfl, rfl⟩; (first | rw [h3] | rw [wv, h3])) | (go_at_call 102; refine (sSzF h1 _).mono ?_; rintro e w' ⟨rfl, hb⟩; obtain ⟨hc, hf⟩ := bcell hb; have hz := hb.size; (try simp at hz); have hz0 : w.heap.size < w'.heap.size := (by omega))))
    all_goals
      go_wp2
      go_returns
      exact ⟨ret_bool HE.out, by repeat' (first | (with_reducible exact Below.refl _ _) | (with_reducible assumption) | (with_reducible refine Below.alloc ?_ ?_ _) | (with_reducible refine Below.setCell ?_ ?_ _) | (with_reducible refine Below.drew ?_) | (with_reducible refine below_drewN ?_ _) | (with_reducible refine below_via (by with_reducible assumption) ?_ ?_) | go_size)⟩
/-- What coder makes: a pointer to a block of four cells, the calc's pointer first. -/
def CoderR (p pw po len chk : Int) (w : World) (e : Ending) (w' : World) : Prop := ∃ a, e = .returned (.tuple #[.pointer a, .bool (codeB p pw po len chk)]) ∧ Below w.heap.size w w'
set_option maxRecDepth 20000 in
set_option maxHeartbeats 4000000 in
theorem iCoder (p pw po len chk : Int) (w : World) : Calls Try.prog 104 #[.agg #[.int .i64 p, .int .i64 pw, .int .i64 po, .int .i64 len, .int .i64 chk]] w (CoderR p pw po len chk w) := by
  cases h2 : inB chk 1 64
  · have HE : Hid (false = codeB p pw po len chk) := by unfold Hid codeB; rw [h2]; simp
    go_enter Try.func104, Try.ntmps104
    go_wp2_with (go_at_call 59; refine (iIn _ _ _ _).mono ?_; rintro e w' ⟨rfl, rfl⟩)
    go_returns
    exact ⟨none, by rw [← HE.out]; rfl, by repeat' (first | (with_reducible exact Below.refl _ _) | (with_reducible assumption) | (with_reducible refine Below.alloc ?_ ?_ _) | (with_reducible refine Below.setCell ?_ ?_ _) | (with_reducible refine Below.drew ?_) | (with_reducible refine below_drewN ?_ _) | (with_reducible refine below_via (by with_reducible assumption) ?_ ?_) | go_size)⟩
  obtain ⟨c1, c2⟩ := inB_iff.1 h2
  cases h3 : inB len (chk + 1) 255
  · have HE : Hid (false = codeB p pw po len chk) := by unfold Hid codeB; rw [h3]; simp
    go_enter Try.func104, Try.ntmps104
    go_wp2_with (go_at_call 59; refine (iIn _ _ _ _).mono ?_; rintro e w' ⟨rfl, rfl⟩)
    go_returns
    exact ⟨none, by rw [← HE.out]; rfl, by repeat' (first | (with_reducible exact Below.refl _ _) | (with_reducible assumption) | (with_reducible refine Below.alloc ?_ ?_ _) | (with_reducible refine Below.setCell ?_ ?_ _) | (with_reducible refine Below.drew ?_) | (with_reducible refine below_drewN ?_ _) | (with_reducible refine below_via (by with_reducible assumption) ?_ ?_) | go_size)⟩
  cases h1 : fldB p pw po
  · have HE : Hid (false = codeB p pw po len chk) := by unfold Hid codeB; rw [h1]; rfl
    go_enter Try.func104, Try.ntmps104
    go_wp2_with (first | (go_at_call 59; refine (iIn _ _ _ _).mono ?_; rintro e w' ⟨rfl, rfl⟩) | (go_at_call 130; refine (iCalc p pw po _).mono ?_; rintro e w' ⟨a, rfl, hb, -⟩; rw [h1]; obtain ⟨hc, hf⟩ := bcell hb; have hz := hb.size; (try simp at hz)))
    have HB : Hid (Below w.heap.size w w') := by unfold Hid; repeat' (first | (with_reducible exact Below.refl _ _) | (with_reducible assumption) | (with_reducible refine Below.alloc ?_ ?_ _) | (with_reducible refine Below.setCell ?_ ?_ _) | (with_reducible refine Below.drew ?_) | (with_reducible refine below_drewN ?_ _) | (with_reducible refine below_via (by with_reducible assumption) ?_ ?_) | go_size)
    go_quiet (fail)
    go_wp2
    go_returns
    exact ⟨none, by rw [← HE.out]; rfl, below_drewN HB.out _⟩
  by_cases hl : len < fszZ p pw
  · have HE : Hid (true = codeB p pw po len chk) := by unfold Hid codeB; rw [h1, h2, h3]; simp [hl]
    go_enter Try.func104, Try.ntmps104
    go_wp2_with (first | (go_at_call 59; refine (iIn _ _ _ _).mono ?_; rintro e w' ⟨rfl, rfl⟩) | (go_at_call 130; refine (iCalc p pw po _).mono ?_; rintro e w' ⟨a, rfl, hb, hcq⟩; rw [h1]; obtain ⟨hc, hf⟩ := bcell hb; have hz := hb.size; (try simp at hz)))
    obtain ⟨b, rfl, hbw, k1, k2, -⟩ := hcq h1
    have HB : Hid (Below w.heap.size w w') := by unfold Hid; repeat' (first | (with_reducible exact Below.refl _ _) | (with_reducible assumption) | (with_reducible refine Below.alloc ?_ ?_ _) | (with_reducible refine Below.setCell ?_ ?_ _) | (with_reducible refine Below.drew ?_) | (with_reducible refine below_drewN ?_ _) | (with_reducible refine below_via (by with_reducible assumption) ?_ ?_) | go_size)
    go_quiet (fail)
    go_wp2
    go_returns
    exact ⟨_, by rw [← HE.out]; rfl, by have h := below_drewN HB.out 1; repeat' (first | (with_reducible exact Below.refl _ _) | (with_reducible assumption) | (with_reducible refine Below.alloc ?_ ?_ _) | (with_reducible refine Below.setCell ?_ ?_ _) | (with_reducible refine Below.drew ?_) | (with_reducible refine below_drewN ?_ _) | (with_reducible refine below_via (by with_reducible assumption) ?_ ?_) | go_size)⟩
  · have HE : Hid (false = codeB p pw po len chk) := by unfold Hid codeB; rw [h1, h2, h3]; simp [hl]
    go_enter Try.func104, Try.ntmps104
    go_wp2_with (first | (go_at_call 59; refine (iIn _ _ _ _).mono ?_; rintro e w' ⟨rfl, rfl⟩) | (go_at_call 130; refine (iCalc p pw po _).mono ?_; rintro e w' ⟨a, rfl, hb, hcq⟩; rw [h1]; obtain ⟨hc, hf⟩ := bcell hb; have hz := hb.size; (try simp at hz)))
    obtain ⟨b, rfl, hbw, k1, k2, -⟩ := hcq h1
    have HB : Hid (Below w.heap.size w w') := by unfold Hid; repeat' (first | (with_reducible exact Below.refl _ _) | (with_reducible assumption) | (with_reducible refine Below.alloc ?_ ?_ _) | (with_reducible refine Below.setCell ?_ ?_ _) | (with_reducible refine Below.drew ?_) | (with_reducible refine below_drewN ?_ _) | (with_reducible refine below_via (by with_reducible assumption) ?_ ?_) | go_size)
    go_quiet (fail)
    go_wp2
    go_returns
    exact ⟨none, by rw [← HE.out]; rfl, below_drewN HB.out _⟩
theorem iIsCode (p pw po len chk : Int) (w : World) : Calls Try.prog 61 #[.agg #[.int .i64 p, .int .i64 pw, .int .i64 po, .int .i64 len, .int .i64 chk]] w fun e w' => e = .returned (.bool (codeB p pw po len chk)) ∧ Below w.heap.size w w' := by
  go_enter Try.func61, Try.ntmps61
  go_wp2_with (go_at_call 104; refine (iCoder p pw po len chk _).mono ?_; rintro e w' ⟨a, rfl, hb⟩)
  go_returns
  exact ⟨rfl, by repeat' (first | (with_reducible exact Below.refl _ _) | (with_reducible assumption) | (with_reducible refine Below.alloc ?_ ?_ _) | (with_reducible refine Below.setCell ?_ ?_ _) | (with_reducible refine Below.drew ?_) | (with_reducible refine below_drewN ?_ _) | (with_reducible refine below_via (by with_reducible assumption) ?_ ?_) | go_size)⟩
end Go.Proofs.Ytdpifddmhbeklaa
