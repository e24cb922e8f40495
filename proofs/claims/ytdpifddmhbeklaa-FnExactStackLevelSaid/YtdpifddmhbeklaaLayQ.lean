/-
  DERIVED. Lay0, Lay1, Lay2, WLayout.
-/
import Derived.Test.YtdpifddmhbeklaaFldD
import Derived.BigQuiet
import Derived.Test.YtdpifddmhbeklaaRegI
namespace Go.Proofs.Ytdpifddmhbeklaa
open Go.RowKit
set_option linter.unusedVariables false
noncomputable def codeB (p pw po len chk : Int) : Bool := fldB p pw po && inB chk 1 64 && inB len (chk + 1) 255 && decide (len < fszZ p pw)
theorem sSzF {p pw po : Int} (h : fldB p pw po = true) (w : World) : Calls Try.prog 102 #[.agg #[.int .i64 p, .int .i64 pw, .int .i64 po]] w fun e w' => e = .returned (.int .i64 (fszZ p pw)) ∧ Below w.heap.size w w' := by
  rcases fldB_true.1 h with ⟨rfl, -⟩ | ⟨h1, rfl, k, h3, h8, rfl, -⟩
  · exact sSz1 p po w
  · have e : fszZ 2 (k : Int) = 2 ^ k := by unfold fszZ; rw [if_neg h1]; rfl
    rw [e]
    exact sSzB k h3 h8 po w
theorem fsz_bd {p pw po : Int} (h : fldB p pw po = true) : 3 ≤ fszZ p pw ∧ fszZ p pw ≤ 1021 := by
  rcases fldB_true.1 h with ⟨rfl, a, b, -⟩ | ⟨h1, rfl, k, h3, h8, rfl, -⟩
  · unfold fszZ; rw [if_pos rfl]; exact ⟨a, b⟩
  · have e : fszZ 2 (k : Int) = 2 ^ k := by unfold fszZ; rw [if_neg h1]; rfl
    rw [e]
    have hs : (8 : Nat) ≤ 2 ^ k := Nat.pow_le_pow_right (n := 2) (by decide) h3
    have hs2 : (2 : Nat) ^ k ≤ 256 := Nat.pow_le_pow_right (n := 2) (by decide) h8
    have e2 : ((2 ^ k : Nat) : Int) = 2 ^ k := by simp
    omega
theorem held_cd (p pw po len chk : Int) (w : World) : ∀ w', Below (w.heap.size + 1) (w.alloc (.cells #[.int .i64 p, .int .i64 pw, .int .i64 po, .int .i64 len, .int .i64 chk] 81)) w' → Below (w.heap.size + 1) (w.alloc (.cells #[.int .i64 p, .int .i64 pw, .int .i64 po, .int .i64 len, .int .i64 chk] 81)) w' ∧ w.heap.size < w'.heap.size ∧ w'.cell? ⟨w.heap.size, 0, none⟩ = some (.int .i64 p) ∧ w'.cell? ⟨w.heap.size, 1, none⟩ = some (.int .i64 pw) ∧ w'.cell? ⟨w.heap.size, 2, none⟩ = some (.int .i64 po) ∧ w'.cell? ⟨w.heap.size, 3, none⟩ = some (.int .i64 len) ∧ w'.cell? ⟨w.heap.size, 4, none⟩ = some (.int .i64 chk) := by
  intro w' h
  have hs := h.size
  simp at hs
  refine ⟨h, by omega, ?_, ?_, ?_, ?_, ?_⟩ <;> (refine (h.cell (p := ⟨_, _, none⟩) (by simp)).trans ?_; simp [go_sem])
set_option maxRecDepth 20000 in
set_option maxHeartbeats 4000000 in
theorem sIsCode (p pw po len chk : Int) (w : World) : Calls Try.prog 56 #[.agg #[.int .i64 p, .int .i64 pw, .int .i64 po, .int .i64 len, .int .i64 chk]] w fun e w' => e = .returned (.bool (codeB p pw po len chk)) ∧ Below w.heap.size w w' := by
  cases h1 : fldB p pw po
  · have HE : Hid (false = codeB p pw po len chk) := by unfold Hid codeB; rw [h1]; rfl
    go_enter Try.func56, Try.ntmps56
    go_wp2_with (go_at_call 101; refine (sIsField _ _ _ _).mono ?_; rintro e w' ⟨rfl, hb⟩; obtain ⟨hc, hf⟩ := bcell hb; have hz := hb.size; (try simp at hz); have hz0 : w.heap.size < w'.heap.size := (by omega))
    go_returns
    exact ⟨ret_bool HE.out, by repeat' (first | (with_reducible exact Below.refl _ _) | (with_reducible assumption) | (with_reducible refine Below.alloc ?_ ?_ _) | (with_reducible refine Below.setCell ?_ ?_ _) | (with_reducible refine Below.drew ?_) | (with_reducible refine below_drewN ?_ _) | (with_reducible refine below_via (by with_reducible assumption) ?_ ?_) | go_size)⟩
  cases h2 : inB chk 1 64
  · have HE : Hid (false = codeB p pw po len chk) := by unfold Hid codeB; rw [h1, h2]; rfl
    go_enter Try.func56, Try.ntmps56
    go_wp2_with (first | (go_at_call 55; refine (sIn _ _ _ _).mono ?_; rintro e w' ⟨rfl, rfl⟩) | (go_at_call 101; refine (sIsField _ _ _ _).mono ?_; rintro e w' ⟨rfl, hb⟩; obtain ⟨hc, hf⟩ := bcell hb; have hz := hb.size; (try simp at hz); have hz0 : w.heap.size < w'.heap.size := (by omega)))
    go_returns
    exact ⟨ret_bool HE.out, by repeat' (first | (with_reducible exact Below.refl _ _) | (with_reducible assumption) | (with_reducible refine Below.alloc ?_ ?_ _) | (with_reducible refine Below.setCell ?_ ?_ _) | (with_reducible refine Below.drew ?_) | (with_reducible refine below_drewN ?_ _) | (with_reducible refine below_via (by with_reducible assumption) ?_ ?_) | go_size)⟩
  obtain ⟨c1, c2⟩ := inB_iff.1 h2
  have wv : IntKind.i64.wrap (chk + 1) = chk + 1 := IntWalk.i64_in _ (by omega)
  cases h3 : inB len (chk + 1) 255
  · have hcl : ∀ W, Calls Try.prog 55 #[.int .i64 len, .int .i64 (chk + 1), .int .i64 255] W fun e w' => e = .returned (.bool false) ∧ W = w' := fun W => by
      have h := sIn len (chk + 1) 255 W
      rw [h3] at h
      exact h
    have HE : Hid (false = codeB p pw po len chk) := by unfold Hid codeB; rw [h1, h2, h3]; rfl
    go_enter Try.func56, Try.ntmps56
    go_wp2_with (first | (go_at_call 55; refine (sIn _ _ _ _).mono ?_; rintro e w' ⟨rfl, rfl⟩) | (go_at_call 101; refine (sIsField _ _ _ _).mono ?_; rintro e w' ⟨rfl, hb⟩; obtain ⟨hc, hf⟩ := bcell hb; have hz := hb.size; (try simp at hz); have hz0 : w.heap.size < w'.heap.size := (by omega)))
    have HB : Hid (Below w.heap.size w w') := by unfold Hid; repeat' (first | (with_reducible exact Below.refl _ _) | (with_reducible assumption) | (with_reducible refine Below.alloc ?_ ?_ _) | (with_reducible refine Below.setCell ?_ ?_ _) | (with_reducible refine Below.drew ?_) | (with_reducible refine below_drewN ?_ _) | (with_reducible refine below_via (by with_reducible assumption) ?_ ?_) | go_size)
    go_quiet ((go_at_call 55; exact Calls.quiet_of_same ((hcl _).mono fun e w' h => ⟨h.1, h.2.symm⟩)))
    go_wp2
    go_returns
    exact ⟨ret_bool HE.out, below_drewN HB.out _⟩
  · have hcl : ∀ W, Calls Try.prog 55 #[.int .i64 len, .int .i64 (chk + 1), .int .i64 255] W fun e w' => e = .returned (.bool true) ∧ W = w' := fun W => by
      have h := sIn len (chk + 1) 255 W
      rw [h3] at h
      exact h
    have HE : Hid (decide (len < fszZ p pw) = codeB p pw po len chk) := by unfold Hid codeB; rw [h1, h2, h3]; rfl
    go_enter Try.func56, Try.ntmps56
    go_wp2_with (first | (go_at_call 55; refine (sIn _ _ _ _).mono ?_; rintro e w' ⟨rfl, rfl⟩) | (go_at_call 101; refine (sIsField _ _ _ _).mono ?_; rintro e w' ⟨rfl, hb⟩; obtain ⟨hc, hf⟩ := bcell hb; have hz := hb.size; (try simp at hz); have hz0 : w.heap.size < w'.heap.size := (by omega)))
    have HB : Hid (Below w.heap.size w w') := by unfold Hid; repeat' (first | (with_reducible exact Below.refl _ _) | (with_reducible assumption) | (with_reducible refine Below.alloc ?_ ?_ _) | (with_reducible refine Below.setCell ?_ ?_ _) | (with_reducible refine Below.drew ?_) | (with_reducible refine below_drewN ?_ _) | (with_reducible refine below_via (by with_reducible assumption) ?_ ?_) | go_size)
    have HS := Lib.hid (held_cd p pw po len chk w)
    go_region_held3 (fun w' => Below (w.heap.size + 1) (w.alloc (.cells #[.int .i64 p, .int .i64 pw, .int .i64 po, .int .i64 len, .int .i64 chk] 81)) w' ∧ w.heap.size < w'.heap.size ∧ w'.cell? ⟨w.heap.size, 0, none⟩ = some (.int .i64 p) ∧ w'.cell? ⟨w.heap.size, 1, none⟩ = some (.int .i64 pw) ∧ w'.cell? ⟨w.heap.size, 2, none⟩ = some (.int .i64 po) ∧ w'.cell? ⟨w.heap.size, 3, none⟩ = some (.int .i64 len) ∧ w'.cell? ⟨w.heap.size, 4, none⟩ = some (.int .i64 chk)) (exact HS.out _ (by repeat' (first | (with_reducible exact Below.refl _ _) | (with_reducible assumption) | (with_reducible refine Below.alloc ?_ ?_ _) | (with_reducible refine Below.setCell ?_ ?_ _) | (with_reducible refine Below.drew ?_) | (with_reducible refine below_drewN ?_ _) | (with_reducible refine below_via (by with_reducible assumption) ?_ ?_) | go_size))) ((first | (go_at_call 55; refine (sIn _ _ _ _).mono ?_; rintro e w' ⟨rfl, rfl⟩; (first | rw [h3] | rw [wv, h3])) | (go_at_call 102; refine (sSzF h1 _).mono ?_; rintro e w' ⟨rfl, hb⟩; obtain ⟨hc, hf⟩ := bcell hb; have hz := hb.size; (try simp at hz); have hz0 : w.heap.size < w'.heap.size := (by omega))))
    all_goals
      go_wp2
      go_returns
      exact ⟨ret_bool HE.out, by repeat' (first | (with_reducible exact Below.refl _ _) | (with_reducible assumption) | (with_reducible refine Below.alloc ?_ ?_ _) | (with_reducible refine Below.setCell ?_ ?_ _) | (with_reducible refine Below.drew ?_) | (with_reducible refine below_drewN ?_ _) | (with_reducible refine below_via (by with_reducible assumption) ?_ ?_) | go_size)⟩
/-- What coder makes: a pointer to a block of four cells, the calc's pointer first. -/
def CoderR (p pw po len chk : Int) (w : World) (e : Ending) (w' : World) : Prop := ∃ a, e = .returned (.tuple #[.pointer a, .bool (codeB p pw po len chk)]) ∧ Below w.heap.size w w'
set_option maxRecDepth 20000 in
set_option maxHeartbeats 4000000 in
theorem iCoder (p pw po len chk : Int) (w : World) : Calls Try.prog 104 #[.agg #[.int .i64 p, .int .i64 pw, .int .i64 po, .int .i64 len, .int .i64 chk]] w (CoderR p pw po len chk w) := by
  cases h2 : inB chk 1 64
  · have HE : Hid (false = codeB p pw po len chk) := by unfold Hid codeB; rw [h2]; simp
    go_enter Try.func104, Try.ntmps104
    go_wp2_with (go_at_call 59; refine (iIn _ _ _ _).mono ?_; rintro e w' ⟨rfl, rfl⟩)
    go_returns
    exact ⟨none, by rw [← HE.out]; rfl, by repeat' (first | (with_reducible exact Below.refl _ _) | (with_reducible assumption) | (with_reducible refine Below.alloc ?_ ?_ _) | (with_reducible refine Below.setCell ?_ ?_ _) | (with_reducible refine Below.drew ?_) | (with_reducible refine below_drewN ?_ _) | (with_reducible refine below_via (by with_reducible assumption) ?_ ?_) | go_size)⟩
  obtain ⟨c1, c2⟩ := inB_iff.1 h2
  cases h3 : inB len (chk + 1) 255
  · have HE : Hid (false = codeB p pw po len chk) := by unfold Hid codeB; rw [h3]; simp
    go_enter Try.func104, Try.ntmps104
    go_wp2_with (go_at_call 59; refine (iIn _ _ _ _).mono ?_; rintro e w' ⟨rfl, rfl⟩)
    go_returns
    exact ⟨none, by rw [← HE.out]; rfl, by repeat' (first | (with_reducible exact Below.refl _ _) | (with_reducible assumption) | (with_reducible refine Below.alloc ?_ ?_ _) | (with_reducible refine Below.setCell ?_ ?_ _) | (with_reducible refine Below.drew ?_) | (with_reducible refine below_drewN ?_ _) | (with_reducible refine below_via (by with_reducible assumption) ?_ ?_) | go_size)⟩
  cases h1 : fldB p pw po
  · have HE : Hid (false = codeB p pw po len chk) := by unfold Hid codeB; rw [h1]; rfl
    go_enter Try.func104, Try.ntmps104
    go_wp2_with (first | (go_at_call 59; refine (iIn _ _ _ _).mono ?_; rintro e w' ⟨rfl, rfl⟩) | (go_at_call 130; refine (iCalc p pw po _).mono ?_; rintro e w' ⟨a, rfl, hb, -⟩; rw [h1]; obtain ⟨hc, hf⟩ := bcell hb; have hz := hb.size; (try simp at hz)))
    have HB : Hid (Below w.heap.size w w') := by unfold Hid; repeat' (first | (with_reducible exact Below.refl _ _) | (with_reducible assumption) | (with_reducible refine Below.alloc ?_ ?_ _) | (with_reducible refine Below.setCell ?_ ?_ _) | (with_reducible refine Below.drew ?_) | (with_reducible refine below_drewN ?_ _) | (with_reducible refine below_via (by with_reducible assumption) ?_ ?_) | go_size)
    go_quiet (fail)
    go_wp2
    go_returns
    exact ⟨none, by rw [← HE.out]; rfl, below_drewN HB.out _⟩
  by_cases hl : len < fszZ p pw
  · have HE : Hid (true = codeB p pw po len chk) := by unfold Hid codeB; rw [h1, h2, h3]; simp [hl]
    go_enter Try.func104, Try.ntmps104
    go_wp2_with (first | (go_at_call 59; refine (iIn _ _ _ _).mono ?_; rintro e w' ⟨rfl, rfl⟩) | (go_at_call 130; refine (iCalc p pw po _).mono ?_; rintro e w' ⟨a, rfl, hb, hcq⟩; rw [h1]; obtain ⟨hc, hf⟩ := bcell hb; have hz := hb.size; (try simp at hz)))
    obtain ⟨b, rfl, hbw, k1, k2, -⟩ := hcq h1
    have HB : Hid (Below w.heap.size w w') := by unfold Hid; repeat' (first | (with_reducible exact Below.refl _ _) | (with_reducible assumption) | (with_reducible refine Below.alloc ?_ ?_ _) | (with_reducible refine Below.setCell ?_ ?_ _) | (with_reducible refine Below.drew ?_) | (with_reducible refine below_drewN ?_ _) | (with_reducible refine below_via (by with_reducible assumption) ?_ ?_) | go_size)
    go_quiet (fail)
    go_wp2
    go_returns
    exact ⟨_, by rw [← HE.out]; rfl, by have h := below_drewN HB.out 1; repeat' (first | (with_reducible exact Below.refl _ _) | (with_reducible assumption) | (with_reducible refine Below.alloc ?_ ?_ _) | (with_reducible refine Below.setCell ?_ ?_ _) | (with_reducible refine Below.drew ?_) | (with_reducible refine below_drewN ?_ _) | (with_reducible refine below_via (by with_reducible assumption) ?_ ?_) | go_size)⟩
  · have HE : Hid (false = codeB p pw po len chk) := by unfold Hid codeB; rw [h1, h2, h3]; simp [hl]
    go_enter Try.func104, Try.ntmps104
    go_wp2_with (first | (go_at_call 59; refine (iIn _ _ _ _).mono ?_; rintro e w' ⟨rfl, rfl⟩) | (go_at_call 130; refine (iCalc p pw po _).mono ?_; rintro e w' ⟨a, rfl, hb, hcq⟩; rw [h1]; obtain ⟨hc, hf⟩ := bcell hb; have hz := hb.size; (try simp at hz)))
    obtain ⟨b, rfl, hbw, k1, k2, -⟩ := hcq h1
    have HB : Hid (Below w.heap.size w w') := by unfold Hid; repeat' (first | (with_reducible exact Below.refl _ _) | (with_reducible assumption) | (with_reducible refine Below.alloc ?_ ?_ _) | (with_reducible refine Below.setCell ?_ ?_ _) | (with_reducible refine Below.drew ?_) | (with_reducible refine below_drewN ?_ _) | (with_reducible refine below_via (by with_reducible assumption) ?_ ?_) | go_size)
    go_quiet (fail)
    go_wp2
    go_returns
    exact ⟨none, by rw [← HE.out]; rfl, below_drewN HB.out _⟩
theorem iIsCode (p pw po len chk : Int) (w : World) : Calls Try.prog 61 #[.agg #[.int .i64 p, .int .i64 pw, .int .i64 po, .int .i64 len, .int .i64 chk]] w fun e w' => e = .returned (.bool (codeB p pw po len chk)) ∧ Below w.heap.size w w' := by
  go_enter Try.func61, Try.ntmps61
  go_wp2_with (go_at_call 104; refine (iCoder p pw po len chk _).mono ?_; rintro e w' ⟨a, rfl, hb⟩)
  go_returns
  exact ⟨rfl, by repeat' (first | (with_reducible exact Below.refl _ _) | (with_reducible assumption) | (with_reducible refine Below.alloc ?_ ?_ _) | (with_reducible refine Below.setCell ?_ ?_ _) | (with_reducible refine Below.drew ?_) | (with_reducible refine below_drewN ?_ _) | (with_reducible refine below_via (by with_reducible assumption) ?_ ?_) | go_size)⟩
end Go.Proofs.Ytdpifddmhbeklaa
namespace Go.Proofs.Ytdpifddmhbeklaa
open Go.RowKit
set_option linter.unusedVariables false
def shareZ (d c k : Int) : Int := if c - d % c ≤ k then d / c + 1 else d / c
theorem share_bd {d c k : Int} (c1 : 1 ≤ c) (c2 : c ≤ d) (d2 : d ≤ 1500) : 1 ≤ shareZ d c k ∧ shareZ d c k ≤ 1501 := by
  have h1 : d / c ≤ d := Int.ediv_le_self _ (by omega)
  have h2 : 1 ≤ d / c := by
    have := Int.ediv_le_ediv (c := c) (by omega) c2
    rwa [Int.ediv_self (by omega)] at this
  unfold shareZ
  split <;> omega
theorem share_yes {d c k : Int} (h : c - d % c ≤ k) : shareZ d c k = d / c + 1 := if_pos h
theorem share_no {d c k : Int} (h : ¬ c - d % c ≤ k) : shareZ d c k = d / c := if_neg h
def Res5 (w : World) (b : Nat) : Prop := b < w.heap.size ∧ (w.cell? ⟨b, 0, none⟩ = some (.int .i64 0) ∧ w.cell? ⟨b, 1, none⟩ = some (.int .i64 0) ∧ w.cell? ⟨b, 2, none⟩ = some (.int .i64 0) ∧ w.cell? ⟨b, 3, none⟩ = some (.int .i64 0) ∧ w.cell? ⟨b, 4, none⟩ = some (.int .i64 0)) ∧ (w.frozen? ⟨b, 0, none⟩ = false ∧ w.frozen? ⟨b, 1, none⟩ = false ∧ w.frozen? ⟨b, 2, none⟩ = false ∧ w.frozen? ⟨b, 3, none⟩ = false ∧ w.frozen? ⟨b, 4, none⟩ = false)
def Code5 (w : World) (b : Nat) (v0 v1 v2 v3 v4 : Int) : Prop := b < w.heap.size ∧ (w.cell? ⟨b, 0, none⟩ = some (.int .i64 v0) ∧ w.cell? ⟨b, 1, none⟩ = some (.int .i64 v1) ∧ w.cell? ⟨b, 2, none⟩ = some (.int .i64 v2) ∧ w.cell? ⟨b, 3, none⟩ = some (.int .i64 v3) ∧ w.cell? ⟨b, 4, none⟩ = some (.int .i64 v4))
theorem Res5.keep {w w' : World} {b : Nat} (h : Res5 w b) (hb : Below w.heap.size w w') : Res5 w' b := by
  obtain ⟨h0, ⟨a0, a1, a2, a3, a4⟩, ⟨f0, f1, f2, f3, f4⟩⟩ := h
  have hc : ∀ j, w'.cell? ⟨b, j, none⟩ = w.cell? ⟨b, j, none⟩ := fun j => hb.cell (p := ⟨b, j, none⟩) h0
  have hf : ∀ j, w'.frozen? ⟨b, j, none⟩ = w.frozen? ⟨b, j, none⟩ := fun j => hb.frozen (p := ⟨b, j, none⟩) h0
  exact ⟨Nat.lt_of_lt_of_le h0 hb.size, ⟨(hc 0).trans a0, (hc 1).trans a1, (hc 2).trans a2, (hc 3).trans a3, (hc 4).trans a4⟩, ⟨(hf 0).trans f0, (hf 1).trans f1, (hf 2).trans f2, (hf 3).trans f3, (hf 4).trans f4⟩⟩
theorem Res5.new (w : World) (t : TypeId) : Res5 (w.alloc (.cells #[.int .i64 0, .int .i64 0, .int .i64 0, .int .i64 0, .int .i64 0] t)) w.heap.size := by
  refine ⟨by simp, ⟨by simp, by simp, by simp, by simp, by simp⟩, ⟨?_, ?_, ?_, ?_, ?_⟩⟩ <;> simp [go_sem]
def Lay6 (w : World) (b : Nat) (p pw po d k c : Int) : Prop := b < w.heap.size ∧ (w.cell? ⟨b, 0, none⟩ = some (.int .i64 p) ∧ w.cell? ⟨b, 1, none⟩ = some (.int .i64 pw) ∧ w.cell? ⟨b, 2, none⟩ = some (.int .i64 po) ∧ w.cell? ⟨b, 3, none⟩ = some (.int .i64 d) ∧ w.cell? ⟨b, 4, none⟩ = some (.int .i64 k) ∧ w.cell? ⟨b, 5, none⟩ = some (.int .i64 c))
theorem Lay6.below {w w' : World} {b B : Nat} {p pw po d k c : Int} (h : Lay6 w b p pw po d k c) (hb : Below B w w') (hB : b < B) : Lay6 w' b p pw po d k c := by
  obtain ⟨h0, a0, a1, a2, a3, a4, a5⟩ := h
  have hc : ∀ j, w'.cell? ⟨b, j, none⟩ = w.cell? ⟨b, j, none⟩ := fun j => hb.cell (p := ⟨b, j, none⟩) hB
  exact ⟨Nat.lt_of_lt_of_le h0 hb.size, (hc 0).trans a0, (hc 1).trans a1, (hc 2).trans a2, (hc 3).trans a3, (hc 4).trans a4, (hc 5).trans a5⟩
theorem Lay6.new (w : World) (t : TypeId) (p pw po d k c : Int) : Lay6 (w.alloc (.cells #[.int .i64 p, .int .i64 pw, .int .i64 po, .int .i64 d, .int .i64 k, .int .i64 c] t)) w.heap.size p pw po d k c := ⟨by simp, by simp, by simp, by simp, by simp, by simp, by simp⟩
set_option maxRecDepth 20000 in
set_option maxHeartbeats 2000000 in
theorem sShare (p pw po d chk c k : Int) (w : World) (c1 : 1 ≤ c) (c2 : c ≤ d) (d2 : d ≤ 1500) : Calls Try.prog 103 #[.agg #[.int .i64 p, .int .i64 pw, .int .i64 po, .int .i64 d, .int .i64 chk, .int .i64 c], .int .i64 k] w fun e w' => e = .returned (.int .i64 (shareZ d c k)) ∧ Below w.heap.size w w' := by
  have hcz : ¬ (c = 0) := by omega
  have hd0 : 0 ≤ d := by omega
  have m0 : 0 ≤ d % c := Int.emod_nonneg _ (by omega)
  have m1 : d % c < c := Int.emod_lt_of_pos _ (by omega)
  have h1 : d / c ≤ d := Int.ediv_le_self _ (by omega)
  have h0 : 0 ≤ d / c := Int.ediv_nonneg (by omega) (by omega)
  by_cases hk : c - d % c ≤ k
  · have HE : Hid (d / c + 1 = shareZ d c k) := (share_yes hk).symm
    go_enter Try.func103, Try.ntmps103
    go_wp2_with fail
    go_quiet (fail)
    go_wp2
    go_returns
    exact ⟨ret_int HE.out, by repeat' (first | (with_reducible exact Below.refl _ _) | (with_reducible assumption) | (with_reducible refine Below.alloc ?_ ?_ _) | (with_reducible refine Below.setCell ?_ ?_ _) | (with_reducible refine Below.drew ?_) | (with_reducible refine below_drewN ?_ _) | (with_reducible refine below_via (by with_reducible assumption) ?_ ?_) | go_size)⟩
  · have HE : Hid (d / c = shareZ d c k) := (share_no hk).symm
    go_enter Try.func103, Try.ntmps103
    go_wp2_with fail
    go_quiet (fail)
    go_wp2
    go_returns
    exact ⟨ret_int HE.out, by repeat' (first | (with_reducible exact Below.refl _ _) | (with_reducible assumption) | (with_reducible refine Below.alloc ?_ ?_ _) | (with_reducible refine Below.setCell ?_ ?_ _) | (with_reducible refine Below.drew ?_) | (with_reducible refine below_drewN ?_ _) | (with_reducible refine below_via (by with_reducible assumption) ?_ ?_) | go_size)⟩
set_option maxRecDepth 20000 in
set_option maxHeartbeats 2000000 in
theorem iShare (p pw po d chk c k : Int) (w : World) (c1 : 1 ≤ c) (c2 : c ≤ d) (d2 : d ≤ 1500) : Calls Try.prog 64 #[.agg #[.int .i64 p, .int .i64 pw, .int .i64 po, .int .i64 d, .int .i64 chk, .int .i64 c], .int .i64 k] w fun e w' => e = .returned (.int .i64 (shareZ d c k)) ∧ Below w.heap.size w w' := by
  have hcz : ¬ (c = 0) := by omega
  have hd0 : 0 ≤ d := by omega
  have m0 : 0 ≤ d % c := Int.emod_nonneg _ (by omega)
  have m1 : d % c < c := Int.emod_lt_of_pos _ (by omega)
  have h1 : d / c ≤ d := Int.ediv_le_self _ (by omega)
  have h0 : 0 ≤ d / c := Int.ediv_nonneg (by omega) (by omega)
  by_cases hk : c - d % c ≤ k
  · have HE : Hid (d / c + 1 = shareZ d c k) := (share_yes hk).symm
    go_enter Try.func64, Try.ntmps64
    go_wp2_with fail
    go_quiet (fail)
    go_wp2
    go_returns
    exact ⟨ret_int HE.out, by repeat' (first | (with_reducible exact Below.refl _ _) | (with_reducible assumption) | (with_reducible refine Below.alloc ?_ ?_ _) | (with_reducible refine Below.setCell ?_ ?_ _) | (with_reducible refine Below.drew ?_) | (with_reducible refine below_drewN ?_ _) | (with_reducible refine below_via (by with_reducible assumption) ?_ ?_) | go_size)⟩
  · have HE : Hid (d / c = shareZ d c k) := (share_no hk).symm
    go_enter Try.func64, Try.ntmps64
    go_wp2_with fail
    go_quiet (fail)
    go_wp2
    go_returns
    exact ⟨ret_int HE.out, by repeat' (first | (with_reducible exact Below.refl _ _) | (with_reducible assumption) | (with_reducible refine Below.alloc ?_ ?_ _) | (with_reducible refine Below.setCell ?_ ?_ _) | (with_reducible refine Below.drew ?_) | (with_reducible refine below_drewN ?_ _) | (with_reducible refine below_via (by with_reducible assumption) ?_ ?_) | go_size)⟩
theorem store5 {w : World} {b : Nat} {v0 v1 v2 v3 v4 : Int} {x0 x1 x2 x3 x4 : Value} (hb : b < w.heap.size) (h0 : w.cell? ⟨b, 0, none⟩ = some x0) (h1 : w.cell? ⟨b, 1, none⟩ = some x1) (h2 : w.cell? ⟨b, 2, none⟩ = some x2) (h3 : w.cell? ⟨b, 3, none⟩ = some x3) (h4 : w.cell? ⟨b, 4, none⟩ = some x4) :
    Hid (Code5 (((((w.setCell ⟨b, 0, none⟩ (.int .i64 v0)).setCell ⟨b, 1, none⟩ (.int .i64 v1)).setCell ⟨b, 2, none⟩ (.int .i64 v2)).setCell ⟨b, 3, none⟩ (.int .i64 v3)).setCell ⟨b, 4, none⟩ (.int .i64 v4)) b v0 v1 v2 v3 v4) := by
  have ot : ∀ (W : World) (i j : Nat) (v : Value), i ≠ j → (W.setCell ⟨b, j, none⟩ v).cell? ⟨b, i, none⟩ = W.cell? ⟨b, i, none⟩ := fun W i j v h => World.cell?_setCell_other _ _ _ _ (by intro e; injection e with e1 e2; omega)
  refine ⟨by simpa using hb, ?_, ?_, ?_, ?_, ?_⟩
  · rw [ot _ 0 4 _ (by decide), ot _ 0 3 _ (by decide), ot _ 0 2 _ (by decide), ot _ 0 1 _ (by decide)]; exact World.cell?_setCell_same w ⟨b, 0, none⟩ _ h0
  · rw [ot _ 1 4 _ (by decide), ot _ 1 3 _ (by decide), ot _ 1 2 _ (by decide)]; exact World.cell?_setCell_same _ ⟨b, 1, none⟩ _ ((ot _ 1 0 _ (by decide)).trans h1)
  · rw [ot _ 2 4 _ (by decide), ot _ 2 3 _ (by decide)]; exact World.cell?_setCell_same _ ⟨b, 2, none⟩ _ ((ot _ 2 1 _ (by decide)).trans ((ot _ 2 0 _ (by decide)).trans h2))
  · rw [ot _ 3 4 _ (by decide)]; exact World.cell?_setCell_same _ ⟨b, 3, none⟩ _ ((ot _ 3 2 _ (by decide)).trans ((ot _ 3 1 _ (by decide)).trans ((ot _ 3 0 _ (by decide)).trans h3)))
  · exact World.cell?_setCell_same _ ⟨b, 4, none⟩ _ ((ot _ 4 3 _ (by decide)).trans ((ot _ 4 2 _ (by decide)).trans ((ot _ 4 1 _ (by decide)).trans ((ot _ 4 0 _ (by decide)).trans h4))))
set_option maxRecDepth 20000 in
set_option maxHeartbeats 2000000 in
theorem sBlock (p pw po d chk c k : Int) (w : World) (c1 : 1 ≤ c) (c2 : c ≤ d) (d2 : d ≤ 1500) (k1 : 1 ≤ chk) (k2 : chk ≤ 64) : Calls Try.prog 57 #[.agg #[.int .i64 p, .int .i64 pw, .int .i64 po, .int .i64 d, .int .i64 chk, .int .i64 c], .int .i64 k] w fun e w' => e = .returned (.agg #[.int .i64 p, .int .i64 pw, .int .i64 po, .int .i64 (shareZ d c k + chk), .int .i64 chk]) ∧ Below w.heap.size w w' := by
  obtain ⟨hs1, hs2⟩ := share_bd (k := k) c1 c2 d2
  have ww : IntKind.i64.wrap (shareZ d c k + chk) = shareZ d c k + chk := IntWalk.i64_in _ (by omega)
  go_enter Try.func57, Try.ntmps57
  go_wp2_with fail
  obtain ⟨W0, hW0⟩ : ∃ W0 : World, W0 = w.alloc (.cells #[.int .i64 p, .int .i64 pw, .int .i64 po, .int .i64 d, .int .i64 chk, .int .i64 c] 29) := ⟨_, rfl⟩
  have hz0 : W0.heap.size = w.heap.size + 1 := by rw [hW0]; simp
  have l0 : Lay6 W0 w.heap.size p pw po d chk c := by rw [hW0]; exact Lay6.new w _ _ _ _ _ _ _
  have hk0 : Below w.heap.size w W0 := by rw [hW0]; repeat' (first | (with_reducible exact Below.refl _ _) | (with_reducible assumption) | (with_reducible refine Below.alloc ?_ ?_ _) | (with_reducible refine Below.setCell ?_ ?_ _) | (with_reducible refine Below.drew ?_) | (with_reducible refine below_drewN ?_ _) | (with_reducible refine below_via (by with_reducible assumption) ?_ ?_) | go_size)
  rw [← hW0]
  clear hW0
  obtain ⟨W, hW⟩ : ∃ W : World, W = W0.alloc (.cells #[.int .i64 0, .int .i64 0, .int .i64 0, .int .i64 0, .int .i64 0] 81) := ⟨_, rfl⟩
  have r5 : Hid (Res5 W (w.heap.size + 1)) := by rw [hW, ← hz0]; exact Res5.new W0 _
  have LW : Hid (Lay6 W w.heap.size p pw po d chk c) := by rw [hW]; exact l0.below ((Below.refl _ _).alloc (Nat.le_refl _) _) (by omega)
  have HW0 : Hid (Below w.heap.size w W) := by rw [hW]; unfold Hid; repeat' (first | (with_reducible exact Below.refl _ _) | (with_reducible assumption) | (with_reducible refine Below.alloc ?_ ?_ _) | (with_reducible refine Below.setCell ?_ ?_ _) | (with_reducible refine Below.drew ?_) | (with_reducible refine below_drewN ?_ _) | (with_reducible refine below_via (by with_reducible assumption) ?_ ?_) | go_size)
  have hz1 : W.heap.size = w.heap.size + 2 := by rw [hW]; simp; omega
  (try rw [hz0])
  rw [← hW]
  clear hW l0 hk0
  refine wp_region_inv (fun dd ac wz => ∃ (u5 u6 u7 u8 u9 u10 u11 u12 u13 u14 u15 : Value), ac = ({ tmps := #[.agg #[.int .i64 p, .int .i64 pw, .int .i64 po, .int .i64 d, .int .i64 chk, .int .i64 c], .int .i64 k, .pointer (some ⟨w.heap.size, 0, none⟩), undef, .pointer (some ⟨w.heap.size + 1, 0, none⟩), u5, u6, u7, u8, u9, u10, u11, u12, u13, u14, u15], defers := [] } : Act) ∧ Below (w.heap.size + 1) W wz ∧ w.heap.size + 1 < wz.heap.size ∧ Below w.heap.size w wz ∧ (dd 11 = false → Res5 wz (w.heap.size + 1)) ∧ (dd 11 = true → Code5 wz (w.heap.size + 1) p pw po (shareZ d c k + chk) chk) ∧ (dd 0 = true → u5 = .pointer (some ⟨w.heap.size, 0, none⟩)) ∧ (dd 1 = true → u6 = .agg #[.int .i64 p, .int .i64 pw, .int .i64 po]) ∧ (dd 2 = true → u7 = .agg #[.int .i64 p, .int .i64 pw, .int .i64 po, .int .i64 d, .int .i64 chk, .int .i64 c]) ∧ (dd 3 = true → u8 = .int .i64 k) ∧ (dd 4 = true → u9 = .int .i64 (shareZ d c k)) ∧ (dd 5 = true → u10 = .pointer (some ⟨w.heap.size, 4, none⟩)) ∧ (dd 6 = true → u11 = .int .i64 chk) ∧ (dd 7 = true → u12 = .int .i64 (shareZ d c k + chk)) ∧ (dd 8 = true → u13 = .pointer (some ⟨w.heap.size, 4, none⟩)) ∧ (dd 9 = true → u14 = .int .i64 chk) ∧ (dd 10 = true → u15 = .agg #[.int .i64 p, .int .i64 pw, .int .i64 po, .int .i64 (shareZ d c k + chk), .int .i64 chk]) ∧ (dd 7 = true → dd 4 = true) ∧ (dd 10 = true → dd 7 = true) ∧ (dd 11 = true → dd 4 = true)) (by kernel_rfl) (by kernel_rfl) ?_ ?_ ?_
  · exact ⟨_, _, _, _, _, _, _, _, _, _, _, rfl, (Below.refl _ _).drew, (show w.heap.size + 1 < W.heap.size by omega), HW0.out.drew, fun _ => r5.out.keep (Below.refl _ _).drew, (fun h => by cases h), (fun h => by cases h), (fun h => by cases h), (fun h => by cases h), (fun h => by cases h), (fun h => by cases h), (fun h => by cases h), (fun h => by cases h), (fun h => by cases h), (fun h => by cases h), (fun h => by cases h), (fun h => by cases h), (fun h => by cases h), (fun h => by cases h), (fun h => by cases h)⟩
  · refine Steps.cons (fun dd ac wz hI hdd hdep K hK' => ?_) ?_
    · obtain ⟨u5, u6, u7, u8, u9, u10, u11, u12, u13, u14, u15, rfl, hB, hz, hW, r0, r1, f0, f1, f2, f3, f4, f5, f6, f7, f8, f9, f10, s7, s10, s11⟩ := hI
      go_simp
      refine hK' _ _ ⟨_, _, _, _, _, _, _, _, _, _, _, rfl, hB, hz, hW, r0, r1, (fun _ => rfl), f1, f2, f3, f4, f5, f6, f7, f8, f9, f10, s7, s10, s11⟩
    refine Steps.cons (fun dd ac wz hI hdd hdep K hK' => ?_) ?_
    · obtain ⟨u5, u6, u7, u8, u9, u10, u11, u12, u13, u14, u15, rfl, hB, hz, hW, r0, r1, f0, f1, f2, f3, f4, f5, f6, f7, f8, f9, f10, s7, s10, s11⟩ := hI
      have q0 := f0 (hdep 0 rfl)
      subst q0
      obtain ⟨y, y0, y1, y2, y3, y4, y5⟩ := LW.out.below hB (by omega)
      go_simp
      refine hK' _ _ ⟨_, _, _, _, _, _, _, _, _, _, _, rfl, hB, hz, hW, r0, r1, f0, (fun _ => rfl), f2, f3, f4, f5, f6, f7, f8, f9, f10, s7, s10, s11⟩
    refine Steps.cons (fun dd ac wz hI hdd hdep K hK' => ?_) ?_
    · obtain ⟨u5, u6, u7, u8, u9, u10, u11, u12, u13, u14, u15, rfl, hB, hz, hW, r0, r1, f0, f1, f2, f3, f4, f5, f6, f7, f8, f9, f10, s7, s10, s11⟩ := hI
      obtain ⟨y, y0, y1, y2, y3, y4, y5⟩ := LW.out.below hB (by omega)
      go_simp
      refine hK' _ _ ⟨_, _, _, _, _, _, _, _, _, _, _, rfl, hB, hz, hW, r0, r1, f0, f1, (fun _ => rfl), f3, f4, f5, f6, f7, f8, f9, f10, s7, s10, s11⟩
    refine Steps.cons (fun dd ac wz hI hdd hdep K hK' => ?_) ?_
    · obtain ⟨u5, u6, u7, u8, u9, u10, u11, u12, u13, u14, u15, rfl, hB, hz, hW, r0, r1, f0, f1, f2, f3, f4, f5, f6, f7, f8, f9, f10, s7, s10, s11⟩ := hI
      go_simp
      refine hK' _ _ ⟨_, _, _, _, _, _, _, _, _, _, _, rfl, hB, hz, hW, r0, r1, f0, f1, f2, (fun _ => rfl), f4, f5, f6, f7, f8, f9, f10, s7, s10, s11⟩
    refine Steps.cons (fun dd ac wz hI hdd hdep K hK' => ?_) ?_
    · obtain ⟨u5, u6, u7, u8, u9, u10, u11, u12, u13, u14, u15, rfl, hB, hz, hW, r0, r1, f0, f1, f2, f3, f4, f5, f6, f7, f8, f9, f10, s7, s10, s11⟩ := hI
      have q2 := f2 (hdep 2 rfl)
      subst q2
      have q3 := f3 (hdep 3 rfl)
      subst q3
      have hs : dd 11 = false := by
        cases h : dd 11 with
        | false => rfl
        | true => have h7 := s11 h; rw [hdd] at h7; cases h7
      have h5 := r0 hs
      go_simp
      refine (sShare p pw po d chk c k wz c1 c2 d2).mono ?_
      rintro e w1' ⟨rfl, hbx⟩
      refine hK' _ _ ⟨_, _, _, _, _, _, _, _, _, _, _, rfl, (hB.trans (hbx.mono (by omega))), (Nat.lt_of_lt_of_le hz hbx.size), (hW.trans (hbx.mono hW.size)), (fun _ => h5.keep hbx), (fun h => absurd (h.symm.trans hs) (by decide)), f0, f1, f2, f3, (fun _ => rfl), f5, f6, f7, f8, f9, f10, (fun _ => rfl), s10, (fun _ => rfl)⟩
    refine Steps.cons (fun dd ac wz hI hdd hdep K hK' => ?_) ?_
    · obtain ⟨u5, u6, u7, u8, u9, u10, u11, u12, u13, u14, u15, rfl, hB, hz, hW, r0, r1, f0, f1, f2, f3, f4, f5, f6, f7, f8, f9, f10, s7, s10, s11⟩ := hI
      go_simp
      refine hK' _ _ ⟨_, _, _, _, _, _, _, _, _, _, _, rfl, hB, hz, hW, r0, r1, f0, f1, f2, f3, f4, (fun _ => rfl), f6, f7, f8, f9, f10, s7, s10, s11⟩
    refine Steps.cons (fun dd ac wz hI hdd hdep K hK' => ?_) ?_
    · obtain ⟨u5, u6, u7, u8, u9, u10, u11, u12, u13, u14, u15, rfl, hB, hz, hW, r0, r1, f0, f1, f2, f3, f4, f5, f6, f7, f8, f9, f10, s7, s10, s11⟩ := hI
      have q5 := f5 (hdep 5 rfl)
      subst q5
      obtain ⟨y, y0, y1, y2, y3, y4, y5⟩ := LW.out.below hB (by omega)
      go_simp
      refine hK' _ _ ⟨_, _, _, _, _, _, _, _, _, _, _, rfl, hB, hz, hW, r0, r1, f0, f1, f2, f3, f4, f5, (fun _ => rfl), f7, f8, f9, f10, s7, s10, s11⟩
    refine Steps.cons (fun dd ac wz hI hdd hdep K hK' => ?_) ?_
    · obtain ⟨u5, u6, u7, u8, u9, u10, u11, u12, u13, u14, u15, rfl, hB, hz, hW, r0, r1, f0, f1, f2, f3, f4, f5, f6, f7, f8, f9, f10, s7, s10, s11⟩ := hI
      have q4 := f4 (hdep 4 rfl)
      subst q4
      have q6 := f6 (hdep 6 rfl)
      subst q6
      go_simp
      have hd4 := hdep 4 rfl
      refine hK' _ _ ⟨_, _, _, _, _, _, _, _, _, _, _, rfl, hB, hz, hW, r0, r1, f0, f1, f2, f3, f4, f5, f6, (fun _ => rfl), f8, f9, f10, (fun _ => hd4), (fun _ => rfl), s11⟩
    refine Steps.cons (fun dd ac wz hI hdd hdep K hK' => ?_) ?_
    · obtain ⟨u5, u6, u7, u8, u9, u10, u11, u12, u13, u14, u15, rfl, hB, hz, hW, r0, r1, f0, f1, f2, f3, f4, f5, f6, f7, f8, f9, f10, s7, s10, s11⟩ := hI
      go_simp
      refine hK' _ _ ⟨_, _, _, _, _, _, _, _, _, _, _, rfl, hB, hz, hW, r0, r1, f0, f1, f2, f3, f4, f5, f6, f7, (fun _ => rfl), f9, f10, s7, s10, s11⟩
    refine Steps.cons (fun dd ac wz hI hdd hdep K hK' => ?_) ?_
    · obtain ⟨u5, u6, u7, u8, u9, u10, u11, u12, u13, u14, u15, rfl, hB, hz, hW, r0, r1, f0, f1, f2, f3, f4, f5, f6, f7, f8, f9, f10, s7, s10, s11⟩ := hI
      have q8 := f8 (hdep 8 rfl)
      subst q8
      obtain ⟨y, y0, y1, y2, y3, y4, y5⟩ := LW.out.below hB (by omega)
      go_simp
      refine hK' _ _ ⟨_, _, _, _, _, _, _, _, _, _, _, rfl, hB, hz, hW, r0, r1, f0, f1, f2, f3, f4, f5, f6, f7, f8, (fun _ => rfl), f10, s7, s10, s11⟩
    refine Steps.cons (fun dd ac wz hI hdd hdep K hK' => ?_) ?_
    · obtain ⟨u5, u6, u7, u8, u9, u10, u11, u12, u13, u14, u15, rfl, hB, hz, hW, r0, r1, f0, f1, f2, f3, f4, f5, f6, f7, f8, f9, f10, s7, s10, s11⟩ := hI
      have q1 := f1 (hdep 1 rfl)
      subst q1
      have q7 := f7 (hdep 7 rfl)
      subst q7
      have q9 := f9 (hdep 9 rfl)
      subst q9
      go_simp
      have hd7 := hdep 7 rfl
      refine hK' _ _ ⟨_, _, _, _, _, _, _, _, _, _, _, rfl, hB, hz, hW, r0, r1, f0, f1, f2, f3, f4, f5, f6, f7, f8, f9, (fun _ => rfl), s7, (fun _ => hd7), s11⟩
    refine Steps.cons (fun dd ac wz hI hdd hdep K hK' => ?_) ?_
    · obtain ⟨u5, u6, u7, u8, u9, u10, u11, u12, u13, u14, u15, rfl, hB, hz, hW, r0, r1, f0, f1, f2, f3, f4, f5, f6, f7, f8, f9, f10, s7, s10, s11⟩ := hI
      have q10 := f10 (hdep 10 rfl)
      subst q10
      obtain ⟨g0, ⟨g1, g2, g3, g4, g5⟩, ⟨g6, g7, g8, g9, g10⟩⟩ := r0 hdd
      go_simp
      have hd4 : dd 4 = true := s7 (s10 (hdep 10 rfl))
      refine hK' _ _ ⟨_, _, _, _, _, _, _, _, _, _, _, rfl, (((((hB.setCell (Nat.le_refl _) _).setCell (Nat.le_refl _) _).setCell (Nat.le_refl _) _).setCell (Nat.le_refl _) _).setCell (Nat.le_refl _) _), ((by simpa using hz)), (((((hW.setCell (Nat.le_succ _) _).setCell (Nat.le_succ _) _).setCell (Nat.le_succ _) _).setCell (Nat.le_succ _) _).setCell (Nat.le_succ _) _), (fun h => by cases h), (fun _ => (store5 g0 g1 g2 g3 g4 g5).out), f0, f1, f2, f3, f4, f5, f6, f7, f8, f9, f10, s7, s10, (fun _ => hd4)⟩
    exact Steps.nil
  · intro dd ac wz hI hall
    obtain ⟨u5, u6, u7, u8, u9, u10, u11, u12, u13, u14, u15, rfl, hB, hz, hW, r0, r1, f0, f1, f2, f3, f4, f5, f6, f7, f8, f9, f10, s7, s10, s11⟩ := hI
    obtain ⟨g0, g1, g2, g3, g4, g5⟩ := r1 (hall 11 (by decide))
    have HWz := Lib.hid hW
    clear hB hz hW r0 r1 f0 f1 f2 f3 f4 f5 f6 f7 f8 f9 f10 s7 s10 s11 hall
    go_wp2
    refine bodyPost_ret (v := .agg #[.int .i64 p, .int .i64 pw, .int .i64 po, .int .i64 (shareZ d c k + chk), .int .i64 chk]) (by simp [results, Try.results57, go_sem, *]) rfl ?_
    exact ⟨rfl, HWz.out⟩
set_option maxRecDepth 20000 in
set_option maxHeartbeats 2000000 in
theorem iBlock (p pw po d chk c k : Int) (w : World) (c1 : 1 ≤ c) (c2 : c ≤ d) (d2 : d ≤ 1500) (k1 : 1 ≤ chk) (k2 : chk ≤ 64) : Calls Try.prog 62 #[.agg #[.int .i64 p, .int .i64 pw, .int .i64 po, .int .i64 d, .int .i64 chk, .int .i64 c], .int .i64 k] w fun e w' => e = .returned (.agg #[.int .i64 p, .int .i64 pw, .int .i64 po, .int .i64 (shareZ d c k + chk), .int .i64 chk]) ∧ Below w.heap.size w w' := by
  obtain ⟨hs1, hs2⟩ := share_bd (k := k) c1 c2 d2
  have ww : IntKind.i64.wrap (shareZ d c k + chk) = shareZ d c k + chk := IntWalk.i64_in _ (by omega)
  go_enter Try.func62, Try.ntmps62
  go_wp2_with fail
  obtain ⟨W0, hW0⟩ : ∃ W0 : World, W0 = w.alloc (.cells #[.int .i64 p, .int .i64 pw, .int .i64 po, .int .i64 d, .int .i64 chk, .int .i64 c] 29) := ⟨_, rfl⟩
  have hz0 : W0.heap.size = w.heap.size + 1 := by rw [hW0]; simp
  have l0 : Lay6 W0 w.heap.size p pw po d chk c := by rw [hW0]; exact Lay6.new w _ _ _ _ _ _ _
  have hk0 : Below w.heap.size w W0 := by rw [hW0]; repeat' (first | (with_reducible exact Below.refl _ _) | (with_reducible assumption) | (with_reducible refine Below.alloc ?_ ?_ _) | (with_reducible refine Below.setCell ?_ ?_ _) | (with_reducible refine Below.drew ?_) | (with_reducible refine below_drewN ?_ _) | (with_reducible refine below_via (by with_reducible assumption) ?_ ?_) | go_size)
  rw [← hW0]
  clear hW0
  obtain ⟨W, hW⟩ : ∃ W : World, W = W0.alloc (.cells #[.int .i64 0, .int .i64 0, .int .i64 0, .int .i64 0, .int .i64 0] 81) := ⟨_, rfl⟩
  have r5 : Hid (Res5 W (w.heap.size + 1)) := by rw [hW, ← hz0]; exact Res5.new W0 _
  have LW : Hid (Lay6 W w.heap.size p pw po d chk c) := by rw [hW]; exact l0.below ((Below.refl _ _).alloc (Nat.le_refl _) _) (by omega)
  have HW0 : Hid (Below w.heap.size w W) := by rw [hW]; unfold Hid; repeat' (first | (with_reducible exact Below.refl _ _) | (with_reducible assumption) | (with_reducible refine Below.alloc ?_ ?_ _) | (with_reducible refine Below.setCell ?_ ?_ _) | (with_reducible refine Below.drew ?_) | (with_reducible refine below_drewN ?_ _) | (with_reducible refine below_via (by with_reducible assumption) ?_ ?_) | go_size)
  have hz1 : W.heap.size = w.heap.size + 2 := by rw [hW]; simp; omega
  (try rw [hz0])
  rw [← hW]
  clear hW l0 hk0
  refine wp_region_inv (fun dd ac wz => ∃ (u5 u6 u7 u8 u9 u10 u11 u12 u13 u14 u15 : Value), ac = ({ tmps := #[.agg #[.int .i64 p, .int .i64 pw, .int .i64 po, .int .i64 d, .int .i64 chk, .int .i64 c], .int .i64 k, .pointer (some ⟨w.heap.size, 0, none⟩), undef, .pointer (some ⟨w.heap.size + 1, 0, none⟩), u5, u6, u7, u8, u9, u10, u11, u12, u13, u14, u15], defers := [] } : Act) ∧ Below (w.heap.size + 1) W wz ∧ w.heap.size + 1 < wz.heap.size ∧ Below w.heap.size w wz ∧ (dd 11 = false → Res5 wz (w.heap.size + 1)) ∧ (dd 11 = true → Code5 wz (w.heap.size + 1) p pw po (shareZ d c k + chk) chk) ∧ (dd 0 = true → u5 = .pointer (some ⟨w.heap.size, 0, none⟩)) ∧ (dd 1 = true → u6 = .agg #[.int .i64 p, .int .i64 pw, .int .i64 po]) ∧ (dd 2 = true → u7 = .agg #[.int .i64 p, .int .i64 pw, .int .i64 po, .int .i64 d, .int .i64 chk, .int .i64 c]) ∧ (dd 3 = true → u8 = .int .i64 k) ∧ (dd 4 = true → u9 = .int .i64 (shareZ d c k)) ∧ (dd 5 = true → u10 = .pointer (some ⟨w.heap.size, 4, none⟩)) ∧ (dd 6 = true → u11 = .int .i64 chk) ∧ (dd 7 = true → u12 = .int .i64 (shareZ d c k + chk)) ∧ (dd 8 = true → u13 = .pointer (some ⟨w.heap.size, 4, none⟩)) ∧ (dd 9 = true → u14 = .int .i64 chk) ∧ (dd 10 = true → u15 = .agg #[.int .i64 p, .int .i64 pw, .int .i64 po, .int .i64 (shareZ d c k + chk), .int .i64 chk]) ∧ (dd 7 = true → dd 4 = true) ∧ (dd 10 = true → dd 7 = true) ∧ (dd 11 = true → dd 4 = true)) (by kernel_rfl) (by kernel_rfl) ?_ ?_ ?_
  · exact ⟨_, _, _, _, _, _, _, _, _, _, _, rfl, (Below.refl _ _).drew, (show w.heap.size + 1 < W.heap.size by omega), HW0.out.drew, fun _ => r5.out.keep (Below.refl _ _).drew, (fun h => by cases h), (fun h => by cases h), (fun h => by cases h), (fun h => by cases h), (fun h => by cases h), (fun h => by cases h), (fun h => by cases h), (fun h => by cases h), (fun h => by cases h), (fun h => by cases h), (fun h => by cases h), (fun h => by cases h), (fun h => by cases h), (fun h => by cases h), (fun h => by cases h)⟩
  · refine Steps.cons (fun dd ac wz hI hdd hdep K hK' => ?_) ?_
    · obtain ⟨u5, u6, u7, u8, u9, u10, u11, u12, u13, u14, u15, rfl, hB, hz, hW, r0, r1, f0, f1, f2, f3, f4, f5, f6, f7, f8, f9, f10, s7, s10, s11⟩ := hI
      go_simp
      refine hK' _ _ ⟨_, _, _, _, _, _, _, _, _, _, _, rfl, hB, hz, hW, r0, r1, (fun _ => rfl), f1, f2, f3, f4, f5, f6, f7, f8, f9, f10, s7, s10, s11⟩
    refine Steps.cons (fun dd ac wz hI hdd hdep K hK' => ?_) ?_
    · obtain ⟨u5, u6, u7, u8, u9, u10, u11, u12, u13, u14, u15, rfl, hB, hz, hW, r0, r1, f0, f1, f2, f3, f4, f5, f6, f7, f8, f9, f10, s7, s10, s11⟩ := hI
      have q0 := f0 (hdep 0 rfl)
      subst q0
      obtain ⟨y, y0, y1, y2, y3, y4, y5⟩ := LW.out.below hB (by omega)
      go_simp
      refine hK' _ _ ⟨_, _, _, _, _, _, _, _, _, _, _, rfl, hB, hz, hW, r0, r1, f0, (fun _ => rfl), f2, f3, f4, f5, f6, f7, f8, f9, f10, s7, s10, s11⟩
    refine Steps.cons (fun dd ac wz hI hdd hdep K hK' => ?_) ?_
    · obtain ⟨u5, u6, u7, u8, u9, u10, u11, u12, u13, u14, u15, rfl, hB, hz, hW, r0, r1, f0, f1, f2, f3, f4, f5, f6, f7, f8, f9, f10, s7, s10, s11⟩ := hI
      obtain ⟨y, y0, y1, y2, y3, y4, y5⟩ := LW.out.below hB (by omega)
      go_simp
      refine hK' _ _ ⟨_, _, _, _, _, _, _, _, _, _, _, rfl, hB, hz, hW, r0, r1, f0, f1, (fun _ => rfl), f3, f4, f5, f6, f7, f8, f9, f10, s7, s10, s11⟩
    refine Steps.cons (fun dd ac wz hI hdd hdep K hK' => ?_) ?_
    · obtain ⟨u5, u6, u7, u8, u9, u10, u11, u12, u13, u14, u15, rfl, hB, hz, hW, r0, r1, f0, f1, f2, f3, f4, f5, f6, f7, f8, f9, f10, s7, s10, s11⟩ := hI
      go_simp
      refine hK' _ _ ⟨_, _, _, _, _, _, _, _, _, _, _, rfl, hB, hz, hW, r0, r1, f0, f1, f2, (fun _ => rfl), f4, f5, f6, f7, f8, f9, f10, s7, s10, s11⟩
    refine Steps.cons (fun dd ac wz hI hdd hdep K hK' => ?_) ?_
    · obtain ⟨u5, u6, u7, u8, u9, u10, u11, u12, u13, u14, u15, rfl, hB, hz, hW, r0, r1, f0, f1, f2, f3, f4, f5, f6, f7, f8, f9, f10, s7, s10, s11⟩ := hI
      have q2 := f2 (hdep 2 rfl)
      subst q2
      have q3 := f3 (hdep 3 rfl)
      subst q3
      have hs : dd 11 = false := by
        cases h : dd 11 with
        | false => rfl
        | true => have h7 := s11 h; rw [hdd] at h7; cases h7
      have h5 := r0 hs
      go_simp
      refine (iShare p pw po d chk c k wz c1 c2 d2).mono ?_
      rintro e w1' ⟨rfl, hbx⟩
      refine hK' _ _ ⟨_, _, _, _, _, _, _, _, _, _, _, rfl, (hB.trans (hbx.mono (by omega))), (Nat.lt_of_lt_of_le hz hbx.size), (hW.trans (hbx.mono hW.size)), (fun _ => h5.keep hbx), (fun h => absurd (h.symm.trans hs) (by decide)), f0, f1, f2, f3, (fun _ => rfl), f5, f6, f7, f8, f9, f10, (fun _ => rfl), s10, (fun _ => rfl)⟩
    refine Steps.cons (fun dd ac wz hI hdd hdep K hK' => ?_) ?_
    · obtain ⟨u5, u6, u7, u8, u9, u10, u11, u12, u13, u14, u15, rfl, hB, hz, hW, r0, r1, f0, f1, f2, f3, f4, f5, f6, f7, f8, f9, f10, s7, s10, s11⟩ := hI
      go_simp
      refine hK' _ _ ⟨_, _, _, _, _, _, _, _, _, _, _, rfl, hB, hz, hW, r0, r1, f0, f1, f2, f3, f4, (fun _ => rfl), f6, f7, f8, f9, f10, s7, s10, s11⟩
    refine Steps.cons (fun dd ac wz hI hdd hdep K hK' => ?_) ?_
    · obtain ⟨u5, u6, u7, u8, u9, u10, u11, u12, u13, u14, u15, rfl, hB, hz, hW, r0, r1, f0, f1, f2, f3, f4, f5, f6, f7, f8, f9, f10, s7, s10, s11⟩ := hI
      have q5 := f5 (hdep 5 rfl)
      subst q5
      obtain ⟨y, y0, y1, y2, y3, y4, y5⟩ := LW.out.below hB (by omega)
      go_simp
      refine hK' _ _ ⟨_, _, _, _, _, _, _, _, _, _, _, rfl, hB, hz, hW, r0, r1, f0, f1, f2, f3, f4, f5, (fun _ => rfl), f7, f8, f9, f10, s7, s10, s11⟩
    refine Steps.cons (fun dd ac wz hI hdd hdep K hK' => ?_) ?_
    · obtain ⟨u5, u6, u7, u8, u9, u10, u11, u12, u13, u14, u15, rfl, hB, hz, hW, r0, r1, f0, f1, f2, f3, f4, f5, f6, f7, f8, f9, f10, s7, s10, s11⟩ := hI
      have q4 := f4 (hdep 4 rfl)
      subst q4
      have q6 := f6 (hdep 6 rfl)
      subst q6
      go_simp
      have hd4 := hdep 4 rfl
      refine hK' _ _ ⟨_, _, _, _, _, _, _, _, _, _, _, rfl, hB, hz, hW, r0, r1, f0, f1, f2, f3, f4, f5, f6, (fun _ => rfl), f8, f9, f10, (fun _ => hd4), (fun _ => rfl), s11⟩
    refine Steps.cons (fun dd ac wz hI hdd hdep K hK' => ?_) ?_
    · obtain ⟨u5, u6, u7, u8, u9, u10, u11, u12, u13, u14, u15, rfl, hB, hz, hW, r0, r1, f0, f1, f2, f3, f4, f5, f6, f7, f8, f9, f10, s7, s10, s11⟩ := hI
      go_simp
      refine hK' _ _ ⟨_, _, _, _, _, _, _, _, _, _, _, rfl, hB, hz, hW, r0, r1, f0, f1, f2, f3, f4, f5, f6, f7, (fun _ => rfl), f9, f10, s7, s10, s11⟩
    refine Steps.cons (fun dd ac wz hI hdd hdep K hK' => ?_) ?_
    · obtain ⟨u5, u6, u7, u8, u9, u10, u11, u12, u13, u14, u15, rfl, hB, hz, hW, r0, r1, f0, f1, f2, f3, f4, f5, f6, f7, f8, f9, f10, s7, s10, s11⟩ := hI
      have q8 := f8 (hdep 8 rfl)
      subst q8
      obtain ⟨y, y0, y1, y2, y3, y4, y5⟩ := LW.out.below hB (by omega)
      go_simp
      refine hK' _ _ ⟨_, _, _, _, _, _, _, _, _, _, _, rfl, hB, hz, hW, r0, r1, f0, f1, f2, f3, f4, f5, f6, f7, f8, (fun _ => rfl), f10, s7, s10, s11⟩
    refine Steps.cons (fun dd ac wz hI hdd hdep K hK' => ?_) ?_
    · obtain ⟨u5, u6, u7, u8, u9, u10, u11, u12, u13, u14, u15, rfl, hB, hz, hW, r0, r1, f0, f1, f2, f3, f4, f5, f6, f7, f8, f9, f10, s7, s10, s11⟩ := hI
      have q1 := f1 (hdep 1 rfl)
      subst q1
      have q7 := f7 (hdep 7 rfl)
      subst q7
      have q9 := f9 (hdep 9 rfl)
      subst q9
      go_simp
      have hd7 := hdep 7 rfl
      refine hK' _ _ ⟨_, _, _, _, _, _, _, _, _, _, _, rfl, hB, hz, hW, r0, r1, f0, f1, f2, f3, f4, f5, f6, f7, f8, f9, (fun _ => rfl), s7, (fun _ => hd7), s11⟩
    refine Steps.cons (fun dd ac wz hI hdd hdep K hK' => ?_) ?_
    · obtain ⟨u5, u6, u7, u8, u9, u10, u11, u12, u13, u14, u15, rfl, hB, hz, hW, r0, r1, f0, f1, f2, f3, f4, f5, f6, f7, f8, f9, f10, s7, s10, s11⟩ := hI
      have q10 := f10 (hdep 10 rfl)
      subst q10
      obtain ⟨g0, ⟨g1, g2, g3, g4, g5⟩, ⟨g6, g7, g8, g9, g10⟩⟩ := r0 hdd
      go_simp
      have hd4 : dd 4 = true := s7 (s10 (hdep 10 rfl))
      refine hK' _ _ ⟨_, _, _, _, _, _, _, _, _, _, _, rfl, (((((hB.setCell (Nat.le_refl _) _).setCell (Nat.le_refl _) _).setCell (Nat.le_refl _) _).setCell (Nat.le_refl _) _).setCell (Nat.le_refl _) _), ((by simpa using hz)), (((((hW.setCell (Nat.le_succ _) _).setCell (Nat.le_succ _) _).setCell (Nat.le_succ _) _).setCell (Nat.le_succ _) _).setCell (Nat.le_succ _) _), (fun h => by cases h), (fun _ => (store5 g0 g1 g2 g3 g4 g5).out), f0, f1, f2, f3, f4, f5, f6, f7, f8, f9, f10, s7, s10, (fun _ => hd4)⟩
    exact Steps.nil
  · intro dd ac wz hI hall
    obtain ⟨u5, u6, u7, u8, u9, u10, u11, u12, u13, u14, u15, rfl, hB, hz, hW, r0, r1, f0, f1, f2, f3, f4, f5, f6, f7, f8, f9, f10, s7, s10, s11⟩ := hI
    obtain ⟨g0, g1, g2, g3, g4, g5⟩ := r1 (hall 11 (by decide))
    have HWz := Lib.hid hW
    clear hB hz hW r0 r1 f0 f1 f2 f3 f4 f5 f6 f7 f8 f9 f10 s7 s10 s11 hall
    go_wp2
    refine bodyPost_ret (v := .agg #[.int .i64 p, .int .i64 pw, .int .i64 po, .int .i64 (shareZ d c k + chk), .int .i64 chk]) (by simp [results, Try.results62, go_sem, *]) rfl ?_
    exact ⟨rfl, HWz.out⟩
end Go.Proofs.Ytdpifddmhbeklaa
namespace Go.Proofs.Ytdpifddmhbeklaa
open Go.RowKit
set_option linter.unusedVariables false
noncomputable def layB (p pw po d chk c : Int) : Bool := inB c 1 16 && inB d c 1500 && inB chk 1 64 && decide (d + c * chk ≤ 1500) && codeB p pw po (shareZ d c 0 + chk) chk && codeB p pw po (shareZ d c (c - 1) + chk) chk
theorem layB_true {p pw po d chk c : Int} (h : layB p pw po d chk c = true) : 1 ≤ c ∧ c ≤ 16 ∧ c ≤ d ∧ d ≤ 1500 ∧ 1 ≤ chk ∧ chk ≤ 64 ∧ d + c * chk ≤ 1500 := by
  simp only [layB, Bool.and_eq_true, decide_eq_true_eq] at h
  obtain ⟨⟨⟨⟨⟨h1, h2⟩, h3⟩, h4⟩, -⟩, -⟩ := h
  obtain ⟨a, b⟩ := inB_iff.1 h1
  obtain ⟨e, f⟩ := inB_iff.1 h2
  obtain ⟨g, i⟩ := inB_iff.1 h3
  exact ⟨a, b, e, f, g, i, h4⟩
set_option maxRecDepth 20000 in
set_option maxHeartbeats 4000000 in
theorem iTotal (p pw po d chk c : Int) (w : World) (c1 : 1 ≤ c) (c2 : c ≤ 16) (d1 : 0 ≤ d) (d2 : d ≤ 1500) (k1 : 1 ≤ chk) (k2 : chk ≤ 64) : Calls Try.prog 60 #[.agg #[.int .i64 p, .int .i64 pw, .int .i64 po, .int .i64 d, .int .i64 chk, .int .i64 c]] w fun e w' => e = .returned (.int .i64 (d + c * chk)) ∧ Below w.heap.size w w' := by
  have q0 : 0 ≤ c * chk := Int.mul_nonneg (by omega) (by omega)
  have q1 : c * chk ≤ 16 * chk := Int.mul_le_mul_of_nonneg_right c2 (by omega)
  go_enter Try.func60, Try.ntmps60
  go_wp2
  go_returns
  exact ⟨rfl, by repeat' (first | (with_reducible exact Below.refl _ _) | (with_reducible assumption) | (with_reducible refine Below.alloc ?_ ?_ _) | (with_reducible refine Below.setCell ?_ ?_ _) | (with_reducible refine Below.drew ?_) | (with_reducible refine below_drewN ?_ _) | (with_reducible refine below_via (by with_reducible assumption) ?_ ?_) | go_size)⟩
set_option maxRecDepth 20000 in
set_option maxHeartbeats 4000000 in
theorem sIsLayout (p pw po d chk c : Int) (w : World) : Calls Try.prog 14 #[.agg #[.int .i64 p, .int .i64 pw, .int .i64 po, .int .i64 d, .int .i64 chk, .int .i64 c]] w fun e w' => e = .returned (.bool (layB p pw po d chk c)) ∧ Below w.heap.size w w' := by
  cases h1 : inB c 1 16
  · have HE : Hid (false = layB p pw po d chk c) := by unfold Hid layB; rw [h1]; rfl
    go_enter Try.func14, Try.ntmps14
    go_wp2_with (go_at_call 55; refine (sIn _ _ _ _).mono ?_; rintro e w' ⟨rfl, rfl⟩)
    go_returns
    exact ⟨ret_bool HE.out, by repeat' (first | (with_reducible exact Below.refl _ _) | (with_reducible assumption) | (with_reducible refine Below.alloc ?_ ?_ _) | (with_reducible refine Below.setCell ?_ ?_ _) | (with_reducible refine Below.drew ?_) | (with_reducible refine below_drewN ?_ _) | (with_reducible refine below_via (by with_reducible assumption) ?_ ?_) | go_size)⟩
  obtain ⟨c1, c2⟩ := inB_iff.1 h1
  cases h2 : inB d c 1500
  · have HE : Hid (false = layB p pw po d chk c) := by unfold Hid layB; rw [h1, h2]; rfl
    go_enter Try.func14, Try.ntmps14
    go_wp2_with (go_at_call 55; refine (sIn _ _ _ _).mono ?_; rintro e w' ⟨rfl, rfl⟩)
    go_returns
    exact ⟨ret_bool HE.out, by repeat' (first | (with_reducible exact Below.refl _ _) | (with_reducible assumption) | (with_reducible refine Below.alloc ?_ ?_ _) | (with_reducible refine Below.setCell ?_ ?_ _) | (with_reducible refine Below.drew ?_) | (with_reducible refine below_drewN ?_ _) | (with_reducible refine below_via (by with_reducible assumption) ?_ ?_) | go_size)⟩
  obtain ⟨b1, b2⟩ := inB_iff.1 h2
  cases h3 : inB chk 1 64
  · have HE : Hid (false = layB p pw po d chk c) := by unfold Hid layB; rw [h1, h2, h3]; rfl
    go_enter Try.func14, Try.ntmps14
    go_wp2_with (go_at_call 55; refine (sIn _ _ _ _).mono ?_; rintro e w' ⟨rfl, rfl⟩)
    go_returns
    exact ⟨ret_bool HE.out, by repeat' (first | (with_reducible exact Below.refl _ _) | (with_reducible assumption) | (with_reducible refine Below.alloc ?_ ?_ _) | (with_reducible refine Below.setCell ?_ ?_ _) | (with_reducible refine Below.drew ?_) | (with_reducible refine below_drewN ?_ _) | (with_reducible refine below_via (by with_reducible assumption) ?_ ?_) | go_size)⟩
  obtain ⟨k1, k2⟩ := inB_iff.1 h3
  have q0 : 0 ≤ c * chk := Int.mul_nonneg (by omega) (by omega)
  have q1 : c * chk ≤ 16 * chk := Int.mul_le_mul_of_nonneg_right c2 (by omega)
  by_cases ht : 1500 < d + c * chk
  · have HE : Hid (false = layB p pw po d chk c) := by
      unfold Hid layB
      rw [h1, h2, h3, show decide (d + c * chk ≤ 1500) = false by simp; omega]; rfl
    go_enter Try.func14, Try.ntmps14
    go_wp2_with (first | (go_at_call 55; refine (sIn _ _ _ _).mono ?_; rintro e w' ⟨rfl, rfl⟩) | (go_at_call 57; refine (sBlock p pw po d chk c _ _ c1 b1 b2 k1 k2).mono ?_; rintro e w' ⟨rfl, hb⟩; obtain ⟨hc, hf⟩ := bcell hb; have hz := hb.size; (try simp at hz); have hz0 : w.heap.size < w'.heap.size := (by omega)) | (go_at_call 56; refine (sIsCode _ _ _ _ _ _).mono ?_; rintro e w' ⟨rfl, hb⟩; obtain ⟨hc, hf⟩ := bcell hb; have hz := hb.size; (try simp at hz); have hz0 : w.heap.size < w'.heap.size := (by omega)))
    go_returns
    exact ⟨ret_bool HE.out, by repeat' (first | (with_reducible exact Below.refl _ _) | (with_reducible assumption) | (with_reducible refine Below.alloc ?_ ?_ _) | (with_reducible refine Below.setCell ?_ ?_ _) | (with_reducible refine Below.drew ?_) | (with_reducible refine below_drewN ?_ _) | (with_reducible refine below_via (by with_reducible assumption) ?_ ?_) | go_size)⟩
  have hle : d + c * chk ≤ 1500 := by omega
  cases h4 : codeB p pw po (shareZ d c 0 + chk) chk
  · have HE : Hid (false = layB p pw po d chk c) := by
      unfold Hid layB
      rw [h1, h2, h3, h4, show decide (d + c * chk ≤ 1500) = true by simp; omega]; rfl
    go_enter Try.func14, Try.ntmps14
    go_wp2_with (first | (go_at_call 55; refine (sIn _ _ _ _).mono ?_; rintro e w' ⟨rfl, rfl⟩) | (go_at_call 57; refine (sBlock p pw po d chk c _ _ c1 b1 b2 k1 k2).mono ?_; rintro e w' ⟨rfl, hb⟩; obtain ⟨hc, hf⟩ := bcell hb; have hz := hb.size; (try simp at hz); have hz0 : w.heap.size < w'.heap.size := (by omega)) | (go_at_call 56; refine (sIsCode _ _ _ _ _ _).mono ?_; rintro e w' ⟨rfl, hb⟩; obtain ⟨hc, hf⟩ := bcell hb; have hz := hb.size; (try simp at hz); have hz0 : w.heap.size < w'.heap.size := (by omega)))
    go_returns
    exact ⟨ret_bool HE.out, by repeat' (first | (with_reducible exact Below.refl _ _) | (with_reducible assumption) | (with_reducible refine Below.alloc ?_ ?_ _) | (with_reducible refine Below.setCell ?_ ?_ _) | (with_reducible refine Below.drew ?_) | (with_reducible refine below_drewN ?_ _) | (with_reducible refine below_via (by with_reducible assumption) ?_ ?_) | go_size)⟩
  · have HE : Hid (codeB p pw po (shareZ d c (c - 1) + chk) chk = layB p pw po d chk c) := by
      unfold Hid layB
      rw [h1, h2, h3, h4, show decide (d + c * chk ≤ 1500) = true by simp; omega]; rfl
    go_enter Try.func14, Try.ntmps14
    go_wp2_with (first | (go_at_call 55; refine (sIn _ _ _ _).mono ?_; rintro e w' ⟨rfl, rfl⟩) | (go_at_call 57; refine (sBlock p pw po d chk c _ _ c1 b1 b2 k1 k2).mono ?_; rintro e w' ⟨rfl, hb⟩; obtain ⟨hc, hf⟩ := bcell hb; have hz := hb.size; (try simp at hz); have hz0 : w.heap.size < w'.heap.size := (by omega)) | (go_at_call 56; refine (sIsCode _ _ _ _ _ _).mono ?_; rintro e w' ⟨rfl, hb⟩; obtain ⟨hc, hf⟩ := bcell hb; have hz := hb.size; (try simp at hz); have hz0 : w.heap.size < w'.heap.size := (by omega)))
    go_returns
    exact ⟨ret_bool HE.out, by repeat' (first | (with_reducible exact Below.refl _ _) | (with_reducible assumption) | (with_reducible refine Below.alloc ?_ ?_ _) | (with_reducible refine Below.setCell ?_ ?_ _) | (with_reducible refine Below.drew ?_) | (with_reducible refine below_drewN ?_ _) | (with_reducible refine below_via (by with_reducible assumption) ?_ ?_) | go_size)⟩
set_option maxRecDepth 20000 in
set_option maxHeartbeats 4000000 in
theorem iIsLayout (p pw po d chk c : Int) (w : World) : Calls Try.prog 16 #[.agg #[.int .i64 p, .int .i64 pw, .int .i64 po, .int .i64 d, .int .i64 chk, .int .i64 c]] w fun e w' => e = .returned (.bool (layB p pw po d chk c)) ∧ Below w.heap.size w w' := by
  cases h1 : inB c 1 16
  · have HE : Hid (false = layB p pw po d chk c) := by unfold Hid layB; rw [h1]; rfl
    go_enter Try.func16, Try.ntmps16
    go_wp2_with (go_at_call 59; refine (iIn _ _ _ _).mono ?_; rintro e w' ⟨rfl, rfl⟩)
    go_returns
    exact ⟨ret_bool HE.out, by repeat' (first | (with_reducible exact Below.refl _ _) | (with_reducible assumption) | (with_reducible refine Below.alloc ?_ ?_ _) | (with_reducible refine Below.setCell ?_ ?_ _) | (with_reducible refine Below.drew ?_) | (with_reducible refine below_drewN ?_ _) | (with_reducible refine below_via (by with_reducible assumption) ?_ ?_) | go_size)⟩
  obtain ⟨c1, c2⟩ := inB_iff.1 h1
  cases h2 : inB d c 1500
  · have HE : Hid (false = layB p pw po d chk c) := by unfold Hid layB; rw [h1, h2]; rfl
    go_enter Try.func16, Try.ntmps16
    go_wp2_with (go_at_call 59; refine (iIn _ _ _ _).mono ?_; rintro e w' ⟨rfl, rfl⟩)
    go_returns
    exact ⟨ret_bool HE.out, by repeat' (first | (with_reducible exact Below.refl _ _) | (with_reducible assumption) | (with_reducible refine Below.alloc ?_ ?_ _) | (with_reducible refine Below.setCell ?_ ?_ _) | (with_reducible refine Below.drew ?_) | (with_reducible refine below_drewN ?_ _) | (with_reducible refine below_via (by with_reducible assumption) ?_ ?_) | go_size)⟩
  obtain ⟨b1, b2⟩ := inB_iff.1 h2
  cases h3 : inB chk 1 64
  · have HE : Hid (false = layB p pw po d chk c) := by unfold Hid layB; rw [h1, h2, h3]; rfl
    go_enter Try.func16, Try.ntmps16
    go_wp2_with (go_at_call 59; refine (iIn _ _ _ _).mono ?_; rintro e w' ⟨rfl, rfl⟩)
    go_returns
    exact ⟨ret_bool HE.out, by repeat' (first | (with_reducible exact Below.refl _ _) | (with_reducible assumption) | (with_reducible refine Below.alloc ?_ ?_ _) | (with_reducible refine Below.setCell ?_ ?_ _) | (with_reducible refine Below.drew ?_) | (with_reducible refine below_drewN ?_ _) | (with_reducible refine below_via (by with_reducible assumption) ?_ ?_) | go_size)⟩
  obtain ⟨k1, k2⟩ := inB_iff.1 h3
  have q0 : 0 ≤ c * chk := Int.mul_nonneg (by omega) (by omega)
  have q1 : c * chk ≤ 16 * chk := Int.mul_le_mul_of_nonneg_right c2 (by omega)
  by_cases ht : 1500 < d + c * chk
  · have HE : Hid (false = layB p pw po d chk c) := by
      unfold Hid layB
      rw [h1, h2, h3, show decide (d + c * chk ≤ 1500) = false by simp; omega]; rfl
    go_enter Try.func16, Try.ntmps16
    go_wp2_with (first | (go_at_call 59; refine (iIn _ _ _ _).mono ?_; rintro e w' ⟨rfl, rfl⟩) | (go_at_call 60; refine (iTotal p pw po d chk c _ c1 c2 (by omega) b2 k1 k2).mono ?_; rintro e w' ⟨rfl, hb⟩; obtain ⟨hc, hf⟩ := bcell hb; have hz := hb.size; (try simp at hz); have hz0 : w.heap.size < w'.heap.size := (by omega)) | (go_at_call 62; refine (iBlock p pw po d chk c _ _ c1 b1 b2 k1 k2).mono ?_; rintro e w' ⟨rfl, hb⟩; obtain ⟨hc, hf⟩ := bcell hb; have hz := hb.size; (try simp at hz); have hz0 : w.heap.size < w'.heap.size := (by omega)) | (go_at_call 61; refine (iIsCode _ _ _ _ _ _).mono ?_; rintro e w' ⟨rfl, hb⟩; obtain ⟨hc, hf⟩ := bcell hb; have hz := hb.size; (try simp at hz); have hz0 : w.heap.size < w'.heap.size := (by omega)))
    go_returns
    exact ⟨ret_bool HE.out, by repeat' (first | (with_reducible exact Below.refl _ _) | (with_reducible assumption) | (with_reducible refine Below.alloc ?_ ?_ _) | (with_reducible refine Below.setCell ?_ ?_ _) | (with_reducible refine Below.drew ?_) | (with_reducible refine below_drewN ?_ _) | (with_reducible refine below_via (by with_reducible assumption) ?_ ?_) | go_size)⟩
  have hle : d + c * chk ≤ 1500 := by omega
  cases h4 : codeB p pw po (shareZ d c 0 + chk) chk
  · have HE : Hid (false = layB p pw po d chk c) := by
      unfold Hid layB
      rw [h1, h2, h3, h4, show decide (d + c * chk ≤ 1500) = true by simp; omega]; rfl
    go_enter Try.func16, Try.ntmps16
    go_wp2_with (first | (go_at_call 59; refine (iIn _ _ _ _).mono ?_; rintro e w' ⟨rfl, rfl⟩) | (go_at_call 60; refine (iTotal p pw po d chk c _ c1 c2 (by omega) b2 k1 k2).mono ?_; rintro e w' ⟨rfl, hb⟩; obtain ⟨hc, hf⟩ := bcell hb; have hz := hb.size; (try simp at hz); have hz0 : w.heap.size < w'.heap.size := (by omega)) | (go_at_call 62; refine (iBlock p pw po d chk c _ _ c1 b1 b2 k1 k2).mono ?_; rintro e w' ⟨rfl, hb⟩; obtain ⟨hc, hf⟩ := bcell hb; have hz := hb.size; (try simp at hz); have hz0 : w.heap.size < w'.heap.size := (by omega)) | (go_at_call 61; refine (iIsCode _ _ _ _ _ _).mono ?_; rintro e w' ⟨rfl, hb⟩; obtain ⟨hc, hf⟩ := bcell hb; have hz := hb.size; (try simp at hz); have hz0 : w.heap.size < w'.heap.size := (by omega)))
    go_returns
    exact ⟨ret_bool HE.out, by repeat' (first | (with_reducible exact Below.refl _ _) | (with_reducible assumption) | (with_reducible refine Below.alloc ?_ ?_ _) | (with_reducible refine Below.setCell ?_ ?_ _) | (with_reducible refine Below.drew ?_) | (with_reducible refine below_drewN ?_ _) | (with_reducible refine below_via (by with_reducible assumption) ?_ ?_) | go_size)⟩
  · have HE : Hid (codeB p pw po (shareZ d c (c - 1) + chk) chk = layB p pw po d chk c) := by
      unfold Hid layB
      rw [h1, h2, h3, h4, show decide (d + c * chk ≤ 1500) = true by simp; omega]; rfl
    go_enter Try.func16, Try.ntmps16
    go_wp2_with (first | (go_at_call 59; refine (iIn _ _ _ _).mono ?_; rintro e w' ⟨rfl, rfl⟩) | (go_at_call 60; refine (iTotal p pw po d chk c _ c1 c2 (by omega) b2 k1 k2).mono ?_; rintro e w' ⟨rfl, hb⟩; obtain ⟨hc, hf⟩ := bcell hb; have hz := hb.size; (try simp at hz); have hz0 : w.heap.size < w'.heap.size := (by omega)) | (go_at_call 62; refine (iBlock p pw po d chk c _ _ c1 b1 b2 k1 k2).mono ?_; rintro e w' ⟨rfl, hb⟩; obtain ⟨hc, hf⟩ := bcell hb; have hz := hb.size; (try simp at hz); have hz0 : w.heap.size < w'.heap.size := (by omega)) | (go_at_call 61; refine (iIsCode _ _ _ _ _ _).mono ?_; rintro e w' ⟨rfl, hb⟩; obtain ⟨hc, hf⟩ := bcell hb; have hz := hb.size; (try simp at hz); have hz0 : w.heap.size < w'.heap.size := (by omega)))
    go_returns
    exact ⟨ret_bool HE.out, by repeat' (first | (with_reducible exact Below.refl _ _) | (with_reducible assumption) | (with_reducible refine Below.alloc ?_ ?_ _) | (with_reducible refine Below.setCell ?_ ?_ _) | (with_reducible refine Below.drew ?_) | (with_reducible refine below_drewN ?_ _) | (with_reducible refine below_via (by with_reducible assumption) ?_ ?_) | go_size)⟩
end Go.Proofs.Ytdpifddmhbeklaa
namespace Go.Proofs.Ytdpifddmhbeklaa
open Go.RowKit
set_option linter.unusedVariables false
set_option maxHeartbeats 1000000 in
theorem toField (a b c : Int) (w : World) : Calls Try.prog 58 #[.agg #[.int .i64 a, .int .i64 b, .int .i64 c]] w fun e w' => e = .returned (.agg #[.int .i64 a, .int .i64 b, .int .i64 c]) ∧ Below w.heap.size w w' := by
  go_enter Try.func58, Try.ntmps58
  go_wp2
  go_returns
  exact ⟨rfl, by repeat' (first | (with_reducible exact Below.refl _ _) | (with_reducible assumption) | (with_reducible refine Below.alloc ?_ ?_ _) | (with_reducible refine Below.setCell ?_ ?_ _) | (with_reducible refine Below.drew ?_) | (with_reducible refine below_drewN ?_ _) | (with_reducible refine below_via (by with_reducible assumption) ?_ ?_) | go_size)⟩
theorem toFieldX (a b c : Int) (w : World) : Calls Try.prog 58 #[.agg #[.int .i64 a, .int .i64 b, .int .i64 c]] w fun e w' => e = .returned (.agg #[.int .i64 a, .int .i64 b, .int .i64 c]) ∧
    ((w.alloc (.cells #[.int .i64 a, .int .i64 b, .int .i64 c] 23)).alloc (.cells #[.int .i64 a, .int .i64 b, .int .i64 c] 27)).alloc (.cells #[.int .i64 a, .int .i64 b, .int .i64 c] 27) = w' := by
  go_enter Try.func58, Try.ntmps58
  go_wp2
  go_returns
  exact ⟨rfl, rfl⟩
set_option maxRecDepth 20000 in
set_option maxHeartbeats 2000000 in
theorem toLayout (p pw po d k c : Int) (w : World) : Calls Try.prog 15 #[.agg #[.int .i64 p, .int .i64 pw, .int .i64 po, .int .i64 d, .int .i64 k, .int .i64 c]] w fun e w' => e = .returned (.agg #[.int .i64 p, .int .i64 pw, .int .i64 po, .int .i64 d, .int .i64 k, .int .i64 c]) ∧ Below w.heap.size w w' := by
  go_enter Try.func15, Try.ntmps15
  go_wp2_with (go_at_call 58; refine (toFieldX _ _ _ _).mono ?_; rintro e w' ⟨rfl, rfl⟩)
  go_returns
  exact ⟨rfl, by repeat' (first | (with_reducible exact Below.refl _ _) | (with_reducible assumption) | (with_reducible refine Below.alloc ?_ ?_ _) | (with_reducible refine Below.setCell ?_ ?_ _) | (with_reducible refine Below.drew ?_) | (with_reducible refine below_drewN ?_ _) | (with_reducible refine below_via (by with_reducible assumption) ?_ ?_) | go_size)⟩
set_option maxRecDepth 20000 in
set_option maxHeartbeats 4000000 in
theorem walk_FnExactIsLayout (aL_Field_Prime : Int) (aL_Field_Power : Int) (aL_Field_Poly : Int) (aL_Data : Int) (aL_Checks : Int) (aL_Count : Int) (w : World) (f_aL_Field_Prime : (Lit.int .i64 aL_Field_Prime).wf = true) (f_aL_Field_Power : (Lit.int .i64 aL_Field_Power).wf = true) (f_aL_Field_Poly : (Lit.int .i64 aL_Field_Poly).wf = true) (f_aL_Data : (Lit.int .i64 aL_Data).wf = true) (f_aL_Checks : (Lit.int .i64 aL_Checks).wf = true) (f_aL_Count : (Lit.int .i64 aL_Count).wf = true) :
    Calls Try.prog 3 #[.agg #[.int .i64 aL_Field_Prime, .int .i64 aL_Field_Power, .int .i64 aL_Field_Poly, .int .i64 aL_Data, .int .i64 aL_Checks, .int .i64 aL_Count]] w fun e w' => e = .returned (.bool true) ∧ Below w.heap.size w w' := by
  clear f_aL_Field_Prime f_aL_Field_Power f_aL_Field_Poly f_aL_Data f_aL_Checks f_aL_Count
  obtain ⟨b, hb⟩ : ∃ b, layB aL_Field_Prime aL_Field_Power aL_Field_Poly aL_Data aL_Checks aL_Count = b := ⟨_, rfl⟩
  have HBB := Lib.hid hb
  clear hb
  go_enter Try.func3, Try.ntmps3
  go_wp2_with (first | (go_at_call 15; refine (toLayout _ _ _ _ _ _ _).mono ?_; rintro e w' ⟨rfl, hb⟩; obtain ⟨hc, hf⟩ := bcell hb; have hz := hb.size; (try simp at hz); have hz0 : w.heap.size < w'.heap.size := (by omega)) | (go_at_call 14; refine (sIsLayout _ _ _ _ _ _ _).mono ?_; rintro e w' ⟨rfl, hb⟩; rw [HBB.out]; obtain ⟨hc, hf⟩ := bcell hb; have hz := hb.size; (try simp at hz)) | (go_at_call 16; refine (iIsLayout _ _ _ _ _ _ _).mono ?_; rintro e w' ⟨rfl, hb⟩; rw [HBB.out]; obtain ⟨hc, hf⟩ := bcell hb; have hz := hb.size; (try simp at hz)))
  go_returns
  exact ⟨rfl, by repeat' (first | (with_reducible exact Below.refl _ _) | (with_reducible assumption) | (with_reducible refine Below.alloc ?_ ?_ _) | (with_reducible refine Below.setCell ?_ ?_ _) | (with_reducible refine Below.drew ?_) | (with_reducible refine below_drewN ?_ _) | (with_reducible refine below_via (by with_reducible assumption) ?_ ?_) | go_size)⟩
end Go.Proofs.Ytdpifddmhbeklaa
