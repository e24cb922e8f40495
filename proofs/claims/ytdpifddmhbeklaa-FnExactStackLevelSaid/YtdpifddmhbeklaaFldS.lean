/-
  DERIVED. IsField: spec's contract.
-/
import Derived.Test.YtdpifddmhbeklaaFldM
import Derived.Test.YtdpifddmhbeklaaFldT
namespace Go.Proofs.Ytdpifddmhbeklaa
open Go.RowKit
set_option linter.unusedVariables false
def IsFldP (p po : Int) : Prop := 3 ≤ p ∧ p ≤ 1021 ∧ Prm p ∧ 1 ≤ po ∧ po < p ∧ (∀ g : Int, 1 ≤ g → g < po → ¬ Fills (Tp p g) (p - 1).toNat) ∧ Fills (Tp p po) (p - 1).toNat
def IsFldB (k : Nat) (po : Int) : Prop := (2 : Int) ^ k ≤ po ∧ po < 2 ^ (k + 1) ∧ Fills (Tb (2 ^ k) po) (2 ^ k - 1)
def IsFld (p pw po : Int) : Prop := (pw = 1 ∧ IsFldP p po) ∨ (pw ≠ 1 ∧ p = 2 ∧ ∃ k : Nat, 3 ≤ k ∧ k ≤ 8 ∧ pw = (k : Int) ∧ IsFldB k po)
noncomputable def fldB (p pw po : Int) : Bool := @decide (IsFld p pw po) (Classical.propDecidable _)
theorem fldB_true {p pw po : Int} : fldB p pw po = true ↔ IsFld p pw po := by simp [fldB]
theorem fldB_of {p pw po : Int} {b : Bool} (h : b = true ↔ IsFld p pw po) : b = fldB p pw po := by
  cases b with
  | true => exact (fldB_true.2 (h.1 rfl)).symm
  | false =>
    cases hf : fldB p pw po with
    | false => rfl
    | true => exact absurd (h.2 (fldB_true.1 hf)) (by decide)
theorem fldB_no {p pw po : Int} (h : ¬ IsFld p pw po) : false = fldB p pw po := fldB_of ⟨fun h1 => absurd h1 (by decide), fun h2 => absurd h2 h⟩
theorem IsFld.one {p po : Int} : IsFld p 1 po ↔ IsFldP p po := by
  constructor
  · rintro (⟨-, h⟩ | ⟨h, -⟩)
    · exact h
    · exact absurd rfl h
  · intro h; exact .inl ⟨rfl, h⟩
theorem IsFld.bin {k : Nat} {po : Int} (h3 : 3 ≤ k) (h8 : k ≤ 8) : IsFld 2 (k : Int) po ↔ IsFldB k po := by
  constructor
  · rintro (⟨h, -⟩ | ⟨-, -, j, -, -, e, h⟩)
    · omega
    · obtain rfl : k = j := by omega
      exact h
  · intro h; exact .inr ⟨by omega, rfl, k, h3, h8, rfl, h⟩
theorem IsFld.not2 {p pw po : Int} (h1 : pw ≠ 1) (h : p ≠ 2 ∨ pw < 3 ∨ 8 < pw) : ¬ IsFld p pw po := by
  rintro (⟨h, -⟩ | ⟨-, e, j, j3, j8, e2, -⟩)
  · exact h1 h
  · omega
theorem prmB_true {n : Int} : prmB n = true ↔ Prm n := by simp [prmB]
theorem fillB_true {T : Int → Int} {m : Nat} : fillB T m = true ↔ Fills T m := by simp [fillB]
theorem sRunsP (p po g : Int) (m : Nat) (hpm : p = (m : Int) + 1) (hm : 2 ≤ m) (hm2 : m ≤ 1020) (g0 : 1 ≤ g) (g1 : g < p) (w : World) :
    Calls Try.prog 129 #[.agg #[.int .i64 p, .int .i64 1, .int .i64 po], .int .i64 g] w fun e w' => e = .returned (.bool (fillB (Tp p g) m)) ∧ Below w.heap.size w w' := by
  refine sRuns p 1 po g (Tp p g) m (by omega) hm2 (fun W => ?_) (fun x W h0 h1 => ?_) (fun x h0 h1 => ?_) (Tp_one (by omega) g1) w
  · rw [← hpm]; exact sSz1 p po W
  · exact sMulP p po x g W (by omega) (by omega) h0 (by omega) (by omega) g1
  · rw [← hpm]; exact Tp_in (by omega) (by omega) x h0 (by omega)
theorem sRunsB (k : Nat) (h3 : 3 ≤ k) (h8 : k ≤ 8) (po : Int) (p0 : (2 : Int) ^ k ≤ po) (p1 : po < 2 ^ (k + 1)) (w : World) :
    Calls Try.prog 129 #[.agg #[.int .i64 2, .int .i64 (k : Int), .int .i64 po], .int .i64 2] w fun e w' => e = .returned (.bool (fillB (Tb (2 ^ k) po) (2 ^ k - 1))) ∧ Below w.heap.size w w' := by
  have hs : (8 : Nat) ≤ 2 ^ k := Nat.pow_le_pow_right (n := 2) (by decide) h3
  have hs2 : (2 : Nat) ^ k ≤ 256 := Nat.pow_le_pow_right (n := 2) (by decide) h8
  have e : ((2 ^ k - 1 : Nat) : Int) + 1 = 2 ^ k := by
    have e2 : ((2 ^ k : Nat) : Int) = 2 ^ k := by simp
    omega
  refine sRuns 2 (k : Int) po 2 (Tb (2 ^ k) po) (2 ^ k - 1) (by omega) (by omega) (fun W => ?_) (fun x W h0 h1 => ?_) (fun x h0 h1 => ?_) ?_ w
  · rw [e]; exact sSzB k h3 h8 po W
  · rw [e] at h1; exact sMulB k h3 h8 po x W p0 p1 h0 h1
  · rw [e] at h1 ⊢; exact Tb_in h8 p0 p1 x h0 h1
  · unfold Tb
    rw [if_pos]
    · decide
    · have e2 : ((2 ^ k : Nat) : Int) = 2 ^ k := by simp
      omega
set_option maxRecDepth 20000 in
set_option maxHeartbeats 4000000 in
theorem sIsFieldP (p po : Int) (w : World) : Calls Try.prog 101 #[.agg #[.int .i64 p, .int .i64 1, .int .i64 po]] w fun e w' => e = .returned (.bool (fldB p 1 po)) ∧ Below w.heap.size w w' := by
  cases h1 : inB p 3 1021
  · have HE : Hid (false = fldB p 1 po) := fldB_no (fun h => by
      have := inB_no h1
      obtain ⟨a, b, -⟩ := IsFld.one.1 h
      omega)
    go_enter Try.func101, Try.ntmps101
    go_wp2_with (go_at_call 55; refine (sIn _ _ _ _).mono ?_; rintro e w' ⟨rfl, rfl⟩)
    go_returns
    exact ⟨ret_bool HE.out, by repeat' (first | (with_reducible exact Below.refl _ _) | (with_reducible assumption) | (with_reducible refine Below.alloc ?_ ?_ _) | (with_reducible refine Below.setCell ?_ ?_ _) | (with_reducible refine Below.drew ?_) | (with_reducible refine below_drewN ?_ _) | (with_reducible refine below_via (by with_reducible assumption) ?_ ?_) | go_size)⟩
  obtain ⟨b1, b2⟩ := inB_iff.1 h1
  cases h2 : prmB p
  · have HE : Hid (false = fldB p 1 po) := fldB_no (fun h => by
      obtain ⟨-, -, c, -⟩ := IsFld.one.1 h
      rw [prmB_yes c] at h2; cases h2)
    go_enter Try.func101, Try.ntmps101
    go_wp2_with (first | (go_at_call 55; refine (sIn _ _ _ _).mono ?_; rintro e w' ⟨rfl, rfl⟩) | (go_at_call 128; refine (sPrm _ _ b1 b2).mono ?_; rintro e w' ⟨rfl, rfl⟩))
    go_returns
    exact ⟨ret_bool HE.out, by repeat' (first | (with_reducible exact Below.refl _ _) | (with_reducible assumption) | (with_reducible refine Below.alloc ?_ ?_ _) | (with_reducible refine Below.setCell ?_ ?_ _) | (with_reducible refine Below.drew ?_) | (with_reducible refine below_drewN ?_ _) | (with_reducible refine below_via (by with_reducible assumption) ?_ ?_) | go_size)⟩
  cases h3 : inB po 1 (p - 1)
  · have HE : Hid (false = fldB p 1 po) := fldB_no (fun h => by
      have := inB_no h3
      obtain ⟨-, -, -, c, d, -⟩ := IsFld.one.1 h
      omega)
    go_enter Try.func101, Try.ntmps101
    go_wp2_with (first | (go_at_call 55; refine (sIn _ _ _ _).mono ?_; rintro e w' ⟨rfl, rfl⟩) | (go_at_call 128; refine (sPrm _ _ b1 b2).mono ?_; rintro e w' ⟨rfl, rfl⟩))
    go_returns
    exact ⟨ret_bool HE.out, by repeat' (first | (with_reducible exact Below.refl _ _) | (with_reducible assumption) | (with_reducible refine Below.alloc ?_ ?_ _) | (with_reducible refine Below.setCell ?_ ?_ _) | (with_reducible refine Below.drew ?_) | (with_reducible refine below_drewN ?_ _) | (with_reducible refine below_via (by with_reducible assumption) ?_ ?_) | go_size)⟩
  obtain ⟨b3, b4⟩ := inB_iff.1 h3
  obtain ⟨m, hm⟩ := Int.eq_ofNat_of_zero_le (show 0 ≤ p - 1 by omega)
  have HPM : Hid (p = (m : Int) + 1) := by unfold Hid; omega
  have hm1 : 2 ≤ m := by omega
  have hm2 : m ≤ 1020 := by omega
  have HT : Hid ((p - 1).toNat = m) := by unfold Hid; omega
  clear hm
  go_enter Try.func101, Try.ntmps101
  go_wp2_with (first | (go_at_call 55; refine (sIn _ _ _ _).mono ?_; rintro e w' ⟨rfl, rfl⟩) | (go_at_call 128; refine (sPrm _ _ b1 b2).mono ?_; rintro e w' ⟨rfl, rfl⟩))
  go_loopw [3] (fun gv wr => ∃ (g : Int), gv = .int .i64 g ∧ 1 ≤ g ∧ g ≤ po ∧ Hid (∀ j : Int, 1 ≤ j → j < g → ¬ Fills (Tp p j) m) ∧ Hid (Below w.heap.size w wr) ∧ w.heap.size < wr.heap.size ∧ wr.cell? ⟨w.heap.size, 0, none⟩ = some (.int .i64 p) ∧ wr.cell? ⟨w.heap.size, 1, none⟩ = some (.int .i64 1) ∧ wr.cell? ⟨w.heap.size, 2, none⟩ = some (.int .i64 po)) (fun g _ => (po - intOf g).toNat)
  case atStart => exact ⟨1, rfl, by omega, by omega, fun j h1 h2 => by omega, by unfold Hid; repeat' (first | (with_reducible exact Below.refl _ _) | (with_reducible assumption) | (with_reducible refine Below.alloc ?_ ?_ _) | (with_reducible refine Below.setCell ?_ ?_ _) | (with_reducible refine Below.drew ?_) | (with_reducible refine below_drewN ?_ _) | (with_reducible refine below_via (by with_reducible assumption) ?_ ?_) | go_size), by simp, by simp [go_sem], by simp [go_sem], by simp [go_sem]⟩
  case round =>
    obtain ⟨g, rfl, g1, g2, HG, HB, z0, z1, z2, z3⟩ := hrel
    have hbel := HB.out
    by_cases hlt : g < po
    · cases h4 : fillB (Tp p g) m
      · have HG' : Hid (∀ j : Int, 1 ≤ j → j < g + 1 → ¬ Fills (Tp p j) m) := fun j j1 j2 => by
          rcases Int.lt_or_le j g with h | h
          · exact HG.out j j1 h
          · obtain rfl : j = g := by omega
            intro hf
            rw [fillB_yes hf] at h4; cases h4
        go_wp2_with (go_at_call 129; refine (sRunsP p po g m HPM.out hm1 hm2 g1 (by omega) _).mono ?_; rintro e w' ⟨rfl, hb⟩; obtain ⟨hc, hf⟩ := bcell hb; have hz := hb.size; (try simp at hz))
        go_roundw
        case rel => exact ⟨g + 1, rfl, by omega, by omega, HG', by unfold Hid; repeat' (first | (with_reducible exact Below.refl _ _) | (with_reducible assumption) | (with_reducible refine Below.alloc ?_ ?_ _) | (with_reducible refine Below.setCell ?_ ?_ _) | (with_reducible refine Below.drew ?_) | (with_reducible refine below_drewN ?_ _) | (with_reducible refine below_via (by with_reducible assumption) ?_ ?_) | go_size), by omega, (hc _ _ (by omega)).trans z1, (hc _ _ (by omega)).trans z2, (hc _ _ (by omega)).trans z3⟩
        case measure => simp [intOf]; omega
      · have HE : Hid (false = fldB p 1 po) := fldB_no (fun h => by
          obtain ⟨-, -, -, -, -, c, -⟩ := IsFld.one.1 h
          have := c g g1 hlt
          rw [HT.out] at this
          exact this (fillB_true.1 h4))
        go_wp2_with (go_at_call 129; refine (sRunsP p po g m HPM.out hm1 hm2 g1 (by omega) _).mono ?_; rintro e w' ⟨rfl, hb⟩; obtain ⟨hc, hf⟩ := bcell hb; have hz := hb.size; (try simp at hz))
        go_returns
        exact ⟨ret_bool HE.out, by repeat' (first | (with_reducible exact Below.refl _ _) | (with_reducible assumption) | (with_reducible refine Below.alloc ?_ ?_ _) | (with_reducible refine Below.setCell ?_ ?_ _) | (with_reducible refine Below.drew ?_) | (with_reducible refine below_drewN ?_ _) | (with_reducible refine below_via (by with_reducible assumption) ?_ ?_) | go_size)⟩
    · obtain rfl : g = po := by omega
      have HE : Hid (fillB (Tp p g) m = fldB p 1 g) := fldB_of (by
        rw [fillB_true, IsFld.one]
        constructor
        · intro hf
          exact ⟨b1, b2, prmB_true.1 h2, b3, by omega, fun j j1 j2 => by rw [HT.out]; exact HG.out j j1 j2, by rw [HT.out]; exact hf⟩
        · rintro ⟨-, -, -, -, -, -, hf⟩
          rw [HT.out] at hf; exact hf)
      go_wp2_with (go_at_call 129; refine (sRunsP p g g m HPM.out hm1 hm2 g1 (by omega) _).mono ?_; rintro e w' ⟨rfl, hb⟩; obtain ⟨hc, hf⟩ := bcell hb; have hz := hb.size; (try simp at hz))
      go_returns
      exact ⟨ret_bool HE.out, by repeat' (first | (with_reducible exact Below.refl _ _) | (with_reducible assumption) | (with_reducible refine Below.alloc ?_ ?_ _) | (with_reducible refine Below.setCell ?_ ?_ _) | (with_reducible refine Below.drew ?_) | (with_reducible refine below_drewN ?_ _) | (with_reducible refine below_via (by with_reducible assumption) ?_ ?_) | go_size)⟩
set_option maxRecDepth 20000 in
set_option maxHeartbeats 4000000 in
theorem sIsFieldB (p pw po : Int) (hw : pw ≠ 1) (w : World) : Calls Try.prog 101 #[.agg #[.int .i64 p, .int .i64 pw, .int .i64 po]] w fun e w' => e = .returned (.bool (fldB p pw po)) ∧ Below w.heap.size w w' := by
  have hw1 : (pw == 1) = false := by simp [hw]
  by_cases hp : p = 2
  rotate_left
  · have HE : Hid (false = fldB p pw po) := fldB_no (IsFld.not2 hw (.inl hp))
    have hp1 : (p != 2) = true := by simp [hp]
    go_enter Try.func101, Try.ntmps101
    go_wp2_with (go_at_call 55; refine (sIn _ _ _ _).mono ?_; rintro e w' ⟨rfl, rfl⟩)
    go_returns
    exact ⟨ret_bool HE.out, by repeat' (first | (with_reducible exact Below.refl _ _) | (with_reducible assumption) | (with_reducible refine Below.alloc ?_ ?_ _) | (with_reducible refine Below.setCell ?_ ?_ _) | (with_reducible refine Below.drew ?_) | (with_reducible refine below_drewN ?_ _) | (with_reducible refine below_via (by with_reducible assumption) ?_ ?_) | go_size)⟩
  subst hp
  cases h1 : inB pw 3 8
  · have HE : Hid (false = fldB 2 pw po) := fldB_no (IsFld.not2 hw (.inr (inB_no h1)))
    go_enter Try.func101, Try.ntmps101
    go_wp2_with (go_at_call 55; refine (sIn _ _ _ _).mono ?_; rintro e w' ⟨rfl, rfl⟩)
    go_returns
    exact ⟨ret_bool HE.out, by repeat' (first | (with_reducible exact Below.refl _ _) | (with_reducible assumption) | (with_reducible refine Below.alloc ?_ ?_ _) | (with_reducible refine Below.setCell ?_ ?_ _) | (with_reducible refine Below.drew ?_) | (with_reducible refine below_drewN ?_ _) | (with_reducible refine below_via (by with_reducible assumption) ?_ ?_) | go_size)⟩
  obtain ⟨b1, b2⟩ := inB_iff.1 h1
  obtain ⟨k, rfl⟩ := Int.eq_ofNat_of_zero_le (show 0 ≤ pw by omega)
  have h3 : 3 ≤ k := by omega
  have h8 : k ≤ 8 := by omega
  cases h2 : inB po (2 ^ k) (2 ^ (k + 1) - 1)
  · have HE : Hid (false = fldB 2 (k : Int) po) := fldB_no (fun h => by
      have := inB_no h2
      obtain ⟨c, d, -⟩ := (IsFld.bin h3 h8).1 h
      omega)
    clear hw hw1 b1 b2
    obtain rfl | rfl | rfl | rfl | rfl | rfl : k = 3 ∨ k = 4 ∨ k = 5 ∨ k = 6 ∨ k = 7 ∨ k = 8 := by omega
    all_goals
      go_enter Try.func101, Try.ntmps101
      simp at h1 h2
      go_wp2_with (go_at_call 55; refine (sIn _ _ _ _).mono ?_; rintro e w' ⟨rfl, rfl⟩)
      go_returns
      exact ⟨ret_bool HE.out, by repeat' (first | (with_reducible exact Below.refl _ _) | (with_reducible assumption) | (with_reducible refine Below.alloc ?_ ?_ _) | (with_reducible refine Below.setCell ?_ ?_ _) | (with_reducible refine Below.drew ?_) | (with_reducible refine below_drewN ?_ _) | (with_reducible refine below_via (by with_reducible assumption) ?_ ?_) | go_size)⟩
  · obtain ⟨c1, c2⟩ := inB_iff.1 h2
    have HR := Lib.hid (fun W => sRunsB k h3 h8 po c1 (by omega) W)
    have HE : Hid (fillB (Tb (2 ^ k) po) (2 ^ k - 1) = fldB 2 (k : Int) po) := fldB_of (by
      rw [fillB_true, IsFld.bin h3 h8]
      exact ⟨fun h => ⟨c1, by omega, h⟩, fun h => h.2.2⟩)
    clear hw hw1 b1 b2 c1 c2
    obtain rfl | rfl | rfl | rfl | rfl | rfl : k = 3 ∨ k = 4 ∨ k = 5 ∨ k = 6 ∨ k = 7 ∨ k = 8 := by omega
    all_goals
      go_enter Try.func101, Try.ntmps101
      simp at h1 h2
      go_wp2_with (first | (go_at_call 55; refine (sIn _ _ _ _).mono ?_; rintro e w' ⟨rfl, rfl⟩) | (go_at_call 129; refine (HR.out _).mono ?_; rintro e w' ⟨rfl, hb⟩; obtain ⟨hc, hf⟩ := bcell hb; have hz := hb.size; (try simp at hz)))
      go_returns
      exact ⟨ret_bool HE.out, by repeat' (first | (with_reducible exact Below.refl _ _) | (with_reducible assumption) | (with_reducible refine Below.alloc ?_ ?_ _) | (with_reducible refine Below.setCell ?_ ?_ _) | (with_reducible refine Below.drew ?_) | (with_reducible refine below_drewN ?_ _) | (with_reducible refine below_via (by with_reducible assumption) ?_ ?_) | go_size)⟩
theorem sIsField (p pw po : Int) (w : World) : Calls Try.prog 101 #[.agg #[.int .i64 p, .int .i64 pw, .int .i64 po]] w fun e w' => e = .returned (.bool (fldB p pw po)) ∧ Below w.heap.size w w' := by
  by_cases hw : pw = 1
  · subst hw; exact sIsFieldP p po w
  · exact sIsFieldB p pw po hw w
end Go.Proofs.Ytdpifddmhbeklaa
