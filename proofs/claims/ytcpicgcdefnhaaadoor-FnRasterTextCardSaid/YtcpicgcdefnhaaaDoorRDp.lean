/-
  DERIVED. The text of a raster, read: the plain laws.
-/
import Derived.Test.YtcpicgcdefnhaaaDoorRTp
import Derived.Lib.ParseIntB
namespace Go.Proofs.YtcpicgcdefnhaaaDoor
open Go.RowKit Go.Lib
set_option linter.unusedVariables false
/-- A byte that is a digit. -/
def dg8 (c : UInt8) : Prop := 48 ≤ c.toNat ∧ c.toNat ≤ 57
instance (c : UInt8) : Decidable (dg8 c) := by unfold dg8; infer_instance
/-- What digits spell, behind a. -/
def val8 (a : Nat) (l : List UInt8) : Nat := l.foldl (fun a c => 10 * a + (c.toNat - 48)) a
theorem val8_nil (a : Nat) : val8 a [] = a := rfl
theorem val8_cons (a : Nat) (c : UInt8) (r : List UInt8) : val8 a (c :: r) = val8 (10 * a + (c.toNat - 48)) r := by simp only [val8, List.foldl_cons]
theorem val8_app (a : Nat) (l : List UInt8) (c : UInt8) : val8 a (l ++ [c]) = 10 * val8 a l + (c.toNat - 48) := by
  unfold val8
  rw [List.foldl_append, List.foldl_cons, List.foldl_nil]
theorem digit8 {d : Nat} (h : d < 10) : (UInt8.ofNat (48 + d)).toNat = 48 + d := by
  rw [UInt8.toNat_ofNat']
  exact Nat.mod_eq_of_lt (by omega)
theorem dec_dig (n : Nat) : ∀ c ∈ decDigits n, dg8 c := by
  induction n using Nat.strongRecOn with
  | _ n ih =>
    intro c hc
    rw [decDigits] at hc
    split at hc
    · rename_i h
      simp only [List.mem_singleton] at hc
      subst hc
      unfold dg8
      rw [digit8 h]
      omega
    · rename_i h
      rcases List.mem_append.1 hc with h1 | h1
      · exact ih _ (by omega) c h1
      · simp only [List.mem_singleton] at h1
        subst h1
        unfold dg8
        rw [digit8 (by omega)]
        omega
theorem dec_val (n : Nat) : val8 0 (decDigits n) = n := by
  induction n using Nat.strongRecOn with
  | _ n ih =>
    rw [decDigits]
    split
    · rename_i h
      simp only [val8_cons, val8_nil]
      rw [digit8 h]
      omega
    · rename_i h
      rw [val8_app, ih _ (by omega), digit8 (by omega)]
      omega
theorem dec_inj {m n : Nat} (h : decDigits m = decDigits n) : m = n := by
  rw [← dec_val m, h, dec_val]
theorem dec_ne (n : Nat) : decDigits n ≠ [] := by
  intro h
  have := decDigits_length n
  rw [h] at this
  have h2 := nDigits_pos n
  simp at this
  omega
/-- No number but 0 begins with a zero. -/
theorem dec_head (n : Nat) : ∀ r, decDigits n = 48 :: r → n = 0 := by
  induction n using Nat.strongRecOn with
  | _ n ih =>
    intro r hr
    rw [decDigits] at hr
    split at hr
    · rename_i h
      injection hr with h1 h2
      have h3 := congrArg UInt8.toNat h1
      rw [digit8 h] at h3
      simp at h3
      omega
    · rename_i h
      cases hd : decDigits (n / 10) with
      | nil => exact absurd hd (dec_ne _)
      | cons x y =>
        rw [hd] at hr
        injection hr with h1 h2
        subst h1
        have := ih _ (by omega) y hd
        omega
theorem val8_pos {a : Nat} (h : 1 ≤ a) : ∀ l, 1 ≤ val8 a l
  | [] => h
  | c :: r => by rw [val8_cons]; exact val8_pos (a := 10 * a + (c.toNat - 48)) (by omega) r
theorem val8_split (a : Nat) (l : List UInt8) (c : UInt8) (hc : dg8 c) : val8 a (l ++ [c]) / 10 = val8 a l ∧ val8 a (l ++ [c]) % 10 = c.toNat - 48 := by
  rw [val8_app]
  unfold dg8 at hc
  omega
/-- Digits without a superfluous zero ahead are a number in decimal. -/
theorem dec_canon : ∀ (n : Nat) (l : List UInt8), l.length = n → l ≠ [] → (∀ c ∈ l, dg8 c) → (1 < l.length → l.head? ≠ some 48) → decDigits (val8 0 l) = l := by
  intro n
  induction n with
  | zero => intro l h h2; exact absurd (List.eq_nil_of_length_eq_zero h) h2
  | succ n ih =>
    intro l hl hne hd hh
    obtain ⟨l', c, rfl⟩ : ∃ l' c, l = l' ++ [c] := ⟨l.dropLast, l.getLast hne, (List.dropLast_concat_getLast hne).symm⟩
    have hc := hd c (by simp)
    obtain ⟨e1, e2⟩ := val8_split 0 l' c hc
    have hcc : UInt8.ofNat (48 + (c.toNat - 48)) = c := by
      have : 48 + (c.toNat - 48) = c.toNat := by unfold dg8 at hc; omega
      rw [this]
      exact UInt8.ofNat_toNat
    cases l' with
    | nil =>
      simp only [List.nil_append, val8_cons, val8_nil]
      have h10 : 10 * 0 + (c.toNat - 48) < 10 := by unfold dg8 at hc; omega
      rw [decDigits_one h10]
      have : 10 * 0 + (c.toNat - 48) = c.toNat - 48 := by omega
      rw [this, hcc]
    | cons x r =>
      have hx : x ≠ 48 := fun e => hh (by simp) (by simp [e])
      have hdx := hd x (by simp)
      have hpos : 1 ≤ val8 0 (x :: r) := by
        simp only [val8_cons]
        refine val8_pos ?_ r
        unfold dg8 at hdx
        have : x.toNat ≠ 48 := fun e => hx (UInt8.toNat_inj.1 (by rw [e]; rfl))
        omega
      rw [decDigits, dif_neg (by rw [← e1] at hpos; omega), e1, e2, hcc]
      congr 1
      exact ih (x :: r) (by simp at hl ⊢; omega) (by simp) (fun c hc => hd c (by simp at hc ⊢; rcases hc with h | h <;> simp [h])) (fun _ => by simpa using hx)
/-- How a word was read. -/
def Wd (l : List UInt8) (n : Int) (ok : Bool) : Prop := (ok = true → ∃ u : Nat, n = (u : Int) ∧ l = decDigits u) ∧ (ok = false → ∀ u : Nat, u ≤ 999 → l ≠ decDigits u)
theorem parseM_ok : ∀ (l : List UInt8) (a u : Nat), parseUintM 18446744073709551615 a l = .ok u → (∀ c ∈ l, dg8 c) ∧ u = val8 a l
  | [], a, u, h => by
    simp only [parseUintM] at h
    injection h with h
    exact ⟨by simp, h.symm⟩
  | c :: r, a, u, h => by
    simp only [parseUintM] at h
    split at h
    · rename_i hc
      split at h
      · cases h
      · split at h
        · cases h
        · obtain ⟨h1, h2⟩ := parseM_ok r _ u h
          refine ⟨fun x hx => ?_, ?_⟩
          · rcases List.mem_cons.1 hx with rfl | hx
            · exact hc
            · exact h1 x hx
          · rw [h2, val8_cons, Nat.mul_comm]
    · cases h
theorem parseM_small : ∀ (l : List UInt8) (a k : Nat), (∀ c ∈ l, dg8 c) → l.length ≤ k → a < 10 ^ (9 - k) → k ≤ 9 → parseUintM 18446744073709551615 a l = .ok (val8 a l)
  | [], a, k, _, _, _, _ => rfl
  | c :: r, a, k, hd, hl, ha, hk => by
    have hc : 48 ≤ c.toNat ∧ c.toNat ≤ 57 := hd c (by simp)
    have h9 : 10 ^ (9 - k) ≤ 10 ^ 9 := Nat.pow_le_pow_right (by omega) (by omega)
    have h10 : a < 1000000000 := Nat.lt_of_lt_of_le ha h9
    simp only [List.length_cons] at hl
    simp only [parseUintM]
    rw [if_pos hc, if_neg (by omega), if_neg (by omega)]
    have h11 := parseM_small r (a * 10 + (c.toNat - 48)) (k - 1) (fun x hx => hd x (by simp [hx])) (by omega) (by
      have : 9 - (k - 1) = (9 - k) + 1 := by omega
      rw [this, Nat.pow_succ]
      omega) (by omega)
    rw [h11, val8_cons, Nat.mul_comm]
theorem parse_ok {l : List UInt8} {v : Int} (h : parseIntB 64 l = .ok v) (h0 : l ≠ []) (h1 : 1 < l.length → l.head? ≠ some 48) (h2 : l.head? ≠ some 43) (h3 : l.head? ≠ some 45) : ∃ u : Nat, v = (u : Int) ∧ l = decDigits u := by
  cases l with
  | nil => exact absurd rfl h0
  | cons c r =>
    have c43 : ¬ c.toNat = 43 := fun e => h2 (by simp; exact UInt8.toNat_inj.1 (by rw [e]; rfl))
    have c45 : ¬ c.toNat = 45 := fun e => h3 (by simp; exact UInt8.toNat_inj.1 (by rw [e]; rfl))
    simp only [parseIntB] at h
    rw [if_neg (by omega)] at h
    simp only [parseUintB] at h
    rw [if_neg (by simp)] at h
    have e64 : 2 ^ 64 - 1 = 18446744073709551615 := by decide
    rw [e64] at h
    cases hp : parseUintM 18446744073709551615 0 (c :: r) with
    | ok u =>
      rw [hp] at h
      simp only [c45, not_false_eq_true, true_and, false_and, if_false] at h
      split at h
      · cases h
      · injection h with h
        obtain ⟨p1, p2⟩ := parseM_ok _ _ _ hp
        refine ⟨u, h.symm, ?_⟩
        rw [p2]
        exact (dec_canon _ (c :: r) rfl (by simp) p1 h1).symm
    | range => rw [hp] at h; cases h
    | _ => rw [hp] at h; cases h
theorem parse_dec {u : Nat} (h : u ≤ 999) : parseIntB 64 (decDigits u) = .ok (u : Int) := by
  have hl := decDigits_length u
  have h3 := nDig_3 (u := u) (by omega)
  have hv := dec_val u
  have hd := dec_dig u
  cases hc : decDigits u with
  | nil => exact absurd hc (dec_ne u)
  | cons c r =>
    rw [hc] at hl hv hd
    have hcd := hd c (by simp)
    unfold dg8 at hcd
    simp only [parseIntB]
    rw [if_neg (by omega)]
    simp only [parseUintB]
    have e64 : 2 ^ 64 - 1 = 18446744073709551615 := by decide
    rw [if_neg (by simp), e64, parseM_small (c :: r) 0 3 hd (by omega) (by decide) (by omega), hv]
    have c45 : ¬ c.toNat = 45 := by omega
    simp only [c45, not_false_eq_true, true_and, false_and, if_false]
    rw [if_neg (by omega)]
end Go.Proofs.YtcpicgcdefnhaaaDoor
