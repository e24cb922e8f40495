/-
  DERIVED. The order of a stream: plain laws.
-/
import Derived.Test.YtdpifddmhbeklaaLayQ
namespace Go.Proofs.Ytdpifddmhbeklaa
open Go.RowKit
set_option linter.unusedVariables false
/-- Round e of the data: the first m blocks. -/
def row1 (d c : Int) (e : Nat) : Nat → List (Int × Int)
  | 0 => []
  | m + 1 => row1 d c e m ++ (if (e : Int) < shareZ d c (m : Int) then [((m : Int), (e : Int))] else [])
def part1 (d c : Int) (C : Nat) : Nat → List (Int × Int)
  | 0 => []
  | E + 1 => part1 d c C E ++ row1 d c E C
/-- Round e of the checks. -/
def row2 (d c : Int) (e : Nat) : Nat → List (Int × Int)
  | 0 => []
  | m + 1 => row2 d c e m ++ [((m : Int), shareZ d c (m : Int) + (e : Int))]
def part2 (d c : Int) (C : Nat) : Nat → List (Int × Int)
  | 0 => []
  | E + 1 => part2 d c C E ++ row2 d c E C
def longZ (d c : Int) : Nat := (shareZ d c (c - 1)).toNat
def ordL (d c : Int) (C k : Nat) : List (Int × Int) := part1 d c C (longZ d c) ++ part2 d c C k
theorem row1_len (d c : Int) (e : Nat) : ∀ m, (row1 d c e m).length ≤ m
  | 0 => by simp [row1]
  | m + 1 => by
    have := row1_len d c e m
    unfold row1
    rw [List.length_append]
    split <;> simp <;> omega
theorem row2_len (d c : Int) (e : Nat) : ∀ m, (row2 d c e m).length = m
  | 0 => by simp [row2]
  | m + 1 => by
    have := row2_len d c e m
    unfold row2
    rw [List.length_append]
    simp; omega
theorem part1_len (d c : Int) (C : Nat) : ∀ E, (part1 d c C E).length ≤ E * C
  | 0 => by simp [part1]
  | E + 1 => by
    have h1 := part1_len d c C E
    have h2 := row1_len d c E C
    unfold part1
    rw [List.length_append, Nat.succ_mul]
    omega
theorem part2_len (d c : Int) (C : Nat) : ∀ E, (part2 d c C E).length = E * C
  | 0 => by simp [part2]
  | E + 1 => by
    have h1 := part2_len d c C E
    have h2 := row2_len d c E C
    unfold part2
    rw [List.length_append, Nat.succ_mul]
    omega
theorem share_mono {d c a b : Int} (h : a ≤ b) : shareZ d c a ≤ shareZ d c b := by
  unfold shareZ
  split <;> split <;> omega
theorem row1_nil {d c : Int} {e : Nat} (he : shareZ d c (c - 1) ≤ (e : Int)) : ∀ m : Nat, (m : Int) ≤ c → row1 d c e m = []
  | 0, _ => rfl
  | m + 1, h => by
    unfold row1
    rw [row1_nil he m (by omega), if_neg]
    · rfl
    · have := share_mono (d := d) (c := c) (show (m : Int) ≤ c - 1 by omega)
      omega
/-- The reference's one round more brings nothing. -/
theorem part1_spec {d c : Int} {C : Nat} (hC : c = (C : Int)) (c1 : 1 ≤ c) (c2 : c ≤ d) (d2 : d ≤ 1500) : part1 d c C ((d / c).toNat + 1) = part1 d c C (longZ d c) := by
  have h0 : 0 ≤ d / c := Int.ediv_nonneg (by omega) (by omega)
  have hl : shareZ d c (c - 1) = d / c + 1 ∨ shareZ d c (c - 1) = d / c := by
    unfold shareZ
    split
    · exact .inl rfl
    · exact .inr rfl
  rcases hl with h | h
  · have e : longZ d c = (d / c).toNat + 1 := by unfold longZ; rw [h]; omega
    rw [e]
  · have e : longZ d c = (d / c).toNat := by unfold longZ; rw [h]
    rw [e]
    show part1 d c C (d / c).toNat ++ row1 d c (d / c).toNat C = _
    rw [row1_nil (by rw [h]; omega) C (by omega)]
    simp
theorem mem_row1 {d c : Int} {e : Nat} {x : Int × Int} : ∀ m, x ∈ row1 d c e m ↔ ∃ b : Nat, b < m ∧ (e : Int) < shareZ d c (b : Int) ∧ x = ((b : Int), (e : Int))
  | 0 => by simp [row1]
  | m + 1 => by
    unfold row1
    rw [List.mem_append, mem_row1 m]
    constructor
    · rintro (⟨b, h1, h2, h3⟩ | h)
      · exact ⟨b, by omega, h2, h3⟩
      · split at h
        · simp at h; exact ⟨m, by omega, by assumption, h⟩
        · simp at h
    · rintro ⟨b, h1, h2, h3⟩
      rcases Nat.lt_or_ge b m with h | h
      · exact .inl ⟨b, h, h2, h3⟩
      · obtain rfl : b = m := by omega
        rw [if_pos h2]
        exact .inr (by simp [h3])
theorem mem_row2 {d c : Int} {e : Nat} {x : Int × Int} : ∀ m, x ∈ row2 d c e m ↔ ∃ b : Nat, b < m ∧ x = ((b : Int), shareZ d c (b : Int) + (e : Int))
  | 0 => by simp [row2]
  | m + 1 => by
    unfold row2
    rw [List.mem_append, mem_row2 m]
    constructor
    · rintro (⟨b, h1, h3⟩ | h)
      · exact ⟨b, by omega, h3⟩
      · simp at h; exact ⟨m, by omega, h⟩
    · rintro ⟨b, h1, h3⟩
      rcases Nat.lt_or_ge b m with h | h
      · exact .inl ⟨b, h, h3⟩
      · obtain rfl : b = m := by omega
        exact .inr (by simp [h3])
theorem mem_part1 {d c : Int} {C : Nat} {x : Int × Int} : ∀ E, x ∈ part1 d c C E ↔ ∃ e b : Nat, e < E ∧ b < C ∧ (e : Int) < shareZ d c (b : Int) ∧ x = ((b : Int), (e : Int))
  | 0 => by simp [part1]
  | E + 1 => by
    unfold part1
    rw [List.mem_append, mem_part1 E, mem_row1]
    constructor
    · rintro (⟨e, b, h1, h2, h3, h4⟩ | ⟨b, h1, h2, h3⟩)
      · exact ⟨e, b, by omega, h2, h3, h4⟩
      · exact ⟨E, b, by omega, h1, h2, h3⟩
    · rintro ⟨e, b, h1, h2, h3, h4⟩
      rcases Nat.lt_or_ge e E with h | h
      · exact .inl ⟨e, b, h, h2, h3, h4⟩
      · obtain rfl : e = E := by omega
        exact .inr ⟨b, h2, h3, h4⟩
theorem mem_part2 {d c : Int} {C : Nat} {x : Int × Int} : ∀ E, x ∈ part2 d c C E ↔ ∃ e b : Nat, e < E ∧ b < C ∧ x = ((b : Int), shareZ d c (b : Int) + (e : Int))
  | 0 => by simp [part2]
  | E + 1 => by
    unfold part2
    rw [List.mem_append, mem_part2 E, mem_row2]
    constructor
    · rintro (⟨e, b, h1, h2, h4⟩ | ⟨b, h1, h3⟩)
      · exact ⟨e, b, by omega, h2, h4⟩
      · exact ⟨E, b, by omega, h1, h3⟩
    · rintro ⟨e, b, h1, h2, h4⟩
      rcases Nat.lt_or_ge e E with h | h
      · exact .inl ⟨e, b, h, h2, h4⟩
      · obtain rfl : e = E := by omega
        exact .inr ⟨b, h2, h4⟩
/-- What stands in the order: just the elements of the words. -/
theorem mem_ord {d c : Int} {C k : Nat} (hC : c = (C : Int)) (b e : Int) : (b, e) ∈ ordL d c C k ↔ 0 ≤ b ∧ b < c ∧ 0 ≤ e ∧ e < shareZ d c b + (k : Int) ∧ (∀ j : Nat, (j : Int) < c → 0 ≤ shareZ d c (j : Int)) ∨ ((b, e) ∈ ordL d c C k ∧ ¬ ∀ j : Nat, (j : Int) < c → 0 ≤ shareZ d c (j : Int)) := by
  by_cases hp : ∀ j : Nat, (j : Int) < c → 0 ≤ shareZ d c (j : Int)
  · constructor
    · intro h
      refine .inl ?_
      unfold ordL at h
      rw [List.mem_append, mem_part1, mem_part2] at h
      rcases h with ⟨e', b', h1, h2, h3, h4⟩ | ⟨e', b', h1, h2, h4⟩
      · injection h4 with h5 h6
        subst h5; subst h6
        exact ⟨by omega, by omega, by omega, by omega, hp⟩
      · injection h4 with h5 h6
        subst h5; subst h6
        have := hp b' (by omega)
        exact ⟨by omega, by omega, by omega, by omega, hp⟩
    · rintro (⟨h1, h2, h3, h4, -⟩ | ⟨h, -⟩)
      · obtain ⟨b', rfl⟩ := Int.eq_ofNat_of_zero_le h1
        obtain ⟨e', rfl⟩ := Int.eq_ofNat_of_zero_le h3
        unfold ordL
        rw [List.mem_append, mem_part1, mem_part2]
        have hm := share_mono (d := d) (c := c) (show (b' : Int) ≤ c - 1 by omega)
        rcases Int.lt_or_le (e' : Int) (shareZ d c (b' : Int)) with h | h
        · exact .inl ⟨e', b', by unfold longZ; omega, by omega, h, rfl⟩
        · have h0 := hp b' h2
          obtain ⟨s, hs⟩ := Int.eq_ofNat_of_zero_le h0
          refine .inr ⟨e' - s, b', by omega, by omega, ?_⟩
          rw [hs]
          congr 1
          omega
      · exact h
  · exact ⟨fun h => .inr ⟨h, hp⟩, fun h => by rcases h with ⟨-, -, -, -, h⟩ | ⟨h, -⟩; exact absurd h hp; exact h⟩
theorem mem_ord' {d c : Int} {C k : Nat} (hC : c = (C : Int)) (c1 : 1 ≤ c) (c2 : c ≤ d) (d2 : d ≤ 1500) (b e : Int) : (b, e) ∈ ordL d c C k ↔ 0 ≤ b ∧ b < c ∧ 0 ≤ e ∧ e < shareZ d c b + (k : Int) := by
  have hp : ∀ j : Nat, (j : Int) < c → 0 ≤ shareZ d c (j : Int) := fun j _ => by
    have := (share_bd (k := (j : Int)) c1 c2 d2).1
    omega
  rw [mem_ord hC]
  exact ⟨fun h => by rcases h with ⟨h1, h2, h3, h4, -⟩ | ⟨-, h⟩; exact ⟨h1, h2, h3, h4⟩; exact absurd hp h, fun ⟨h1, h2, h3, h4⟩ => .inl ⟨h1, h2, h3, h4, hp⟩⟩
/-- The place of an element: how many stand ahead of its first coming. -/
def ordAt (x : Int × Int) : List (Int × Int) → Nat
  | [] => 0
  | y :: l => if y = x then 0 else ordAt x l + 1
theorem ordAt_app {x : Int × Int} : ∀ {pre : List (Int × Int)} (post : List (Int × Int)), x ∉ pre → ordAt x (pre ++ x :: post) = pre.length
  | [], post, _ => by simp [ordAt]
  | y :: pre, post, h => by
    simp only [List.mem_cons, not_or] at h
    show (if y = x then 0 else ordAt x (pre ++ x :: post) + 1) = _
    rw [if_neg (Ne.symm h.1), ordAt_app post h.2]
    rfl
end Go.Proofs.Ytdpifddmhbeklaa
