/-
  DERIVED. BurstBound: plain laws.
-/
import Derived.Test.YtdpifddmhbeklaaStrX
namespace Go.Proofs.Ytdpifddmhbeklaa
open Go.RowKit
set_option linter.unusedVariables false
/-- How often v stands in the window of k elements from s on. -/
def wcnt (f : Nat → Int) (v : Int) (s : Nat) : Nat → Nat
  | 0 => 0
  | k + 1 => wcnt f v s k + if f (s + k) = v then 1 else 0
theorem wcnt_succ (f : Nat → Int) (v : Int) (s k : Nat) : wcnt f v s (k + 1) = wcnt f v s k + if f (s + k) = v then 1 else 0 := rfl
theorem wcnt_add (f : Nat → Int) (v : Int) (s a : Nat) : ∀ b, wcnt f v s (a + b) = wcnt f v s a + wcnt f v (s + a) b
  | 0 => by simp [wcnt]
  | b + 1 => by
    show wcnt f v s (a + b) + _ = wcnt f v s a + (wcnt f v (s + a) b + _)
    rw [wcnt_add f v s a b, show a.add b = a + b from rfl, Nat.add_assoc, Nat.add_assoc]
theorem wcnt_head (f : Nat → Int) (v : Int) (s k : Nat) : wcnt f v s (k + 1) = (if f s = v then 1 else 0) + wcnt f v (s + 1) k := by
  rw [Nat.add_comm k 1, wcnt_add]
  simp [wcnt]
theorem wcnt_sub (f : Nat → Int) (v : Int) {s k s' k' : Nat} (h1 : s ≤ s') (h2 : s' + k' ≤ s + k) : wcnt f v s' k' ≤ wcnt f v s k := by
  obtain ⟨a, rfl⟩ : ∃ a, s' = s + a := ⟨s' - s, by omega⟩
  obtain ⟨c, rfl⟩ : ∃ c, k = a + (k' + c) := ⟨k - a - k', by omega⟩
  rw [wcnt_add, wcnt_add]
  omega
def Fine (f : Nat → Int) (h : Int) (s k : Nat) : Prop := ∀ v, (wcnt f v s k : Int) ≤ h
theorem Fine.sub {f : Nat → Int} {h : Int} {s k s' k' : Nat} (hf : Fine f h s k) (h1 : s ≤ s') (h2 : s' + k' ≤ s + k) : Fine f h s' k' := fun v => by
  have := wcnt_sub f v h1 h2
  have := hf v
  omega
theorem Fine.zero {f : Nat → Int} {h : Int} {s : Nat} (h0 : 0 ≤ h) : Fine f h s 0 := fun v => by simpa [wcnt] using h0
theorem Fine.one {f : Nat → Int} {h : Int} {s k : Nat} (hf : Fine f h s k) (h1 : (wcnt f (f (s + k)) s k : Int) < h) : Fine f h s (k + 1) := fun v => by
  have := hf v
  unfold wcnt
  split
  · rename_i e; subst e; omega
  · omega
theorem bad_one {f : Nat → Int} {h : Int} {s k : Nat} (h1 : h ≤ (wcnt f (f (s + k)) s k : Int)) : ¬ Fine f h s (k + 1) := fun hf => by
  have := hf (f (s + k))
  unfold wcnt at this
  rw [if_pos rfl] at this
  omega
/-- What the reference's most comes to. -/
def wmost (f : Nat → Int) (s : Nat) : Nat → Nat
  | 0 => 0
  | k + 1 => max (wmost f s k) (wcnt f (f (s + k)) s (k + 1))
theorem wmost_le (f : Nat → Int) (s : Nat) : ∀ k, wmost f s k ≤ k
  | 0 => by simp [wmost]
  | k + 1 => by
    have h1 := wmost_le f s k
    have h2 : ∀ k v, wcnt f v s k ≤ k := fun k v => by
      induction k with
      | zero => simp [wcnt]
      | succ k ih => unfold wcnt; split <;> omega
    have := h2 (k + 1) (f (s + k))
    unfold wmost
    omega
theorem wcnt_le (f : Nat → Int) (v : Int) (s : Nat) : ∀ k, wcnt f v s k ≤ k
  | 0 => by simp [wcnt]
  | k + 1 => by have := wcnt_le f v s k; unfold wcnt; split <;> omega
theorem wmost_fine {f : Nat → Int} {h : Int} (h0 : 0 ≤ h) (s : Nat) : ∀ k, (wmost f s k : Int) ≤ h ↔ Fine f h s k
  | 0 => ⟨fun _ => Fine.zero h0, fun _ => by simpa [wmost] using h0⟩
  | k + 1 => by
    have ih := wmost_fine h0 s k (f := f)
    constructor
    · intro hm v
      unfold wmost at hm
      have h1 := (ih.1 (by omega)) v
      unfold wcnt
      split
      · rename_i e
        have : (wcnt f (f (s + k)) s (k + 1) : Int) ≤ h := by omega
        unfold wcnt at this
        rw [if_pos rfl, e] at this
        omega
      · omega
    · intro hf
      have h1 := ih.2 (hf.sub (Nat.le_refl _) (by omega))
      have h2 := hf (f (s + k))
      unfold wmost
      omega
/-- The bound: all windows of up to R elements are fine, and one of R + 1 is not. -/
def Bnd (f : Nat → Int) (h : Int) (n R : Nat) : Prop := R ≤ n ∧ (∀ b s, b ≤ R → s + b ≤ n → Fine f h s b) ∧ (R = n ∨ ∃ s, s + (R + 1) ≤ n ∧ ¬ Fine f h s (R + 1))
theorem Bnd.uniq {f : Nat → Int} {h : Int} {n R R' : Nat} (a : Bnd f h n R) (b : Bnd f h n R') : R = R' := by
  obtain ⟨a1, a2, a3⟩ := a
  obtain ⟨b1, b2, b3⟩ := b
  rcases Nat.lt_trichotomy R R' with hlt | heq | hgt
  · rcases a3 with e | ⟨s, h1, h2⟩
    · omega
    · exact absurd (b2 (R + 1) s (by omega) h1) h2
  · exact heq
  · rcases b3 with e | ⟨s, h1, h2⟩
    · omega
    · exact absurd (a2 (R' + 1) s (by omega) h1) h2
/-- The state of the sliding window. -/
def Slide (f : Nat → Int) (h : Int) (n s E B : Nat) : Prop := s ≤ E ∧ E ≤ n ∧ B ≤ n ∧ Fine f h s (E - s) ∧ (∀ s', s' < s → ∀ b, b ≤ B → s' + b ≤ n → Fine f h s' b) ∧ (B = n ∨ ∃ s', s' + (B + 1) ≤ n ∧ ¬ Fine f h s' (B + 1))
theorem Slide.start {f : Nat → Int} {h : Int} {n : Nat} (h0 : 0 ≤ h) : Slide f h n 0 0 n := ⟨by omega, by omega, by omega, Fine.zero h0, fun s' hs => absurd hs (by omega), .inl rfl⟩
theorem Slide.grow {f : Nat → Int} {h : Int} {n s E B : Nat} (S : Slide f h n s E B) (hE : E < n) (h1 : (wcnt f (f E) s (E - s) : Int) < h) : Slide f h n s (E + 1) B := by
  obtain ⟨a1, a2, a3, a4, a5, a6⟩ := S
  refine ⟨by omega, by omega, a3, ?_, a5, a6⟩
  rw [show E + 1 - s = (E - s) + 1 by omega]
  exact a4.one (by rw [show s + (E - s) = E by omega]; exact h1)
theorem Slide.stop {f : Nat → Int} {h : Int} {n s B : Nat} (S : Slide f h n s n B) : Bnd f h n B := by
  obtain ⟨a1, a2, a3, a4, a5, a6⟩ := S
  refine ⟨a3, fun b s' hb hs => ?_, a6⟩
  rcases Nat.lt_or_ge s' s with hlt | hge
  · exact a5 s' hlt b hb hs
  · exact a4.sub hge (by omega)
theorem Slide.last {f : Nat → Int} {h : Int} {n E B : Nat} (h0 : 0 ≤ h) (S : Slide f h n n E B) : Bnd f h n B := by
  obtain ⟨a1, a2, a3, a4, a5, a6⟩ := S
  obtain rfl : E = n := by omega
  exact Slide.stop ⟨a1, a2, a3, a4, a5, a6⟩
theorem Slide.next {f : Nat → Int} {h : Int} {n s E B : Nat} (h0 : 0 ≤ h) (S : Slide f h n s E B) (hE : E < n) (h1 : h ≤ (wcnt f (f E) s (E - s) : Int)) (E' : Nat) (hE' : (E = s ∧ E' = E + 1) ∨ (s < E ∧ E' = E)) : Slide f h n (s + 1) E' (min B (E - s)) := by
  obtain ⟨a1, a2, a3, a4, a5, a6⟩ := S
  refine ⟨by omega, by omega, by omega, ?_, fun s' hs b hb hn => ?_, ?_⟩
  · rcases hE' with ⟨rfl, rfl⟩ | ⟨h2, rfl⟩
    · rw [show E + 1 - (E + 1) = 0 by omega]
      exact Fine.zero h0
    · exact a4.sub (by omega) (by omega)
  · rcases Nat.lt_or_ge s' s with hlt | hge
    · exact a5 s' hlt b (by omega) hn
    · obtain rfl : s' = s := by omega
      exact a4.sub (Nat.le_refl _) (by omega)
  · rcases Nat.le_total B (E - s) with hle | hle
    · rw [Nat.min_eq_left hle]; exact a6
    · rw [Nat.min_eq_right hle]
      refine .inr ⟨s, by omega, ?_⟩
      exact bad_one (by rw [show s + (E - s) = E by omega]; exact h1)
/-- The counts of all blocks. -/
def cntL (f : Nat → Int) (s k : Nat) : List Int := (List.range 16).map fun v : Nat => (wcnt f (v : Int) s k : Int)
theorem cntL_len (f : Nat → Int) (s k : Nat) : (cntL f s k).length = 16 := by simp [cntL]
theorem cntL_get (f : Nat → Int) (s k v : Nat) (hv : v < 16) : (cntL f s k).getD v 0 = (wcnt f (v : Int) s k : Int) := by
  simp [cntL, List.getD_eq_getElem?_getD, List.getElem?_map, List.getElem?_range hv]
theorem cntL_zero (f : Nat → Int) (s : Nat) : cntL f s 0 = List.replicate 16 0 := by
  apply List.ext_getElem
  · simp [cntL]
  · intro i h1 h2
    rw [List.getElem_replicate]
    simp [cntL, wcnt]
theorem cntL_set {f : Nat → Int} {s k s' k' v : Nat} (hv : v < 16) {x : Int} (hx : (wcnt f (v : Int) s' k' : Int) = x) (ho : ∀ u : Nat, u ≠ v → wcnt f (u : Int) s' k' = wcnt f (u : Int) s k) : (cntL f s k).set v x = cntL f s' k' := by
  apply List.ext_getElem
  · simp [cntL]
  · intro i h1 h2
    rw [List.getElem_set]
    split
    · rename_i e; subst e; simp [cntL, hx]
    · rename_i e; simp [cntL, ho i (fun h => e h.symm)]
theorem cntL_grow {f : Nat → Int} {s k v : Nat} (hv : v < 16) (hf : f (s + k) = (v : Int)) : (cntL f s k).set v ((wcnt f (v : Int) s k : Int) + 1) = cntL f s (k + 1) :=
  cntL_set hv (by rw [wcnt_succ, if_pos hf]; simp) (fun u hu => by
    rw [wcnt_succ, if_neg (by rw [hf]; omega)]; rfl)
theorem cntL_drop {f : Nat → Int} {s k v : Nat} (hv : v < 16) (hf : f s = (v : Int)) : (cntL f s (k + 1)).set v ((wcnt f (v : Int) s (k + 1) : Int) - 1) = cntL f (s + 1) k :=
  cntL_set hv (by rw [wcnt_head, if_pos hf]; omega) (fun u hu => by rw [wcnt_head f u s k, if_neg (by rw [hf]; omega)]; omega)
end Go.Proofs.Ytdpifddmhbeklaa
