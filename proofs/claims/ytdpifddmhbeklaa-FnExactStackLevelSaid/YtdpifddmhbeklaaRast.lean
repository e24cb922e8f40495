/-
  DERIVED. RASTERS: the laws' helpers (toRaster, eqRaster, markRaster, heldRaster, szRaster), IsRaster.
-/
import Derived.Test.YtdpifddmhbeklaaBas
namespace Go.Proofs.Ytdpifddmhbeklaa
open Go.RowKit
set_option linter.unusedVariables false

def rasterB (r c : Int) (n : Nat) (zs : List Int) : Bool := sizeB r c && (decide ((n : Int) = r * c) && zs.all fun x => inB x 0 255)
theorem rasterB_yes {r c : Int} {n : Nat} {zs : List Int} (h : rasterB r c n zs = true) : 1 ≤ r ∧ r ≤ 400 ∧ 1 ≤ c ∧ c ≤ 400 ∧ 1 ≤ r * c ∧ r * c ≤ 40000 ∧ (n : Int) = r * c ∧ ∀ x ∈ zs, 0 ≤ x ∧ x ≤ 255 := by
  simp only [rasterB, Bool.and_eq_true, decide_eq_true_eq, List.all_eq_true] at h
  obtain ⟨h1, h2, h3⟩ := h
  obtain ⟨a, b, c', d, e, f⟩ := sizeB_yes h1
  exact ⟨a, b, c', d, e, f, h2, fun x hx => inB_iff.1 (h3 x hx)⟩
theorem getD_mem {zs : List Int} {i : Nat} (h : i < zs.length) : zs.getD i 0 ∈ zs := by
  simp [List.getD_eq_getElem?_getD, List.getElem?_eq_getElem h]
theorem all_no {zs : List Int} {i : Nat} {p : Int → Bool} (h : i < zs.length) (hp : p (zs.getD i 0) = false) : zs.all p = false := by
  rw [List.all_eq_false]
  exact ⟨_, getD_mem h, by rw [hp]; decide⟩
theorem all_yes {zs : List Int} {p : Int → Bool} (h : ∀ i, i < zs.length → p (zs.getD i 0) = true) : zs.all p = true := by
  rw [List.all_eq_true]
  intro x hx
  obtain ⟨i, hi, rfl⟩ := List.getElem_of_mem hx
  have := h i hi
  simpa [List.getD_eq_getElem?_getD, List.getElem?_eq_getElem hi] using this
theorem rast_cases (r c : Int) (n : Nat) : sizeB r c = false ∨ (sizeB r c = true ∧ (1 ≤ r ∧ r ≤ 400 ∧ 1 ≤ c ∧ c ≤ 400 ∧ 1 ≤ r * c ∧ r * c ≤ 40000) ∧ ((n : Int) != r * c) = true) ∨
    (sizeB r c = true ∧ (1 ≤ r ∧ r ≤ 400 ∧ 1 ≤ c ∧ c ≤ 400 ∧ 1 ≤ r * c ∧ r * c ≤ 40000) ∧ ((n : Int) != r * c) = false) := by
  cases h : sizeB r c
  · exact .inl rfl
  · cases k : ((n : Int) != r * c)
    · exact .inr (.inr ⟨rfl, sizeB_yes h, rfl⟩)
    · exact .inr (.inl ⟨rfl, sizeB_yes h, rfl⟩)
def NewRast (w : World) (r c : Int) (n : Nat) (zs : List Int) (e : Ending) (w' : World) : Prop :=
  ∃ g, e = .returned (.agg #[.int .i64 r, .int .i64 c, .slice (some ⟨g, 0, none⟩) n n]) ∧ w.heap.size ≤ g ∧ Blk w' g 2 (vals zs) ∧ Below w.heap.size w w'
def eqR (r c : Int) (xs : List Int) (r' c' : Int) (ys : List Int) : Bool := decide (r = r') && (decide (c = c') && eqL xs ys)
theorem eqR_same (r c : Int) (xs : List Int) : eqR r c xs r c xs = true := by simp [eqR, eqL]
/-- A struct of three cells in a block of its own. -/
def Box3 (w : World) (b : Nat) (x y z : Value) : Prop := b < w.heap.size ∧ w.cell? ⟨b, 0, none⟩ = some x ∧ w.cell? ⟨b, 1, none⟩ = some y ∧ w.cell? ⟨b, 2, none⟩ = some z
theorem Box3.keep {w w' : World} {b : Nat} {x y z : Value} (h : Box3 w b x y z) (hb : Below w.heap.size w w') : Box3 w' b x y z :=
  ⟨Nat.lt_of_lt_of_le h.1 hb.size, (hb.cell (p := ⟨b, 0, none⟩) h.1).trans h.2.1, (hb.cell (p := ⟨b, 1, none⟩) h.1).trans h.2.2.1, (hb.cell (p := ⟨b, 2, none⟩) h.1).trans h.2.2.2⟩
theorem Box3.new (w : World) (t : TypeId) (x y z : Value) : Box3 (w.alloc (.cells #[x, y, z] t)) w.heap.size x y z := ⟨by simp, by simp, by simp, by simp⟩
theorem Ints.max {k : IntKind} {w : World} {a : Option Addr} {n c : Nat} {zs : List Int} (h : Ints k w a n c zs) : n ≤ maxLen := Nat.le_trans h.2.1 h.2.2.1
end Go.Proofs.Ytdpifddmhbeklaa
