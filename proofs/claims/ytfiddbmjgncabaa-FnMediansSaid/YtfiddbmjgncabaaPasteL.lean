/-
  DERIVED. A row of numbers that is written in place; a raster pasted over another one: plain laws.
-/
import Derived.Test.YtfiddbmjgncabaaMk
import Derived.Laws.CopyOwn
namespace Go.Proofs.Ytfiddbmjgncabaa
open Go.RowKit
set_option linter.unusedVariables false

theorem splice_map {α β : Type} (f : α → β) (L : List α) (o : Nat) (cs : List α) : splice (L.map f) o (cs.map f) = (splice L o cs).map f := by
  simp [splice, List.map_take, List.map_drop]
theorem splice_app {α : Type} (L R : List α) (o : Nat) (cs : List α) (h : o + cs.length ≤ L.length) : splice (L ++ R) o cs = splice L o cs ++ R := by
  unfold splice
  rw [List.take_append_of_le_length (by omega), List.drop_append_of_le_length h, List.append_assoc, List.append_assoc]
theorem splice_nil {α : Type} (L : List α) (o : Nat) : splice L o [] = L := by simp [splice]
theorem splice_snoc {α : Type} (L : List α) (o : Nat) (cs : List α) (x : α) (h : o + cs.length < L.length) : splice L o (cs ++ [x]) = (splice L o cs).set (o + cs.length) x := by
  unfold splice
  have e : (L.take o).length = o := by rw [List.length_take]; omega
  rw [List.set_append_right _ _ (by omega), e, List.set_append_right _ _ (by omega)]
  have e2 : o + cs.length - o - cs.length = 0 := by omega
  rw [e2, List.drop_eq_getElem_cons h, List.set_cons_zero, List.append_assoc, List.length_append]
  simp [Nat.add_assoc]

/-- row r of a list of rows of q numbers. -/
def rowOf (zq : List Int) (q r : Nat) : List Int := (zq.drop (r * q)).take q
theorem rowOf_length (zq : List Int) (q r R : Nat) (h : zq.length = R * q) (hr : r < R) : (rowOf zq q r).length = q := by
  unfold rowOf
  have : (r + 1) * q ≤ R * q := Nat.mul_le_mul_right _ hr
  rw [Nat.add_mul, Nat.one_mul] at this
  rw [List.length_take, List.length_drop]
  omega
theorem rowOf_get (zq : List Int) (q r k : Nat) (hk : k < q) : (rowOf zq q r).getD k 0 = zq.getD (r * q + k) 0 := by
  unfold rowOf
  simp [List.getD_eq_getElem?_getD, List.getElem?_take_of_lt hk, List.getElem?_drop]
/-- the first r rows pasted. -/
def pasteL (zp zq : List Int) (q : Nat) (o : Nat → Nat) : Nat → List Int
  | 0 => zp
  | r + 1 => splice (pasteL zp zq q o r) (o r) (rowOf zq q r)
theorem pasteL_length (zp zq : List Int) (q : Nat) (o : Nat → Nat) (R : Nat) (h : zq.length = R * q) (ho : ∀ r, r < R → o r + q ≤ zp.length) : ∀ r, r ≤ R → (pasteL zp zq q o r).length = zp.length := by
  intro r
  induction r with
  | zero => intro _; rfl
  | succ r ih =>
    intro hr
    rw [pasteL, length_splice _ _ _ (by rw [rowOf_length zq q r R h (by omega), ih (by omega)]; exact ho r (by omega)), ih (by omega)]
theorem take_snoc {l : List Int} {k : Nat} (h : k < l.length) : l.take (k + 1) = l.take k ++ [l.getD k 0] := by
  rw [List.take_succ_eq_append_getElem h]
  simp [List.getD_eq_getElem?_getD, List.getElem?_eq_getElem h]
/-- one cell more of a row. -/
theorem splice_step (L : List Int) (o : Nat) (cs : List Int) (k : Nat) (hk : k < cs.length) (h : o + k < L.length) : splice L o (cs.take (k + 1)) = (splice L o (cs.take k)).set (o + k) (cs.getD k 0) := by
  have hl : (cs.take k).length = k := by rw [List.length_take]; omega
  rw [take_snoc hk, splice_snoc L o (cs.take k) _ (by rw [hl]; exact h), hl]

/-! ### A row in place -/
/-- a row of numbers at the head of a block, cells behind it. -/
def RowR (w : World) (g : Nat) (L : List Int) (rest : List Value) : Prop := w.heap[g]? = some (.cells (L.map (Value.int .i64) ++ rest).toArray 2 (0, 0))
section
variable {w w' : World} {g : Nat} {L : List Int} {rest : List Value}
theorem RowR.lt (h : RowR w g L rest) : g < w.heap.size := by
  rcases Nat.lt_or_ge g w.heap.size with hlt | hge
  · exact hlt
  · unfold RowR at h; rw [Array.getElem?_eq_none hge] at h; cases h
theorem RowR.cell (h : RowR w g L rest) {i : Nat} (hi : i < L.length) : w.cell? ⟨g, i, none⟩ = some (.int .i64 (L.getD i 0)) := by
  refine (cell_of_row w g i _ _ (0, 0) h).trans ?_
  simp [List.getElem?_append_left, hi, List.getD_eq_getElem?_getD]
theorem RowR.frozen (h : RowR w g L rest) (i : Nat) : w.frozen? ⟨g, i, none⟩ = false := by
  unfold RowR at h
  simp [World.frozen?, h]
theorem RowR.keep (h : RowR w g L rest) (hb : Below w.heap.size w w') : RowR w' g L rest := (hb.block g h.lt).trans h
theorem RowR.below {B : Nat} (h : RowR w g L rest) (hb : Below B w w') (hg : g < B) : RowR w' g L rest := (hb.block g hg).trans h
theorem RowR.set_ (h : RowR w g L rest) {i : Nat} (hi : i < L.length) (x : Int) : RowR (w.setCell ⟨g, i, none⟩ (.int .i64 x)) g (L.set i x) rest := by
  unfold RowR at h ⊢
  simp [World.setCell, Array.getElem?_modify, h, List.map_set]
  rw [List.set_append_left _ _ (by simpa using hi)]
theorem RowR.far (h : RowR w g L rest) {p : Addr} (hp : g ≠ p.block) (u : Value) : RowR (w.setCell p u) g L rest := (Below.heap_setCell w p u g hp).trans h
theorem RowR.own {base n cp : Nat} (h : RowR w g L rest) (hl : L.length = n) (hc : n + rest.length = cp) (hm : cp ≤ maxLen) (hb : base ≤ g) : w.ownsRow base 2 1 (.slice (some ⟨g, 0, none⟩) n cp) n (L.map (Value.int .i64)) := by
  refine ⟨by simp [hl], .inr ⟨g, cp, _, rfl, hb, h, by omega, hm, by simp [hl, hc], ?_⟩⟩
  simp [hl]
end
theorem RowR.of_own {w : World} {base n cp : Nat} {a : Option Addr} {L : List Int} (h : w.ownsRow base 2 1 (.slice a n cp) n (L.map (Value.int .i64))) (hn : 0 < n) :
    ∃ g rest, a = some ⟨g, 0, none⟩ ∧ base ≤ g ∧ RowR w g L rest ∧ n + rest.length = cp ∧ cp ≤ maxLen ∧ L.length = n := by
  obtain ⟨h1, h2⟩ := h
  have hl : L.length = n := by simpa using h1
  rcases h2 with ⟨_, h0⟩ | ⟨g, cap, cur, hv, hg, hh, hc, hm, hs, ht⟩
  · omega
  · injection hv with e1 e2 e3
    subst e1; subst e3
    refine ⟨g, cur.toList.drop n, rfl, hg, ?_, ?_, hm, hl⟩
    · unfold RowR
      rw [hh]
      congr 2
      have e : cur.toList.take n ++ cur.toList.drop n = cur.toList := List.take_append_drop n _
      rw [Nat.mul_one] at ht
      rw [← ht, e]
    · rw [List.length_drop]
      simp
      omega
end Go.Proofs.Ytfiddbmjgncabaa
