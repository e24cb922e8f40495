/-
  DERIVED. impl.ReadRaster.
-/
import Derived.Test.YtcpicgcdefnhaaaDoorSplI
import Derived.Test.YtcpicgcdefnhaaaDoorRDr
import Derived.Test.YtcpicgcdefnhaaaDoorRegI
namespace Go.Proofs.YtcpicgcdefnhaaaDoor
open Go.RowKit Go.Shelf
set_option linter.unusedVariables false
/-- The numbers that words spell. -/
def numL (pre : List ByteArray) : List Nat := pre.map fun s => val8 0 s.data.toList
theorem numL_app (pre : List ByteArray) (s : ByteArray) : numL (pre ++ [s]) = numL pre ++ [val8 0 s.data.toList] := by simp [numL]
theorem numL_len (pre : List ByteArray) : (numL pre).length = pre.length := by simp [numL]
theorem keeps_below {W W' : World} (h : Below W.heap.size W W') : KeepsOthers W W' := ⟨h.size, fun k o hk _ => (h.block k (Array.getElem?_eq_some_iff.1 hk).1).trans hk⟩
theorem kp3_below {b : Nat} {W W' : World} (h : Below W.heap.size W W') (hb : b + 2 < W.heap.size) : Kp3 b W W' := ⟨h.size, h.block _ (by omega), h.block _ (by omega), h.block _ (by omega)⟩
theorem kp3_grown {b : Nat} {W W' : World} {row : Option Nat} (h : W.grownBy W' row) (hb : b + 2 < W.heap.size) (h0 : some b ≠ row) (h1 : some (b + 1) ≠ row) (h2 : some (b + 2) ≠ row) : Kp3 b W W' := ⟨h.size, h.block _ (by omega) h0, h.block _ (by omega) h1, h.block _ (by omega) h2⟩
theorem block_own {β : Type} (k : Nat) (o : Obj) (ho : o.isCells = true) : Own (fun (_ : β) W => W.heap[k]? = some o) := fun s X Y row hs hg hrow => by
  have h : some k ≠ row := fun e => by
    obtain ⟨o2, h2, hc⟩ := hrow k e.symm
    rw [hs] at h2
    cases h2
    rw [ho] at hc
    cases hc
  exact (hg.block k (Array.getElem?_eq_some_iff.1 hs).1 h).trans hs
theorem boxX_own {β : Type} (k : Nat) (t : TypeId) : Own (fun (_ : β) W => ∃ x, Boxed W k t x) := fun s X Y row hs hg hrow => by
  obtain ⟨x, hx⟩ := hs
  exact ⟨x, (boxed_own k t (fun (_ : β) => x)) s X Y row hx hg hrow⟩
theorem boxed_far {W : World} {B k i : Nat} {t : TypeId} {v : Value} (h : Boxed W B t v) (hk : k ≠ B) (u : Value) : Boxed (W.setCell ⟨k, i, none⟩ u) B t v := (Below.heap_setCell _ _ _ _ (by simpa using fun e => hk e.symm)).trans h
/-- The block of a raster's zero. -/
abbrev zerR : Obj := .cells #[.int .i64 0, .int .i64 0, .slice none 0 0] 24
/-- Between two rounds: B the function's first block. -/
def IRd (w : World) (pre : List ByteArray) (W : World) : Prop :=
  (∃ v, Boxed W (w.heap.size + 3) 22 v ∧ W.ownsRow (w.heap.size + 2) 2 1 v pre.length ((ints (numL pre)).map (Value.int .i64)) ∧ True) ∧
  (W.heap[w.heap.size]? = some zerR ∧ Boxed W (w.heap.size + 1) 4 (.bool false)) ∧
  ((∃ x, Boxed W (w.heap.size + 4) 9 x) ∧ (∃ x, Boxed W (w.heap.size + 5) 9 x) ∧ (∃ x, Boxed W (w.heap.size + 6) 3 x)) ∧
  Below w.heap.size w W ∧ dat pre = (numL pre).map Lib.decDigits
/-- A word was refused. -/
def IRx (w : World) (pre : List ByteArray) (W : World) : Prop :=
  (W.heap[w.heap.size]? = some zerR ∧ Boxed W (w.heap.size + 1) 4 (.bool false)) ∧ Below w.heap.size w W ∧ ∃ k, k < pre.length ∧ ∀ u : Nat, u ≤ 999 → (dat pre).getD k [] ≠ Lib.decDigits u
theorem iRd_own (w : World) (B : Nat) (hB : w.heap.size ≤ B) : OwnFrom B (IRd w) :=
  OwnFrom.and (Own.from (holdsRow_own _ _ _ _ 1 (fun pre : List ByteArray => pre.length) (fun pre => (ints (numL pre)).map (Value.int .i64)) (fun _ _ => True)) _)
    (OwnFrom.and (OwnFrom.and (Own.from (block_own _ _ rfl) _) (Own.from (boxed_own _ _ (fun _ => Value.bool false)) _))
      (OwnFrom.and (OwnFrom.and (Own.from (boxX_own _ _) _) (OwnFrom.and (Own.from (boxX_own _ _) _) (Own.from (boxX_own _ _) _)))
        (OwnFrom.and (ownFrom_below (Nat.le_refl _) hB) (ownFrom_pure _ (fun pre : List ByteArray => dat pre = (numL pre).map Lib.decDigits)))))
theorem iRx_own (w : World) (B : Nat) (hB : w.heap.size ≤ B) : OwnFrom B (IRx w) :=
  OwnFrom.and (OwnFrom.and (Own.from (block_own _ _ rfl) _) (Own.from (boxed_own _ _ (fun _ => Value.bool false)) _))
    (OwnFrom.and (ownFrom_below (Nat.le_refl _) hB) (ownFrom_pure _ (fun pre : List ByteArray => ∃ k, k < pre.length ∧ ∀ u : Nat, u ≤ 999 → (dat pre).getD k [] ≠ Lib.decDigits u)))
theorem iRd_set (w : World) (pre : List ByteArray) (A : World) (v : Value) (h : IRd w pre A) : IRd w pre (A.setCell ⟨w.heap.size + 4, 0, none⟩ v) := by
  obtain ⟨⟨u, h1, h2, _⟩, ⟨h3, h4⟩, ⟨⟨x, h5⟩, ⟨y, h6⟩, ⟨z, h7⟩⟩, h8, h9⟩ := h
  exact ⟨⟨u, h1.other (by omega) _, h2.kept (grownBy_setCell' A _ v) (.inr (h5.not_row (by decide) h2).symm), trivial⟩, ⟨(Below.heap_setCell _ _ _ _ (by simp)).trans h3, h4.other (by omega) _⟩, ⟨⟨v, h5.set v⟩, ⟨y, h6.other (by omega) _⟩, ⟨z, h7.other (by omega) _⟩⟩, h8.setCell (by simp) _, h9⟩
theorem zer_cells {W : World} {k : Nat} (h : W.heap[k]? = some zerR) : Out3 W k := by
  have h1 : k < W.heap.size := (Array.getElem?_eq_some_iff.1 h).1
  refine ⟨h1, ?_, ?_, ?_, ?_, ?_, ?_⟩ <;> simp [World.cell?, World.frozen?, h]
theorem zer_set {W : World} {k : Nat} (h : W.heap[k]? = some zerR) : (((W.setCell ⟨k, 0, none⟩ (.int .i64 0)).setCell ⟨k, 1, none⟩ (.int .i64 0)).setCell ⟨k, 2, none⟩ (.slice none 0 0)).heap[k]? = some zerR := by
  rw [setCell_eq_setRow W k 0 _ _ _ _ h]
  have h1 := setRow_heap W k _ (#[Value.int .i64 0, .int .i64 0, .slice none 0 0].setIfInBounds 0 (.int .i64 0)) _ _ h
  rw [setCell_eq_setRow _ k 1 _ _ _ _ h1]
  have h2 := setRow_heap _ k _ ((#[Value.int .i64 0, .int .i64 0, .slice none 0 0].setIfInBounds 0 (.int .i64 0)).setIfInBounds 1 (.int .i64 0)) _ _ h1
  rw [setCell_eq_setRow _ k 2 _ _ _ _ h2]
  exact setRow_heap _ k _ _ _ _ h2
theorem spl_len : ∀ l : List UInt8, (spl l).length ≤ l.length + 1
  | [] => by simp [spl]
  | c :: r => by
    have ih := spl_len r
    rw [spl]
    split
    · simp; omega
    · cases hs : spl r with
      | nil => simp
      | cons x t =>
        rw [hs] at ih
        simp at ih ⊢
        omega
/-- The results' boxes set to none. -/
theorem noZ {w W V : World} {D : Nat} (hBel : Below w.heap.size w W) (hz : W.heap[w.heap.size]? = some zerR) (hb3 : Boxed W (w.heap.size + 1) 4 (.bool false)) (hK : W.heap[D]? = some (.deferred (some []))) (hD : w.heap.size + 7 ≤ D)
    (hV : ((((W.setCell ⟨w.heap.size, 0, none⟩ (.int .i64 0)).setCell ⟨w.heap.size, 1, none⟩ (.int .i64 0)).setCell ⟨w.heap.size, 2, none⟩ (.slice none 0 0)).setCell ⟨w.heap.size + 1, 0, none⟩ (.bool false)) = V) :
    Below w.heap.size w V ∧ V.heap[w.heap.size]? = some zerR ∧ Boxed V (w.heap.size + 1) 4 (.bool false) ∧ V.heap[D]? = some (.deferred (some [])) := by
  subst hV
  refine ⟨(((hBel.setCell (by simp) _).setCell (by simp) _).setCell (by simp) _).setCell (by simp) _, (Below.heap_setCell _ _ _ _ (by simp)).trans (zer_set hz), (boxed_far (boxed_far (boxed_far hb3 (by omega) _) (by omega) _) (by omega) _).set _, ?_⟩
  exact ((((KeepsOthers.setCell _ _ _).trans (KeepsOthers.setCell _ _ _)).trans (KeepsOthers.setCell _ _ _)).trans (KeepsOthers.setCell _ _ _)).same D _ hK rfl
theorem noF {w V : World} {D : Nat} (hB : Below w.heap.size w V) (zV : V.heap[w.heap.size]? = some zerR) (bV : Boxed V (w.heap.size + 1) 4 (.bool false)) (hKV : V.heap[D]? = some (.deferred (some []))) (hD : w.heap.size + 7 ≤ D) :
    (V.putObj D (.deferred none)).cell? ⟨w.heap.size, 0, none⟩ = some (.int .i64 0) ∧ (V.putObj D (.deferred none)).cell? ⟨w.heap.size, 1, none⟩ = some (.int .i64 0) ∧ (V.putObj D (.deferred none)).cell? ⟨w.heap.size, 2, none⟩ = some (.slice none 0 0) ∧ (V.putObj D (.deferred none)).cell? ⟨w.heap.size + 1, 0, none⟩ = some (.bool false) ∧ Below w.heap.size w (V.putObj D (.deferred none)) := by
  have z1 : (V.putObj D (.deferred none)).heap[w.heap.size]? = some zerR := (World.putObj_heap_other (by omega)).trans zV
  have b1 : Boxed (V.putObj D (.deferred none)) (w.heap.size + 1) 4 (.bool false) := (World.putObj_heap_other (by omega)).trans bV
  obtain ⟨q_, q0, q1, q2, _⟩ := zer_cells z1
  exact ⟨q0, q1, q2, b1.cell, hB.trans (belowK_b (w := w) (Nat.le_refl _) V D _ _ (by omega) hKV rfl rfl)⟩
theorem yes_set {W : World} {k : Nat} (h : W.heap[k]? = some zerR) (x y z : Value) : (((W.setCell ⟨k, 0, none⟩ x).setCell ⟨k, 1, none⟩ y).setCell ⟨k, 2, none⟩ z).heap[k]? = some (.cells #[x, y, z] 24) := by
  rw [setCell_eq_setRow W k 0 _ _ _ _ h]
  have h1 := setRow_heap W k _ (#[Value.int .i64 0, .int .i64 0, .slice none 0 0].setIfInBounds 0 x) _ _ h
  rw [setCell_eq_setRow _ k 1 _ _ _ _ h1]
  have h2 := setRow_heap _ k _ ((#[Value.int .i64 0, .int .i64 0, .slice none 0 0].setIfInBounds 0 x).setIfInBounds 1 y) _ _ h1
  rw [setCell_eq_setRow _ k 2 _ _ _ _ h2]
  exact setRow_heap _ k _ _ _ _ h2
theorem yesZ {w w1 V : World} {D m g cap : Nat} {r c : Int} {zs : List Int} (hBel : Below w.heap.size w w1) (hz : w1.heap[w.heap.size]? = some zerR) (hb3 : Boxed w1 (w.heap.size + 1) 4 (.bool false)) (hK : w1.heap[D]? = some (.deferred (some []))) (hD : w.heap.size + 7 ≤ D)
    (ho : w1.ownsRow (w.heap.size + 2) 2 1 (.slice (some ⟨g, 0, none⟩) (m + 2) cap) (m + 2) ((r :: c :: zs).map (Value.int .i64))) (hl : zs.length = m)
    (hV : ((((w1.setCell ⟨w.heap.size, 0, none⟩ (.int .i64 r)).setCell ⟨w.heap.size, 1, none⟩ (.int .i64 c)).setCell ⟨w.heap.size, 2, none⟩ (.slice (some ⟨g, 2, none⟩) m (cap - 2))).setCell ⟨w.heap.size + 1, 0, none⟩ (.bool true)) = V) :
    V.heap[D]? = some (.deferred (some [])) ∧ (V.putObj D (.deferred none)).cell? ⟨w.heap.size, 0, none⟩ = some (.int .i64 r) ∧ (V.putObj D (.deferred none)).cell? ⟨w.heap.size, 1, none⟩ = some (.int .i64 c) ∧ (V.putObj D (.deferred none)).cell? ⟨w.heap.size, 2, none⟩ = some (.slice (some ⟨g, 2, none⟩) m (cap - 2)) ∧ (V.putObj D (.deferred none)).cell? ⟨w.heap.size + 1, 0, none⟩ = some (.bool true) ∧
    OwnO (V.putObj D (.deferred none)) w.heap.size (some ⟨g, 2, none⟩) m zs ∧ Below w.heap.size w (V.putObj D (.deferred none)) := by
  subst hV
  have hKV := ((((KeepsOthers.setCell w1 ⟨w.heap.size, 0, none⟩ (.int .i64 r)).trans (KeepsOthers.setCell _ ⟨w.heap.size, 1, none⟩ (.int .i64 c))).trans (KeepsOthers.setCell _ ⟨w.heap.size, 2, none⟩ (.slice (some ⟨g, 2, none⟩) m (cap - 2)))).trans (KeepsOthers.setCell _ ⟨w.heap.size + 1, 0, none⟩ (.bool true))).same D _ hK rfl
  have h1 := yes_set hz (.int .i64 r) (.int .i64 c) (.slice (some ⟨g, 2, none⟩) m (cap - 2))
  have h2 : ((((w1.setCell ⟨w.heap.size, 0, none⟩ (.int .i64 r)).setCell ⟨w.heap.size, 1, none⟩ (.int .i64 c)).setCell ⟨w.heap.size, 2, none⟩ (.slice (some ⟨g, 2, none⟩) m (cap - 2))).setCell ⟨w.heap.size + 1, 0, none⟩ (.bool true)).heap[w.heap.size]? = some (.cells #[.int .i64 r, .int .i64 c, .slice (some ⟨g, 2, none⟩) m (cap - 2)] 24) := (Below.heap_setCell _ _ _ _ (by simp)).trans h1
  have h3 : Boxed ((((w1.setCell ⟨w.heap.size, 0, none⟩ (.int .i64 r)).setCell ⟨w.heap.size, 1, none⟩ (.int .i64 c)).setCell ⟨w.heap.size, 2, none⟩ (.slice (some ⟨g, 2, none⟩) m (cap - 2))).setCell ⟨w.heap.size + 1, 0, none⟩ (.bool true)) (w.heap.size + 1) 4 (.bool true) := (boxed_far (boxed_far (boxed_far hb3 (by omega) _) (by omega) _) (by omega) _).set _
  have h4 := ownN_far (ownN_far (ownN_far (ownN_far ho (p := ⟨w.heap.size, 0, none⟩) (show w.heap.size < _ by omega) (.int .i64 r)) (p := ⟨w.heap.size, 1, none⟩) (show w.heap.size < _ by omega) (.int .i64 c)) (p := ⟨w.heap.size, 2, none⟩) (show w.heap.size < _ by omega) (.slice (some ⟨g, 2, none⟩) m (cap - 2))) (p := ⟨w.heap.size + 1, 0, none⟩) (show w.heap.size + 1 < _ by omega) (.bool true)
  have hB : Below w.heap.size w ((((w1.setCell ⟨w.heap.size, 0, none⟩ (.int .i64 r)).setCell ⟨w.heap.size, 1, none⟩ (.int .i64 c)).setCell ⟨w.heap.size, 2, none⟩ (.slice (some ⟨g, 2, none⟩) m (cap - 2))).setCell ⟨w.heap.size + 1, 0, none⟩ (.bool true)) := (((hBel.setCell (by simp) _).setCell (by simp) _).setCell (by simp) _).setCell (by simp) _
  generalize ((((w1.setCell ⟨w.heap.size, 0, none⟩ (.int .i64 r)).setCell ⟨w.heap.size, 1, none⟩ (.int .i64 c)).setCell ⟨w.heap.size, 2, none⟩ (.slice (some ⟨g, 2, none⟩) m (cap - 2))).setCell ⟨w.heap.size + 1, 0, none⟩ (.bool true)) = V at hKV h2 h3 h4 hB ⊢
  have z1 : (V.putObj D (.deferred none)).heap[w.heap.size]? = some (.cells #[.int .i64 r, .int .i64 c, .slice (some ⟨g, 2, none⟩) m (cap - 2)] 24) := (World.putObj_heap_other (by omega)).trans h2
  have b1 : Boxed (V.putObj D (.deferred none)) (w.heap.size + 1) 4 (.bool true) := (World.putObj_heap_other (by omega)).trans h3
  refine ⟨hKV, by simp [World.cell?, z1], by simp [World.cell?, z1], by simp [World.cell?, z1], b1.cell, ⟨hl, .inr ⟨g, 2, cap, [r, c], rfl, rfl, ?_⟩⟩, hB.trans (belowK_b (w := w) (Nat.le_refl _) V D _ _ (by omega) hKV rfl rfl)⟩
  rw [Nat.add_comm 2 m]
  exact ownN_mono (ownsRow_putObj h4 _ hKV rfl) (by omega)
/-- The box that region 12 makes: new, or set. -/
def RBx (w : World) (b : Nat) (f : Bool) (x y z : Value) : Prop := (f = false ∧ Out3 w b) ∨ (f = true ∧ Box3 w b x y z)
theorem RBx.yes {w : World} {b : Nat} {x y z : Value} (h : RBx w b true x y z) : Box3 w b x y z := by
  rcases h with ⟨h, _⟩ | ⟨_, h⟩
  · cases h
  · exact h
theorem raster_none (r c : Int) : rasterB r c 0 [] = false := by
  cases h : rasterB r c 0 [] with
  | false => rfl
  | true =>
    obtain ⟨_, _, _, _, h1, _, h2, _⟩ := rasterB_yes h
    simp at h2
    omega
/-- What the walk keeps of the world before the region. -/
theorem keepZ {w W W' : World} {D : Nat} (hb : Below W.heap.size W W') (hBel : Below w.heap.size w W) (hz : W.heap[w.heap.size]? = some zerR) (hb3 : Boxed W (w.heap.size + 1) 4 (.bool false)) (hK : W.heap[D]? = some (.deferred (some []))) :
    Below w.heap.size w W' ∧ W'.heap[w.heap.size]? = some zerR ∧ Boxed W' (w.heap.size + 1) 4 (.bool false) ∧ W'.heap[D]? = some (.deferred (some [])) :=
  ⟨hBel.trans (hb.mono hBel.size), (hb.block _ (Array.getElem?_eq_some_iff.1 hz).1).trans hz, (hb.block _ hb3.lt).trans hb3, (hb.block _ (Array.getElem?_eq_some_iff.1 hK).1).trans hK⟩
/-- The world where the loop begins. -/
def start0 (s : ByteArray) (w : World) : World := ((((((w.alloc zerR).alloc (.cells #[.bool false] 4)).alloc (.cells #[] 2)).alloc (.cells #[.slice (some ⟨w.heap.size + 1 + 1, 0, none⟩) 0 0] 22)).alloc (.cells #[.string s] 9)).alloc (.cells #[.string ⟨#[32]⟩] 9)).alloc (.cells #[.int .i64 0] 3)
theorem start_ok (s : ByteArray) (w : World) : IRd w [] (start0 s w) ∧ Boxed (start0 s w) (w.heap.size + 4) 9 (.string s) ∧ Boxed (start0 s w) (w.heap.size + 4 + 1) 9 (.string ⟨#[32]⟩) ∧ Boxed (start0 s w) (w.heap.size + 4 + 2) 3 (.int .i64 0) ∧ (start0 s w).heap.size = w.heap.size + 7 := by
  obtain ⟨A1, hA1⟩ : ∃ A, w.alloc zerR = A := ⟨_, rfl⟩
  obtain ⟨A2, hA2⟩ : ∃ A, A1.alloc (.cells #[.bool false] 4) = A := ⟨_, rfl⟩
  obtain ⟨A3, hA3⟩ : ∃ A, A2.alloc (.cells #[] 2) = A := ⟨_, rfl⟩
  obtain ⟨A4, hA4⟩ : ∃ A, A3.alloc (.cells #[.slice (some ⟨w.heap.size + 1 + 1, 0, none⟩) 0 0] 22) = A := ⟨_, rfl⟩
  obtain ⟨A5, hA5⟩ : ∃ A, A4.alloc (.cells #[.string s] 9) = A := ⟨_, rfl⟩
  obtain ⟨A6, hA6⟩ : ∃ A, A5.alloc (.cells #[.string ⟨#[32]⟩] 9) = A := ⟨_, rfl⟩
  obtain ⟨A7, hA7⟩ : ∃ A, A6.alloc (.cells #[.int .i64 0] 3) = A := ⟨_, rfl⟩
  have hst : start0 s w = A7 := by unfold start0; rw [hA1, hA2, hA3, hA4, hA5, hA6, hA7]
  have z1 : A1.heap.size = w.heap.size + 1 := by rw [← hA1]; simp
  have z2 : A2.heap.size = w.heap.size + 2 := by rw [← hA2]; simp [z1]
  have z3 : A3.heap.size = w.heap.size + 3 := by rw [← hA3]; simp [z2]
  have z4 : A4.heap.size = w.heap.size + 4 := by rw [← hA4]; simp [z3]
  have z5 : A5.heap.size = w.heap.size + 5 := by rw [← hA5]; simp [z4]
  have z6 : A6.heap.size = w.heap.size + 6 := by rw [← hA6]; simp [z5]
  have z7 : A7.heap.size = w.heap.size + 7 := by rw [← hA7]; simp [z6]
  have b1 : A1.heap[w.heap.size]? = some zerR := by rw [← hA1]; exact World.alloc_heap_new w _
  have b2 : Boxed A2 (w.heap.size + 1) 4 (.bool false) := by rw [← hA2, ← z1]; exact Boxed.new A1 _ _
  have b3 : A3.ownsRow (w.heap.size + 2) 2 1 (.slice (some ⟨w.heap.size + 2, 0, none⟩) 0 0) 0 [] := by
    rw [← hA3, ← z2]
    exact World.ownsRow_lit (base := A2.heap.size) (e := 2) (size := 1) A2 #[] 0 (Nat.le_refl _) (by unfold maxLen; omega) (by simp)
  have b4 : Boxed A4 (w.heap.size + 3) 22 (.slice (some ⟨w.heap.size + 2, 0, none⟩) 0 0) := by rw [← hA4, ← z3]; exact Boxed.new A3 _ _
  have b5 : Boxed A5 (w.heap.size + 4) 9 (.string s) := by rw [← hA5, ← z4]; exact Boxed.new A4 _ _
  have b6 : Boxed A6 (w.heap.size + 5) 9 (.string ⟨#[32]⟩) := by rw [← hA6, ← z5]; exact Boxed.new A5 _ _
  have b7 : Boxed A7 (w.heap.size + 6) 3 (.int .i64 0) := by rw [← hA7, ← z6]; exact Boxed.new A6 _ _
  have l12 : Below A1.heap.size A1 A2 := by rw [← hA2]; exact (Below.refl _ _).alloc (Nat.le_refl _) _
  have l23 : Below A2.heap.size A2 A3 := by rw [← hA3]; exact (Below.refl _ _).alloc (Nat.le_refl _) _
  have l34 : Below A3.heap.size A3 A4 := by rw [← hA4]; exact (Below.refl _ _).alloc (Nat.le_refl _) _
  have l45 : Below A4.heap.size A4 A5 := by rw [← hA5]; exact (Below.refl _ _).alloc (Nat.le_refl _) _
  have l56 : Below A5.heap.size A5 A6 := by rw [← hA6]; exact (Below.refl _ _).alloc (Nat.le_refl _) _
  have l67 : Below A6.heap.size A6 A7 := by rw [← hA7]; exact (Below.refl _ _).alloc (Nat.le_refl _) _
  have m57 : Below A5.heap.size A5 A7 := l56.trans (l67.mono (by omega))
  have m47 : Below A4.heap.size A4 A7 := l45.trans (m57.mono (by omega))
  have m37 : Below A3.heap.size A3 A7 := l34.trans (m47.mono (by omega))
  have m27 : Below A2.heap.size A2 A7 := l23.trans (m37.mono (by omega))
  have m17 : Below A1.heap.size A1 A7 := l12.trans (m27.mono (by omega))
  have m07 : Below w.heap.size w A7 := by
    have l01 : Below w.heap.size w A1 := by rw [← hA1]; exact (Below.refl _ _).alloc (Nat.le_refl _) _
    exact l01.trans (m17.mono (by omega))
  have c5 : Boxed A7 (w.heap.size + 4) 9 (.string s) := (m57.block _ (by omega)).trans b5
  have c6 : Boxed A7 (w.heap.size + 5) 9 (.string ⟨#[32]⟩) := (l67.block _ (by omega)).trans b6
  rw [hst]
  exact ⟨⟨⟨_, (m47.block _ (by omega)).trans b4, ownN_below b3 m37, trivial⟩, ⟨(m17.block _ (by omega)).trans b1, (m27.block _ (by omega)).trans b2⟩, ⟨⟨_, c5⟩, ⟨_, c6⟩, ⟨_, b7⟩⟩, m07, rfl⟩, c5, c6, b7, z7⟩
attribute [local go_sem] Oper.semAt_some
set_option maxRecDepth 100000 in
set_option maxHeartbeats 4000000 in
theorem iReadR (s : ByteArray) (w : World) (hs : s.size ≤ 1048576) (hE : ErrB w.heap.size w) : Calls Tryd.prog 7 #[.string s] w (ResR s.data.toList w) := by
  obtain ⟨n, hn⟩ : ∃ n, s.size = n := ⟨_, rfl⟩
  have HN : Hid (s.data.toList.length = n) := by unfold Hid; rw [← hn]; exact Array.length_toList
  have HE := Lib.hid hE
  clear hE
  by_cases hbig : 160016 < n
  · have HV : Hid (∀ r c zs, ¬ RV s.data.toList r c zs) := rv_long (by rw [HN.out]; omega)
    refine (callsIn_wide (n := 8)).1 ?_
    refine callsIn_of_wp_marks Tryd.func7 rfl trivial ?_ rfl
    simp only [Tryd.ntmps7, List.size_toArray, List.length_cons, List.length_nil, Nat.reduceAdd, Nat.reduceSub, Array.replicate_succ, Array.replicate_zero, List.push_toArray, List.append_toArray, List.nil_append, List.cons_append]
    gi_wp2
    refine ⟨.tuple #[.agg #[.int .i64 0, .int .i64 0, .slice none 0 0], .bool false], by simp [results, Tryd.results7, go_sem], ?_⟩
    exact resR_no HV.out (((Below.refl _ _).alloc (Nat.le_refl _) _).alloc (by simp) _)
  refine (callsIn_wide (n := 8)).1 ?_
  refine callsIn_of_wp_marks Tryd.func7 rfl trivial ?_ rfl
  simp only [Tryd.ntmps7, List.size_toArray, List.length_cons, List.length_nil, Nat.reduceAdd, Nat.reduceSub, Array.replicate_succ, Array.replicate_zero, List.push_toArray, List.append_toArray, List.nil_append, List.cons_append]
  gi_wp2_with (refine ⟨trivial, ?_⟩; gi_at_call 26; refine (callsIn_wide.2 (mkSplit s _)).mono ?_; rintro x0 w' ⟨rfl, rfl⟩)
  obtain ⟨W0, hW0⟩ : ∃ W0 : World, start0 s w = W0 := ⟨_, rfl⟩
  obtain ⟨hI0, hS0, hS1, hS2, hz0⟩ := start_ok s w
  rw [hW0] at hI0 hS0 hS1 hS2 hz0
  rw [show ((((((w.alloc zerR).alloc (.cells #[.bool false] 4)).alloc (.cells #[] 2)).alloc (.cells #[.slice (some ⟨w.heap.size + 1 + 1, 0, none⟩) 0 0] 22)).alloc (.cells #[.string s] 9)).alloc (.cells #[.string ⟨#[32]⟩] 9)).alloc (.cells #[.int .i64 0] 3) = W0 from hW0]
  clear hW0
  have HI0 := Lib.hid hI0
  clear hI0
  refine rangeS (n := 8) (by omega) (gf := 52) (lb := #[.pointer (some ⟨w.heap.size + 4 + 1, 0, none⟩), .pointer (some ⟨w.heap.size + 4, 0, none⟩), .pointer (some ⟨w.heap.size + 4 + 2, 0, none⟩)]) rfl (enters_of Tryd.func52 (by kernel_rfl) rfl) (b := w.heap.size + 4) (by omega)
    (splitS 7 (by omega) s hs (w.heap.size + 4) W0 hS0 hS1 hS2) rfl (IRd w) (IRx w) (iRd_own w _ (by omega)) (iRx_own w _ (by omega)) (iRd_set w) HI0.out
    (fun x => { tmps := #[.string s, undef, .pointer (some ⟨w.heap.size, 0, none⟩), .pointer (some ⟨w.heap.size + 1, 0, none⟩), .pointer (some ⟨w.heap.size + 3, 0, none⟩), .string x, undef, undef, undef, .string s, .int .i64 (n : Int), .bool (decide ((160016 : Int) < (n : Int))), undef, .slice (some ⟨w.heap.size + 2, 0, none⟩) 0 0, .string s, .func (.func 52) #[] #[.pointer (some ⟨w.heap.size + 5, 0, none⟩), .pointer (some ⟨w.heap.size + 4, 0, none⟩), .pointer (some ⟨w.heap.size + 6, 0, none⟩)], .string x, undef, undef, undef, undef, undef, undef, undef, undef, undef, undef, undef, undef, undef, undef, undef, undef, undef, undef, undef, undef, undef, undef, undef, undef, undef, undef, undef, undef, undef, undef], defers := [] })
    ?assign ?body ?done ?stop
  case assign =>
    rintro l x W K hK
    gi_wp2
    exact hK
  case body =>
    rintro l pre x W hI hlen hxs
    obtain ⟨⟨v, hv, hrow, _⟩, ⟨hz, hb3⟩, ⟨⟨x4, h4⟩, ⟨x5, h5⟩, ⟨x6, h6⟩⟩, hBel, hdat⟩ := hI
    have hzW := hBel.size
    have hErr : ErrB w.heap.size W := HE.out.on hBel (Nat.le_refl _) hzW
    obtain ⟨i0, hi, hiz, hi1, hi2⟩ := info_parts infoInt
    have h7 := h6.lt
    have hKB := Lib.hid (fun W' (h : Below W.heap.size W W') => (⟨(h.block _ hv.lt).trans hv, ownN_below hrow h, (h.block _ (by omega)).trans hz, (h.block _ (by omega)).trans hb3, (h.block _ h4.lt).trans h4, (h.block _ h5.lt).trans h5, (h.block _ h6.lt).trans h6, hBel.trans (h.mono hzW)⟩ : Boxed W' (w.heap.size + 3) 22 v ∧ W'.ownsRow (w.heap.size + 2) 2 1 v pre.length ((ints (numL pre)).map (Value.int .i64)) ∧ W'.heap[w.heap.size]? = some zerR ∧ Boxed W' (w.heap.size + 1) 4 (.bool false) ∧ Boxed W' (w.heap.size + 4) 9 x4 ∧ Boxed W' (w.heap.size + 5) 9 x5 ∧ Boxed W' (w.heap.size + 6) 3 x6 ∧ Below w.heap.size w W'))
    have HDt := Lib.hid hdat
    clear hv hrow hz hb3 h4 h5 h6 hBel hdat
    gi_wp2_with (first | (refine ⟨trivial, ?_⟩; gi_at_call 27; refine ((callsIn_wide.2 (iReadDec x W hxs _ hErr)).inRound l).mono ?_; rintro e1 w1 ⟨nv, ok, rfl, hW, hb1⟩; obtain ⟨hv, hrow, hz, hb3, h4, h5, h6, hBel⟩ := hKB.out w1 hb1; obtain ⟨q_, q0, q1, q2, q3, q4, q5⟩ := zer_cells hz; have d0 := hb3.cell; have df := hb3.frozen; have v0 := hv.cell; have vf := hv.frozen; have hz1 := hb1.size; have HW := Lib.hid hW; clear hW; cases ok) | (gi_at_builtin; refine wpListIn_append_own _ rfl _ _ 22 rfl (w.heap.size + 2) 2 i0 (.int .i64 0) 1 8 Tryd.underlying22 hi hiz hi1 hi2 rfl (by decide) _ _ _ rfl (hrow.alloc _) ⟨w1.heap.size, 0, none⟩ 1 1 [.int .i64 nv] rfl rfl (cell_one_new _ _ _) (by simp [Value.oneCell']) (by unfold maxLen; omega) (by omega) (by simp; omega) ?_; intro v' w2 hown' hgrow _; obtain ⟨g', cap', rfl⟩ := ownsRow_succ hown'; have hap := hv.appended (by decide) hrow (by omega) (by omega) hown' hgrow; obtain ⟨hv1', hv2', hr2, hk2, hb2⟩ := hap; have hc1 := hv1'.cell; have hf1 := hv1'.frozen))
    · refine ⟨(keeps_below hb1).trans ?_, ⟨?_, ?_⟩, ?_, pre.length, by simp, fun u hu => ?_⟩
      · exact (((KeepsOthers.setCell _ _ _).trans (KeepsOthers.setCell _ _ _)).trans (KeepsOthers.setCell _ _ _)).trans (KeepsOthers.setCell _ _ _)
      · exact (Below.heap_setCell _ _ _ _ (by simp)).trans (zer_set hz)
      · exact (boxed_far (boxed_far (boxed_far hb3 (by omega) _) (by omega) _) (by omega) _).set _
      · exact (((hBel.setCell (by simp) _).setCell (by simp) _).setCell (by simp) _).setCell (by simp) _
      · have e : (dat (pre ++ [x])).getD pre.length [] = x.data.toList := by simp [dat, List.getD_eq_getElem?_getD]
        rw [e]
        exact HW.out.2 rfl u hu
    · obtain ⟨u, rfl, hu⟩ := HW.out.1 rfl
      have hval : val8 0 x.data.toList = u := by rw [hu, dec_val]
      have hkp : Kp3 (w.heap.size + 4) w1 (w2.setCell ⟨w.heap.size + 3, 0, none⟩ (.slice (some ⟨g', 0, none⟩) (pre.length + 1) cap')) :=
        ((kp3_below ((Below.refl _ w1).alloc (Nat.le_refl _) _) h6.lt).trans (kp3_grown hgrow (by simp; have := h6.lt; omega) (h4.not_row (by decide) hrow) (h5.not_row (by decide) hrow) (h6.not_row (by decide) hrow))).trans (Kp3.set (.inr (by omega)) _)
      refine ⟨(keeps_below hb1).trans hk2, (kp3_below hb1 h7).trans hkp, ⟨_, hv2', ?_, trivial⟩, ⟨(hb2.block _ (by omega)).trans hz, (hb2.block _ (by omega)).trans hb3⟩, ⟨⟨_, hkp.2.1.trans h4⟩, ⟨_, hkp.2.2.1.trans h5⟩, ⟨_, hkp.2.2.2.trans h6⟩⟩, hBel.trans (hb2.mono (by omega)), ?_⟩
      · rw [numL_app, hval, ints_app, List.map_append, List.length_append]
        exact hr2
      · rw [dat_app, numL_app, hval, List.map_append, HDt.out, hu]
        rfl
  case done =>
    rintro D xs W hD hS hI hK
    obtain ⟨⟨v, hv, hrow, _⟩, ⟨hz, hb3⟩, -, hBel, hdat⟩ := hI
    have HA : Hid (spl s.data.toList = (numL xs).map Lib.decDigits) := by rw [← hdat]; exact hS.1.symm
    obtain ⟨L, hL⟩ : ∃ L, numL xs = L := ⟨_, rfl⟩
    have hLl : xs.length = L.length := by rw [← hL, numL_len]
    rw [hL] at HA hrow
    rw [hLl] at hrow
    obtain ⟨k, hk⟩ : ∃ k, L.length = k := ⟨_, rfl⟩
    rw [hk] at hrow
    clear hdat hS hL hLl
    obtain ⟨q_, q0, q1, q2, q3, q4, q5⟩ := zer_cells hz
    have d0 := hb3.cell
    have df := hb3.frozen
    have v0 := hv.cell
    have hzW := hBel.size
    have hv3 := hv.lt
    have hv3' : w.heap.size + 1 + 1 + 1 < W.heap.size := hv3
    have hDW := (Array.getElem?_eq_some_iff.1 hK).1
    by_cases h2 : k < 2
    · have HV : Hid (∀ r c zs, ¬ RV s.data.toList r c zs) := rv_short HA.out (by omega)
      obtain ⟨va, vc, rfl⟩ := own_shapeS hrow
      have h2I : (k : Int) < 2 := by omega
      gi_wp2
      obtain ⟨V, hV⟩ : ∃ V, ((((W.setCell ⟨w.heap.size, 0, none⟩ (.int .i64 0)).setCell ⟨w.heap.size, 1, none⟩ (.int .i64 0)).setCell ⟨w.heap.size, 2, none⟩ (.slice none 0 0)).setCell ⟨w.heap.size + 1, 0, none⟩ (.bool false)) = V := ⟨_, rfl⟩
      obtain ⟨HVB, zV, bV, hKV⟩ := noZ hBel hz hb3 hK (by omega) hV
      rw [hV]
      obtain ⟨q0, q1, q2, d0, HBf⟩ := noF HVB zV bV hKV (by omega)
      refine ⟨by simp, .inl ⟨_, _, rfl, run_takeDeferred hKV, ?_⟩⟩
      refine ⟨.tuple #[.agg #[.int .i64 0, .int .i64 0, .slice none 0 0], .bool false], by simp [results, Tryd.results7, go_sem, q0, q1, q2, d0], ?_⟩
      exact resR_no HV.out HBf
    · obtain ⟨r, c, zs, hrc⟩ : ∃ r c zs, ints L = r :: c :: zs := by
        have h4 := ints_bd L
        match hm : ints L, h4 with
        | [], h4 => simp at h4; omega
        | [x], h4 => simp at h4; omega
        | x :: y :: zs, _ => exact ⟨x, y, zs, rfl⟩
      have hzl : zs.length = k - 2 := by
        have h4 := ints_bd L
        rw [hrc] at h4
        simp only [List.length_cons] at h4
        omega
      have hkb : k ≤ 160017 := by
        have h5 := spl_len s.data.toList
        rw [HA.out, HN.out, List.length_map, hk] at h5
        omega
      obtain ⟨m, hm⟩ : ∃ m, k = m + 2 := ⟨k - 2, by omega⟩
      subst hm
      have HZl : Hid (zs.length = m) := by unfold Hid; omega
      have HRC' : Hid ((L.map fun n : Nat => (n : Int)) = r :: c :: zs) := hrc
      rw [hrc] at hrow
      have HO3 := Lib.hid hrow
      obtain ⟨g, cap, hv2, hgb, -⟩ := hrow.form (by omega)
      subst hv2
      have hcapG := own_capsS hrow
      have hgz : g < W.heap.size := (hrow.lt g rfl).2
      have hc0 : W.cell? ⟨g, 0, none⟩ = some (.int .i64 r) := by rw [hrow.cellAt 0 (by omega)]; simp
      have hc1 : W.cell? ⟨g, 1, none⟩ = some (.int .i64 c) := by rw [hrow.cellAt 1 (by omega)]; simp
      have HRd : Hid (Rd W (some ⟨g, 2, none⟩) m zs) := by
        refine ⟨HZl.out, fun _ => ⟨g, 2, rfl, hgz, fun i hi => ?_⟩⟩
        rw [HO3.out.cellAt (2 + i) (by omega)]
        have h5 : i < zs.length := by rw [HZl.out]; exact hi
        rw [show 2 + i = i + 1 + 1 by omega]
        simp [List.getElem?_eq_getElem h5, List.getD_eq_getElem?_getD]
      have hcap2 : 2 ≤ cap := by omega
      have m2 : ((m : Int) + 2) - 2 = (m : Int) := by omega
      have m3 : (2 : Int) ≤ (m : Int) + 2 := by omega
      have m4 : ((m : Int) + 2).toNat = m + 2 := by omega
      have m5 : m + 2 - 2 = m := by omega
      have m6 : ¬ ((m : Int) + 2 < 2) := by omega
      have m7 : (0 : Int) < (m : Int) + 2 := by omega
      have m8 : (1 : Int) < (m : Int) + 2 := by omega
      have HKp := Lib.hid (And.intro hBel (And.intro hz (And.intro hb3 hK)))
      have hmb : m ≤ 1048576 := by omega
      clear hrow hrc hzl h2 hk q0 q1 q2 q3 q4 q5 d0 df
      obtain ⟨A, cp, hsl⟩ : ∃ (A : Option Addr) (cp : Nat), (cap = 2 ∧ m = 0 ∧ A = some ⟨g, 0, none⟩ ∧ cp = 0) ∨ (¬ (cap = 2) ∧ A = some ⟨g, 2, none⟩ ∧ cp = cap - 2) := by
        by_cases h : cap = 2
        · exact ⟨_, _, .inl ⟨h, by omega, rfl, rfl⟩⟩
        · exact ⟨_, _, .inr ⟨h, rfl, rfl⟩⟩
      have HRA : Hid (Rd W A m zs) := by
        rcases hsl with ⟨h1, h2, h3, h4⟩ | ⟨h1, h3, h4⟩
        · exact ⟨HZl.out, fun h => by omega⟩
        · rw [h3]; exact HRd.out
      · gi_wp2
        refine wpIn_wide.2 ?_
        -- REG12
        refine wp_region_inv (fun d ac wz => ∃ (u8 u33 u34 u35 u36 u37 u38 u39 u40 u41 : Value) (b : Nat), ac = ({ tmps := #[.string s, undef, .pointer (some ⟨w.heap.size, 0, none⟩), .pointer (some ⟨w.heap.size + 1, 0, none⟩), .pointer (some ⟨w.heap.size + 1 + 1 + 1, 0, none⟩), undef, undef, undef, u8, .string s, .int .i64 (n : Int), .bool (decide ((160016 : Int) < (n : Int))), undef, .slice (some ⟨w.heap.size + 1 + 1, 0, none⟩) 0 0, .string s, .func (.func 52) #[] #[.pointer (some ⟨w.heap.size + 1 + 1 + 1 + 1 + 1, 0, none⟩), .pointer (some ⟨w.heap.size + 1 + 1 + 1 + 1, 0, none⟩), .pointer (some ⟨w.heap.size + 1 + 1 + 1 + 1 + 2, 0, none⟩)], undef, undef, undef, undef, undef, undef, undef, undef, undef, undef, undef, undef, undef, .slice (some ⟨g, 0, none⟩) (m + 2) cap, .int .i64 ((m : Int) + 2), .bool false, undef, u33, u34, u35, u36, u37, u38, u39, u40, u41, undef, undef, undef, undef, undef], defers := [{ target := .collected D, args := #[] }] } : Act) ∧ Below W.heap.size W wz ∧ (d 0 = true → u33 = .slice (some ⟨g, 0, none⟩) (m + 2) cap) ∧ (d 1 = true → u34 = .pointer (some ⟨g, 0, none⟩)) ∧ (d 2 = true → u35 = .int .i64 r) ∧ (d 3 = true → u36 = .slice (some ⟨g, 0, none⟩) (m + 2) cap) ∧ (d 4 = true → u37 = .pointer (some ⟨g, 1, none⟩)) ∧ (d 5 = true → u38 = .int .i64 c) ∧ (d 6 = true → u39 = .slice (some ⟨g, 0, none⟩) (m + 2) cap) ∧ (d 7 = true → u40 = .slice A m cp) ∧ (d 8 = true → u41 = .agg #[.int .i64 r, .int .i64 c, .slice A m cp]) ∧ (d 9 = true → u8 = .pointer (some ⟨b, 0, none⟩) ∧ W.heap.size ≤ b ∧ RBx wz b (d 10) (.int .i64 r) (.int .i64 c) (.slice A m cp)) ∧ (d 10 = true → d 9 = true)) (by kernel_rfl) (by kernel_rfl) ?_ ?_ ?_
        · exact ⟨_, _, _, _, _, _, _, _, _, _, 0, rfl, (Below.refl _ _).drew, (fun h => by cases h), (fun h => by cases h), (fun h => by cases h), (fun h => by cases h), (fun h => by cases h), (fun h => by cases h), (fun h => by cases h), (fun h => by cases h), (fun h => by cases h), (fun h => by cases h), (fun h => by cases h)⟩
        · refine Steps.cons (fun d a wz hI hd hdep Kx hK' => ?_) ?_
          · obtain ⟨u8, u33, u34, u35, u36, u37, u38, u39, u40, u41, b, rfl, hB, f0, f1, f2, f3, f4, f5, f6, f7, f8, f9, f10⟩ := hI
            have e0 := (hB.cell (p := ⟨w.heap.size + 1 + 1 + 1, 0, none⟩) hv3').trans v0
            go_simp
            refine hK' _ _ ⟨_, _, _, _, _, _, _, _, _, _, b, rfl, hB, (fun _ => rfl), f1, f2, f3, f4, f5, f6, f7, f8, f9, f10⟩
          refine Steps.cons (fun d a wz hI hd hdep Kx hK' => ?_) ?_
          · obtain ⟨u8, u33, u34, u35, u36, u37, u38, u39, u40, u41, b, rfl, hB, f0, f1, f2, f3, f4, f5, f6, f7, f8, f9, f10⟩ := hI
            have q0 := f0 (hdep 0 rfl)
            subst q0
            go_simp
            refine hK' _ _ ⟨_, _, _, _, _, _, _, _, _, _, b, rfl, hB, f0, (fun _ => rfl), f2, f3, f4, f5, f6, f7, f8, f9, f10⟩
          refine Steps.cons (fun d a wz hI hd hdep Kx hK' => ?_) ?_
          · obtain ⟨u8, u33, u34, u35, u36, u37, u38, u39, u40, u41, b, rfl, hB, f0, f1, f2, f3, f4, f5, f6, f7, f8, f9, f10⟩ := hI
            have q1 := f1 (hdep 1 rfl)
            subst q1
            have e0 := (hB.cell (p := ⟨g, 0, none⟩) hgz).trans hc0
            go_simp
            refine hK' _ _ ⟨_, _, _, _, _, _, _, _, _, _, b, rfl, hB, f0, f1, (fun _ => rfl), f3, f4, f5, f6, f7, f8, f9, f10⟩
          refine Steps.cons (fun d a wz hI hd hdep Kx hK' => ?_) ?_
          · obtain ⟨u8, u33, u34, u35, u36, u37, u38, u39, u40, u41, b, rfl, hB, f0, f1, f2, f3, f4, f5, f6, f7, f8, f9, f10⟩ := hI
            have e0 := (hB.cell (p := ⟨w.heap.size + 1 + 1 + 1, 0, none⟩) hv3').trans v0
            go_simp
            refine hK' _ _ ⟨_, _, _, _, _, _, _, _, _, _, b, rfl, hB, f0, f1, f2, (fun _ => rfl), f4, f5, f6, f7, f8, f9, f10⟩
          refine Steps.cons (fun d a wz hI hd hdep Kx hK' => ?_) ?_
          · obtain ⟨u8, u33, u34, u35, u36, u37, u38, u39, u40, u41, b, rfl, hB, f0, f1, f2, f3, f4, f5, f6, f7, f8, f9, f10⟩ := hI
            have q3 := f3 (hdep 3 rfl)
            subst q3
            go_simp
            refine hK' _ _ ⟨_, _, _, _, _, _, _, _, _, _, b, rfl, hB, f0, f1, f2, f3, (fun _ => rfl), f5, f6, f7, f8, f9, f10⟩
          refine Steps.cons (fun d a wz hI hd hdep Kx hK' => ?_) ?_
          · obtain ⟨u8, u33, u34, u35, u36, u37, u38, u39, u40, u41, b, rfl, hB, f0, f1, f2, f3, f4, f5, f6, f7, f8, f9, f10⟩ := hI
            have q4 := f4 (hdep 4 rfl)
            subst q4
            have e0 := (hB.cell (p := ⟨g, 1, none⟩) hgz).trans hc1
            go_simp
            refine hK' _ _ ⟨_, _, _, _, _, _, _, _, _, _, b, rfl, hB, f0, f1, f2, f3, f4, (fun _ => rfl), f6, f7, f8, f9, f10⟩
          refine Steps.cons (fun d a wz hI hd hdep Kx hK' => ?_) ?_
          · obtain ⟨u8, u33, u34, u35, u36, u37, u38, u39, u40, u41, b, rfl, hB, f0, f1, f2, f3, f4, f5, f6, f7, f8, f9, f10⟩ := hI
            have e0 := (hB.cell (p := ⟨w.heap.size + 1 + 1 + 1, 0, none⟩) hv3').trans v0
            go_simp
            refine hK' _ _ ⟨_, _, _, _, _, _, _, _, _, _, b, rfl, hB, f0, f1, f2, f3, f4, f5, (fun _ => rfl), f7, f8, f9, f10⟩
          refine Steps.cons (fun d a wz hI hd hdep Kx hK' => ?_) ?_
          · obtain ⟨u8, u33, u34, u35, u36, u37, u38, u39, u40, u41, b, rfl, hB, f0, f1, f2, f3, f4, f5, f6, f7, f8, f9, f10⟩ := hI
            have q6 := f6 (hdep 6 rfl)
            subst q6
            rcases hsl with ⟨hs1, hs2, hs3, hs4⟩ | ⟨hs1, hs3, hs4⟩
            · subst hs1; subst hs2; subst hs3; subst hs4; go_simp; refine hK' _ _ ⟨_, _, _, _, _, _, _, _, _, _, b, rfl, hB, f0, f1, f2, f3, f4, f5, f6, (fun _ => rfl), f8, f9, f10⟩
            · have hcap4 : ¬ (cap - 2 = 0) := by omega
              subst hs3; subst hs4
              go_simp
              refine hK' _ _ ⟨_, _, _, _, _, _, _, _, _, _, b, rfl, hB, f0, f1, f2, f3, f4, f5, f6, (fun _ => rfl), f8, f9, f10⟩
          refine Steps.cons (fun d a wz hI hd hdep Kx hK' => ?_) ?_
          · obtain ⟨u8, u33, u34, u35, u36, u37, u38, u39, u40, u41, b, rfl, hB, f0, f1, f2, f3, f4, f5, f6, f7, f8, f9, f10⟩ := hI
            have q2 := f2 (hdep 2 rfl)
            subst q2
            have q5 := f5 (hdep 5 rfl)
            subst q5
            have q7 := f7 (hdep 7 rfl)
            subst q7
            go_simp
            refine hK' _ _ ⟨_, _, _, _, _, _, _, _, _, _, b, rfl, hB, f0, f1, f2, f3, f4, f5, f6, f7, (fun _ => rfl), f9, f10⟩
          refine Steps.cons (fun d a wz hI hd hdep Kx hK' => ?_) ?_
          · obtain ⟨u8, u33, u34, u35, u36, u37, u38, u39, u40, u41, b, rfl, hB, f0, f1, f2, f3, f4, f5, f6, f7, f8, f9, f10⟩ := hI
            have hs : d 10 = false := by
              cases h : d 10 with
              | false => rfl
              | true => have := f10 h; rw [hd] at this; cases this
            have hal := (Below.refl wz.heap.size wz).alloc (Nat.le_refl _) (.cells #[.int .i64 0, .int .i64 0, .slice none 0 0] 24)
            have hR : RBx (wz.alloc (.cells #[.int .i64 0, .int .i64 0, .slice none 0 0] 24)) wz.heap.size (d 10) (.int .i64 r) (.int .i64 c) (.slice A m cp) := .inl ⟨hs, Out3.new wz _⟩
            go_simp
            refine hK' _ _ ⟨_, _, _, _, _, _, _, _, _, _, wz.heap.size, rfl, (hB.trans (hal.mono hB.size)), f0, f1, f2, f3, f4, f5, f6, f7, f8, (fun _ => ⟨rfl, hB.size, hR⟩), (fun _ => rfl)⟩
          refine Steps.cons (fun d a wz hI hd hdep Kx hK' => ?_) ?_
          · obtain ⟨u8, u33, u34, u35, u36, u37, u38, u39, u40, u41, b, rfl, hB, f0, f1, f2, f3, f4, f5, f6, f7, f8, f9, f10⟩ := hI
            have ha := hdep 9 rfl
            obtain ⟨qa, la, sa⟩ := f9 ha
            subst qa
            have q8 := f8 (hdep 8 rfl)
            subst q8
            rcases sa with ⟨-, sa⟩ | ⟨h, -⟩
            rotate_left
            · rw [hd] at h; cases h
            have sb := box3_set (x := .int .i64 r) (y := .int .i64 c) (z := .slice A m cp) sa
            obtain ⟨z0, z1, z2, z3, z4, z5, z6⟩ := sa
            go_simp
            refine hK' _ _ ⟨_, _, _, _, _, _, _, _, _, _, b, rfl, (((hB.setCell la _).setCell la _).setCell la _), f0, f1, f2, f3, f4, f5, f6, f7, f8, (fun _ => ⟨rfl, la, .inr ⟨rfl, sb⟩⟩), (fun _ => ha)⟩
          exact Steps.nil
        intro d ac W8 hI hall
        obtain ⟨u8, u33, u34, u35, u36, u37, u38, u39, u40, u41, b8, rfl, hB, f0, f1, f2, f3, f4, f5, f6, f7, f8, f9, f10⟩ := hI
        have z0 := f0 (hall 0 (by decide))
        subst z0
        have z1 := f1 (hall 1 (by decide))
        subst z1
        have z2 := f2 (hall 2 (by decide))
        subst z2
        have z3 := f3 (hall 3 (by decide))
        subst z3
        have z4 := f4 (hall 4 (by decide))
        subst z4
        have z5 := f5 (hall 5 (by decide))
        subst z5
        have z6 := f6 (hall 6 (by decide))
        subst z6
        have z7 := f7 (hall 7 (by decide))
        subst z7
        have z8 := f8 (hall 8 (by decide))
        subst z8
        obtain ⟨z9, hb8, hX⟩ := f9 (hall 9 (by decide))
        subst z9
        rw [hall 10 (by decide)] at hX
        have HX := Lib.hid hX.yes
        have H8 := Lib.hid hB
        clear hB hX f0 f1 f2 f3 f4 f5 f6 f7 f8 f9 f10 hall
        -- /REG12
        have HR8 : Hid (Rd W8 A m zs) := HRA.out.below H8.out
        have HO8 := Lib.hid (ownN_below HO3.out H8.out)
        have HSl := Lib.hid hsl
        obtain ⟨x_, x0, x1, x2⟩ := HX.out
        clear v0 hc0 hc1 m2 m3 m4 m5 m7 m8 hcap2 hsl
        cases hrb : rasterB r c m zs
        · have HV : Hid (∀ r c zs, ¬ RV s.data.toList r c zs) := rv_bad HA.out HRC'.out (by rw [HZl.out]; exact hrb)
          gi_wp2_with (refine ⟨trivial, ?_⟩; gi_at_call 28; refine (callsIn_wide.2 (iIsRaster r c _ _ _ zs _ HR8.out hmb)).mono ?_; rintro e w10 ⟨rfl, hb10⟩; rw [hrb]; obtain ⟨hBelX, hzX, hb3X, hKX⟩ := keepZ (H8.out.trans (hb10.mono H8.out.size)) HKp.out.1 HKp.out.2.1 HKp.out.2.2.1 HKp.out.2.2.2; obtain ⟨q_, q0, q1, q2, q3, q4, q5⟩ := zer_cells hzX; have d0 := hb3X.cell; have df := hb3X.frozen)
          obtain ⟨V, hV⟩ : ∃ V, ((((w10.setCell ⟨w.heap.size, 0, none⟩ (.int .i64 0)).setCell ⟨w.heap.size, 1, none⟩ (.int .i64 0)).setCell ⟨w.heap.size, 2, none⟩ (.slice none 0 0)).setCell ⟨w.heap.size + 1, 0, none⟩ (.bool false)) = V := ⟨_, rfl⟩
          obtain ⟨HVB, zV, bV, hKV⟩ := noZ hBelX hzX hb3X hKX (by omega) hV
          rw [hV]
          obtain ⟨p0, p1, p2, p3, HBf⟩ := noF HVB zV bV hKV (by omega)
          refine ⟨by simp, .inl ⟨_, _, rfl, run_takeDeferred hKV, ?_⟩⟩
          refine ⟨.tuple #[.agg #[.int .i64 0, .int .i64 0, .slice none 0 0], .bool false], by simp [results, Tryd.results7, go_sem, p0, p1, p2, p3], ?_⟩
          exact resR_no HV.out HBf
        · have HV : Hid (RV s.data.toList r c zs) := rv_good HA.out HRC'.out (by rw [HZl.out]; exact hrb)
          rcases HSl.out with ⟨h1, h2, h3, h4⟩ | ⟨h1, h3, h4⟩
          · exfalso
            subst h2
            have h5 := List.eq_nil_of_length_eq_zero HZl.out
            rw [h5, raster_none] at hrb
            cases hrb
          subst h3
          subst h4
          clear HSl h1
          gi_wp2_with (refine ⟨trivial, ?_⟩; gi_at_call 28; refine (callsIn_wide.2 (iIsRaster r c _ _ _ zs _ HR8.out hmb)).mono ?_; rintro e w10 ⟨rfl, hb10⟩; rw [hrb]; obtain ⟨hBelX, hzX, hb3X, hKX⟩ := keepZ (H8.out.trans (hb10.mono H8.out.size)) HKp.out.1 HKp.out.2.1 HKp.out.2.2.1 HKp.out.2.2.2; obtain ⟨q_, q0, q1, q2, q3, q4, q5⟩ := zer_cells hzX; have d0 := hb3X.cell; have df := hb3X.frozen; have HO10 := Lib.hid (ownN_below HO8.out hb10); obtain ⟨y_, y0, y1, y2⟩ := HX.out.keep hb10)
          obtain ⟨V, hV⟩ : ∃ V, ((((w10.setCell ⟨w.heap.size, 0, none⟩ (.int .i64 r)).setCell ⟨w.heap.size, 1, none⟩ (.int .i64 c)).setCell ⟨w.heap.size, 2, none⟩ (.slice (some ⟨g, 2, none⟩) m (cap - 2))).setCell ⟨w.heap.size + 1, 0, none⟩ (.bool true)) = V := ⟨_, rfl⟩
          obtain ⟨hKV, p0, p1, p2, p3, HOf, HBf⟩ := yesZ hBelX hzX hb3X hKX (by omega) HO10.out HZl.out hV
          rw [hV]
          refine ⟨by simp, .inl ⟨_, _, rfl, run_takeDeferred hKV, ?_⟩⟩
          refine ⟨.tuple #[.agg #[.int .i64 r, .int .i64 c, .slice (some ⟨g, 2, none⟩) m (cap - 2)], .bool true], by simp [results, Tryd.results7, go_sem, p0, p1, p2, p3], ?_⟩
          refine ⟨r, c, zs, true, .inl ⟨rfl, HV.out⟩, some ⟨g, 2, none⟩, cap - 2, by rw [HZl.out], ?_, HBf, by rw [HZl.out]; omega⟩
          rw [HZl.out]
          exact HOf
  case stop =>
    rintro D pre W hD hS hI hK
    obtain ⟨⟨hz, hb3⟩, hBel, k, hk, hno⟩ := hI
    obtain ⟨tl, htl⟩ := hS
    have HV : Hid (∀ r c zs, ¬ RV s.data.toList r c zs) := by
      have hd : k < (dat pre).length := by simpa [dat] using hk
      refine rv_word (k := k) (by rw [← htl, List.length_append]; omega) (fun u hu => ?_)
      rw [← htl, List.getD_eq_getElem?_getD, List.getElem?_append_left hd, ← List.getD_eq_getElem?_getD]
      exact hno u hu
    have hDW := (Array.getElem?_eq_some_iff.1 hK).1
    have hz' : (W.putObj D (.deferred none)).heap[w.heap.size]? = some zerR := (World.putObj_heap_other (by omega)).trans hz
    have hb3' : Boxed (W.putObj D (.deferred none)) (w.heap.size + 1) 4 (.bool false) := (World.putObj_heap_other (by omega)).trans hb3
    obtain ⟨q_, q0, q1, q2, q3, q4, q5⟩ := zer_cells hz'
    have d0 := hb3'.cell
    have HBf : Hid (Below w.heap.size w (W.putObj D (.deferred none))) := hBel.trans (belowK_b (w := w) (Nat.le_refl _) W D _ _ (by omega) hK rfl rfl)
    gi_wp2
    refine ⟨by simp, .inl ⟨_, _, rfl, run_takeDeferred hK, ?_⟩⟩
    refine ⟨.tuple #[.agg #[.int .i64 0, .int .i64 0, .slice none 0 0], .bool false], by simp [results, Tryd.results7, go_sem, q0, q1, q2, d0], ?_⟩
    exact resR_no HV.out HBf.out
end Go.Proofs.YtcpicgcdefnhaaaDoor
