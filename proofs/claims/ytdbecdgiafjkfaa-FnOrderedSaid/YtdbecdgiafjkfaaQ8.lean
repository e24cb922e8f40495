/-
  DERIVED. Eight cells: a quad's.
-/
import Derived.Test.YtdbecdgiafjkfaaSpot
import Derived.Deep.MidRow
namespace Go.Proofs.Ytdbecdgiafjkfaa
open Go.RowKit
set_option linter.unusedVariables false
/-- Eight cells of a result. -/
def Out8 (w : World) (b : Nat) : Prop := b < w.heap.size ∧ ∀ i, i < 8 → w.cell? ⟨b, i, none⟩ = some (.int .i64 0) ∧ w.frozen? ⟨b, i, none⟩ = false
theorem Out8.keep {w w' : World} {b : Nat} (h : Out8 w b) (hb : Below w.heap.size w w') : Out8 w' b :=
  ⟨Nat.lt_of_lt_of_le h.1 hb.size, fun i hi => ⟨(hb.cell (p := ⟨b, i, none⟩) h.1).trans (h.2 i hi).1, (hb.frozen (p := ⟨b, i, none⟩) h.1).trans (h.2 i hi).2⟩⟩
theorem Out8.new (w : World) (t : TypeId) : Out8 (w.alloc (.cells #[.int .i64 0, .int .i64 0, .int .i64 0, .int .i64 0, .int .i64 0, .int .i64 0, .int .i64 0, .int .i64 0] t)) w.heap.size := by
  refine ⟨by simp, fun i hi => ?_⟩
  have : i = 0 ∨ i = 1 ∨ i = 2 ∨ i = 3 ∨ i = 4 ∨ i = 5 ∨ i = 6 ∨ i = 7 := by omega
  rcases this with rfl | rfl | rfl | rfl | rfl | rfl | rfl | rfl <;> exact ⟨by simp, by simp [go_sem]⟩
theorem ret_quad {x1 x2 x3 x4 x5 x6 x7 x8 x9 y1 y2 y3 y4 y5 y6 y7 y8 y9 : Int} (h : ((x1, x2, x3, x4, x5, x6, x7, x8, x9) : Int × Int × Int × Int × Int × Int × Int × Int × Int) = (y1, y2, y3, y4, y5, y6, y7, y8, y9)) :
    Ending.returned (.tuple #[.agg #[.int .i64 x1, .int .i64 x2, .int .i64 x3, .int .i64 x4, .int .i64 x5, .int .i64 x6, .int .i64 x7, .int .i64 x8], .int .i64 x9]) = .returned (.tuple #[.agg #[.int .i64 y1, .int .i64 y2, .int .i64 y3, .int .i64 y4, .int .i64 y5, .int .i64 y6, .int .i64 y7, .int .i64 y8], .int .i64 y9]) := by
  simp only [Prod.mk.injEq] at h
  obtain ⟨rfl, rfl, rfl, rfl, rfl, rfl, rfl, rfl, rfl⟩ := h
  rfl
theorem Out8.there {w : World} {b : Nat} (h : Out8 w b) : w.there b 0 8 := fun j hj => by
  have := h.2 j hj
  rw [Nat.zero_add]
  exact ⟨by rw [this.1]; rfl, this.2⟩
theorem below_setCells {B b : Nat} : ∀ (vs : List Value) (o : Nat) {w w' : World}, Below B w w' → B ≤ b → Below B w (w'.setCells b o vs)
  | [], _, _, _, h, _ => h
  | v :: r, o, _, _, h, hB => by
    rw [World.setCells]
    exact below_setCells r (o + 1) (h.setCell hB v) hB
theorem infoQuad : (Try.prog.info? 42).map (·.size) = some 8 := by kernel_rfl
theorem quad_cells {w w' : World} {b : Nat} {v0 v1 v2 v3 v4 v5 v6 v7 : Value} (h : w.there b 0 8) (hw : w.setCells b 0 [v0, v1, v2, v3, v4, v5, v6, v7] = w') :
    w'.cell? ⟨b, 0, none⟩ = some v0 ∧ w'.cell? ⟨b, 1, none⟩ = some v1 ∧ w'.cell? ⟨b, 2, none⟩ = some v2 ∧ w'.cell? ⟨b, 3, none⟩ = some v3 ∧ w'.cell? ⟨b, 4, none⟩ = some v4 ∧ w'.cell? ⟨b, 5, none⟩ = some v5 ∧ w'.cell? ⟨b, 6, none⟩ = some v6 ∧ w'.cell? ⟨b, 7, none⟩ = some v7 := by
  subst hw
  have H := World.rangeAt_setCells_same w b 0 [v0, v1, v2, v3, v4, v5, v6, v7] h
  exact ⟨H 0 _ rfl, H 1 _ rfl, H 2 _ rfl, H 3 _ rfl, H 4 _ rfl, H 5 _ rfl, H 6 _ rfl, H 7 _ rfl⟩
theorem ld_quad {ops : Array Oper} {rest : List Oper} {op : Oper} {a : Act} {w : World} {Q : Exit → Act → World → Prop} (hgd : op.guard = none) (x : Operand) (ho : op.op = .load 42 x)
    (b : Nat) (hx : a.eval x = .pointer (some ⟨b, 0, none⟩)) (cs : List Value) (hl : cs.length = 8) (hc : w.rangeAt b 0 cs)
    (h : wpList Try.prog ops Q rest (a.put op.dst (.agg cs.toArray)) w) : wpList Try.prog ops Q (op :: rest) a w :=
  wpList_load_mid hgd 42 x ho b 0 hx cs _ hc Try.underlying42 rfl (by rw [hl]; exact infoQuad) h
/-- A quad's cells, whole. -/
def Q8 (w : World) (g : Nat) (a1 a2 a3 a4 a5 a6 a7 a8 : Int) : Prop := g < w.heap.size ∧ w.rangeAt g 0 [.int .i64 a1, .int .i64 a2, .int .i64 a3, .int .i64 a4, .int .i64 a5, .int .i64 a6, .int .i64 a7, .int .i64 a8]
theorem Q8.keep {w w' : World} {g : Nat} {a1 a2 a3 a4 a5 a6 a7 a8 : Int} (h : Q8 w g a1 a2 a3 a4 a5 a6 a7 a8) (hb : Below w.heap.size w w') : Q8 w' g a1 a2 a3 a4 a5 a6 a7 a8 :=
  ⟨Nat.lt_of_lt_of_le h.1 hb.size, fun j v hv => (hb.cell (p := ⟨g, 0 + j, none⟩) h.1).trans (h.2 j v hv)⟩
theorem Q8.new (w : World) (t : TypeId) (a1 a2 a3 a4 a5 a6 a7 a8 : Int) : Q8 (w.alloc (.cells #[.int .i64 a1, .int .i64 a2, .int .i64 a3, .int .i64 a4, .int .i64 a5, .int .i64 a6, .int .i64 a7, .int .i64 a8] t)) w.heap.size a1 a2 a3 a4 a5 a6 a7 a8 :=
  ⟨by simp, fun j v hv => by
    rw [cell_of_row _ _ _ _ t (0, 0) (heap_alloc_new w _), Nat.zero_add]
    simpa using hv⟩
/-- Eight cells that may be written. -/
def Box8 (w : World) (b : Nat) (x0 x1 x2 x3 x4 x5 x6 x7 : Int) : Prop := b < w.heap.size ∧ (w.cell? ⟨b, 0, none⟩ = some (.int .i64 x0) ∧ w.cell? ⟨b, 1, none⟩ = some (.int .i64 x1) ∧ w.cell? ⟨b, 2, none⟩ = some (.int .i64 x2) ∧ w.cell? ⟨b, 3, none⟩ = some (.int .i64 x3) ∧ w.cell? ⟨b, 4, none⟩ = some (.int .i64 x4) ∧ w.cell? ⟨b, 5, none⟩ = some (.int .i64 x5) ∧ w.cell? ⟨b, 6, none⟩ = some (.int .i64 x6) ∧ w.cell? ⟨b, 7, none⟩ = some (.int .i64 x7)) ∧
  ∀ i, i < 8 → w.frozen? ⟨b, i, none⟩ = false
theorem Box8.kept {w w' : World} {b : Nat} {x0 x1 x2 x3 x4 x5 x6 x7 : Int} (h : Box8 w b x0 x1 x2 x3 x4 x5 x6 x7) (hs : w.heap.size ≤ w'.heap.size) (e : w'.heap[b]? = w.heap[b]?) : Box8 w' b x0 x1 x2 x3 x4 x5 x6 x7 := by
  obtain ⟨h0, ⟨a0, a1, a2, a3, a4, a5, a6, a7⟩, hf⟩ := h
  have g : ∀ i, w'.cell? ⟨b, i, none⟩ = w.cell? ⟨b, i, none⟩ := fun i => World.cell?_of_block (a := ⟨b, i, none⟩) e
  have f : ∀ i, w'.frozen? ⟨b, i, none⟩ = w.frozen? ⟨b, i, none⟩ := fun i => World.frozen?_of_block (a := ⟨b, i, none⟩) e
  exact ⟨by omega, ⟨(g 0).trans a0, (g 1).trans a1, (g 2).trans a2, (g 3).trans a3, (g 4).trans a4, (g 5).trans a5, (g 6).trans a6, (g 7).trans a7⟩, fun i hi => (f i).trans (hf i hi)⟩
theorem Box8.keep {w w' : World} {b : Nat} {x0 x1 x2 x3 x4 x5 x6 x7 : Int} (h : Box8 w b x0 x1 x2 x3 x4 x5 x6 x7) (hb : Below w.heap.size w w') : Box8 w' b x0 x1 x2 x3 x4 x5 x6 x7 := h.kept hb.size (hb.block b h.1)
theorem Box8.below {w w' : World} {b B : Nat} {x0 x1 x2 x3 x4 x5 x6 x7 : Int} (h : Box8 w b x0 x1 x2 x3 x4 x5 x6 x7) (hb : Below B w w') (hB : b < B) : Box8 w' b x0 x1 x2 x3 x4 x5 x6 x7 := h.kept hb.size (hb.block b hB)
theorem Box8.far {w : World} {b c i : Nat} {v : Value} {x0 x1 x2 x3 x4 x5 x6 x7 : Int} (h : Box8 w b x0 x1 x2 x3 x4 x5 x6 x7) (hc : b ≠ c) : Box8 (w.setCell ⟨c, i, none⟩ v) b x0 x1 x2 x3 x4 x5 x6 x7 := h.kept (by simp) (Below.heap_setCell w ⟨c, i, none⟩ v b hc)
theorem Box8.new (w : World) (t : TypeId) (x0 x1 x2 x3 x4 x5 x6 x7 : Int) : Box8 (w.alloc (.cells #[.int .i64 x0, .int .i64 x1, .int .i64 x2, .int .i64 x3, .int .i64 x4, .int .i64 x5, .int .i64 x6, .int .i64 x7] t)) w.heap.size x0 x1 x2 x3 x4 x5 x6 x7 := by
  refine ⟨by simp, ⟨by simp, by simp, by simp, by simp, by simp, by simp, by simp, by simp⟩, fun i hi => ?_⟩
  have : i = 0 ∨ i = 1 ∨ i = 2 ∨ i = 3 ∨ i = 4 ∨ i = 5 ∨ i = 6 ∨ i = 7 := by omega
  rcases this with rfl | rfl | rfl | rfl | rfl | rfl | rfl | rfl <;> simp [go_sem]
theorem Box8.there {w : World} {b : Nat} {x0 x1 x2 x3 x4 x5 x6 x7 : Int} (h : Box8 w b x0 x1 x2 x3 x4 x5 x6 x7) : w.there b 0 8 := fun j hj => by
  obtain ⟨h0, ⟨a0, a1, a2, a3, a4, a5, a6, a7⟩, hf⟩ := h
  rw [Nat.zero_add]
  refine ⟨?_, hf j hj⟩
  have : j = 0 ∨ j = 1 ∨ j = 2 ∨ j = 3 ∨ j = 4 ∨ j = 5 ∨ j = 6 ∨ j = 7 := by omega
  rcases this with rfl | rfl | rfl | rfl | rfl | rfl | rfl | rfl <;> simp [*]
theorem Box8.range {w : World} {b : Nat} {x0 x1 x2 x3 x4 x5 x6 x7 : Int} (h : Box8 w b x0 x1 x2 x3 x4 x5 x6 x7) : w.rangeAt b 0 [.int .i64 x0, .int .i64 x1, .int .i64 x2, .int .i64 x3, .int .i64 x4, .int .i64 x5, .int .i64 x6, .int .i64 x7] := fun j v hv => by
  obtain ⟨h0, ⟨a0, a1, a2, a3, a4, a5, a6, a7⟩, hf⟩ := h
  rw [Nat.zero_add]
  have hj : j < 8 := (List.getElem?_eq_some_iff.1 hv).1
  have : j = 0 ∨ j = 1 ∨ j = 2 ∨ j = 3 ∨ j = 4 ∨ j = 5 ∨ j = 6 ∨ j = 7 := by omega
  rcases this with rfl | rfl | rfl | rfl | rfl | rfl | rfl | rfl <;> (simp at hv; subst hv; assumption)
theorem Box8.stored {w w' : World} {b : Nat} {x0 x1 x2 x3 x4 x5 x6 x7 y0 y1 y2 y3 y4 y5 y6 y7 : Int} (h : Box8 w b x0 x1 x2 x3 x4 x5 x6 x7) (hw : w.setCells b 0 [.int .i64 y0, .int .i64 y1, .int .i64 y2, .int .i64 y3, .int .i64 y4, .int .i64 y5, .int .i64 y6, .int .i64 y7] = w') :
    Box8 w' b y0 y1 y2 y3 y4 y5 y6 y7 := by
  have hc := quad_cells h.there hw
  have hz : w'.heap.size = w.heap.size := by rw [← hw]; simp [World.setCells]
  exact ⟨by rw [hz]; exact h.1, hc, fun i hi => by rw [← hw]; simp only [World.setCells, World.frozen?_setCell]; exact h.2.2 i hi⟩
end Go.Proofs.Ytdbecdgiafjkfaa
