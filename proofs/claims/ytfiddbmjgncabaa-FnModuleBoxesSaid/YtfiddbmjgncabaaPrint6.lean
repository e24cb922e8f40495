/-
  DERIVED. Helpers of laws over a raster or a grid and a print.
-/
import Derived.Test.YtfiddbmjgncabaaPrint
import Derived.Test.YtfiddbmjgncabaaRes
import Derived.Test.YtfiddbmjgncabaaRast
import Derived.Test.YtfiddbmjgncabaaGrid
namespace Go.Proofs.Ytfiddbmjgncabaa
open Go.RowKit
set_option linter.unusedVariables false
theorem own_ne {w : World} {base n : Nat} {t : TypeId} {v : Value} {xs : List Value} (h : w.ownsRow base t 1 v n xs) {p : Addr} (hp : ∀ k, v.ownBlock = some k → k ≠ p.block) (u : Value) : (w.setCell p u).ownsRow base t 1 v n xs := by
  refine ⟨h.1, ?_⟩
  rcases h.2 with hv | ⟨g, cap, cur, hv, hg, hh, r⟩
  · exact .inl hv
  · exact .inr ⟨g, cap, cur, hv, hg, (Below.heap_setCell w p u g (hp g (by rw [hv]; rfl))).trans hh, r⟩
theorem grow_lt {W w1 : World} (hb : Below W.heap.size W w1) : ∀ b, b < W.heap.size → b < w1.heap.size := fun _ h => Nat.lt_of_lt_of_le h hb.size
theorem store3 {w : World} {b : Nat} {x y z u0 u1 u2 : Value} (hb : b < w.heap.size) (h0 : w.cell? ⟨b, 0, none⟩ = some u0) (h1 : w.cell? ⟨b, 1, none⟩ = some u1) (h2 : w.cell? ⟨b, 2, none⟩ = some u2) : Hid (Box3 (((w.setCell ⟨b, 0, none⟩ x).setCell ⟨b, 1, none⟩ y).setCell ⟨b, 2, none⟩ z) b x y z) := by
  refine ⟨by simpa using hb, ?_, ?_, ?_⟩
  · rw [World.cell?_setCell_other _ _ _ _ (by simp), World.cell?_setCell_other _ _ _ _ (by simp)]
    exact World.cell?_setCell_same w ⟨b, 0, none⟩ x h0
  · rw [World.cell?_setCell_other _ _ _ _ (by simp)]
    exact World.cell?_setCell_same _ ⟨b, 1, none⟩ y ((World.cell?_setCell_other w ⟨b, 0, none⟩ ⟨b, 1, none⟩ x (by simp)).trans h1)
  · exact World.cell?_setCell_same _ ⟨b, 2, none⟩ z ((World.cell?_setCell_other _ ⟨b, 1, none⟩ ⟨b, 2, none⟩ y (by simp)).trans ((World.cell?_setCell_other w ⟨b, 0, none⟩ ⟨b, 2, none⟩ x (by simp)).trans h2))
/-- A box of six numbers. -/
def Box6 (w : World) (b : Nat) (p t q u d l : Int) : Prop := b < w.heap.size ∧ w.cell? ⟨b, 0, none⟩ = some (.int .i64 p) ∧ w.cell? ⟨b, 1, none⟩ = some (.int .i64 t) ∧ w.cell? ⟨b, 2, none⟩ = some (.int .i64 q) ∧ w.cell? ⟨b, 3, none⟩ = some (.int .i64 u) ∧ w.cell? ⟨b, 4, none⟩ = some (.int .i64 d) ∧ w.cell? ⟨b, 5, none⟩ = some (.int .i64 l)
theorem Box6.keep {w w' : World} {b : Nat} {p t q u d l : Int} (h : Box6 w b p t q u d l) (hb : Below w.heap.size w w') : Box6 w' b p t q u d l :=
  ⟨Nat.lt_of_lt_of_le h.1 hb.size, (hb.cell (p := ⟨b, 0, none⟩) h.1).trans h.2.1, (hb.cell (p := ⟨b, 1, none⟩) h.1).trans h.2.2.1, (hb.cell (p := ⟨b, 2, none⟩) h.1).trans h.2.2.2.1, (hb.cell (p := ⟨b, 3, none⟩) h.1).trans h.2.2.2.2.1, (hb.cell (p := ⟨b, 4, none⟩) h.1).trans h.2.2.2.2.2.1, (hb.cell (p := ⟨b, 5, none⟩) h.1).trans h.2.2.2.2.2.2⟩
theorem Box6.below {w w' : World} {b B : Nat} {p t q u d l : Int} (h : Box6 w b p t q u d l) (hb : Below B w w') (hB : b < B) : Box6 w' b p t q u d l :=
  ⟨Nat.lt_of_lt_of_le h.1 hb.size, (hb.cell (p := ⟨b, 0, none⟩) hB).trans h.2.1, (hb.cell (p := ⟨b, 1, none⟩) hB).trans h.2.2.1, (hb.cell (p := ⟨b, 2, none⟩) hB).trans h.2.2.2.1, (hb.cell (p := ⟨b, 3, none⟩) hB).trans h.2.2.2.2.1, (hb.cell (p := ⟨b, 4, none⟩) hB).trans h.2.2.2.2.2.1, (hb.cell (p := ⟨b, 5, none⟩) hB).trans h.2.2.2.2.2.2⟩
theorem Box6.new (w : World) (ty : TypeId) (p t q u d l : Int) : Box6 (w.alloc (.cells #[.int .i64 p, .int .i64 t, .int .i64 q, .int .i64 u, .int .i64 d, .int .i64 l] ty)) w.heap.size p t q u d l := ⟨by simp, by simp, by simp, by simp, by simp, by simp, by simp⟩
theorem Box6.grown {w w' : World} {b : Nat} {p t q u d l : Int} {row : Option Nat} (h : Box6 w b p t q u d l) (hg : w.grownBy w' row) (hne : ∀ k, row = some k → k ≠ b) : Box6 w' b p t q u d l := by
  have hb : w'.heap[b]? = w.heap[b]? := hg.block b h.1 (fun e => hne b e.symm rfl)
  exact ⟨Nat.lt_of_lt_of_le h.1 hg.size, (World.cell?_of_block (a := ⟨b, 0, none⟩) hb).trans h.2.1, (World.cell?_of_block (a := ⟨b, 1, none⟩) hb).trans h.2.2.1, (World.cell?_of_block (a := ⟨b, 2, none⟩) hb).trans h.2.2.2.1, (World.cell?_of_block (a := ⟨b, 3, none⟩) hb).trans h.2.2.2.2.1, (World.cell?_of_block (a := ⟨b, 4, none⟩) hb).trans h.2.2.2.2.2.1, (World.cell?_of_block (a := ⟨b, 5, none⟩) hb).trans h.2.2.2.2.2.2⟩
theorem Box3.belowP {w w' : World} {b B : Nat} {x y z : Value} (h : Box3 w b x y z) (hb : Below B w w') (hB : b < B) : Box3 w' b x y z :=
  ⟨Nat.lt_of_lt_of_le h.1 hb.size, (hb.cell (p := ⟨b, 0, none⟩) hB).trans h.2.1, (hb.cell (p := ⟨b, 1, none⟩) hB).trans h.2.2.1, (hb.cell (p := ⟨b, 2, none⟩) hB).trans h.2.2.2⟩
theorem lq6_new (r c p t q u d l : Int) (a : Option Addr) (n cp : Nat) (t1 t2 : TypeId) (w : World) : ∀ wr, Below (w.heap.size + 2) ((w.alloc (.cells #[.int .i64 r, .int .i64 c, .slice a n cp] t1)).alloc (.cells #[.int .i64 p, .int .i64 t, .int .i64 q, .int .i64 u, .int .i64 d, .int .i64 l] t2)) wr →
    Box3 wr w.heap.size (.int .i64 r) (.int .i64 c) (.slice a n cp) ∧ Box6 wr (w.heap.size + 1) p t q u d l := by
  intro wr hb
  have b0 := Box3.new w t1 (.int .i64 r) (.int .i64 c) (.slice a n cp)
  have b1 := Box6.new (w.alloc (.cells #[.int .i64 r, .int .i64 c, .slice a n cp] t1)) t2 p t q u d l
  simp only [World.size_alloc] at b1
  have e1 : Below (w.heap.size + 1) (w.alloc (.cells #[.int .i64 r, .int .i64 c, .slice a n cp] t1)) ((w.alloc (.cells #[.int .i64 r, .int .i64 c, .slice a n cp] t1)).alloc (.cells #[.int .i64 p, .int .i64 t, .int .i64 q, .int .i64 u, .int .i64 d, .int .i64 l] t2)) := (Below.refl _ _).alloc (by simp) _
  exact ⟨b0.belowP (e1.trans (hb.mono (by omega))) (by omega), b1.below hb (by omega)⟩
end Go.Proofs.Ytfiddbmjgncabaa
