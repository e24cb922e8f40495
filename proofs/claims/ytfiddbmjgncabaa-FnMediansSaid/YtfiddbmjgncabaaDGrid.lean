/-
  DERIVED. A grid drawn.
-/
import Derived.Test.YtfiddbmjgncabaaSour
import Derived.Test.YtfiddbmjgncabaaResQ
import Derived.Conc.MuLone
import Derived.Maps.AppendAt
import Derived.Deep.AppendLies
namespace Go.Proofs.Ytfiddbmjgncabaa
open Go.RowKit
set_option linter.unusedVariables false
/-- What lies below base, but for block g, is as it was. -/
def KX (W wr : World) (base g : Nat) : Prop := W.heap.size ≤ wr.heap.size ∧ ∀ b, b < base → b ≠ g → wr.heap[b]? = W.heap[b]?
theorem KX.refl (W : World) (base g : Nat) : KX W W base g := ⟨Nat.le_refl _, fun _ _ _ => rfl⟩
theorem KX.nxt {W wr w1 : World} {base g : Nat} (h : KX W wr base g) (hg : wr.grownBy w1 (some g)) (hb : base ≤ W.heap.size) : KX W w1 base g :=
  ⟨Nat.le_trans h.1 hg.size, fun b h1 h2 => (hg.block b (by have := h.1; omega) (fun e => by injection e with e; exact h2 e)).trans (h.2 b h1 h2)⟩
theorem KX.below {W wr w1 : World} {base g : Nat} (h : KX W wr base g) (hb : Below wr.heap.size wr w1) (hb2 : base ≤ W.heap.size) : KX W w1 base g :=
  ⟨Nat.le_trans h.1 hb.size, fun b h1 h2 => (hb.block b (by have := h.1; omega)).trans (h.2 b h1 h2)⟩
theorem KX.alloc {W wr : World} {base g : Nat} (h : KX W wr base g) (hb2 : base ≤ W.heap.size) (o : Obj) : KX W (wr.alloc o) base g := h.below ((Below.refl _ _).alloc (Nat.le_refl _) o) hb2
theorem KX.grown {W wr w1 : World} {base g : Nat} {row : Option Nat} (h : KX W wr base g) (hg : wr.grownBy w1 row) (hr : ∀ j, row = some j → base ≤ j) (hb : base ≤ W.heap.size) : KX W w1 base g :=
  ⟨Nat.le_trans h.1 hg.size, fun b h1 h2 => (hg.block b (by have := h.1; omega) (fun e => by have := hr b e.symm; omega)).trans (h.2 b h1 h2)⟩
theorem KX.out3 {W wr : World} {base g b : Nat} (h : KX W wr base g) (h3 : Out3 W b) (h1 : b < base) (h2 : b ≠ g) : Out3 wr b := by
  have e := h.2 b h1 h2
  exact ⟨Nat.lt_of_lt_of_le h3.1 h.1, (World.cell?_of_block (a := ⟨b, 0, none⟩) e).trans h3.2.1, (World.cell?_of_block (a := ⟨b, 1, none⟩) e).trans h3.2.2.1, (World.cell?_of_block (a := ⟨b, 2, none⟩) e).trans h3.2.2.2.1, (World.frozen?_of_block (a := ⟨b, 0, none⟩) e).trans h3.2.2.2.2.1, (World.frozen?_of_block (a := ⟨b, 1, none⟩) e).trans h3.2.2.2.2.2.1, (World.frozen?_of_block (a := ⟨b, 2, none⟩) e).trans h3.2.2.2.2.2.2⟩
/-- A box of three with two numbers. -/
def BoxF (w : World) (b : Nat) (x y : Int) : Prop := b < w.heap.size ∧ w.cell? ⟨b, 0, none⟩ = some (.int .i64 x) ∧ w.cell? ⟨b, 1, none⟩ = some (.int .i64 y) ∧ w.frozen? ⟨b, 0, none⟩ = false
theorem KX.boxF {W wr : World} {base g b : Nat} {x y : Int} (h : KX W wr base g) (h3 : BoxF W b x y) (h1 : b < base) (h2 : b ≠ g) : BoxF wr b x y := by
  have e := h.2 b h1 h2
  exact ⟨Nat.lt_of_lt_of_le h3.1 h.1, (World.cell?_of_block (a := ⟨b, 0, none⟩) e).trans h3.2.1, (World.cell?_of_block (a := ⟨b, 1, none⟩) e).trans h3.2.2.1, (World.frozen?_of_block (a := ⟨b, 0, none⟩) e).trans h3.2.2.2⟩
theorem Out3.nxt {w w1 : World} {b g : Nat} (h : Out3 w b) (hg : w.grownBy w1 (some g)) (hb : b ≠ g) : Out3 w1 b :=
  (KX.nxt (KX.refl w w.heap.size g) hg (Nat.le_refl _)).out3 h h.1 hb
def DrawnGrid (w : World) (e : Ending) (w' : World) : Prop := ∃ r c a n cp zs, e = .returned (.agg #[.int .i64 r, .int .i64 c, .slice a n cp]) ∧ n ≤ 4000 ∧ n ≤ cp ∧ Rd w' a n zs ∧ Below w.heap.size w w' ∧ ∀ b off, a = some ⟨b, off, none⟩ → w.heap.size ≤ b
theorem own_fresh {w : World} {base n c m : Nat} {t : TypeId} {a : Option Addr} {xs : List Value} (h : w.ownsRow base t m (.slice a n c) n xs) (hn : 0 < n) : ∀ b off, a = some ⟨b, off, none⟩ → base ≤ b := by
  obtain ⟨gv, cap, hv, _⟩ := h.form hn
  injection hv with hv
  subst hv
  intro b off e
  injection e with e
  injection e with e1
  have := (h.lt gv rfl).1
  omega
theorem cellsR {R C : Int} (h1 : 1 ≤ R) (h2 : R ≤ 6) (h3 : 1 ≤ C) (h4 : C ≤ 6) : 1 ≤ R * C ∧ R * C ≤ 36 := by
  have a := Int.mul_le_mul h2 h4 (by omega) (by omega)
  have b := Int.mul_le_mul h1 h3 (by omega) (by omega)
  omega
end Go.Proofs.Ytfiddbmjgncabaa
