/-
  DERIVED. A raster drawn, the source still at hand: the walk.
-/
import Derived.Test.YtenelpollcabnaaDRast
import Derived.Conc.MuLone
import Derived.Maps.AppendAt
import Derived.Deep.AppendLies
namespace Go.Proofs.Ytenelpollcabnaa
open Go.RowKit
set_option linter.unusedVariables false
/-- The source is still at hand; what lay here, but for the source, is as it was. -/
def KpS (w wr : World) (g : Nat) : Prop := Src wr g ∧ KX w wr w.heap.size g
theorem KpS.set {w wr : World} {g b i : Nat} {v : Value} (h : KpS w wr g) (h1 : w.heap.size ≤ b) (hg : g < w.heap.size) : KpS w (wr.setCell ⟨b, i, none⟩ v) g :=
  ⟨h.1.grown (only_setCell (World.grownBy.refl wr (some b)) v) (fun j e => by injection e with e; omega), h.2.grown (only_setCell (World.grownBy.refl wr (some b)) v) (fun j e => by injection e with e; omega) (Nat.le_refl _)⟩
theorem KX.then {w W wr : World} {base g : Nat} (h1 : KX w W w.heap.size g) (h2 : KX W wr base g) (hb : w.heap.size ≤ base) : KX w wr w.heap.size g :=
  ⟨Nat.le_trans h1.1 h2.1, fun b a c => (h2.2 b (by omega) c).trans (h1.2 b a c)⟩
def DrawnRS (w0 w : World) (g : Nat) (e : Ending) (w' : World) : Prop := ∃ r c a n cp zs, e = .returned (.agg #[.int .i64 r, .int .i64 c, .slice a n cp]) ∧ n ≤ 4000 ∧ n ≤ cp ∧ Rd w' a n zs ∧ Below w0.heap.size w0 w' ∧ (∀ b off, a = some ⟨b, off, none⟩ → w.heap.size ≤ b) ∧ KpS w w' g
end Go.Proofs.Ytenelpollcabnaa
