/-
  DERIVED. Drawn slices: what is held.
-/
import Derived.Test.YtdpifddmhbeklaaDraw0
import Derived.Conc.MuLone
import Derived.Deep.AppendLies
namespace Go.Proofs.Ytdpifddmhbeklaa
open Go.RowKit
set_option linter.unusedVariables false
/-- What is held while a slice of numbers is drawn: the row, the source, what lay before. -/
def DInv (w wr : World) (base g : Nat) (v : Value) (m : Nat) (zs : List Int) : Prop := wr.ownsRow base 2 1 v m (zs.map (Value.int .i64)) ∧ Below w.heap.size w wr ∧ Src wr g ∧ base ≤ wr.heap.size ∧ zs.length = m
theorem DInv.nxt {w wr w1 : World} {base g : Nat} {v : Value} {m : Nat} {zs : List Int} (h : DInv w wr base g v m zs) (hg : wr.grownBy w1 (some g)) (hs : Src w1 g) (h1 : g < base) (h2 : w.heap.size ≤ g) : DInv w w1 base g v m zs :=
  ⟨own_nxt h.1 hg h1, below_nxt h.2.1 hg (by have := h.2.2.2.1; omega) h2, hs, Nat.le_trans h.2.2.2.1 hg.size, h.2.2.2.2⟩
theorem DInv.below {w wr w1 : World} {base g : Nat} {v : Value} {m : Nat} {zs : List Int} (h : DInv w wr base g v m zs) (hb : Below wr.heap.size wr w1) (h2 : w.heap.size ≤ base) : DInv w w1 base g v m zs :=
  ⟨ownN_below h.1 hb, h.2.1.trans (hb.mono (by have := h.2.2.2.1; omega)), h.2.2.1.keep hb, Nat.le_trans h.2.2.2.1 hb.size, h.2.2.2.2⟩
theorem DInv.alloc {w wr : World} {base g : Nat} {v : Value} {m : Nat} {zs : List Int} (h : DInv w wr base g v m zs) (h2 : w.heap.size ≤ base) (o : Obj) : DInv w (wr.alloc o) base g v m zs :=
  h.below ((Below.refl _ _).alloc (Nat.le_refl _) o) h2
theorem DInv.app {w wr w2 : World} {base g : Nat} {v v' : Value} {m : Nat} {zs : List Int} {x : Int} {o : Obj} (h : DInv w wr base g v m zs) (h1 : g < base) (h2 : w.heap.size ≤ base) (hown : w2.ownsRow base 2 1 v' (m + 1) (zs.map (Value.int .i64) ++ [.int .i64 x])) (hgr : (wr.alloc o).grownBy w2 v.ownBlock) : DInv w w2 base g v' (m + 1) (zs ++ [x]) := by
  have hob : ∀ j, v.ownBlock = some j → base ≤ j := fun j e => (h.1.lt j e).1
  have ha := h.alloc h2 o
  refine ⟨by rw [List.map_append]; exact hown, ha.2.1.grown hgr (by have := ha.2.2.2.1; omega) (fun j e => by have := hob j e; omega), ha.2.2.1.grown hgr (fun j e => by have := hob j e; omega), Nat.le_trans ha.2.2.2.1 hgr.size, by simp [h.2.2.2.2]⟩
theorem DInv.set {w wr : World} {base g gv c : Nat} {m : Nat} {zs : List Int} (h : DInv w wr base g (.slice (some ⟨gv, 0, none⟩) m c) m zs) (h1 : g < base) (h2 : w.heap.size ≤ base) (i : Nat) (x : Int) : DInv w (wr.setCell ⟨gv, i, none⟩ (.int .i64 x)) base g (.slice (some ⟨gv, 0, none⟩) m c) m (zs.set i x) := by
  have hgv := (h.1.lt gv rfl).1
  obtain ⟨a, b⟩ := h.1.stored i (.int .i64 x)
  refine ⟨by rw [List.map_set]; exact a, h.2.1.setCell (by show w.heap.size ≤ gv; omega) _, h.2.2.1.grown b (fun j e => by injection e with e; omega), Nat.le_trans h.2.2.2.1 b.size, by simp [h.2.2.2.2]⟩
theorem DInv.cell {w wr : World} {base g gv c : Nat} {m : Nat} {zs : List Int} (h : DInv w wr base g (.slice (some ⟨gv, 0, none⟩) m c) m zs) (i : Nat) (hi : i < m) : wr.cell? ⟨gv, i, none⟩ = some (.int .i64 (zs.getD i 0)) ∧ wr.frozen? ⟨gv, i, none⟩ = false := by
  have hl := h.2.2.2.2
  refine ⟨?_, h.1.frozenAt i⟩
  rw [h.1.cellAt i (by omega)]
  simp [List.getElem?_map, List.getElem?_eq_getElem (show i < zs.length by omega), List.getD_eq_getElem?_getD]
theorem DInv.shape {w wr : World} {base g : Nat} {v : Value} {m : Nat} {zs : List Int} (h : DInv w wr base g v m zs) (hm : 0 < m) : ∃ gv c, v = .slice (some ⟨gv, 0, none⟩) m c := by
  obtain ⟨gv, cap, hv, _⟩ := h.1.form hm
  exact ⟨gv, cap, hv⟩
/-- A list of numbers that was written out, in block B: k of them, each from lo to hi. -/
def Lits (wr : World) (B k : Nat) (lo hi : Int) : Prop := B < wr.heap.size ∧ ∀ i, i < k → ∃ y : Int, lo ≤ y ∧ y ≤ hi ∧ wr.cell? ⟨B, i, none⟩ = some (.int .i64 y)
theorem Lits.nxt {wr w1 : World} {B k g : Nat} {lo hi : Int} (h : Lits wr B k lo hi) (hg : wr.grownBy w1 (some g)) (hb : B ≠ g) : Lits w1 B k lo hi :=
  ⟨Nat.lt_of_lt_of_le h.1 hg.size, fun i hi => by obtain ⟨y, a, b, c⟩ := h.2 i hi; exact ⟨y, a, b, cell_nxt c hg hb⟩⟩
theorem Lits.below {wr w1 : World} {B k : Nat} {lo hi : Int} (h : Lits wr B k lo hi) (hb : Below wr.heap.size wr w1) : Lits w1 B k lo hi :=
  ⟨Nat.lt_of_lt_of_le h.1 hb.size, fun i hi => by obtain ⟨y, a, b, c⟩ := h.2 i hi; exact ⟨y, a, b, (hb.cell (p := ⟨B, i, none⟩) h.1).trans c⟩⟩
theorem Lits.app {wr w2 : World} {B k : Nat} {lo hi : Int} {o : Obj} {row : Option Nat} (h : Lits wr B k lo hi) (hgr : (wr.alloc o).grownBy w2 row) (hne : ∀ j, row = some j → j ≠ B) : Lits w2 B k lo hi := by
  have ha := h.below ((Below.refl _ _).alloc (Nat.le_refl _) o)
  exact ⟨Nat.lt_of_lt_of_le ha.1 hgr.size, fun i hi => by
    obtain ⟨y, a, b, c⟩ := ha.2 i hi
    exact ⟨y, a, b, (World.cell?_of_block (a := ⟨B, i, none⟩) (hgr.block B ha.1 (fun e => hne B e.symm rfl))).trans c⟩⟩
theorem Lits.new (w : World) (t : TypeId) (ys : List Int) (lo hi : Int) (h : ∀ y ∈ ys, lo ≤ y ∧ y ≤ hi) : Lits (w.alloc (.cells (vals ys) t)) w.heap.size ys.length lo hi :=
  ⟨by simp, fun i hi => ⟨ys.getD i 0, (h _ (getD_memS hi)).1, (h _ (getD_memS hi)).2, by rw [(Blk.new w t (vals ys)).cell]; exact vals_get ys i hi⟩⟩
/-- A source behind a new row's block, in a world where it lies. -/
theorem DInv.start {w wr : World} {g : Nat} (hs : Src wr g) (hb : Below w.heap.size w wr) (hw : w.heap.size ≤ wr.heap.size) : DInv w (wr.alloc (.cells #[] 2)) wr.heap.size g (.slice (some ⟨wr.heap.size, 0, none⟩) 0 0) 0 [] := by
  have hr := World.ownsRow_lit (base := wr.heap.size) (e := 2) (size := 1) wr #[] 0 (Nat.le_refl _) (by unfold maxLen; omega) (by simp)
  simp at hr
  exact ⟨hr, hb.alloc hw _, hs.keep ((Below.refl _ _).alloc (Nat.le_refl _) _), by simp, rfl⟩
end Go.Proofs.Ytdpifddmhbeklaa
