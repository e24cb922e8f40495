/-
  DERIVED. Sources of drawn numbers.
-/
import Derived.Test.YtdpifddmhbeklaaMark
import Derived.Test.YtdpifddmhbeklaaOwnN
import Derived.Conc.MuLone
namespace Go.Proofs.Ytdpifddmhbeklaa
open Go.RowKit
set_option linter.unusedVariables false
/-- Bytes that came in: n of them, in a block below B. -/
def BytesIn (w : World) (a : Option Addr) (n B : Nat) : Prop := 0 < n → ∃ b off, a = some ⟨b, off, none⟩ ∧ b < B ∧ ∀ i, i < n → ∃ v : Int, 0 ≤ v ∧ v ≤ 255 ∧ w.cell? ⟨b, off + i, none⟩ = some (.int .u8 v)
/-- A source of drawn numbers at block g: its code, how far it has come, its seed. -/
def Src (w : World) (g : Nat) : Prop := ∃ (a : Option Addr) (n cp at' : Nat) (seed : Int), g < w.heap.size ∧ w.cell? ⟨g, 0, none⟩ = some (.slice a n cp) ∧ w.cell? ⟨g, 1, none⟩ = some (.int .i64 (at' : Int)) ∧ w.cell? ⟨g, 2, none⟩ = some (.int .i64 seed) ∧
  w.frozen? ⟨g, 1, none⟩ = false ∧ w.frozen? ⟨g, 2, none⟩ = false ∧ at' ≤ n ∧ n ≤ 1048576 ∧ 0 ≤ seed ∧ seed < 2147483647 ∧ BytesIn w a n g
theorem BytesIn.kept {w w' : World} {a : Option Addr} {n g : Nat} (h : BytesIn w a n g) (hk : ∀ b, b < g → w'.heap[b]? = w.heap[b]?) : BytesIn w' a n g := fun hp => by
  obtain ⟨b, off, e, hb, hc⟩ := h hp
  refine ⟨b, off, e, hb, fun i hi => ?_⟩
  obtain ⟨v, h0, h1, h2⟩ := hc i hi
  exact ⟨v, h0, h1, (World.cell?_of_block (a := ⟨b, off + i, none⟩) (hk b hb)).trans h2⟩
theorem Src.kept {w w' : World} {g : Nat} (h : Src w g) (hs : w.heap.size ≤ w'.heap.size) (hk : ∀ b, b ≤ g → w'.heap[b]? = w.heap[b]?) : Src w' g := by
  obtain ⟨a, n, cp, at', seed, h1, h2, h3, h4, h5, h6, h7, h8, h9, h10, h11⟩ := h
  have hg := hk g (Nat.le_refl _)
  exact ⟨a, n, cp, at', seed, by omega, (World.cell?_of_block (a := ⟨g, 0, none⟩) hg).trans h2, (World.cell?_of_block (a := ⟨g, 1, none⟩) hg).trans h3, (World.cell?_of_block (a := ⟨g, 2, none⟩) hg).trans h4, (World.frozen?_of_block (a := ⟨g, 1, none⟩) hg).trans h5, (World.frozen?_of_block (a := ⟨g, 2, none⟩) hg).trans h6, h7, h8, h9, h10, h11.kept (fun b hb => hk b (by omega))⟩
theorem Src.keep {w w' : World} {g : Nat} (h : Src w g) (hb : Below w.heap.size w w') : Src w' g := by
  have hg : g < w.heap.size := by obtain ⟨_, _, _, _, _, h1, _⟩ := h; exact h1
  exact h.kept hb.size (fun b hb' => hb.block b (by omega))
theorem Src.grown {w w' : World} {g : Nat} {row : Option Nat} (h : Src w g) (hg : w.grownBy w' row) (hr : ∀ j, row = some j → g < j) : Src w' g := by
  have hl : g < w.heap.size := by obtain ⟨_, _, _, _, _, h1, _⟩ := h; exact h1
  exact h.kept hg.size (fun b hb' => hg.block b (by omega) (fun e => by have := hr b e.symm; omega))
theorem Src.lt {w : World} {g : Nat} (h : Src w g) : g < w.heap.size := by obtain ⟨_, _, _, _, _, h1, _⟩ := h; exact h1
theorem grown_trans' {a b c : World} {row : Option Nat} (h : a.grownBy b row) (k : b.grownBy c row) : a.grownBy c row :=
  ⟨k.os.trans h.os, k.tape.trans h.tape, k.output.trans h.output, Nat.le_trans h.size k.size, fun i hi hne => (k.block i (Nat.lt_of_lt_of_le hi h.size) hne).trans (h.block i hi hne)⟩
theorem grown_drewN' {a b : World} {row : Option Nat} (h : a.grownBy b row) (q : Nat) : a.grownBy (b.drewN q) row := ⟨h.os, h.tape, h.output, h.size, h.block⟩
theorem grown_drew' {a b : World} {row : Option Nat} (h : a.grownBy b row) : a.grownBy b.drew row := ⟨h.os, h.tape, h.output, h.size, h.block⟩
theorem grown_set {a w : World} {g : Nat} (h : a.grownBy w (some g)) {i : Nat} (u : Value) : a.grownBy (w.setCell ⟨g, i, none⟩ u) (some g) := only_setCell h u
/-- Behind stores into the block of the source alone. -/
theorem Src.mk' {w w' : World} {g : Nat} {a : Option Addr} {n cp at' : Nat} {seed : Int} (hg : w.grownBy w' (some g)) (hl : g < w.heap.size) (h2 : w'.cell? ⟨g, 0, none⟩ = some (.slice a n cp)) (h3 : w'.cell? ⟨g, 1, none⟩ = some (.int .i64 (at' : Int))) (h4 : w'.cell? ⟨g, 2, none⟩ = some (.int .i64 seed))
    (h5 : w'.frozen? ⟨g, 1, none⟩ = false) (h6 : w'.frozen? ⟨g, 2, none⟩ = false) (h7 : at' ≤ n) (h8 : n ≤ 1048576) (h9 : 0 ≤ seed) (h10 : seed < 2147483647) (h11 : BytesIn w a n g) : Src w' g :=
  ⟨a, n, cp, at', seed, Nat.lt_of_lt_of_le hl hg.size, h2, h3, h4, h5, h6, h7, h8, h9, h10, h11.kept (fun b hb => hg.block b (by omega) (fun e => by injection e with e; omega))⟩
/-- A number of n, drawn; the source goes on. -/
def Nxt (w : World) (g : Nat) (n : Int) (e : Ending) (w' : World) : Prop := ∃ x : Int, e = .returned (.int .i64 x) ∧ 0 ≤ x ∧ (1 < n → x < n) ∧ (n ≤ 1 → x = 0) ∧ Src w' g ∧ w.grownBy w' (some g)
end Go.Proofs.Ytdpifddmhbeklaa
