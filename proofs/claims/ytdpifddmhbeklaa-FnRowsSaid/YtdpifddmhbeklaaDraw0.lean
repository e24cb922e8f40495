/-
  DERIVED. Drawn values.
-/
import Derived.Test.YtdpifddmhbeklaaSrc3
import Derived.Test.YtdpifddmhbeklaaResI
import Derived.Conc.MuLone
namespace Go.Proofs.Ytdpifddmhbeklaa
open Go.RowKit
set_option linter.unusedVariables false
theorem below_nxt {B g : Nat} {w wr w1 : World} (h : Below B w wr) (hg : wr.grownBy w1 (some g)) (hB : B ≤ wr.heap.size) (hB2 : B ≤ g) : Below B w w1 :=
  h.grown hg hB (fun j e => by injection e with e; omega)
theorem own_nxt {base n m g : Nat} {t : TypeId} {v : Value} {xs : List Value} {wr w1 : World} (h : wr.ownsRow base t m v n xs) (hg : wr.grownBy w1 (some g)) (hb : g < base) : w1.ownsRow base t m v n xs :=
  h.kept hg (ownN_apart h (fun k e => by injection e with e; omega))
theorem cell_nxt {g b i : Nat} {v : Value} {wr w1 : World} (h : wr.cell? ⟨b, i, none⟩ = some v) (hg : wr.grownBy w1 (some g)) (hb : b ≠ g) : w1.cell? ⟨b, i, none⟩ = some v :=
  (World.cell?_of_block (a := ⟨b, i, none⟩) (hg.block b (lt_of_cell h) (fun e => by injection e with e; exact hb e))).trans h
theorem frozen_nxt {g b i : Nat} {wr w1 : World} (h : wr.frozen? ⟨b, i, none⟩ = false) (hl : b < wr.heap.size) (hg : wr.grownBy w1 (some g)) (hb : b ≠ g) : w1.frozen? ⟨b, i, none⟩ = false :=
  (World.frozen?_of_block (a := ⟨b, i, none⟩) (hg.block b hl (fun e => by injection e with e; exact hb e))).trans h
theorem rd_nxt {g n : Nat} {a : Option Addr} {zs : List Int} {wr w1 : World} (h : Rd wr a n zs) (hg : wr.grownBy w1 (some g)) (hb : ∀ b off, a = some ⟨b, off, none⟩ → 0 < n → b ≠ g) : Rd w1 a n zs :=
  ⟨h.1, fun hn => by
    obtain ⟨b, off, e, hlt, hc⟩ := h.2 hn
    exact ⟨b, off, e, Nat.lt_of_lt_of_le hlt hg.size, fun i hi => cell_nxt (hc i hi) hg (hb b off e hn)⟩⟩
/-- A slice of drawn numbers. -/
def DrawnInts (w : World) (N : Nat) (e : Ending) (w' : World) : Prop := ∃ a n cp zs, e = .returned (.slice a n cp) ∧ n ≤ N ∧ n ≤ cp ∧ Rd w' a n zs ∧ Below w.heap.size w w'
theorem Rd.cut {w : World} {a : Option Addr} {n m : Nat} {zs : List Int} (h : Rd w a n zs) (hm : m ≤ n) : Rd w a m (zs.take m) :=
  ⟨by rw [List.length_take, h.1]; omega, fun hp => by
    obtain ⟨b, off, e, hlt, hc⟩ := h.2 (by omega)
    refine ⟨b, off, e, hlt, fun i hi => ?_⟩
    rw [hc i (by omega)]
    simp [List.getD_eq_getElem?_getD, List.getElem?_take_of_lt hi]⟩
theorem own_capD {w : World} {base n c m : Nat} {t : TypeId} {a : Option Addr} {xs : List Value} (h : w.ownsRow base t m (.slice a n c) n xs) : n ≤ c := by
  rcases h.2 with ⟨hv, h0⟩ | ⟨g, cap, cur, hv, _, _, hnc, _⟩
  · omega
  · injection hv with _ _ h3; omega
end Go.Proofs.Ytdpifddmhbeklaa
