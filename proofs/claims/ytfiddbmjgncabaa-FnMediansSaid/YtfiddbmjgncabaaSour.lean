/-
  DERIVED. Src, Src2, Src3, Draw0, Draw1.
-/
import Derived.Test.YtfiddbmjgncabaaBas
import Derived.Conc.MuLone
import Derived.BigQuiet
import Derived.RegionTactic
import Derived.Test.YtfiddbmjgncabaaResQ
import Derived.Deep.AppendLies
namespace Go.Proofs.Ytfiddbmjgncabaa
open Go.RowKit
set_option linter.unusedVariables false
/-- Bytes that came in: n of them, in a block below B. -/
def BytesIn (w : World) (a : Option Addr) (n B : Nat) : Prop := 0 < n → ∃ b off, a = some ⟨b, off, none⟩ ∧ b < B ∧ ∀ i, i < n → ∃ v : Int, 0 ≤ v ∧ v ≤ 255 ∧ w.cell? ⟨b, off + i, none⟩ = some (.int .u8 v)
/-- A source of drawn numbers at block g: its code, how far it has come, its seed. -/
def Src (w : World) (g : Nat) : Prop := ∃ (a : Option Addr) (n cp at' : Nat) (seed : Int), g < w.heap.size ∧ w.cell? ⟨g, 0, none⟩ = some (.slice a n cp) ∧ w.cell? ⟨g, 1, none⟩ = some (.int .i64 (at' : Int)) ∧ w.cell? ⟨g, 2, none⟩ = some (.int .i64 seed) ∧
  w.frozen? ⟨g, 1, none⟩ = false ∧ w.frozen? ⟨g, 2, none⟩ = false ∧ at' ≤ n ∧ n ≤ 1048576 ∧ 0 ≤ seed ∧ seed < 2147483647 ∧ BytesIn w a n g
theorem BytesIn.kept {w w' : World} {a : Option Addr} {n g : Nat} (h : BytesIn w a n g) (hk : ∀ b, b < g → w'.heap[b]? = w.heap[b]?) : BytesIn w' a n g := fun hp => by
  obtain ⟨b, off, e, hb, hc⟩ := h hp
  refine ⟨b, off, e, hb, fun i hi => ?_⟩
  obtain ⟨v, h0, h1, h2⟩ := hc i hi
  exact ⟨v, h0, h1, (World.cell?_of_block (a := ⟨b, off + i, none⟩) (hk b hb)).trans h2⟩
theorem Src.kept {w w' : World} {g : Nat} (h : Src w g) (hs : w.heap.size ≤ w'.heap.size) (hk : ∀ b, b ≤ g → w'.heap[b]? = w.heap[b]?) : Src w' g := by
  obtain ⟨a, n, cp, at', seed, h1, h2, h3, h4, h5, h6, h7, h8, h9, h10, h11⟩ := h
  have hg := hk g (Nat.le_refl _)
  exact ⟨a, n, cp, at', seed, by omega, (World.cell?_of_block (a := ⟨g, 0, none⟩) hg).trans h2, (World.cell?_of_block (a := ⟨g, 1, none⟩) hg).trans h3, (World.cell?_of_block (a := ⟨g, 2, none⟩) hg).trans h4, (World.frozen?_of_block (a := ⟨g, 1, none⟩) hg).trans h5, (World.frozen?_of_block (a := ⟨g, 2, none⟩) hg).trans h6, h7, h8, h9, h10, h11.kept (fun b hb => hk b (by omega))⟩
theorem Src.keep {w w' : World} {g : Nat} (h : Src w g) (hb : Below w.heap.size w w') : Src w' g := by
  have hg : g < w.heap.size := by obtain ⟨_, _, _, _, _, h1, _⟩ := h; exact h1
  exact h.kept hb.size (fun b hb' => hb.block b (by omega))
theorem Src.grown {w w' : World} {g : Nat} {row : Option Nat} (h : Src w g) (hg : w.grownBy w' row) (hr : ∀ j, row = some j → g < j) : Src w' g := by
  have hl : g < w.heap.size := by obtain ⟨_, _, _, _, _, h1, _⟩ := h; exact h1
  exact h.kept hg.size (fun b hb' => hg.block b (by omega) (fun e => by have := hr b e.symm; omega))
theorem Src.lt {w : World} {g : Nat} (h : Src w g) : g < w.heap.size := by obtain ⟨_, _, _, _, _, h1, _⟩ := h; exact h1
theorem grown_trans' {a b c : World} {row : Option Nat} (h : a.grownBy b row) (k : b.grownBy c row) : a.grownBy c row :=
  ⟨k.os.trans h.os, k.tape.trans h.tape, k.output.trans h.output, Nat.le_trans h.size k.size, fun i hi hne => (k.block i (Nat.lt_of_lt_of_le hi h.size) hne).trans (h.block i hi hne)⟩
theorem grown_drewN' {a b : World} {row : Option Nat} (h : a.grownBy b row) (q : Nat) : a.grownBy (b.drewN q) row := ⟨h.os, h.tape, h.output, h.size, h.block⟩
theorem grown_drew' {a b : World} {row : Option Nat} (h : a.grownBy b row) : a.grownBy b.drew row := ⟨h.os, h.tape, h.output, h.size, h.block⟩
theorem grown_set {a w : World} {g : Nat} (h : a.grownBy w (some g)) {i : Nat} (u : Value) : a.grownBy (w.setCell ⟨g, i, none⟩ u) (some g) := only_setCell h u
/-- Behind stores into the block of the source alone. -/
theorem Src.mk' {w w' : World} {g : Nat} {a : Option Addr} {n cp at' : Nat} {seed : Int} (hg : w.grownBy w' (some g)) (hl : g < w.heap.size) (h2 : w'.cell? ⟨g, 0, none⟩ = some (.slice a n cp)) (h3 : w'.cell? ⟨g, 1, none⟩ = some (.int .i64 (at' : Int))) (h4 : w'.cell? ⟨g, 2, none⟩ = some (.int .i64 seed))
    (h5 : w'.frozen? ⟨g, 1, none⟩ = false) (h6 : w'.frozen? ⟨g, 2, none⟩ = false) (h7 : at' ≤ n) (h8 : n ≤ 1048576) (h9 : 0 ≤ seed) (h10 : seed < 2147483647) (h11 : BytesIn w a n g) : Src w' g :=
  ⟨a, n, cp, at', seed, Nat.lt_of_lt_of_le hl hg.size, h2, h3, h4, h5, h6, h7, h8, h9, h10, h11.kept (fun b hb => hg.block b (by omega) (fun e => by injection e with e; omega))⟩
/-- A number of n, drawn; the source goes on. -/
def Nxt (w : World) (g : Nat) (n : Int) (e : Ending) (w' : World) : Prop := ∃ x : Int, e = .returned (.int .i64 x) ∧ 0 ≤ x ∧ (1 < n → x < n) ∧ (n ≤ 1 → x = 0) ∧ Src w' g ∧ w.grownBy w' (some g)
end Go.Proofs.Ytfiddbmjgncabaa
namespace Go.Proofs.Ytfiddbmjgncabaa
open Go.RowKit
set_option linter.unusedVariables false
theorem nxt_end {w w' : World} {g : Nat} {a : Option Addr} {n cp at' : Nat} {seed x m : Int} (hg : w.grownBy w' (some g)) (hl : g < w.heap.size) (h2 : w'.cell? ⟨g, 0, none⟩ = some (.slice a n cp)) (h3 : w'.cell? ⟨g, 1, none⟩ = some (.int .i64 (at' : Int))) (h4 : w'.cell? ⟨g, 2, none⟩ = some (.int .i64 seed))
    (h5 : w'.frozen? ⟨g, 1, none⟩ = false) (h6 : w'.frozen? ⟨g, 2, none⟩ = false) (h7 : at' ≤ n) (h8 : n ≤ 1048576) (h9 : 0 ≤ seed) (h10 : seed < 2147483647) (h11 : BytesIn w a n g) (x0 : 0 ≤ x) (x1 : x < m) (hm : 1 < m) : Nxt w g m (.returned (.int .i64 x)) w' :=
  ⟨x, rfl, x0, fun _ => x1, fun h => absurd h (by omega), Src.mk' hg hl h2 h3 h4 h5 h6 h7 h8 h9 h10 h11, hg⟩
set_option maxRecDepth 100000 in
set_option maxHeartbeats 4000000 in
theorem sNext1 (g : Nat) (n : Int) (w : World) (h : Src w g) (hn : n ≤ 1) : Calls Try.prog 93 #[.pointer (some ⟨g, 0, none⟩), .int .i64 n] w (Nxt w g n) := by
  have HS := Lib.hid h
  clear h
  go_enter Try.func93, Try.ntmps93
  go_wp2
  go_returns
  exact ⟨0, rfl, by omega, fun h => absurd h (by omega), fun _ => rfl, HS.out, World.grownBy.refl _ _⟩
set_option maxRecDepth 100000 in
set_option maxHeartbeats 8000000 in
theorem sNext2 (g : Nat) (n : Int) (w : World) (h : Src w g) (hn : 1 < n) : Calls Try.prog 93 #[.pointer (some ⟨g, 0, none⟩), .int .i64 n] w (Nxt w g n) := by
  obtain ⟨a, len, cp, at', seed, hl, c0, c1, c2, f1, f2, h7, h8, h9, h10, hby⟩ := h
  have HBY := Lib.hid hby
  clear hby
  have hn1 : ¬ n ≤ 1 := by omega
  by_cases hat : at' < len
  · obtain ⟨b, off, rfl, hb, hc⟩ := HBY.out (by omega)
    obtain ⟨v, v0, v1, cv⟩ := hc at' hat
    clear hc
    have hbg : b ≠ g := by omega
    have a0 : (0 : Int) ≤ (at' : Int) := Int.natCast_nonneg _
    have a1 : (at' : Int) < (len : Int) := by omega
    by_cases h256 : n ≤ 256
    · by_cases hpar : ((at' : Int) + 1) % 2 = 0
      · go_enter Try.func93, Try.ntmps93
        go_wp2
        go_quiet (fail)
        go_wp2
        go_quiet (fail)
        go_wp2
        go_quiet (fail)
        go_wp2
        go_returns
        exact nxt_end (cp := cp) (at' := at' + 1) (seed := (seed * 48271 + 11) % 2147483647) (grown_drewN' (only_setCell (grown_drewN' (only_setCell (World.grownBy.refl w _) _) _) _) _) hl (by simp [go_sem, c0]) (by simp [go_sem, c1]) (by simp [go_sem, c2]) (by simp [go_sem, f1]) (by simp [go_sem, f2]) (by omega) h8 (Int.emod_nonneg _ (by omega)) (Int.emod_lt_of_pos _ (by omega)) HBY.out (Int.emod_nonneg _ (by omega)) (Int.emod_lt_of_pos _ (by omega)) hn
      · go_enter Try.func93, Try.ntmps93
        go_wp2
        go_quiet (fail)
        go_wp2
        go_quiet (fail)
        go_wp2
        go_returns
        exact nxt_end (cp := cp) (at' := at' + 1) (seed := (seed * 48271 + 11) % 2147483647) (only_setCell (grown_drewN' (only_setCell (World.grownBy.refl w _) _) _) _) hl (by simp [go_sem, c0]) (by simp [go_sem, c1]) (by simp [go_sem, c2]) (by simp [go_sem, f1]) (by simp [go_sem, f2]) (by omega) h8 (Int.emod_nonneg _ (by omega)) (Int.emod_lt_of_pos _ (by omega)) HBY.out (Int.emod_nonneg _ (by omega)) (Int.emod_lt_of_pos _ (by omega)) hn
    · go_enter Try.func93, Try.ntmps93
      go_wp2
      go_quiet (fail)
      go_wp2
      go_quiet (fail)
      go_wp2
      go_returns
      exact nxt_end (cp := cp) (at' := at' + 1) (seed := (seed * 48271 + 11) % 2147483647) (only_setCell (grown_drewN' (only_setCell (World.grownBy.refl w _) _) _) _) hl (by simp [go_sem, c0]) (by simp [go_sem, c1]) (by simp [go_sem, c2]) (by simp [go_sem, f1]) (by simp [go_sem, f2]) (by omega) h8 (Int.emod_nonneg _ (by omega)) (Int.emod_lt_of_pos _ (by omega)) HBY.out (Int.emod_nonneg _ (by omega)) (Int.emod_lt_of_pos _ (by omega)) hn
  · have a1 : decide ((at' : Int) < (len : Int)) = false := by simp; omega
    go_enter Try.func93, Try.ntmps93
    go_wp2
    go_quiet (fail)
    go_wp2
    go_returns
    exact nxt_end (cp := cp) (at' := at') (seed := (seed * 48271 + 11) % 2147483647) (grown_drewN' (only_setCell (World.grownBy.refl w _) _) _) hl (by simp [go_sem, c0]) (by simp [go_sem, c1]) (by simp [go_sem, c2]) (by simp [go_sem, f1]) (by simp [go_sem, f2]) (by omega) h8 (Int.emod_nonneg _ (by omega)) (Int.emod_lt_of_pos _ (by omega)) HBY.out (Int.emod_nonneg _ (by omega)) (Int.emod_lt_of_pos _ (by omega)) hn
theorem sNext (g : Nat) (n : Int) (w : World) (h : Src w g) : Calls Try.prog 93 #[.pointer (some ⟨g, 0, none⟩), .int .i64 n] w (Nxt w g n) := by
  rcases Int.lt_or_le 1 n with h1 | h1
  · exact sNext2 g n w h h1
  · exact sNext1 g n w h h1
end Go.Proofs.Ytfiddbmjgncabaa
namespace Go.Proofs.Ytfiddbmjgncabaa
open Go.RowKit
set_option linter.unusedVariables false
theorem getD_memS {zs : List Int} {i : Nat} (h : i < zs.length) : zs.getD i 0 ∈ zs := by
  simp [List.getD_eq_getElem?_getD, List.getElem?_eq_getElem h]
/-- A source made. -/
def NewSrc (w : World) (e : Ending) (w' : World) : Prop := ∃ g, e = .returned (.pointer (some ⟨g, 0, none⟩)) ∧ w.heap.size ≤ g ∧ Src w' g ∧ Below w.heap.size w w'
theorem Ints.bytes {w : World} {a : Option Addr} {n c : Nat} {zs : List Int} (h : Ints .u8 w a n c zs) : BytesIn w a n w.heap.size := fun hp => by
  obtain ⟨hl, _, _, hwf, hr⟩ := h
  obtain ⟨b, off, e, hb, hc⟩ := hr hp
  refine ⟨b, off, e, hb, fun i hi => ⟨zs.getD i 0, ?_, ?_, hc i hi⟩⟩
  all_goals
    have hm := hwf _ (getD_memS (zs := zs) (i := i) (by omega))
    simp only [Lit.wf, Bool.and_eq_true, decide_eq_true_eq, show IntKind.u8.min = 0 from rfl, show IntKind.u8.max = 255 from rfl] at hm
    omega
set_option maxRecDepth 100000 in
set_option maxHeartbeats 4000000 in
theorem sFrom (a : Option Addr) (n cp : Nat) (w : World) (h : BytesIn w a n w.heap.size) (hn : n ≤ 1048576) : Calls Try.prog 77 #[.slice a n cp] w (NewSrc w) := by
  have HBY := Lib.hid h
  clear h
  go_enter Try.func77, Try.ntmps77
  go_wp2
  go_loopw [4] (fun i wr => ∃ (k : Nat) (seed : Int), k ≤ n ∧ i = .int .i64 k ∧ 0 ≤ seed ∧ seed < 2147483647 ∧ Below w.heap.size w wr ∧ w.heap.size < wr.heap.size ∧ wr.cell? ⟨w.heap.size, 0, none⟩ = some (.slice a n cp) ∧ wr.cell? ⟨w.heap.size, 1, none⟩ = some (.int .i64 0) ∧ wr.cell? ⟨w.heap.size, 2, none⟩ = some (.int .i64 seed) ∧ wr.frozen? ⟨w.heap.size, 1, none⟩ = false ∧ wr.frozen? ⟨w.heap.size, 2, none⟩ = false) (fun i _ => n - (intOf i).toNat)
  case atStart => exact ⟨0, 60617, Nat.zero_le _, rfl, by omega, by omega, by repeat' (first | (with_reducible exact Below.refl _ _) | (with_reducible assumption) | (with_reducible refine Below.alloc ?_ ?_ _) | (with_reducible refine Below.setCell ?_ ?_ _) | (with_reducible refine Below.drew ?_) | (with_reducible refine below_drewN ?_ _) | (with_reducible refine below_via (by with_reducible assumption) ?_ ?_) | go_size), by simp, by simp [go_sem], by simp [go_sem], by simp [go_sem], by simp [go_sem], by simp [go_sem]⟩
  case round =>
    obtain ⟨k, seed, hk, rfl, s0, s1, hbel, hlt0, c0, c1, c2, f1, f2⟩ := hrel
    by_cases hlt : k < n
    · obtain ⟨b, off, rfl, hb, hc⟩ := HBY.out (by omega)
      obtain ⟨v, v0, v1, cv0⟩ := hc k hlt
      have cv : wr.cell? ⟨b, off + k, none⟩ = some (.int .u8 v) := (hbel.cell (p := ⟨b, off + k, none⟩) hb).trans cv0
      clear hc cv0
      have k0 : (0 : Int) ≤ (k : Int) := Int.natCast_nonneg _
      have k1 : (k : Int) < (n : Int) := by omega
      by_cases h64 : k < 64
      · have hne : b ≠ w.heap.size := by omega
        go_wp2
        go_region
        all_goals
          go_wp2
          go_roundw
          case rel => exact ⟨k + 1, (seed * 43 + v) % 2147483647, by omega, by go_num, Int.emod_nonneg _ (by omega), Int.emod_lt_of_pos _ (by omega), by repeat' (first | (with_reducible exact Below.refl _ _) | (with_reducible assumption) | (with_reducible refine Below.alloc ?_ ?_ _) | (with_reducible refine Below.setCell ?_ ?_ _) | (with_reducible refine Below.drew ?_) | (with_reducible refine below_drewN ?_ _) | (with_reducible refine below_via (by with_reducible assumption) ?_ ?_) | go_size), by simp; omega, by simp [go_sem, c0], by simp [go_sem, c1], by simp [go_sem, c2], by simp [go_sem, f1], by simp [go_sem, f2]⟩
          case measure => simp [intOf]; omega
      · have h64' : ¬ (k : Int) < 64 := by omega
        go_wp2
        go_returns
        exact ⟨w.heap.size, rfl, Nat.le_refl _, ⟨_, n, cp, 0, seed, hlt0, c0, c1, c2, f1, f2, Nat.zero_le _, hn, s0, s1, HBY.out.kept (fun b hb => hbel.block b hb)⟩, hbel⟩
    · go_wp2
      go_returns
      exact ⟨w.heap.size, rfl, Nat.le_refl _, ⟨_, n, cp, 0, seed, hlt0, c0, c1, c2, f1, f2, Nat.zero_le _, hn, s0, s1, HBY.out.kept (fun b hb => hbel.block b hb)⟩, hbel⟩
end Go.Proofs.Ytfiddbmjgncabaa
namespace Go.Proofs.Ytfiddbmjgncabaa
open Go.RowKit
set_option linter.unusedVariables false
theorem below_nxt {B g : Nat} {w wr w1 : World} (h : Below B w wr) (hg : wr.grownBy w1 (some g)) (hB : B ≤ wr.heap.size) (hB2 : B ≤ g) : Below B w w1 :=
  h.grown hg hB (fun j e => by injection e with e; omega)
theorem own_nxt {base n m g : Nat} {t : TypeId} {v : Value} {xs : List Value} {wr w1 : World} (h : wr.ownsRow base t m v n xs) (hg : wr.grownBy w1 (some g)) (hb : g < base) : w1.ownsRow base t m v n xs :=
  h.kept hg (ownN_apart h (fun k e => by injection e with e; omega))
theorem cell_nxt {g b i : Nat} {v : Value} {wr w1 : World} (h : wr.cell? ⟨b, i, none⟩ = some v) (hg : wr.grownBy w1 (some g)) (hb : b ≠ g) : w1.cell? ⟨b, i, none⟩ = some v :=
  (World.cell?_of_block (a := ⟨b, i, none⟩) (hg.block b (lt_of_cell h) (fun e => by injection e with e; exact hb e))).trans h
theorem frozen_nxt {g b i : Nat} {wr w1 : World} (h : wr.frozen? ⟨b, i, none⟩ = false) (hl : b < wr.heap.size) (hg : wr.grownBy w1 (some g)) (hb : b ≠ g) : w1.frozen? ⟨b, i, none⟩ = false :=
  (World.frozen?_of_block (a := ⟨b, i, none⟩) (hg.block b hl (fun e => by injection e with e; exact hb e))).trans h
theorem rd_nxt {g n : Nat} {a : Option Addr} {zs : List Int} {wr w1 : World} (h : Rd wr a n zs) (hg : wr.grownBy w1 (some g)) (hb : ∀ b off, a = some ⟨b, off, none⟩ → 0 < n → b ≠ g) : Rd w1 a n zs :=
  ⟨h.1, fun hn => by
    obtain ⟨b, off, e, hlt, hc⟩ := h.2 hn
    exact ⟨b, off, e, Nat.lt_of_lt_of_le hlt hg.size, fun i hi => cell_nxt (hc i hi) hg (hb b off e hn)⟩⟩
/-- A slice of drawn numbers. -/
def DrawnInts (w : World) (N : Nat) (e : Ending) (w' : World) : Prop := ∃ a n cp zs, e = .returned (.slice a n cp) ∧ n ≤ N ∧ n ≤ cp ∧ Rd w' a n zs ∧ Below w.heap.size w w'
theorem Rd.cut {w : World} {a : Option Addr} {n m : Nat} {zs : List Int} (h : Rd w a n zs) (hm : m ≤ n) : Rd w a m (zs.take m) :=
  ⟨by rw [List.length_take, h.1]; omega, fun hp => by
    obtain ⟨b, off, e, hlt, hc⟩ := h.2 (by omega)
    refine ⟨b, off, e, hlt, fun i hi => ?_⟩
    rw [hc i (by omega)]
    simp [List.getD_eq_getElem?_getD, List.getElem?_take_of_lt hi]⟩
theorem own_capD {w : World} {base n c m : Nat} {t : TypeId} {a : Option Addr} {xs : List Value} (h : w.ownsRow base t m (.slice a n c) n xs) : n ≤ c := by
  rcases h.2 with ⟨hv, h0⟩ | ⟨g, cap, cur, hv, _, _, hnc, _⟩
  · omega
  · injection hv with _ _ h3; omega
end Go.Proofs.Ytfiddbmjgncabaa
namespace Go.Proofs.Ytfiddbmjgncabaa
open Go.RowKit
set_option linter.unusedVariables false
/-- What is held while a slice of numbers is drawn: the row, the source, what lay before. -/
def DInv (w wr : World) (base g : Nat) (v : Value) (m : Nat) (zs : List Int) : Prop := wr.ownsRow base 2 1 v m (zs.map (Value.int .i64)) ∧ Below w.heap.size w wr ∧ Src wr g ∧ base ≤ wr.heap.size ∧ zs.length = m
theorem DInv.nxt {w wr w1 : World} {base g : Nat} {v : Value} {m : Nat} {zs : List Int} (h : DInv w wr base g v m zs) (hg : wr.grownBy w1 (some g)) (hs : Src w1 g) (h1 : g < base) (h2 : w.heap.size ≤ g) : DInv w w1 base g v m zs :=
  ⟨own_nxt h.1 hg h1, below_nxt h.2.1 hg (by have := h.2.2.2.1; omega) h2, hs, Nat.le_trans h.2.2.2.1 hg.size, h.2.2.2.2⟩
theorem DInv.below {w wr w1 : World} {base g : Nat} {v : Value} {m : Nat} {zs : List Int} (h : DInv w wr base g v m zs) (hb : Below wr.heap.size wr w1) (h2 : w.heap.size ≤ base) : DInv w w1 base g v m zs :=
  ⟨ownN_below h.1 hb, h.2.1.trans (hb.mono (by have := h.2.2.2.1; omega)), h.2.2.1.keep hb, Nat.le_trans h.2.2.2.1 hb.size, h.2.2.2.2⟩
theorem DInv.alloc {w wr : World} {base g : Nat} {v : Value} {m : Nat} {zs : List Int} (h : DInv w wr base g v m zs) (h2 : w.heap.size ≤ base) (o : Obj) : DInv w (wr.alloc o) base g v m zs :=
  h.below ((Below.refl _ _).alloc (Nat.le_refl _) o) h2
theorem DInv.app {w wr w2 : World} {base g : Nat} {v v' : Value} {m : Nat} {zs : List Int} {x : Int} {o : Obj} (h : DInv w wr base g v m zs) (h1 : g < base) (h2 : w.heap.size ≤ base) (hown : w2.ownsRow base 2 1 v' (m + 1) (zs.map (Value.int .i64) ++ [.int .i64 x])) (hgr : (wr.alloc o).grownBy w2 v.ownBlock) : DInv w w2 base g v' (m + 1) (zs ++ [x]) := by
  have hob : ∀ j, v.ownBlock = some j → base ≤ j := fun j e => (h.1.lt j e).1
  have ha := h.alloc h2 o
  refine ⟨by rw [List.map_append]; exact hown, ha.2.1.grown hgr (by have := ha.2.2.2.1; omega) (fun j e => by have := hob j e; omega), ha.2.2.1.grown hgr (fun j e => by have := hob j e; omega), Nat.le_trans ha.2.2.2.1 hgr.size, by simp [h.2.2.2.2]⟩
theorem DInv.set {w wr : World} {base g gv c : Nat} {m : Nat} {zs : List Int} (h : DInv w wr base g (.slice (some ⟨gv, 0, none⟩) m c) m zs) (h1 : g < base) (h2 : w.heap.size ≤ base) (i : Nat) (x : Int) : DInv w (wr.setCell ⟨gv, i, none⟩ (.int .i64 x)) base g (.slice (some ⟨gv, 0, none⟩) m c) m (zs.set i x) := by
  have hgv := (h.1.lt gv rfl).1
  obtain ⟨a, b⟩ := h.1.stored i (.int .i64 x)
  refine ⟨by rw [List.map_set]; exact a, h.2.1.setCell (by show w.heap.size ≤ gv; omega) _, h.2.2.1.grown b (fun j e => by injection e with e; omega), Nat.le_trans h.2.2.2.1 b.size, by simp [h.2.2.2.2]⟩
theorem DInv.cell {w wr : World} {base g gv c : Nat} {m : Nat} {zs : List Int} (h : DInv w wr base g (.slice (some ⟨gv, 0, none⟩) m c) m zs) (i : Nat) (hi : i < m) : wr.cell? ⟨gv, i, none⟩ = some (.int .i64 (zs.getD i 0)) ∧ wr.frozen? ⟨gv, i, none⟩ = false := by
  have hl := h.2.2.2.2
  refine ⟨?_, h.1.frozenAt i⟩
  rw [h.1.cellAt i (by omega)]
  simp [List.getElem?_map, List.getElem?_eq_getElem (show i < zs.length by omega), List.getD_eq_getElem?_getD]
theorem DInv.shape {w wr : World} {base g : Nat} {v : Value} {m : Nat} {zs : List Int} (h : DInv w wr base g v m zs) (hm : 0 < m) : ∃ gv c, v = .slice (some ⟨gv, 0, none⟩) m c := by
  obtain ⟨gv, cap, hv, _⟩ := h.1.form hm
  exact ⟨gv, cap, hv⟩
/-- A list of numbers that was written out, in block B: k of them, each from lo to hi. -/
def Lits (wr : World) (B k : Nat) (lo hi : Int) : Prop := B < wr.heap.size ∧ ∀ i, i < k → ∃ y : Int, lo ≤ y ∧ y ≤ hi ∧ wr.cell? ⟨B, i, none⟩ = some (.int .i64 y)
theorem Lits.nxt {wr w1 : World} {B k g : Nat} {lo hi : Int} (h : Lits wr B k lo hi) (hg : wr.grownBy w1 (some g)) (hb : B ≠ g) : Lits w1 B k lo hi :=
  ⟨Nat.lt_of_lt_of_le h.1 hg.size, fun i hi => by obtain ⟨y, a, b, c⟩ := h.2 i hi; exact ⟨y, a, b, cell_nxt c hg hb⟩⟩
theorem Lits.below {wr w1 : World} {B k : Nat} {lo hi : Int} (h : Lits wr B k lo hi) (hb : Below wr.heap.size wr w1) : Lits w1 B k lo hi :=
  ⟨Nat.lt_of_lt_of_le h.1 hb.size, fun i hi => by obtain ⟨y, a, b, c⟩ := h.2 i hi; exact ⟨y, a, b, (hb.cell (p := ⟨B, i, none⟩) h.1).trans c⟩⟩
theorem Lits.app {wr w2 : World} {B k : Nat} {lo hi : Int} {o : Obj} {row : Option Nat} (h : Lits wr B k lo hi) (hgr : (wr.alloc o).grownBy w2 row) (hne : ∀ j, row = some j → j ≠ B) : Lits w2 B k lo hi := by
  have ha := h.below ((Below.refl _ _).alloc (Nat.le_refl _) o)
  exact ⟨Nat.lt_of_lt_of_le ha.1 hgr.size, fun i hi => by
    obtain ⟨y, a, b, c⟩ := ha.2 i hi
    exact ⟨y, a, b, (World.cell?_of_block (a := ⟨B, i, none⟩) (hgr.block B ha.1 (fun e => hne B e.symm rfl))).trans c⟩⟩
theorem Lits.new (w : World) (t : TypeId) (ys : List Int) (lo hi : Int) (h : ∀ y ∈ ys, lo ≤ y ∧ y ≤ hi) : Lits (w.alloc (.cells (vals ys) t)) w.heap.size ys.length lo hi :=
  ⟨by simp, fun i hi => ⟨ys.getD i 0, (h _ (getD_memS hi)).1, (h _ (getD_memS hi)).2, by rw [(Blk.new w t (vals ys)).cell]; exact vals_get ys i hi⟩⟩
/-- A source behind a new row's block, in a world where it lies. -/
theorem DInv.start {w wr : World} {g : Nat} (hs : Src wr g) (hb : Below w.heap.size w wr) (hw : w.heap.size ≤ wr.heap.size) : DInv w (wr.alloc (.cells #[] 2)) wr.heap.size g (.slice (some ⟨wr.heap.size, 0, none⟩) 0 0) 0 [] := by
  have hr := World.ownsRow_lit (base := wr.heap.size) (e := 2) (size := 1) wr #[] 0 (Nat.le_refl _) (by unfold maxLen; omega) (by simp)
  simp at hr
  exact ⟨hr, hb.alloc hw _, hs.keep ((Below.refl _ _).alloc (Nat.le_refl _) _), by simp, rfl⟩
end Go.Proofs.Ytfiddbmjgncabaa
