/-
  DERIVED. Sources of drawn numbers: made.
-/
import Derived.Test.YtdpifddmhbeklaaSrc2
import Derived.Conc.MuLone
import Derived.RegionTactic
namespace Go.Proofs.Ytdpifddmhbeklaa
open Go.RowKit
set_option linter.unusedVariables false
theorem getD_memS {zs : List Int} {i : Nat} (h : i < zs.length) : zs.getD i 0 ∈ zs := by
  simp [List.getD_eq_getElem?_getD, List.getElem?_eq_getElem h]
/-- A source made. -/
def NewSrc (w : World) (e : Ending) (w' : World) : Prop := ∃ g, e = .returned (.pointer (some ⟨g, 0, none⟩)) ∧ w.heap.size ≤ g ∧ Src w' g ∧ Below w.heap.size w w'
theorem Ints.bytes {w : World} {a : Option Addr} {n c : Nat} {zs : List Int} (h : Ints .u8 w a n c zs) : BytesIn w a n w.heap.size := fun hp => by
  obtain ⟨hl, _, _, hwf, hr⟩ := h
  obtain ⟨b, off, e, hb, hc⟩ := hr hp
  refine ⟨b, off, e, hb, fun i hi => ⟨zs.getD i 0, ?_, ?_, hc i hi⟩⟩
  all_goals
    have hm := hwf _ (getD_memS (zs := zs) (i := i) (by omega))
    simp only [Lit.wf, Bool.and_eq_true, decide_eq_true_eq, show IntKind.u8.min = 0 from rfl, show IntKind.u8.max = 255 from rfl] at hm
    omega
set_option maxRecDepth 100000 in
set_option maxHeartbeats 4000000 in
theorem sFrom (a : Option Addr) (n cp : Nat) (w : World) (h : BytesIn w a n w.heap.size) (hn : n ≤ 1048576) : Calls Try.prog 72 #[.slice a n cp] w (NewSrc w) := by
  have HBY := Lib.hid h
  clear h
  go_enter Try.func72, Try.ntmps72
  go_wp2
  go_loopw [4] (fun i wr => ∃ (k : Nat) (seed : Int), k ≤ n ∧ i = .int .i64 k ∧ 0 ≤ seed ∧ seed < 2147483647 ∧ Below w.heap.size w wr ∧ w.heap.size < wr.heap.size ∧ wr.cell? ⟨w.heap.size, 0, none⟩ = some (.slice a n cp) ∧ wr.cell? ⟨w.heap.size, 1, none⟩ = some (.int .i64 0) ∧ wr.cell? ⟨w.heap.size, 2, none⟩ = some (.int .i64 seed) ∧ wr.frozen? ⟨w.heap.size, 1, none⟩ = false ∧ wr.frozen? ⟨w.heap.size, 2, none⟩ = false) (fun i _ => n - (intOf i).toNat)
  case atStart => exact ⟨0, 60617, Nat.zero_le _, rfl, by omega, by omega, by repeat' (first | (with_reducible exact Below.refl _ _) | (with_reducible assumption) | (with_reducible refine Below.alloc ?_ ?_ _) | (with_reducible refine Below.setCell ?_ ?_ _) | (with_reducible refine Below.drew ?_) | (with_reducible refine below_drewN ?_ _) | (with_reducible refine below_via (by with_reducible assumption) ?_ ?_) | go_size), by simp, by simp [go_sem], by simp [go_sem], by simp [go_sem], by simp [go_sem], by simp [go_sem]⟩
  case round =>
    obtain ⟨k, seed, hk, rfl, s0, s1, hbel, hlt0, c0, c1, c2, f1, f2⟩ := hrel
    by_cases hlt : k < n
    · obtain ⟨b, off, rfl, hb, hc⟩ := HBY.out (by omega)
      obtain ⟨v, v0, v1, cv0⟩ := hc k hlt
      have cv : wr.cell? ⟨b, off + k, none⟩ = some (.int .u8 v) := (hbel.cell (p := ⟨b, off + k, none⟩) hb).trans cv0
      clear hc cv0
      have k0 : (0 : Int) ≤ (k : Int) := Int.natCast_nonneg _
      have k1 : (k : Int) < (n : Int) := by omega
      by_cases h64 : k < 64
      · have hne : b ≠ w.heap.size := by omega
        go_wp2
        go_region
        all_goals
          go_wp2
          go_roundw
          case rel => exact ⟨k + 1, (seed * 43 + v) % 2147483647, by omega, by go_num, Int.emod_nonneg _ (by omega), Int.emod_lt_of_pos _ (by omega), by repeat' (first | (with_reducible exact Below.refl _ _) | (with_reducible assumption) | (with_reducible refine Below.alloc ?_ ?_ _) | (with_reducible refine Below.setCell ?_ ?_ _) | (with_reducible refine Below.drew ?_) | (with_reducible refine below_drewN ?_ _) | (with_reducible refine below_via (by with_reducible assumption) ?_ ?_) | go_size), by simp; omega, by simp [go_sem, c0], by simp [go_sem, c1], by simp [go_sem, c2], by simp [go_sem, f1], by simp [go_sem, f2]⟩
          case measure => simp [intOf]; omega
      · have h64' : ¬ (k : Int) < 64 := by omega
        go_wp2
        go_returns
        exact ⟨w.heap.size, rfl, Nat.le_refl _, ⟨_, n, cp, 0, seed, hlt0, c0, c1, c2, f1, f2, Nat.zero_le _, hn, s0, s1, HBY.out.kept (fun b hb => hbel.block b hb)⟩, hbel⟩
    · go_wp2
      go_returns
      exact ⟨w.heap.size, rfl, Nat.le_refl _, ⟨_, n, cp, 0, seed, hlt0, c0, c1, c2, f1, f2, Nat.zero_le _, hn, s0, s1, HBY.out.kept (fun b hb => hbel.block b hb)⟩, hbel⟩
end Go.Proofs.Ytdpifddmhbeklaa
