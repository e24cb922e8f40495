/-
  DERIVED. The laws' dice: roll and below.
-/
import Derived.Test.YtenelpollcabnaaSour
import Derived.Test.YtenelpollcabnaaRegI
import Derived.Laws.Bits64b
import Derived.Deep.Cut
import Derived.BigQuiet
namespace Go.Proofs.Ytenelpollcabnaa
open Go.RowKit
set_option linter.unusedVariables false
def Dice (w : World) (g : Nat) : Prop := ∃ (a : Option Addr) (n cp i : Nat) (h : Int), g < w.heap.size ∧ w.cell? ⟨g, 0, none⟩ = some (.slice a n cp) ∧ w.cell? ⟨g, 1, none⟩ = some (.int .i64 (i : Int)) ∧ w.cell? ⟨g, 2, none⟩ = some (.int .u64 h) ∧
  w.frozen? ⟨g, 1, none⟩ = false ∧ w.frozen? ⟨g, 2, none⟩ = false ∧ i ≤ n ∧ n ≤ 1048576 ∧ 0 ≤ h ∧ h < 18446744073709551616 ∧ BytesIn w a n g
theorem Dice.keep {w w' : World} {g : Nat} (h : Dice w g) (hb : Below w.heap.size w w') : Dice w' g := by
  obtain ⟨a, n, cp, i, x, h1, h2, h3, h4, h5, h6, h7, h8, h9, h10, h11⟩ := h
  exact ⟨a, n, cp, i, x, Nat.lt_of_lt_of_le h1 hb.size, (hb.cell (p := ⟨_, _, none⟩) h1).trans h2, (hb.cell (p := ⟨_, _, none⟩) h1).trans h3, (hb.cell (p := ⟨_, _, none⟩) h1).trans h4, (hb.frozen (p := ⟨_, _, none⟩) h1).trans h5, (hb.frozen (p := ⟨_, _, none⟩) h1).trans h6, h7, h8, h9, h10, h11.kept (fun b hb' => hb.block b (by omega))⟩
theorem u64_bd (x : Int) : 0 ≤ IntKind.u64.wrap x ∧ IntKind.u64.wrap x < 18446744073709551616 := by
  rw [IntKind.wrap_u64]
  omega
set_option maxRecDepth 20000 in
set_option maxHeartbeats 4000000 in
theorem lRoll (a : Option Addr) (n cp : Nat) (s : Int) (w : World) (h : BytesIn w a n w.heap.size) (hn : n ≤ 1048576) :
    Calls Try.prog 25 #[.slice a n cp, .int .u64 s] w fun e w' => e = .returned (.pointer (some ⟨w.heap.size, 0, none⟩)) ∧ Dice w' w.heap.size ∧ Below w.heap.size w w' := by
  have HBY := Lib.hid h
  clear h
  go_enter Try.func25, Try.ntmps25
  go_wp2
  obtain ⟨H0, hH0⟩ : ∃ H : Int, IntKind.u64.wrap (IntKind.u64.wrap (s * 7919) + (n : Int)) = H := ⟨_, rfl⟩
  have hb0 : 0 ≤ H0 ∧ H0 < 18446744073709551616 := by rw [← hH0]; exact u64_bd _
  rw [hH0]
  clear hH0
  obtain ⟨hb0, hb1⟩ := hb0
  go_loopw [6] (fun i wr => ∃ (k : Nat) (x : Int), k ≤ n ∧ i = .int .i64 k ∧ 0 ≤ x ∧ x < 18446744073709551616 ∧ Below w.heap.size w wr ∧ w.heap.size < wr.heap.size ∧ wr.cell? ⟨w.heap.size, 0, none⟩ = some (.slice a n cp) ∧ wr.cell? ⟨w.heap.size, 1, none⟩ = some (.int .i64 0) ∧ wr.cell? ⟨w.heap.size, 2, none⟩ = some (.int .u64 x) ∧ wr.frozen? ⟨w.heap.size, 1, none⟩ = false ∧ wr.frozen? ⟨w.heap.size, 2, none⟩ = false) (fun i _ => n - (intOf i).toNat)
  case atStart => exact ⟨0, H0, Nat.zero_le _, rfl, hb0, hb1, by repeat' (first | (with_reducible exact Below.refl _ _) | (with_reducible assumption) | (with_reducible refine Below.alloc ?_ ?_ _) | (with_reducible refine Below.setCell ?_ ?_ _) | (with_reducible refine Below.drew ?_) | (with_reducible refine below_drewN ?_ _) | (with_reducible refine below_via (by with_reducible assumption) ?_ ?_) | go_size), by simp, by simp [go_sem], by simp [go_sem], by simp [go_sem], by simp [go_sem], by simp [go_sem]⟩
  case round =>
    obtain ⟨k, x, hk, rfl, x0, x1, hbel, hlt0, c0, c1, c2, f1, f2⟩ := hrel
    by_cases hlt : k < n
    · obtain ⟨b, off, rfl, hb, hc⟩ := HBY.out (by omega)
      obtain ⟨v, v0, v1, cv0⟩ := hc k hlt
      have cv : wr.cell? ⟨b, off + k, none⟩ = some (.int .u8 v) := (hbel.cell (p := ⟨b, off + k, none⟩) hb).trans cv0
      clear hc cv0
      have k0 : (0 : Int) ≤ (k : Int) := Int.natCast_nonneg _
      have k1 : (k : Int) < (n : Int) := by omega
      have hne : b ≠ w.heap.size := by omega
      go_wp2
      go_region
      all_goals
        go_wp2
        go_roundw
        case rel => exact ⟨k + 1, _, by omega, by go_num, (u64_bd _).1, (u64_bd _).2, by repeat' (first | (with_reducible exact Below.refl _ _) | (with_reducible assumption) | (with_reducible refine Below.alloc ?_ ?_ _) | (with_reducible refine Below.setCell ?_ ?_ _) | (with_reducible refine Below.drew ?_) | (with_reducible refine below_drewN ?_ _) | (with_reducible refine below_via (by with_reducible assumption) ?_ ?_) | go_size), by simp; omega, by simp [go_sem, c0], by simp [go_sem, c1], by simp [go_sem, c2] <;> rfl, by simp [go_sem, f1], by simp [go_sem, f2]⟩
        case measure => simp [intOf]; omega
    · go_wp2
      go_returns
      exact ⟨rfl, ⟨_, n, cp, 0, x, hlt0, c0, c1, c2, f1, f2, Nat.zero_le _, hn, x0, x1, HBY.out.kept (fun b hb => hbel.block b hb)⟩, hbel⟩
set_option maxRecDepth 20000 in
set_option maxHeartbeats 4000000 in
theorem lBelow (g : Nat) (m : Int) (w : World) (h : Dice w g) (hm : 1 ≤ m) (hm2 : m ≤ 1048576) :
    Calls Try.prog 26 #[.pointer (some ⟨g, 0, none⟩), .int .i64 m] w fun e w' => ∃ x : Int, e = .returned (.int .i64 x) ∧ 0 ≤ x ∧ x < m ∧ Dice w' g ∧ w.grownBy w' (some g) := by
  obtain ⟨a, n, cp, i, h0, hl, c0, c1, c2, f1, f2, h7, h8, h9, h10, hby⟩ := h
  have HBY := Lib.hid hby
  clear hby
  go_enter Try.func26, Try.ntmps26
  go_wp2
  obtain ⟨H, hH⟩ : ∃ H : Int, IntKind.u64.wrap (IntKind.u64.wrap (h0 * 6364136223846793005) + 1442695040888963407) = H := ⟨_, rfl⟩
  have hHb : 0 ≤ H ∧ H < 18446744073709551616 := by rw [← hH]; exact u64_bd _
  rw [hH]
  clear hH
  obtain ⟨hH0, hH1⟩ := hHb
  obtain ⟨X, hX⟩ : ∃ X : Int, wrap64 (bits BinOp.and IntKind.u64 (H / 8589934592) 16777215) = X := ⟨_, rfl⟩
  have hXb : 0 ≤ X ∧ X ≤ 16777215 := by
    have e := bits_and_u64_nat (H / 8589934592).toNat 16777215 (by omega) (by omega)
    rw [Int.toNat_of_nonneg (by omega)] at e
    have hle : (H / 8589934592).toNat &&& 16777215 ≤ 16777215 := Nat.and_le_right
    rw [← hX, show (16777215 : Int) = ((16777215 : Nat) : Int) from rfl, e]
    rw [← IntWalk.i64_left, IntWalk.i64_in _ (by omega)]
    omega
  rw [hX]
  clear hX
  obtain ⟨hX0, hX1⟩ := hXb
  obtain ⟨W, hW⟩ : ∃ W : World, W = w.setCell ⟨g, 2, none⟩ (.int .u64 H) := ⟨_, rfl⟩
  have HG : Hid (w.grownBy W (some g)) := by rw [hW]; exact only_setCell (World.grownBy.refl w _) _
  have d0 : W.cell? ⟨g, 0, none⟩ = some (.slice a n cp) := by rw [hW]; simp [go_sem, c0]
  have d1 : W.cell? ⟨g, 1, none⟩ = some (.int .i64 (i : Int)) := by rw [hW]; simp [go_sem, c1]
  have d2 : W.cell? ⟨g, 2, none⟩ = some (.int .u64 H) := by rw [hW]; simp [go_sem, c2]
  have e1 : W.frozen? ⟨g, 1, none⟩ = false := by rw [hW]; simp [go_sem, f1]
  have e2 : W.frozen? ⟨g, 2, none⟩ = false := by rw [hW]; simp [go_sem, f2]
  have hlW : g < W.heap.size := by rw [hW]; simpa using hl
  have HBW : Hid (BytesIn W a n g) := HBY.out.kept (fun b hb => HG.out.block b (by omega) (fun e => by injection e with e; omega))
  rw [← hW]
  clear hW c0 c1 c2 f1 f2 h9 h10
  by_cases hin : i < n
  · obtain ⟨b, off, rfl, hb, hc⟩ := HBW.out (by omega)
    obtain ⟨v, v0, v1, cv⟩ := hc i hin
    clear hc
    have k0 : (0 : Int) ≤ (i : Int) := Int.natCast_nonneg _
    have k1 : (i : Int) < (n : Int) := by omega
    have hne : b ≠ g := by omega
    have hm0 : ¬ m = 0 := by omega
    have g1 : IntKind.i64.wrap (X + v) = X + v := IntWalk.i64_in _ (by omega)
    go_quiet (fail)
    go_wp2
    go_quiet (fail)
    go_wp2
    go_returns
    refine ⟨(X + v) % m, rfl, Int.emod_nonneg _ (by omega), Int.emod_lt_of_pos _ (by omega), ⟨some ⟨b, off, none⟩, n, cp, i + 1, H, by simpa using hlW, by simp [go_sem, d0], by simp [go_sem, d1], by simp [go_sem, d2], by simp [go_sem, e1], by simp [go_sem, e2], by omega, h8, hH0, hH1, ?_⟩, only_setCell (grown_drewN' HG.out _) _⟩
    exact HBW.out.kept (fun c hc => (Below.heap_setCell _ _ _ c (by show c ≠ g; omega)).trans rfl)
  · have k1 : ¬ (i : Int) < (n : Int) := by omega
    have hm0 : ¬ m = 0 := by omega
    go_quiet (fail)
    go_wp2
    go_returns
    refine ⟨X % m, rfl, Int.emod_nonneg _ (by omega), Int.emod_lt_of_pos _ (by omega), ⟨a, n, cp, i, H, by simpa using hlW, by simp [go_sem, d0], by simp [go_sem, d1], by simp [go_sem, d2], by simp [go_sem, e1], by simp [go_sem, e2], by omega, h8, hH0, hH1, ?_⟩, grown_drewN' HG.out _⟩
    exact HBW.out.kept (fun c hc => rfl)
end Go.Proofs.Ytenelpollcabnaa
