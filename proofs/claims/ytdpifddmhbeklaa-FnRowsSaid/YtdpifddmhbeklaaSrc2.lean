/-
  DERIVED. Sources of drawn numbers.
-/
import Derived.Test.YtdpifddmhbeklaaSrc
import Derived.Conc.MuLone
import Derived.BigQuiet
namespace Go.Proofs.Ytdpifddmhbeklaa
open Go.RowKit
set_option linter.unusedVariables false
theorem nxt_end {w w' : World} {g : Nat} {a : Option Addr} {n cp at' : Nat} {seed x m : Int} (hg : w.grownBy w' (some g)) (hl : g < w.heap.size) (h2 : w'.cell? ⟨g, 0, none⟩ = some (.slice a n cp)) (h3 : w'.cell? ⟨g, 1, none⟩ = some (.int .i64 (at' : Int))) (h4 : w'.cell? ⟨g, 2, none⟩ = some (.int .i64 seed))
    (h5 : w'.frozen? ⟨g, 1, none⟩ = false) (h6 : w'.frozen? ⟨g, 2, none⟩ = false) (h7 : at' ≤ n) (h8 : n ≤ 1048576) (h9 : 0 ≤ seed) (h10 : seed < 2147483647) (h11 : BytesIn w a n g) (x0 : 0 ≤ x) (x1 : x < m) (hm : 1 < m) : Nxt w g m (.returned (.int .i64 x)) w' :=
  ⟨x, rfl, x0, fun _ => x1, fun h => absurd h (by omega), Src.mk' hg hl h2 h3 h4 h5 h6 h7 h8 h9 h10 h11, hg⟩
set_option maxRecDepth 100000 in
set_option maxHeartbeats 4000000 in
theorem sNext1 (g : Nat) (n : Int) (w : World) (h : Src w g) (hn : n ≤ 1) : Calls Try.prog 73 #[.pointer (some ⟨g, 0, none⟩), .int .i64 n] w (Nxt w g n) := by
  have HS := Lib.hid h
  clear h
  go_enter Try.func73, Try.ntmps73
  go_wp2
  go_returns
  exact ⟨0, rfl, by omega, fun h => absurd h (by omega), fun _ => rfl, HS.out, World.grownBy.refl _ _⟩
set_option maxRecDepth 100000 in
set_option maxHeartbeats 8000000 in
theorem sNext2 (g : Nat) (n : Int) (w : World) (h : Src w g) (hn : 1 < n) : Calls Try.prog 73 #[.pointer (some ⟨g, 0, none⟩), .int .i64 n] w (Nxt w g n) := by
  obtain ⟨a, len, cp, at', seed, hl, c0, c1, c2, f1, f2, h7, h8, h9, h10, hby⟩ := h
  have HBY := Lib.hid hby
  clear hby
  have hn1 : ¬ n ≤ 1 := by omega
  by_cases hat : at' < len
  · obtain ⟨b, off, rfl, hb, hc⟩ := HBY.out (by omega)
    obtain ⟨v, v0, v1, cv⟩ := hc at' hat
    clear hc
    have hbg : b ≠ g := by omega
    have a0 : (0 : Int) ≤ (at' : Int) := Int.natCast_nonneg _
    have a1 : (at' : Int) < (len : Int) := by omega
    by_cases h256 : n ≤ 256
    · by_cases hpar : ((at' : Int) + 1) % 2 = 0
      · go_enter Try.func73, Try.ntmps73
        go_wp2
        go_quiet (fail)
        go_wp2
        go_quiet (fail)
        go_wp2
        go_quiet (fail)
        go_wp2
        go_returns
        exact nxt_end (cp := cp) (at' := at' + 1) (seed := (seed * 48271 + 11) % 2147483647) (grown_drewN' (only_setCell (grown_drewN' (only_setCell (World.grownBy.refl w _) _) _) _) _) hl (by simp [go_sem, c0]) (by simp [go_sem, c1]) (by simp [go_sem, c2]) (by simp [go_sem, f1]) (by simp [go_sem, f2]) (by omega) h8 (Int.emod_nonneg _ (by omega)) (Int.emod_lt_of_pos _ (by omega)) HBY.out (Int.emod_nonneg _ (by omega)) (Int.emod_lt_of_pos _ (by omega)) hn
      · go_enter Try.func73, Try.ntmps73
        go_wp2
        go_quiet (fail)
        go_wp2
        go_quiet (fail)
        go_wp2
        go_returns
        exact nxt_end (cp := cp) (at' := at' + 1) (seed := (seed * 48271 + 11) % 2147483647) (only_setCell (grown_drewN' (only_setCell (World.grownBy.refl w _) _) _) _) hl (by simp [go_sem, c0]) (by simp [go_sem, c1]) (by simp [go_sem, c2]) (by simp [go_sem, f1]) (by simp [go_sem, f2]) (by omega) h8 (Int.emod_nonneg _ (by omega)) (Int.emod_lt_of_pos _ (by omega)) HBY.out (Int.emod_nonneg _ (by omega)) (Int.emod_lt_of_pos _ (by omega)) hn
    · go_enter Try.func73, Try.ntmps73
      go_wp2
      go_quiet (fail)
      go_wp2
      go_quiet (fail)
      go_wp2
      go_returns
      exact nxt_end (cp := cp) (at' := at' + 1) (seed := (seed * 48271 + 11) % 2147483647) (only_setCell (grown_drewN' (only_setCell (World.grownBy.refl w _) _) _) _) hl (by simp [go_sem, c0]) (by simp [go_sem, c1]) (by simp [go_sem, c2]) (by simp [go_sem, f1]) (by simp [go_sem, f2]) (by omega) h8 (Int.emod_nonneg _ (by omega)) (Int.emod_lt_of_pos _ (by omega)) HBY.out (Int.emod_nonneg _ (by omega)) (Int.emod_lt_of_pos _ (by omega)) hn
  · have a1 : decide ((at' : Int) < (len : Int)) = false := by simp; omega
    go_enter Try.func73, Try.ntmps73
    go_wp2
    go_quiet (fail)
    go_wp2
    go_returns
    exact nxt_end (cp := cp) (at' := at') (seed := (seed * 48271 + 11) % 2147483647) (grown_drewN' (only_setCell (World.grownBy.refl w _) _) _) hl (by simp [go_sem, c0]) (by simp [go_sem, c1]) (by simp [go_sem, c2]) (by simp [go_sem, f1]) (by simp [go_sem, f2]) (by omega) h8 (Int.emod_nonneg _ (by omega)) (Int.emod_lt_of_pos _ (by omega)) HBY.out (Int.emod_nonneg _ (by omega)) (Int.emod_lt_of_pos _ (by omega)) hn
theorem sNext (g : Nat) (n : Int) (w : World) (h : Src w g) : Calls Try.prog 73 #[.pointer (some ⟨g, 0, none⟩), .int .i64 n] w (Nxt w g n) := by
  rcases Int.lt_or_le 1 n with h1 | h1
  · exact sNext2 g n w h h1
  · exact sNext1 g n w h h1
end Go.Proofs.Ytdpifddmhbeklaa
