/-
  DERIVED. Sections: spec.
-/
import Derived.Test.YtcpicgcdefnhaaaSecS0
import Derived.Conc.MuLone
import Derived.RegionTactic
import Derived.Deep.RegionHeld3
namespace Go.Proofs.Ytcpicgcdefnhaaa
open Go.RowKit
set_option linter.unusedVariables false
set_option maxRecDepth 100000 in
set_option maxHeartbeats 4000000 in
theorem sWhole (a : Option Addr) (m cp i n : Nat) (L : List R3) (w : World) (h : RdV w a 3 m (runV L)) (hm : L.length = m) (hi : i + 5 ≤ m) (hch : Chain L n) (hn : n ≤ 40000) (hmn : m ≤ 40000) :
    Calls Try.prog 30 #[.slice a m cp, .int .i64 (i : Int)] w fun e w' => e = .returned (.agg #[.int .i64 (stR L i), .int .i64 (fiveR L i), .bool true]) ∧ Below w.heap.size w w' := by
  obtain ⟨b, off, rfl, hb, hc⟩ := h.runAt (k := i) (by omega)
  obtain ⟨c0, _, _⟩ := hc i (by omega)
  obtain ⟨d0, d1, d2⟩ := hc (i + 4) (by omega)
  have HE := Lib.hid (five_eq hch (by rw [hm]; exact hi))
  have B0 := hch.bd (j := i) (by omega)
  have B4 := hch.bd (j := i + 4) (by omega)
  have hbs := hb
  clear h hc hch hm
  obtain ⟨-, B0l, -, B0a, B0b⟩ := B0
  obtain ⟨-, B4a, B4b, B4c, B4d⟩ := B4
  generalize stR L i = s at c0 HE B0a B0b
  generalize lnR L i = l0 at *
  generalize stR L (i + 4) = s4 at *
  generalize lnR L (i + 4) = l4 at *
  generalize dkR L (i + 4) = p4 at *
  have q2 : (0 : Int) ≤ (i : Int) := Int.natCast_nonneg _
  have q3 : (i : Int) < (m : Int) := by omega
  have q4 : (0 : Int) ≤ (i : Int) + 4 := by omega
  have q5 : (i : Int) + 4 < (m : Int) := by omega
  have q6 : ((i : Int) + 4).toNat = i + 4 := by omega
  have e1 : IntKind.i64.wrap (s4 + l4) = s4 + l4 := IntWalk.i64_in _ (by omega)
  have e2 : IntKind.i64.wrap (s4 + l4 - s) = s4 + l4 - s := IntWalk.i64_in _ (by omega)
  go_enter Try.func30, Try.ntmps30
  go_wp2_with fail
  go_region
  all_goals
    go_wp2
    go_returns
    exact ⟨by rw [← HE.out], by repeat' (first | (with_reducible exact Below.refl _ _) | (with_reducible assumption) | (with_reducible refine Below.alloc ?_ ?_ _) | (with_reducible refine Below.setCell ?_ ?_ _) | (with_reducible refine Below.drew ?_) | (with_reducible refine below_drewN ?_ _) | (with_reducible refine below_via (by with_reducible assumption) ?_ ?_) | go_size)⟩
end Go.Proofs.Ytcpicgcdefnhaaa
