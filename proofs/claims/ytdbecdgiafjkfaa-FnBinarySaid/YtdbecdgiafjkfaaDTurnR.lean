/-
  DERIVED. A raster drawn for TurnRaster.
-/
import Derived.Test.YtdbecdgiafjkfaaDRast
import Derived.Test.YtdbecdgiafjkfaaInts
import Derived.Conc.MuLone
namespace Go.Proofs.Ytdbecdgiafjkfaa
open Go.RowKit
set_option linter.unusedVariables false
theorem BytesIn.up {w : World} {a : Option Addr} {n B B' : Nat} (h : BytesIn w a n B) (hb : B ≤ B') : BytesIn w a n B' := fun hp => by
  obtain ⟨b, off, e, h1, h2⟩ := h hp
  exact ⟨b, off, e, by omega, h2⟩
set_option maxRecDepth 100000 in
set_option maxHeartbeats 8000000 in
theorem dTurnR (a : Option Addr) (n cp : Nat) (w : World) (h : BytesIn w a n w.heap.size) (hn : n ≤ 1048576) : Calls Try.prog 36 #[.slice a n cp] w (DrawnGrid w) := by
  have HO := Lib.hid (Out3.new w 26)
  have hk0 : Below w.heap.size w (w.alloc (.cells #[.int .i64 0, .int .i64 0, .slice none 0 0] 26)) := by repeat' (first | (with_reducible exact Below.refl _ _) | (with_reducible assumption) | (with_reducible refine Below.alloc ?_ ?_ _) | (with_reducible refine Below.setCell ?_ ?_ _) | (with_reducible refine Below.drew ?_) | (with_reducible refine below_drewN ?_ _) | (with_reducible refine below_via (by with_reducible assumption) ?_ ?_) | go_size)
  have HBY := Lib.hid ((h.kept (fun b hb => hk0.block b hb)).up (show w.heap.size ≤ (w.alloc (.cells #[.int .i64 0, .int .i64 0, .slice none 0 0] 26)).heap.size by simp))
  clear h
  go_enter Try.func36, Try.ntmps36
  go_wp2_with fail
  refine (sFrom a n cp _ HBY.out hn).mono ?_
  rintro e w1 ⟨g, rfl, hgl, hs1, hb1⟩
  have HS1 := Lib.hid hs1
  have hz1 := hb1.size
  simp only [World.size_alloc] at hgl hz1
  have HX1 := Lib.hid hb1
  clear hs1 hb1 HO HBY
  go_wp2_with fail
  refine (dRast g _ HS1.out _ HX1.out (by simp; omega)).mono ?_
  rintro e w3 ⟨r, c, a3, n3, c3, zs, rfl, hn3, hc3, hr3, hb3, hf3⟩
  have HO3 := Lib.hid ((Out3.new w 26).keep hb3)
  obtain ⟨o1, o2, o3, o4, o5, o6, o7⟩ := HO3.out
  have HR3 := Lib.hid hr3
  have hB3 : Below w.heap.size w w3 := hk0.trans (hb3.mono (by simp))
  have HF3 := Lib.hid hf3
  clear hb3 hr3 hf3
  go_wp2
  (try simp only [Exit.inBlock, Exit.then])
  refine bodyPost_ret (v := .agg #[.int .i64 r, .int .i64 c, .slice a3 n3 c3]) (by simp [results, Try.results36, go_sem, o2, o3, o4]) rfl ?_
  exact ⟨_, _, _, _, _, _, rfl, hn3, hc3, rd_nxt HR3.out (only_setCell (only_setCell (only_setCell (World.grownBy.refl w3 (some w.heap.size)) _) _) _) (fun b off e _ => by have := HF3.out b off e; simp at this; omega), by repeat' (first | (with_reducible exact Below.refl _ _) | (with_reducible assumption) | (with_reducible refine Below.alloc ?_ ?_ _) | (with_reducible refine Below.setCell ?_ ?_ _) | (with_reducible refine Below.drew ?_) | (with_reducible refine below_drewN ?_ _) | (with_reducible refine below_via (by with_reducible assumption) ?_ ?_) | go_size), fun b off e => by have := HF3.out b off e; simp at this; omega⟩
end Go.Proofs.Ytdbecdgiafjkfaa
