/-
  DERIVED. A line drawn for FnRuns.
-/
import Derived.Test.YtbcbdphnbfjhoaaDLine
import Derived.Conc.MuLone
namespace Go.Proofs.Ytbcbdphnbfjhoaa
open Go.RowKit
set_option linter.unusedVariables false
set_option maxHeartbeats 2000000 in
theorem dSectionsIn (a : Option Addr) (n cp : Nat) (w : World) (h : BytesIn w a n w.heap.size) (hn : n ≤ 1048576) : Calls Try.prog 57 #[.slice a n cp] w (DrawnInts w 1000) := by
  have HBY := Lib.hid h
  clear h
  go_enter Try.func57, Try.ntmps57
  go_wp2_with fail
  refine (sFrom a n cp _ HBY.out hn).mono ?_
  rintro e w1 ⟨g, rfl, hgl, hs1, hb1⟩
  go_wp2_with fail
  refine (dLine g _ hs1 w hb1 hgl).mono ?_
  rintro e w2 ⟨a2, n2, c2, zs, rfl, hn2, hc2, hr2, hb2⟩
  have HR := Lib.hid hr2
  have HB := Lib.hid hb2
  clear hr2 hb2
  go_wp2
  go_returns
  exact ⟨a2, n2, c2, zs, rfl, hn2, hc2, HR.out, HB.out⟩
end Go.Proofs.Ytbcbdphnbfjhoaa
