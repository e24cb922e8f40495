/-
  DERIVED. The walk of FnExactReadRaster.
-/
import Derived.Test.YtcpicgcdefnhaaaDoorRDz
namespace Go.Proofs.YtcpicgcdefnhaaaDoor
open Go.RowKit
set_option linter.unusedVariables false
theorem resB_of {l : List UInt8} {R C : Int} {L : List Int} {ok : Bool} (h : RVC l R C L ok) {w : World} {e : Ending} {w' : World} (hr : ResR l w e w') : ResB w R C L ok e w' := by
  obtain ⟨R', C', L', ok', h', hr⟩ := hr
  obtain ⟨rfl, rfl, rfl, rfl⟩ := rvc_one h h'
  exact hr
set_option maxRecDepth 10000 in
set_option maxHeartbeats 4000000 in
theorem walk_FnExactReadRaster (aS : ByteArray) (w : World) (f_aS : aS.size ≤ maxLen) (h_err : ErrB w.heap.size w) :
    Calls Tryd.prog 3 #[.string aS] w fun e w' => e = .returned (.bool true) ∧ Below w.heap.size w w' := by
  by_cases hbig : 1048576 < aS.size
  · have hI : (1048576 : Int) < (aS.size : Int) := by omega
    clear h_err
    go_enter Tryd.func3, Tryd.ntmps3
    go_wp2
    go_returns
    exact ⟨rfl, Below.refl _ _⟩
  · obtain ⟨R, C, L, ok, hv⟩ := rvc_is aS.data.toList
    exact core_FnExactReadRaster aS w (by omega) R C L ok (fun W => (sReadR aS W (by omega)).mono fun e w' h => resB_of hv h)
      (fun W hB => (iReadR aS W (by omega) (h_err.on hB hB.size (Nat.le_refl _))).mono fun e w' h => resB_of hv h)
end Go.Proofs.YtcpicgcdefnhaaaDoor
