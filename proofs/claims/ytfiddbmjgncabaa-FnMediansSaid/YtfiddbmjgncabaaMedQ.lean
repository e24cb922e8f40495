/-
  DERIVED. MedianRaster: slices.Sort off the shelf.
-/
import Derived.Test.YtfiddbmjgncabaaMedP
import Derived.Test.YtfiddbmjgncabaaShs
namespace Go.Proofs.Ytfiddbmjgncabaa
open Go.RowKit
set_option linter.unusedVariables false
theorem lSort (blk off cap : Nat) (zs : List Int) (w : World) (hH : Go.Sort.Holds (Value.int .i64) w blk off zs.toArray) (hblk : blk < w.heap.size) (hsz : zs.length < 4611686018427387904) :
    Calls Try.prog 89 #[.slice (some ⟨blk, off, none⟩) zs.length cap] w fun e w' => e = .returned (.tuple #[]) ∧ ∃ n os, w' = Go.Sort.grow (Go.Sort.putRow (Value.int .i64) (Go.Sort.ahead w n) blk off (sortZ zs).toArray) os := by
  have hcon := AnyM.slices_Sort_int Try.laysSort blk off cap zs w hH hblk hsz
  change Calls Try.prog 89 _ _ _ at hcon
  exact hcon
end Go.Proofs.Ytfiddbmjgncabaa
