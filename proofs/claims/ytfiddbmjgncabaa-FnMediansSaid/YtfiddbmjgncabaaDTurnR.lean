/-
  DERIVED. A raster drawn for TurnRaster.
-/
import Derived.Test.YtfiddbmjgncabaaDRast
import Derived.Test.YtfiddbmjgncabaaBas
import Derived.Conc.MuLone
namespace Go.Proofs.Ytfiddbmjgncabaa
open Go.RowKit
set_option linter.unusedVariables false
theorem BytesIn.up {w : World} {a : Option Addr} {n B B' : Nat} (h : BytesIn w a n B) (hb : B ≤ B') : BytesIn w a n B' := fun hp => by
  obtain ⟨b, off, e, h1, h2⟩ := h hp
  exact ⟨b, off, e, by omega, h2⟩
end Go.Proofs.Ytfiddbmjgncabaa
