/-
  DERIVED. GIVEN WITH THE SEED: THE CARDS: each row of YtcpicgcdefnhaaaDoorRows.lean that lists a variable, with what it lists TIED to the program's text (the seventh form; the later family's looks); each row that meets fmt, with fmt's text TOLD by the authors' own Lean function (tested against real Go, not proved from fmt's source: count such statements apart). THE CARD IS WHAT COUNTS. Prove the row's statement (the work); the ties are given (YtcpicgcdefnhaaaDoorTie.lean); close each card by the builder's one call (the guide's Derived/Test/ToyasCard.lean, 'card_holds'). Laid BY PROGRAM, IN A SANDBOX (cutbox-door.mjs). By AI agents, Wed Nov 11 2026. No macro, syntax, notation, axiom, sorry.
-/
import Derived.Test.YtcpicgcdefnhaaaDoorRows
import GoSem.ClaimSeven
namespace Go.Proofs.YtcpicgcdefnhaaaDoor
namespace Rows

/-- THE TIED CARD OF 'laws.FnExactReadRaster'. -/
def fnExactReadRasterCard : Claim7 := { stood := { row := fnExactReadRasterRow, standIns := [], harness := (true, "8cb3b5794700fbb38b37c2035ca602cc9c63c38b383bcdd7ba2b9e19cbae8e64"), looks := true }, kinds := [], alts := [], laidByText := true, laidKinds := [.data, .data, .data, .data, .sentinel, .sentinel, .pinned], laidTests := true, laidLooks := .later }
def FnExactReadRasterCardSaid : Prop := Claim7.holds Tryd.pinned (.plain (OpenSpec.ofChange fnExactReadRasterSpec)) fnExactReadRasterCard

/-- THE TIED CARD OF 'laws.FnExactRasterText'. -/
def fnExactRasterTextCard : Claim7 := { stood := { row := fnExactRasterTextRow, standIns := [], harness := (true, "8cb3b5794700fbb38b37c2035ca602cc9c63c38b383bcdd7ba2b9e19cbae8e64"), looks := true }, kinds := [], alts := [], laidByText := true, laidKinds := [.data, .data, .data], laidTests := true, laidLooks := .later }
def FnExactRasterTextCardSaid : Prop := Claim7.holds Tryd.pinned (.plain (OpenSpec.ofChange fnExactRasterTextSpec)) fnExactRasterTextCard

/-- THE TIED CARD OF 'laws.FnRasterText'. -/
def fnRasterTextCard : Claim7 := { stood := { row := fnRasterTextRow, standIns := [], harness := (true, "8cb3b5794700fbb38b37c2035ca602cc9c63c38b383bcdd7ba2b9e19cbae8e64"), looks := true }, kinds := [], alts := [], laidByText := true, laidKinds := [.data, .data, .data, .data, .sentinel, .sentinel, .pinned], laidTests := true, laidLooks := .later }
def FnRasterTextCardSaid : Prop := Claim7.holds Tryd.pinned (.plain (OpenSpec.ofChange fnRasterTextSpec)) fnRasterTextCard

/-- THE SECOND FORM's CARD OF 'laws.FnExactReadRaster'. -/
def fnExactReadRasterUptoCard : Claim7 := { stood := { row := fnExactReadRasterUptoRow, standIns := [], harness := (true, "8cb3b5794700fbb38b37c2035ca602cc9c63c38b383bcdd7ba2b9e19cbae8e64"), looks := true }, kinds := [], alts := [], laidByText := true, laidKinds := [.data, .data, .data, .data, .sentinel, .sentinel, .pinned], laidTests := true, laidLooks := .later }
def FnExactReadRasterUptoCardSaid : Prop := Claim7.holds Tryd.pinned (.plain (OpenSpec.upto fnExactReadRasterSpec)) fnExactReadRasterUptoCard

/-- THE SECOND FORM's CARD OF 'laws.FnExactRasterText'. -/
def fnExactRasterTextUptoCard : Claim7 := { stood := { row := fnExactRasterTextUptoRow, standIns := [], harness := (true, "8cb3b5794700fbb38b37c2035ca602cc9c63c38b383bcdd7ba2b9e19cbae8e64"), looks := true }, kinds := [], alts := [], laidByText := true, laidKinds := [.data, .data, .data], laidTests := true, laidLooks := .later }
def FnExactRasterTextUptoCardSaid : Prop := Claim7.holds Tryd.pinned (.plain (OpenSpec.upto fnExactRasterTextSpec)) fnExactRasterTextUptoCard

/-- THE SECOND FORM's CARD OF 'laws.FnRasterText'. -/
def fnRasterTextUptoCard : Claim7 := { stood := { row := fnRasterTextUptoRow, standIns := [], harness := (true, "8cb3b5794700fbb38b37c2035ca602cc9c63c38b383bcdd7ba2b9e19cbae8e64"), looks := true }, kinds := [], alts := [], laidByText := true, laidKinds := [.data, .data, .data, .data, .sentinel, .sentinel, .pinned], laidTests := true, laidLooks := .later }
def FnRasterTextUptoCardSaid : Prop := Claim7.holds Tryd.pinned (.plain (OpenSpec.upto fnRasterTextSpec)) fnRasterTextUptoCard
end Rows
end Go.Proofs.YtcpicgcdefnhaaaDoor
