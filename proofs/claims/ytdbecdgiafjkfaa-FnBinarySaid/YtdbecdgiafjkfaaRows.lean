/-
  No cell of these rows narrows 'for every input' (looked for: loops, veiled, ifaces, maps, wideKeys, modest, calm, conditions, laid).
  DERIVED. THE GIVEN ROWS OF THIS SEAT. 9 by the template 'for every input the law returns true; each argument reads behind the call as it read before'; 0 by the template 'total and deterministic' (their statements: YtdbecdgiafjkfaaTotals.lean).
  GIVEN WITH THE SEED: the statements are not yours to turn. If you find one false, say at which input.
  Laid BY PROGRAM, IN A SANDBOX (cutbox-rows.mjs): the forced cells as the released guide's own fill.sh prints them over the translation 4643550a8ce90962… (all of the seat's roots in one cut). By AI agents, Wed Nov 11 2026. No macro, syntax, notation, axiom, sorry.
-/
import Derived.Test.YtdbecdgiafjkfaaChecked
import GoSem.Claim
import GoSem.ClaimJoined
import GoSem.ClaimMapViews
import Derived.JoinedTies
import Derived.KernelRfl
namespace Go.Proofs.Ytdbecdgiafjkfaa
/- THE CELL 'sum', in the pinned program and in every row, IS THE sha256 OF THE DUMP (.gsa) THAT YtdbecdgiafjkfaaProg.lean LOADS. Nothing in Lean hashes anything: it is a label: what it is worth is what the hold of that sum in a sandbox is worth. -/
noncomputable def Try.pinned : Pinned := { name := "ytdbecdgiafjkfaa", sum := "4643550a8ce90962a1b73657f8a18da662ce84a12ac75e6828f670746b1f8e34", checked := Try.checked }
namespace Rows
def none {H : Type} : Left H := { results := [], args := [] }

/-- 'laws.FnExactPasteRaster': WHATEVER THE INPUT: true; the input reads as it did. -/
def fnExactPasteRasterSpec : ChangeSpec := { name := "fnExactPasteRaster", fn := fun _ => fun
  | [d1, d2, d3, d4] => { results := [.lit (.bool true)], args := [d1, d2, d3, d4] }
  | _ => none }
def fnExactPasteRasterRow : OpenClaim := { program := "ytdbecdgiafjkfaa", sum := "4643550a8ce90962a1b73657f8a18da662ce84a12ac75e6828f670746b1f8e34", func := "loop.example/g00879/laws.FnExactPasteRaster", spec := "fnExactPasteRaster", unfollowed := true, recurses := true, apart := false }
def FnExactPasteRasterSaid : Prop := fnExactPasteRasterRow.holds Try.pinned (OpenSpec.ofChange fnExactPasteRasterSpec)

/-- ITS FALSE NEIGHBOUR: 'it returns false'. Refute it at one input. -/
def fnExactPasteRasterWrong : ChangeSpec := { name := "fnExactPasteRaster", fn := fun _ => fun
  | [d1, d2, d3, d4] => { results := [.lit (.bool false)], args := [d1, d2, d3, d4] }
  | _ => none }
def FnExactPasteRasterWrongFalsely : Prop := fnExactPasteRasterRow.holds Try.pinned (OpenSpec.ofChange fnExactPasteRasterWrong)

/-- 'laws.FnExactOrderSpots': WHATEVER THE INPUT: true; the input reads as it did. -/
def fnExactOrderSpotsSpec : ChangeSpec := { name := "fnExactOrderSpots", fn := fun _ => fun
  | [d1, d2, d3] => { results := [.lit (.bool true)], args := [d1, d2, d3] }
  | _ => none }
def fnExactOrderSpotsRow : OpenClaim := { program := "ytdbecdgiafjkfaa", sum := "4643550a8ce90962a1b73657f8a18da662ce84a12ac75e6828f670746b1f8e34", func := "loop.example/g00879/laws.FnExactOrderSpots", spec := "fnExactOrderSpots", apart := false }
def FnExactOrderSpotsSaid : Prop := fnExactOrderSpotsRow.holds Try.pinned (OpenSpec.ofChange fnExactOrderSpotsSpec)

/-- ITS FALSE NEIGHBOUR: 'it returns false'. Refute it at one input. -/
def fnExactOrderSpotsWrong : ChangeSpec := { name := "fnExactOrderSpots", fn := fun _ => fun
  | [d1, d2, d3] => { results := [.lit (.bool false)], args := [d1, d2, d3] }
  | _ => none }
def FnExactOrderSpotsWrongFalsely : Prop := fnExactOrderSpotsRow.holds Try.pinned (OpenSpec.ofChange fnExactOrderSpotsWrong)

/-- 'laws.FnExactCornersOf': WHATEVER THE INPUT: true; the input reads as it did. -/
def fnExactCornersOfSpec : ChangeSpec := { name := "fnExactCornersOf", fn := fun _ => fun
  | [d1, d2, d3, d4] => { results := [.lit (.bool true)], args := [d1, d2, d3, d4] }
  | _ => none }
def fnExactCornersOfRow : OpenClaim := { program := "ytdbecdgiafjkfaa", sum := "4643550a8ce90962a1b73657f8a18da662ce84a12ac75e6828f670746b1f8e34", func := "loop.example/g00879/laws.FnExactCornersOf", spec := "fnExactCornersOf", apart := false }
def FnExactCornersOfSaid : Prop := fnExactCornersOfRow.holds Try.pinned (OpenSpec.ofChange fnExactCornersOfSpec)

/-- ITS FALSE NEIGHBOUR: 'it returns false'. Refute it at one input. -/
def fnExactCornersOfWrong : ChangeSpec := { name := "fnExactCornersOf", fn := fun _ => fun
  | [d1, d2, d3, d4] => { results := [.lit (.bool false)], args := [d1, d2, d3, d4] }
  | _ => none }
def FnExactCornersOfWrongFalsely : Prop := fnExactCornersOfRow.holds Try.pinned (OpenSpec.ofChange fnExactCornersOfWrong)

/-- 'laws.FnExactNearestSize': WHATEVER THE INPUT: true; the input reads as it did. -/
def fnExactNearestSizeSpec : ChangeSpec := { name := "fnExactNearestSize", fn := fun _ => fun
  | [d1, d2, d3, d4, d5] => { results := [.lit (.bool true)], args := [d1, d2, d3, d4, d5] }
  | _ => none }
def fnExactNearestSizeRow : OpenClaim := { program := "ytdbecdgiafjkfaa", sum := "4643550a8ce90962a1b73657f8a18da662ce84a12ac75e6828f670746b1f8e34", func := "loop.example/g00879/laws.FnExactNearestSize", spec := "fnExactNearestSize", inPlace := ["math.sqrt"], apart := false }
def FnExactNearestSizeSaid : Prop := fnExactNearestSizeRow.holds Try.pinned (OpenSpec.ofChange fnExactNearestSizeSpec)

/-- ITS FALSE NEIGHBOUR: 'it returns false'. Refute it at one input. -/
def fnExactNearestSizeWrong : ChangeSpec := { name := "fnExactNearestSize", fn := fun _ => fun
  | [d1, d2, d3, d4, d5] => { results := [.lit (.bool false)], args := [d1, d2, d3, d4, d5] }
  | _ => none }
def FnExactNearestSizeWrongFalsely : Prop := fnExactNearestSizeRow.holds Try.pinned (OpenSpec.ofChange fnExactNearestSizeWrong)

/-- 'laws.FnOrdered': WHATEVER THE INPUT: true; the input reads as it did. -/
def fnOrderedSpec : ChangeSpec := { name := "fnOrdered", fn := fun _ => fun
  | [d] => { results := [.lit (.bool true)], args := [d] }
  | _ => none }
def fnOrderedRow : OpenClaim := { program := "ytdbecdgiafjkfaa", sum := "4643550a8ce90962a1b73657f8a18da662ce84a12ac75e6828f670746b1f8e34", func := "loop.example/g00879/laws.FnOrdered", spec := "fnOrdered", apart := false }
def FnOrderedSaid : Prop := fnOrderedRow.holds Try.pinned (OpenSpec.ofChange fnOrderedSpec)

/-- ITS FALSE NEIGHBOUR: 'it returns false'. Refute it at one input. -/
def fnOrderedWrong : ChangeSpec := { name := "fnOrdered", fn := fun _ => fun
  | [d] => { results := [.lit (.bool false)], args := [d] }
  | _ => none }
def FnOrderedWrongFalsely : Prop := fnOrderedRow.holds Try.pinned (OpenSpec.ofChange fnOrderedWrong)

/-- 'laws.FnPasted': WHATEVER THE INPUT: true; the input reads as it did. -/
def fnPastedSpec : ChangeSpec := { name := "fnPasted", fn := fun _ => fun
  | [d] => { results := [.lit (.bool true)], args := [d] }
  | _ => none }
def fnPastedRow : OpenClaim := { program := "ytdbecdgiafjkfaa", sum := "4643550a8ce90962a1b73657f8a18da662ce84a12ac75e6828f670746b1f8e34", func := "loop.example/g00879/laws.FnPasted", spec := "fnPasted", unfollowed := true, recurses := true, apart := false }
def FnPastedSaid : Prop := fnPastedRow.holds Try.pinned (OpenSpec.ofChange fnPastedSpec)

/-- ITS FALSE NEIGHBOUR: 'it returns false'. Refute it at one input. -/
def fnPastedWrong : ChangeSpec := { name := "fnPasted", fn := fun _ => fun
  | [d] => { results := [.lit (.bool false)], args := [d] }
  | _ => none }
def FnPastedWrongFalsely : Prop := fnPastedRow.holds Try.pinned (OpenSpec.ofChange fnPastedWrong)

/-- 'laws.FnTurnedRasters': WHATEVER THE INPUT: true; the input reads as it did. -/
def fnTurnedRastersSpec : ChangeSpec := { name := "fnTurnedRasters", fn := fun _ => fun
  | [d] => { results := [.lit (.bool true)], args := [d] }
  | _ => none }
def fnTurnedRastersRow : OpenClaim := { program := "ytdbecdgiafjkfaa", sum := "4643550a8ce90962a1b73657f8a18da662ce84a12ac75e6828f670746b1f8e34", func := "loop.example/g00879/laws.FnTurnedRasters", spec := "fnTurnedRasters", unfollowed := true, recurses := true, apart := false }
def FnTurnedRastersSaid : Prop := fnTurnedRastersRow.holds Try.pinned (OpenSpec.ofChange fnTurnedRastersSpec)

/-- ITS FALSE NEIGHBOUR: 'it returns false'. Refute it at one input. -/
def fnTurnedRastersWrong : ChangeSpec := { name := "fnTurnedRasters", fn := fun _ => fun
  | [d] => { results := [.lit (.bool false)], args := [d] }
  | _ => none }
def FnTurnedRastersWrongFalsely : Prop := fnTurnedRastersRow.holds Try.pinned (OpenSpec.ofChange fnTurnedRastersWrong)

/-- 'laws.FnExactLocalBinary': WHATEVER THE INPUT: true; the input reads as it did. -/
def fnExactLocalBinarySpec : ChangeSpec := { name := "fnExactLocalBinary", fn := fun _ => fun
  | [d1, d2, d3] => { results := [.lit (.bool true)], args := [d1, d2, d3] }
  | _ => none }
def fnExactLocalBinaryRow : OpenClaim := { program := "ytdbecdgiafjkfaa", sum := "4643550a8ce90962a1b73657f8a18da662ce84a12ac75e6828f670746b1f8e34", func := "loop.example/g00879/laws.FnExactLocalBinary", spec := "fnExactLocalBinary", unfollowed := true, recurses := true, apart := false }
def FnExactLocalBinarySaid : Prop := fnExactLocalBinaryRow.holds Try.pinned (OpenSpec.ofChange fnExactLocalBinarySpec)

/-- ITS FALSE NEIGHBOUR: 'it returns false'. Refute it at one input. -/
def fnExactLocalBinaryWrong : ChangeSpec := { name := "fnExactLocalBinary", fn := fun _ => fun
  | [d1, d2, d3] => { results := [.lit (.bool false)], args := [d1, d2, d3] }
  | _ => none }
def FnExactLocalBinaryWrongFalsely : Prop := fnExactLocalBinaryRow.holds Try.pinned (OpenSpec.ofChange fnExactLocalBinaryWrong)

/-- 'laws.FnBinary': WHATEVER THE INPUT: true; the input reads as it did. -/
def fnBinarySpec : ChangeSpec := { name := "fnBinary", fn := fun _ => fun
  | [d] => { results := [.lit (.bool true)], args := [d] }
  | _ => none }
def fnBinaryRow : OpenClaim := { program := "ytdbecdgiafjkfaa", sum := "4643550a8ce90962a1b73657f8a18da662ce84a12ac75e6828f670746b1f8e34", func := "loop.example/g00879/laws.FnBinary", spec := "fnBinary", unfollowed := true, recurses := true, apart := false }
def FnBinarySaid : Prop := fnBinaryRow.holds Try.pinned (OpenSpec.ofChange fnBinarySpec)

/-- ITS FALSE NEIGHBOUR: 'it returns false'. Refute it at one input. -/
def fnBinaryWrong : ChangeSpec := { name := "fnBinary", fn := fun _ => fun
  | [d] => { results := [.lit (.bool false)], args := [d] }
  | _ => none }
def FnBinaryWrongFalsely : Prop := fnBinaryRow.holds Try.pinned (OpenSpec.ofChange fnBinaryWrong)

/- THE SECOND FORM. 'bulk': how many values and letters a reading holds, each counted each time it is reached (what is shared counts as often as it is met; a slice's spare places count too). A statement '..UptoSaid' is the law's where the arguments, and the package variables that the reading takes, are together of bulk at most 1048576: NARROWER than '..Said'. Prove '..Said' where nothing that the law and all that it calls make is longer than what came in: it says more and counts as full. Else prove '..UptoSaid'. A law counts once. -/
mutual
def uptoBulk {H : Type} : DataW H → Nat
  | .lit (.string bytes) => bytes.length + 1
  | .lit _ => 1
  | .nil => 1
  | .ptr d => uptoBulk d + 1
  | .slice elems spare => uptoBulkAll elems + uptoBulkAll spare + 1
  | .agg parts => uptoBulkAll parts + 1
  | .iface _ d => uptoBulk d + 1
  | .map entries => uptoBulkEntries entries + 1
  | .held _ => 1
def uptoBulkAll {H : Type} : List (DataW H) → Nat
  | [] => 0
  | d :: r => uptoBulk d + uptoBulkAll r
def uptoBulkEntries {H : Type} : List (Lit × DataW H) → Nat
  | [] => 0
  | x :: r => uptoBulkEntry x + uptoBulkEntries r
def uptoBulkEntry {H : Type} : Lit × DataW H → Nat
  | (.string bytes, d) => bytes.length + uptoBulk d + 1
  | (_, d) => uptoBulk d + 1
 end
def uptoSmall : (H : Type) → List (DataW H) → Bool := fun _ ds => decide (uptoBulkAll ds ≤ 1048576)
def OpenSpec.upto (s : _root_.Go.ChangeSpec) : _root_.Go.OpenSpec := { _root_.Go.OpenSpec.ofChange s with cond := some uptoSmall }

/-- 'laws.FnExactPasteRaster', WHERE WHAT IT READS IS OF BULK AT MOST 1048576: true; the input reads as it did. -/
def fnExactPasteRasterUptoRow : OpenClaim := { program := "ytdbecdgiafjkfaa", sum := "4643550a8ce90962a1b73657f8a18da662ce84a12ac75e6828f670746b1f8e34", func := "loop.example/g00879/laws.FnExactPasteRaster", spec := "fnExactPasteRaster", unfollowed := true, recurses := true, apart := false, narrowed := true }
def FnExactPasteRasterUptoSaid : Prop := fnExactPasteRasterUptoRow.holds Try.pinned (OpenSpec.upto fnExactPasteRasterSpec)

/-- 'laws.FnExactOrderSpots', WHERE WHAT IT READS IS OF BULK AT MOST 1048576: true; the input reads as it did. -/
def fnExactOrderSpotsUptoRow : OpenClaim := { program := "ytdbecdgiafjkfaa", sum := "4643550a8ce90962a1b73657f8a18da662ce84a12ac75e6828f670746b1f8e34", func := "loop.example/g00879/laws.FnExactOrderSpots", spec := "fnExactOrderSpots", apart := false, narrowed := true }
def FnExactOrderSpotsUptoSaid : Prop := fnExactOrderSpotsUptoRow.holds Try.pinned (OpenSpec.upto fnExactOrderSpotsSpec)

/-- 'laws.FnExactCornersOf', WHERE WHAT IT READS IS OF BULK AT MOST 1048576: true; the input reads as it did. -/
def fnExactCornersOfUptoRow : OpenClaim := { program := "ytdbecdgiafjkfaa", sum := "4643550a8ce90962a1b73657f8a18da662ce84a12ac75e6828f670746b1f8e34", func := "loop.example/g00879/laws.FnExactCornersOf", spec := "fnExactCornersOf", apart := false, narrowed := true }
def FnExactCornersOfUptoSaid : Prop := fnExactCornersOfUptoRow.holds Try.pinned (OpenSpec.upto fnExactCornersOfSpec)

/-- 'laws.FnExactNearestSize', WHERE WHAT IT READS IS OF BULK AT MOST 1048576: true; the input reads as it did. -/
def fnExactNearestSizeUptoRow : OpenClaim := { program := "ytdbecdgiafjkfaa", sum := "4643550a8ce90962a1b73657f8a18da662ce84a12ac75e6828f670746b1f8e34", func := "loop.example/g00879/laws.FnExactNearestSize", spec := "fnExactNearestSize", inPlace := ["math.sqrt"], apart := false, narrowed := true }
def FnExactNearestSizeUptoSaid : Prop := fnExactNearestSizeUptoRow.holds Try.pinned (OpenSpec.upto fnExactNearestSizeSpec)

/-- 'laws.FnOrdered', WHERE WHAT IT READS IS OF BULK AT MOST 1048576: true; the input reads as it did. -/
def fnOrderedUptoRow : OpenClaim := { program := "ytdbecdgiafjkfaa", sum := "4643550a8ce90962a1b73657f8a18da662ce84a12ac75e6828f670746b1f8e34", func := "loop.example/g00879/laws.FnOrdered", spec := "fnOrdered", apart := false, narrowed := true }
def FnOrderedUptoSaid : Prop := fnOrderedUptoRow.holds Try.pinned (OpenSpec.upto fnOrderedSpec)

/-- 'laws.FnPasted', WHERE WHAT IT READS IS OF BULK AT MOST 1048576: true; the input reads as it did. -/
def fnPastedUptoRow : OpenClaim := { program := "ytdbecdgiafjkfaa", sum := "4643550a8ce90962a1b73657f8a18da662ce84a12ac75e6828f670746b1f8e34", func := "loop.example/g00879/laws.FnPasted", spec := "fnPasted", unfollowed := true, recurses := true, apart := false, narrowed := true }
def FnPastedUptoSaid : Prop := fnPastedUptoRow.holds Try.pinned (OpenSpec.upto fnPastedSpec)

/-- 'laws.FnTurnedRasters', WHERE WHAT IT READS IS OF BULK AT MOST 1048576: true; the input reads as it did. -/
def fnTurnedRastersUptoRow : OpenClaim := { program := "ytdbecdgiafjkfaa", sum := "4643550a8ce90962a1b73657f8a18da662ce84a12ac75e6828f670746b1f8e34", func := "loop.example/g00879/laws.FnTurnedRasters", spec := "fnTurnedRasters", unfollowed := true, recurses := true, apart := false, narrowed := true }
def FnTurnedRastersUptoSaid : Prop := fnTurnedRastersUptoRow.holds Try.pinned (OpenSpec.upto fnTurnedRastersSpec)

/-- 'laws.FnExactLocalBinary', WHERE WHAT IT READS IS OF BULK AT MOST 1048576: true; the input reads as it did. -/
def fnExactLocalBinaryUptoRow : OpenClaim := { program := "ytdbecdgiafjkfaa", sum := "4643550a8ce90962a1b73657f8a18da662ce84a12ac75e6828f670746b1f8e34", func := "loop.example/g00879/laws.FnExactLocalBinary", spec := "fnExactLocalBinary", unfollowed := true, recurses := true, apart := false, narrowed := true }
def FnExactLocalBinaryUptoSaid : Prop := fnExactLocalBinaryUptoRow.holds Try.pinned (OpenSpec.upto fnExactLocalBinarySpec)

/-- 'laws.FnBinary', WHERE WHAT IT READS IS OF BULK AT MOST 1048576: true; the input reads as it did. -/
def fnBinaryUptoRow : OpenClaim := { program := "ytdbecdgiafjkfaa", sum := "4643550a8ce90962a1b73657f8a18da662ce84a12ac75e6828f670746b1f8e34", func := "loop.example/g00879/laws.FnBinary", spec := "fnBinary", unfollowed := true, recurses := true, apart := false, narrowed := true }
def FnBinaryUptoSaid : Prop := fnBinaryUptoRow.holds Try.pinned (OpenSpec.upto fnBinarySpec)

end Rows
end Go.Proofs.Ytdbecdgiafjkfaa
