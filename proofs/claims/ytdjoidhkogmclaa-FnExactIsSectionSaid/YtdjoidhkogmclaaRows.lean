/-
  No cell of these rows narrows 'for every input' (looked for: loops, veiled, ifaces, maps, wideKeys, modest, calm, conditions, laid).
  DERIVED. THE GIVEN ROWS OF THIS SEAT. 12 by the template 'for every input the law returns true; each argument reads behind the call as it read before'; 0 by the template 'total and deterministic' (their statements: YtdjoidhkogmclaaTotals.lean).
  GIVEN WITH THE SEED: the statements are not yours to turn. If you find one false, say at which input.
  Laid BY PROGRAM, IN A SANDBOX (cutbox-rows.mjs): the forced cells as the released guide's own fill.sh prints them over the translation b0759ec05e5a4f01… (all of the seat's roots in one cut). By AI agents, Wed Nov 11 2026. No macro, syntax, notation, axiom, sorry.
-/
import Derived.Test.YtdjoidhkogmclaaChecked
import GoSem.Claim
import GoSem.ClaimJoined
import GoSem.ClaimMapViews
import Derived.JoinedTies
import Derived.KernelRfl
namespace Go.Proofs.Ytdjoidhkogmclaa
/- THE CELL 'sum', in the pinned program and in every row, IS THE sha256 OF THE DUMP (.gsa) THAT YtdjoidhkogmclaaProg.lean LOADS. Nothing in Lean hashes anything: it is a label: what it is worth is what the hold of that sum in a sandbox is worth. -/
noncomputable def Try.pinned : Pinned := { name := "ytdjoidhkogmclaa", sum := "b0759ec05e5a4f01cb183617b1afff138ca2611d370c181ff97daef85459745b", checked := Try.checked }
namespace Rows
def none {H : Type} : Left H := { results := [], args := [] }

/-- 'laws.FnExactIsSpot': WHATEVER THE INPUT: true; the input reads as it did. -/
def fnExactIsSpotSpec : ChangeSpec := { name := "fnExactIsSpot", fn := fun _ => fun
  | [d] => { results := [.lit (.bool true)], args := [d] }
  | _ => none }
def fnExactIsSpotRow : OpenClaim := { program := "ytdjoidhkogmclaa", sum := "b0759ec05e5a4f01cb183617b1afff138ca2611d370c181ff97daef85459745b", func := "loop.example/g00879/laws.FnExactIsSpot", spec := "fnExactIsSpot", apart := false }
def FnExactIsSpotSaid : Prop := fnExactIsSpotRow.holds Try.pinned (OpenSpec.ofChange fnExactIsSpotSpec)

/-- ITS FALSE NEIGHBOUR: 'it returns false'. Refute it at one input. -/
def fnExactIsSpotWrong : ChangeSpec := { name := "fnExactIsSpot", fn := fun _ => fun
  | [d] => { results := [.lit (.bool false)], args := [d] }
  | _ => none }
def FnExactIsSpotWrongFalsely : Prop := fnExactIsSpotRow.holds Try.pinned (OpenSpec.ofChange fnExactIsSpotWrong)

/-- 'laws.FnExactBleedBound': WHATEVER THE INPUT: true; the input reads as it did. -/
def fnExactBleedBoundSpec : ChangeSpec := { name := "fnExactBleedBound", fn := fun _ => fun
  | [d] => { results := [.lit (.bool true)], args := [d] }
  | _ => none }
def fnExactBleedBoundRow : OpenClaim := { program := "ytdjoidhkogmclaa", sum := "b0759ec05e5a4f01cb183617b1afff138ca2611d370c181ff97daef85459745b", func := "loop.example/g00879/laws.FnExactBleedBound", spec := "fnExactBleedBound", apart := false }
def FnExactBleedBoundSaid : Prop := fnExactBleedBoundRow.holds Try.pinned (OpenSpec.ofChange fnExactBleedBoundSpec)

/-- ITS FALSE NEIGHBOUR: 'it returns false'. Refute it at one input. -/
def fnExactBleedBoundWrong : ChangeSpec := { name := "fnExactBleedBound", fn := fun _ => fun
  | [d] => { results := [.lit (.bool false)], args := [d] }
  | _ => none }
def FnExactBleedBoundWrongFalsely : Prop := fnExactBleedBoundRow.holds Try.pinned (OpenSpec.ofChange fnExactBleedBoundWrong)

/-- 'laws.FnExactIsPrint': WHATEVER THE INPUT: true; the input reads as it did. -/
def fnExactIsPrintSpec : ChangeSpec := { name := "fnExactIsPrint", fn := fun _ => fun
  | [d] => { results := [.lit (.bool true)], args := [d] }
  | _ => none }
def fnExactIsPrintRow : OpenClaim := { program := "ytdjoidhkogmclaa", sum := "b0759ec05e5a4f01cb183617b1afff138ca2611d370c181ff97daef85459745b", func := "loop.example/g00879/laws.FnExactIsPrint", spec := "fnExactIsPrint", apart := false }
def FnExactIsPrintSaid : Prop := fnExactIsPrintRow.holds Try.pinned (OpenSpec.ofChange fnExactIsPrintSpec)

/-- ITS FALSE NEIGHBOUR: 'it returns false'. Refute it at one input. -/
def fnExactIsPrintWrong : ChangeSpec := { name := "fnExactIsPrint", fn := fun _ => fun
  | [d] => { results := [.lit (.bool false)], args := [d] }
  | _ => none }
def FnExactIsPrintWrongFalsely : Prop := fnExactIsPrintRow.holds Try.pinned (OpenSpec.ofChange fnExactIsPrintWrong)

/-- 'laws.FnExactPlainPrint': WHATEVER THE INPUT: true; the input reads as it did. -/
def fnExactPlainPrintSpec : ChangeSpec := { name := "fnExactPlainPrint", fn := fun _ => fun
  | [] => { results := [.lit (.bool true)], args := [] }
  | _ => none }
def fnExactPlainPrintRow : OpenClaim := { program := "ytdjoidhkogmclaa", sum := "b0759ec05e5a4f01cb183617b1afff138ca2611d370c181ff97daef85459745b", func := "loop.example/g00879/laws.FnExactPlainPrint", spec := "fnExactPlainPrint", apart := false }
def FnExactPlainPrintSaid : Prop := fnExactPlainPrintRow.holds Try.pinned (OpenSpec.ofChange fnExactPlainPrintSpec)

/-- ITS FALSE NEIGHBOUR: 'it returns false'. Refute it at one input. -/
def fnExactPlainPrintWrong : ChangeSpec := { name := "fnExactPlainPrint", fn := fun _ => fun
  | [] => { results := [.lit (.bool false)], args := [] }
  | _ => none }
def FnExactPlainPrintWrongFalsely : Prop := fnExactPlainPrintRow.holds Try.pinned (OpenSpec.ofChange fnExactPlainPrintWrong)

/-- 'laws.FnExactSameFinder': WHATEVER THE INPUT: true; the input reads as it did. -/
def fnExactSameFinderSpec : ChangeSpec := { name := "fnExactSameFinder", fn := fun _ => fun
  | [d1, d2] => { results := [.lit (.bool true)], args := [d1, d2] }
  | _ => none }
def fnExactSameFinderRow : OpenClaim := { program := "ytdjoidhkogmclaa", sum := "b0759ec05e5a4f01cb183617b1afff138ca2611d370c181ff97daef85459745b", func := "loop.example/g00879/laws.FnExactSameFinder", spec := "fnExactSameFinder", apart := false }
def FnExactSameFinderSaid : Prop := fnExactSameFinderRow.holds Try.pinned (OpenSpec.ofChange fnExactSameFinderSpec)

/-- ITS FALSE NEIGHBOUR: 'it returns false'. Refute it at one input. -/
def fnExactSameFinderWrong : ChangeSpec := { name := "fnExactSameFinder", fn := fun _ => fun
  | [d1, d2] => { results := [.lit (.bool false)], args := [d1, d2] }
  | _ => none }
def FnExactSameFinderWrongFalsely : Prop := fnExactSameFinderRow.holds Try.pinned (OpenSpec.ofChange fnExactSameFinderWrong)

/-- 'laws.FnExactTurnOf': WHATEVER THE INPUT: true; the input reads as it did. -/
def fnExactTurnOfSpec : ChangeSpec := { name := "fnExactTurnOf", fn := fun _ => fun
  | [d1, d2, d3] => { results := [.lit (.bool true)], args := [d1, d2, d3] }
  | _ => none }
def fnExactTurnOfRow : OpenClaim := { program := "ytdjoidhkogmclaa", sum := "b0759ec05e5a4f01cb183617b1afff138ca2611d370c181ff97daef85459745b", func := "loop.example/g00879/laws.FnExactTurnOf", spec := "fnExactTurnOf", apart := false }
def FnExactTurnOfSaid : Prop := fnExactTurnOfRow.holds Try.pinned (OpenSpec.ofChange fnExactTurnOfSpec)

/-- ITS FALSE NEIGHBOUR: 'it returns false'. Refute it at one input. -/
def fnExactTurnOfWrong : ChangeSpec := { name := "fnExactTurnOf", fn := fun _ => fun
  | [d1, d2, d3] => { results := [.lit (.bool false)], args := [d1, d2, d3] }
  | _ => none }
def FnExactTurnOfWrongFalsely : Prop := fnExactTurnOfRow.holds Try.pinned (OpenSpec.ofChange fnExactTurnOfWrong)

/-- 'laws.FnExactModuleBox': WHATEVER THE INPUT: true; the input reads as it did. -/
def fnExactModuleBoxSpec : ChangeSpec := { name := "fnExactModuleBox", fn := fun _ => fun
  | [d1, d2, d3] => { results := [.lit (.bool true)], args := [d1, d2, d3] }
  | _ => none }
def fnExactModuleBoxRow : OpenClaim := { program := "ytdjoidhkogmclaa", sum := "b0759ec05e5a4f01cb183617b1afff138ca2611d370c181ff97daef85459745b", func := "loop.example/g00879/laws.FnExactModuleBox", spec := "fnExactModuleBox", apart := false }
def FnExactModuleBoxSaid : Prop := fnExactModuleBoxRow.holds Try.pinned (OpenSpec.ofChange fnExactModuleBoxSpec)

/-- ITS FALSE NEIGHBOUR: 'it returns false'. Refute it at one input. -/
def fnExactModuleBoxWrong : ChangeSpec := { name := "fnExactModuleBox", fn := fun _ => fun
  | [d1, d2, d3] => { results := [.lit (.bool false)], args := [d1, d2, d3] }
  | _ => none }
def FnExactModuleBoxWrongFalsely : Prop := fnExactModuleBoxRow.holds Try.pinned (OpenSpec.ofChange fnExactModuleBoxWrong)

/-- 'laws.FnExactIsQuad': WHATEVER THE INPUT: true; the input reads as it did. -/
def fnExactIsQuadSpec : ChangeSpec := { name := "fnExactIsQuad", fn := fun _ => fun
  | [d] => { results := [.lit (.bool true)], args := [d] }
  | _ => none }
def fnExactIsQuadRow : OpenClaim := { program := "ytdjoidhkogmclaa", sum := "b0759ec05e5a4f01cb183617b1afff138ca2611d370c181ff97daef85459745b", func := "loop.example/g00879/laws.FnExactIsQuad", spec := "fnExactIsQuad", apart := false }
def FnExactIsQuadSaid : Prop := fnExactIsQuadRow.holds Try.pinned (OpenSpec.ofChange fnExactIsQuadSpec)

/-- ITS FALSE NEIGHBOUR: 'it returns false'. Refute it at one input. -/
def fnExactIsQuadWrong : ChangeSpec := { name := "fnExactIsQuad", fn := fun _ => fun
  | [d] => { results := [.lit (.bool false)], args := [d] }
  | _ => none }
def FnExactIsQuadWrongFalsely : Prop := fnExactIsQuadRow.holds Try.pinned (OpenSpec.ofChange fnExactIsQuadWrong)

/-- 'laws.FnExactPrintSize': WHATEVER THE INPUT: true; the input reads as it did. -/
def fnExactPrintSizeSpec : ChangeSpec := { name := "fnExactPrintSize", fn := fun _ => fun
  | [d1, d2, d3] => { results := [.lit (.bool true)], args := [d1, d2, d3] }
  | _ => none }
def fnExactPrintSizeRow : OpenClaim := { program := "ytdjoidhkogmclaa", sum := "b0759ec05e5a4f01cb183617b1afff138ca2611d370c181ff97daef85459745b", func := "loop.example/g00879/laws.FnExactPrintSize", spec := "fnExactPrintSize", apart := false }
def FnExactPrintSizeSaid : Prop := fnExactPrintSizeRow.holds Try.pinned (OpenSpec.ofChange fnExactPrintSizeSpec)

/-- ITS FALSE NEIGHBOUR: 'it returns false'. Refute it at one input. -/
def fnExactPrintSizeWrong : ChangeSpec := { name := "fnExactPrintSize", fn := fun _ => fun
  | [d1, d2, d3] => { results := [.lit (.bool false)], args := [d1, d2, d3] }
  | _ => none }
def FnExactPrintSizeWrongFalsely : Prop := fnExactPrintSizeRow.holds Try.pinned (OpenSpec.ofChange fnExactPrintSizeWrong)

/-- 'laws.FnExactOrderSpots': WHATEVER THE INPUT: true; the input reads as it did. -/
def fnExactOrderSpotsSpec : ChangeSpec := { name := "fnExactOrderSpots", fn := fun _ => fun
  | [d1, d2, d3] => { results := [.lit (.bool true)], args := [d1, d2, d3] }
  | _ => none }
def fnExactOrderSpotsRow : OpenClaim := { program := "ytdjoidhkogmclaa", sum := "b0759ec05e5a4f01cb183617b1afff138ca2611d370c181ff97daef85459745b", func := "loop.example/g00879/laws.FnExactOrderSpots", spec := "fnExactOrderSpots", apart := false }
def FnExactOrderSpotsSaid : Prop := fnExactOrderSpotsRow.holds Try.pinned (OpenSpec.ofChange fnExactOrderSpotsSpec)

/-- ITS FALSE NEIGHBOUR: 'it returns false'. Refute it at one input. -/
def fnExactOrderSpotsWrong : ChangeSpec := { name := "fnExactOrderSpots", fn := fun _ => fun
  | [d1, d2, d3] => { results := [.lit (.bool false)], args := [d1, d2, d3] }
  | _ => none }
def FnExactOrderSpotsWrongFalsely : Prop := fnExactOrderSpotsRow.holds Try.pinned (OpenSpec.ofChange fnExactOrderSpotsWrong)

/-- 'laws.FnExactCornersOf': WHATEVER THE INPUT: true; the input reads as it did. -/
def fnExactCornersOfSpec : ChangeSpec := { name := "fnExactCornersOf", fn := fun _ => fun
  | [d1, d2, d3, d4] => { results := [.lit (.bool true)], args := [d1, d2, d3, d4] }
  | _ => none }
def fnExactCornersOfRow : OpenClaim := { program := "ytdjoidhkogmclaa", sum := "b0759ec05e5a4f01cb183617b1afff138ca2611d370c181ff97daef85459745b", func := "loop.example/g00879/laws.FnExactCornersOf", spec := "fnExactCornersOf", apart := false }
def FnExactCornersOfSaid : Prop := fnExactCornersOfRow.holds Try.pinned (OpenSpec.ofChange fnExactCornersOfSpec)

/-- ITS FALSE NEIGHBOUR: 'it returns false'. Refute it at one input. -/
def fnExactCornersOfWrong : ChangeSpec := { name := "fnExactCornersOf", fn := fun _ => fun
  | [d1, d2, d3, d4] => { results := [.lit (.bool false)], args := [d1, d2, d3, d4] }
  | _ => none }
def FnExactCornersOfWrongFalsely : Prop := fnExactCornersOfRow.holds Try.pinned (OpenSpec.ofChange fnExactCornersOfWrong)

/-- 'laws.FnExactIsSection': WHATEVER THE INPUT: true; the input reads as it did. -/
def fnExactIsSectionSpec : ChangeSpec := { name := "fnExactIsSection", fn := fun _ => fun
  | [d] => { results := [.lit (.bool true)], args := [d] }
  | _ => none }
def fnExactIsSectionRow : OpenClaim := { program := "ytdjoidhkogmclaa", sum := "b0759ec05e5a4f01cb183617b1afff138ca2611d370c181ff97daef85459745b", func := "loop.example/g00879/laws.FnExactIsSection", spec := "fnExactIsSection", apart := false }
def FnExactIsSectionSaid : Prop := fnExactIsSectionRow.holds Try.pinned (OpenSpec.ofChange fnExactIsSectionSpec)

/-- ITS FALSE NEIGHBOUR: 'it returns false'. Refute it at one input. -/
def fnExactIsSectionWrong : ChangeSpec := { name := "fnExactIsSection", fn := fun _ => fun
  | [d] => { results := [.lit (.bool false)], args := [d] }
  | _ => none }
def FnExactIsSectionWrongFalsely : Prop := fnExactIsSectionRow.holds Try.pinned (OpenSpec.ofChange fnExactIsSectionWrong)

/- THE SECOND FORM. 'bulk': how many values and letters a reading holds, each counted each time it is reached (what is shared counts as often as it is met; a slice's spare places count too). A statement '..UptoSaid' is the law's where the arguments, and the package variables that the reading takes, are together of bulk at most 1048576: NARROWER than '..Said'. Prove '..Said' where nothing that the law and all that it calls make is longer than what came in: it says more and counts as full. Else prove '..UptoSaid'. A law counts once. -/
mutual
def uptoBulk {H : Type} : DataW H → Nat
  | .lit (.string bytes) => bytes.length + 1
  | .lit _ => 1
  | .nil => 1
  | .ptr d => uptoBulk d + 1
  | .slice elems spare => uptoBulkAll elems + uptoBulkAll spare + 1
  | .agg parts => uptoBulkAll parts + 1
  | .iface _ d => uptoBulk d + 1
  | .map entries => uptoBulkEntries entries + 1
  | .held _ => 1
def uptoBulkAll {H : Type} : List (DataW H) → Nat
  | [] => 0
  | d :: r => uptoBulk d + uptoBulkAll r
def uptoBulkEntries {H : Type} : List (Lit × DataW H) → Nat
  | [] => 0
  | x :: r => uptoBulkEntry x + uptoBulkEntries r
def uptoBulkEntry {H : Type} : Lit × DataW H → Nat
  | (.string bytes, d) => bytes.length + uptoBulk d + 1
  | (_, d) => uptoBulk d + 1
 end
def uptoSmall : (H : Type) → List (DataW H) → Bool := fun _ ds => decide (uptoBulkAll ds ≤ 1048576)
def OpenSpec.upto (s : _root_.Go.ChangeSpec) : _root_.Go.OpenSpec := { _root_.Go.OpenSpec.ofChange s with cond := some uptoSmall }

/-- 'laws.FnExactIsSpot', WHERE WHAT IT READS IS OF BULK AT MOST 1048576: true; the input reads as it did. -/
def fnExactIsSpotUptoRow : OpenClaim := { program := "ytdjoidhkogmclaa", sum := "b0759ec05e5a4f01cb183617b1afff138ca2611d370c181ff97daef85459745b", func := "loop.example/g00879/laws.FnExactIsSpot", spec := "fnExactIsSpot", apart := false, narrowed := true }
def FnExactIsSpotUptoSaid : Prop := fnExactIsSpotUptoRow.holds Try.pinned (OpenSpec.upto fnExactIsSpotSpec)

/-- 'laws.FnExactBleedBound', WHERE WHAT IT READS IS OF BULK AT MOST 1048576: true; the input reads as it did. -/
def fnExactBleedBoundUptoRow : OpenClaim := { program := "ytdjoidhkogmclaa", sum := "b0759ec05e5a4f01cb183617b1afff138ca2611d370c181ff97daef85459745b", func := "loop.example/g00879/laws.FnExactBleedBound", spec := "fnExactBleedBound", apart := false, narrowed := true }
def FnExactBleedBoundUptoSaid : Prop := fnExactBleedBoundUptoRow.holds Try.pinned (OpenSpec.upto fnExactBleedBoundSpec)

/-- 'laws.FnExactIsPrint', WHERE WHAT IT READS IS OF BULK AT MOST 1048576: true; the input reads as it did. -/
def fnExactIsPrintUptoRow : OpenClaim := { program := "ytdjoidhkogmclaa", sum := "b0759ec05e5a4f01cb183617b1afff138ca2611d370c181ff97daef85459745b", func := "loop.example/g00879/laws.FnExactIsPrint", spec := "fnExactIsPrint", apart := false, narrowed := true }
def FnExactIsPrintUptoSaid : Prop := fnExactIsPrintUptoRow.holds Try.pinned (OpenSpec.upto fnExactIsPrintSpec)

/-- 'laws.FnExactPlainPrint', WHERE WHAT IT READS IS OF BULK AT MOST 1048576: true; the input reads as it did. -/
def fnExactPlainPrintUptoRow : OpenClaim := { program := "ytdjoidhkogmclaa", sum := "b0759ec05e5a4f01cb183617b1afff138ca2611d370c181ff97daef85459745b", func := "loop.example/g00879/laws.FnExactPlainPrint", spec := "fnExactPlainPrint", apart := false, narrowed := true }
def FnExactPlainPrintUptoSaid : Prop := fnExactPlainPrintUptoRow.holds Try.pinned (OpenSpec.upto fnExactPlainPrintSpec)

/-- 'laws.FnExactSameFinder', WHERE WHAT IT READS IS OF BULK AT MOST 1048576: true; the input reads as it did. -/
def fnExactSameFinderUptoRow : OpenClaim := { program := "ytdjoidhkogmclaa", sum := "b0759ec05e5a4f01cb183617b1afff138ca2611d370c181ff97daef85459745b", func := "loop.example/g00879/laws.FnExactSameFinder", spec := "fnExactSameFinder", apart := false, narrowed := true }
def FnExactSameFinderUptoSaid : Prop := fnExactSameFinderUptoRow.holds Try.pinned (OpenSpec.upto fnExactSameFinderSpec)

/-- 'laws.FnExactTurnOf', WHERE WHAT IT READS IS OF BULK AT MOST 1048576: true; the input reads as it did. -/
def fnExactTurnOfUptoRow : OpenClaim := { program := "ytdjoidhkogmclaa", sum := "b0759ec05e5a4f01cb183617b1afff138ca2611d370c181ff97daef85459745b", func := "loop.example/g00879/laws.FnExactTurnOf", spec := "fnExactTurnOf", apart := false, narrowed := true }
def FnExactTurnOfUptoSaid : Prop := fnExactTurnOfUptoRow.holds Try.pinned (OpenSpec.upto fnExactTurnOfSpec)

/-- 'laws.FnExactModuleBox', WHERE WHAT IT READS IS OF BULK AT MOST 1048576: true; the input reads as it did. -/
def fnExactModuleBoxUptoRow : OpenClaim := { program := "ytdjoidhkogmclaa", sum := "b0759ec05e5a4f01cb183617b1afff138ca2611d370c181ff97daef85459745b", func := "loop.example/g00879/laws.FnExactModuleBox", spec := "fnExactModuleBox", apart := false, narrowed := true }
def FnExactModuleBoxUptoSaid : Prop := fnExactModuleBoxUptoRow.holds Try.pinned (OpenSpec.upto fnExactModuleBoxSpec)

/-- 'laws.FnExactIsQuad', WHERE WHAT IT READS IS OF BULK AT MOST 1048576: true; the input reads as it did. -/
def fnExactIsQuadUptoRow : OpenClaim := { program := "ytdjoidhkogmclaa", sum := "b0759ec05e5a4f01cb183617b1afff138ca2611d370c181ff97daef85459745b", func := "loop.example/g00879/laws.FnExactIsQuad", spec := "fnExactIsQuad", apart := false, narrowed := true }
def FnExactIsQuadUptoSaid : Prop := fnExactIsQuadUptoRow.holds Try.pinned (OpenSpec.upto fnExactIsQuadSpec)

/-- 'laws.FnExactPrintSize', WHERE WHAT IT READS IS OF BULK AT MOST 1048576: true; the input reads as it did. -/
def fnExactPrintSizeUptoRow : OpenClaim := { program := "ytdjoidhkogmclaa", sum := "b0759ec05e5a4f01cb183617b1afff138ca2611d370c181ff97daef85459745b", func := "loop.example/g00879/laws.FnExactPrintSize", spec := "fnExactPrintSize", apart := false, narrowed := true }
def FnExactPrintSizeUptoSaid : Prop := fnExactPrintSizeUptoRow.holds Try.pinned (OpenSpec.upto fnExactPrintSizeSpec)

/-- 'laws.FnExactOrderSpots', WHERE WHAT IT READS IS OF BULK AT MOST 1048576: true; the input reads as it did. -/
def fnExactOrderSpotsUptoRow : OpenClaim := { program := "ytdjoidhkogmclaa", sum := "b0759ec05e5a4f01cb183617b1afff138ca2611d370c181ff97daef85459745b", func := "loop.example/g00879/laws.FnExactOrderSpots", spec := "fnExactOrderSpots", apart := false, narrowed := true }
def FnExactOrderSpotsUptoSaid : Prop := fnExactOrderSpotsUptoRow.holds Try.pinned (OpenSpec.upto fnExactOrderSpotsSpec)

/-- 'laws.FnExactCornersOf', WHERE WHAT IT READS IS OF BULK AT MOST 1048576: true; the input reads as it did. -/
def fnExactCornersOfUptoRow : OpenClaim := { program := "ytdjoidhkogmclaa", sum := "b0759ec05e5a4f01cb183617b1afff138ca2611d370c181ff97daef85459745b", func := "loop.example/g00879/laws.FnExactCornersOf", spec := "fnExactCornersOf", apart := false, narrowed := true }
def FnExactCornersOfUptoSaid : Prop := fnExactCornersOfUptoRow.holds Try.pinned (OpenSpec.upto fnExactCornersOfSpec)

/-- 'laws.FnExactIsSection', WHERE WHAT IT READS IS OF BULK AT MOST 1048576: true; the input reads as it did. -/
def fnExactIsSectionUptoRow : OpenClaim := { program := "ytdjoidhkogmclaa", sum := "b0759ec05e5a4f01cb183617b1afff138ca2611d370c181ff97daef85459745b", func := "loop.example/g00879/laws.FnExactIsSection", spec := "fnExactIsSection", apart := false, narrowed := true }
def FnExactIsSectionUptoSaid : Prop := fnExactIsSectionUptoRow.holds Try.pinned (OpenSpec.upto fnExactIsSectionSpec)

end Rows
end Go.Proofs.Ytdjoidhkogmclaa
