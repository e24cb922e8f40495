/-
  No cell of these rows narrows 'for every input' (looked for: loops, veiled, ifaces, maps, wideKeys, modest, calm, conditions, laid).
  DERIVED. THE GIVEN ROWS OF THIS SEAT. 11 by the template 'for every input the law returns true; each argument reads behind the call as it read before'; 0 by the template 'total and deterministic' (their statements: YtdpifddmhbeklaaTotals.lean).
  GIVEN WITH THE SEED: the statements are not yours to turn. If you find one false, say at which input.
  Laid BY PROGRAM, IN A SANDBOX (cutbox-rows.mjs): the forced cells as the released guide's own fill.sh prints them over the translation 70248a20f3256032… (all of the seat's roots in one cut). By AI agents, Wed Nov 11 2026. No macro, syntax, notation, axiom, sorry.
-/
import Derived.Test.YtdpifddmhbeklaaChecked
import GoSem.Claim
import GoSem.ClaimJoined
import GoSem.ClaimMapViews
import Derived.JoinedTies
import Derived.KernelRfl
namespace Go.Proofs.Ytdpifddmhbeklaa
/- THE CELL 'sum', in the pinned program and in every row, IS THE sha256 OF THE DUMP (.gsa) THAT YtdpifddmhbeklaaProg.lean LOADS. Nothing in Lean hashes anything: it is a label: what it is worth is what the hold of that sum in a sandbox is worth. -/
noncomputable def Try.pinned : Pinned := { name := "ytdpifddmhbeklaa", sum := "70248a20f325603243ac6bc3677182f9c5716ca1199d7f19af4d9e2f1dd63390", checked := Try.checked }
namespace Rows
def none {H : Type} : Left H := { results := [], args := [] }

/-- 'laws.FnExactIsLayout': WHATEVER THE INPUT: true; the input reads as it did. -/
def fnExactIsLayoutSpec : ChangeSpec := { name := "fnExactIsLayout", fn := fun _ => fun
  | [d] => { results := [.lit (.bool true)], args := [d] }
  | _ => none }
def fnExactIsLayoutRow : OpenClaim := { program := "ytdpifddmhbeklaa", sum := "70248a20f325603243ac6bc3677182f9c5716ca1199d7f19af4d9e2f1dd63390", func := "loop.example/g00879/laws.FnExactIsLayout", spec := "fnExactIsLayout", unfollowed := true, recurses := true, plainKeys := false, apart := false }
def FnExactIsLayoutSaid : Prop := fnExactIsLayoutRow.holds Try.pinned (OpenSpec.ofChange fnExactIsLayoutSpec)

/-- ITS FALSE NEIGHBOUR: 'it returns false'. Refute it at one input. -/
def fnExactIsLayoutWrong : ChangeSpec := { name := "fnExactIsLayout", fn := fun _ => fun
  | [d] => { results := [.lit (.bool false)], args := [d] }
  | _ => none }
def FnExactIsLayoutWrongFalsely : Prop := fnExactIsLayoutRow.holds Try.pinned (OpenSpec.ofChange fnExactIsLayoutWrong)

/-- 'laws.FnExactStreamIndex': WHATEVER THE INPUT: true; the input reads as it did. -/
def fnExactStreamIndexSpec : ChangeSpec := { name := "fnExactStreamIndex", fn := fun _ => fun
  | [d1, d2, d3] => { results := [.lit (.bool true)], args := [d1, d2, d3] }
  | _ => none }
def fnExactStreamIndexRow : OpenClaim := { program := "ytdpifddmhbeklaa", sum := "70248a20f325603243ac6bc3677182f9c5716ca1199d7f19af4d9e2f1dd63390", func := "loop.example/g00879/laws.FnExactStreamIndex", spec := "fnExactStreamIndex", unfollowed := true, recurses := true, plainKeys := false, apart := false }
def FnExactStreamIndexSaid : Prop := fnExactStreamIndexRow.holds Try.pinned (OpenSpec.ofChange fnExactStreamIndexSpec)

/-- ITS FALSE NEIGHBOUR: 'it returns false'. Refute it at one input. -/
def fnExactStreamIndexWrong : ChangeSpec := { name := "fnExactStreamIndex", fn := fun _ => fun
  | [d1, d2, d3] => { results := [.lit (.bool false)], args := [d1, d2, d3] }
  | _ => none }
def FnExactStreamIndexWrongFalsely : Prop := fnExactStreamIndexRow.holds Try.pinned (OpenSpec.ofChange fnExactStreamIndexWrong)

/-- 'laws.FnExactBurstBound': WHATEVER THE INPUT: true; the input reads as it did. -/
def fnExactBurstBoundSpec : ChangeSpec := { name := "fnExactBurstBound", fn := fun _ => fun
  | [d] => { results := [.lit (.bool true)], args := [d] }
  | _ => none }
def fnExactBurstBoundRow : OpenClaim := { program := "ytdpifddmhbeklaa", sum := "70248a20f325603243ac6bc3677182f9c5716ca1199d7f19af4d9e2f1dd63390", func := "loop.example/g00879/laws.FnExactBurstBound", spec := "fnExactBurstBound", unfollowed := true, recurses := true, plainKeys := false, apart := false }
def FnExactBurstBoundSaid : Prop := fnExactBurstBoundRow.holds Try.pinned (OpenSpec.ofChange fnExactBurstBoundSpec)

/-- ITS FALSE NEIGHBOUR: 'it returns false'. Refute it at one input. -/
def fnExactBurstBoundWrong : ChangeSpec := { name := "fnExactBurstBound", fn := fun _ => fun
  | [d] => { results := [.lit (.bool false)], args := [d] }
  | _ => none }
def FnExactBurstBoundWrongFalsely : Prop := fnExactBurstBoundRow.holds Try.pinned (OpenSpec.ofChange fnExactBurstBoundWrong)

/-- 'laws.FnExactReadRow': WHATEVER THE INPUT: true; the input reads as it did. -/
def fnExactReadRowSpec : ChangeSpec := { name := "fnExactReadRow", fn := fun _ => fun
  | [d1, d2] => { results := [.lit (.bool true)], args := [d1, d2] }
  | _ => none }
def fnExactReadRowRow : OpenClaim := { program := "ytdpifddmhbeklaa", sum := "70248a20f325603243ac6bc3677182f9c5716ca1199d7f19af4d9e2f1dd63390", func := "loop.example/g00879/laws.FnExactReadRow", spec := "fnExactReadRow", unfollowed := true, recurses := true, plainKeys := false, apart := false }
def FnExactReadRowSaid : Prop := fnExactReadRowRow.holds Try.pinned (OpenSpec.ofChange fnExactReadRowSpec)

/-- ITS FALSE NEIGHBOUR: 'it returns false'. Refute it at one input. -/
def fnExactReadRowWrong : ChangeSpec := { name := "fnExactReadRow", fn := fun _ => fun
  | [d1, d2] => { results := [.lit (.bool false)], args := [d1, d2] }
  | _ => none }
def FnExactReadRowWrongFalsely : Prop := fnExactReadRowRow.holds Try.pinned (OpenSpec.ofChange fnExactReadRowWrong)

/-- 'laws.FnRows': WHATEVER THE INPUT: true; the input reads as it did. -/
def fnRowsSpec : ChangeSpec := { name := "fnRows", fn := fun _ => fun
  | [d] => { results := [.lit (.bool true)], args := [d] }
  | _ => none }
def fnRowsRow : OpenClaim := { program := "ytdpifddmhbeklaa", sum := "70248a20f325603243ac6bc3677182f9c5716ca1199d7f19af4d9e2f1dd63390", func := "loop.example/g00879/laws.FnRows", spec := "fnRows", unfollowed := true, recurses := true, plainKeys := false, apart := false }
def FnRowsSaid : Prop := fnRowsRow.holds Try.pinned (OpenSpec.ofChange fnRowsSpec)

/-- ITS FALSE NEIGHBOUR: 'it returns false'. Refute it at one input. -/
def fnRowsWrong : ChangeSpec := { name := "fnRows", fn := fun _ => fun
  | [d] => { results := [.lit (.bool false)], args := [d] }
  | _ => none }
def FnRowsWrongFalsely : Prop := fnRowsRow.holds Try.pinned (OpenSpec.ofChange fnRowsWrong)

/-- 'laws.FnExactSymbolSize': WHATEVER THE INPUT: true; the input reads as it did. -/
def fnExactSymbolSizeSpec : ChangeSpec := { name := "fnExactSymbolSize", fn := fun _ => fun
  | [d1, d2] => { results := [.lit (.bool true)], args := [d1, d2] }
  | _ => none }
def fnExactSymbolSizeRow : OpenClaim := { program := "ytdpifddmhbeklaa", sum := "70248a20f325603243ac6bc3677182f9c5716ca1199d7f19af4d9e2f1dd63390", func := "loop.example/g00879/laws.FnExactSymbolSize", spec := "fnExactSymbolSize", unfollowed := true, recurses := true, plainKeys := false, apart := false }
def FnExactSymbolSizeSaid : Prop := fnExactSymbolSizeRow.holds Try.pinned (OpenSpec.ofChange fnExactSymbolSizeSpec)

/-- ITS FALSE NEIGHBOUR: 'it returns false'. Refute it at one input. -/
def fnExactSymbolSizeWrong : ChangeSpec := { name := "fnExactSymbolSize", fn := fun _ => fun
  | [d1, d2] => { results := [.lit (.bool false)], args := [d1, d2] }
  | _ => none }
def FnExactSymbolSizeWrongFalsely : Prop := fnExactSymbolSizeRow.holds Try.pinned (OpenSpec.ofChange fnExactSymbolSizeWrong)

/-- 'laws.FnExactStackGrid': WHATEVER THE INPUT: true; the input reads as it did. -/
def fnExactStackGridSpec : ChangeSpec := { name := "fnExactStackGrid", fn := fun _ => fun
  | [d1, d2, d3, d4] => { results := [.lit (.bool true)], args := [d1, d2, d3, d4] }
  | _ => none }
def fnExactStackGridRow : OpenClaim := { program := "ytdpifddmhbeklaa", sum := "70248a20f325603243ac6bc3677182f9c5716ca1199d7f19af4d9e2f1dd63390", func := "loop.example/g00879/laws.FnExactStackGrid", spec := "fnExactStackGrid", unfollowed := true, recurses := true, plainKeys := false, apart := false }
def FnExactStackGridSaid : Prop := fnExactStackGridRow.holds Try.pinned (OpenSpec.ofChange fnExactStackGridSpec)

/-- ITS FALSE NEIGHBOUR: 'it returns false'. Refute it at one input. -/
def fnExactStackGridWrong : ChangeSpec := { name := "fnExactStackGrid", fn := fun _ => fun
  | [d1, d2, d3, d4] => { results := [.lit (.bool false)], args := [d1, d2, d3, d4] }
  | _ => none }
def FnExactStackGridWrongFalsely : Prop := fnExactStackGridRow.holds Try.pinned (OpenSpec.ofChange fnExactStackGridWrong)

/-- 'laws.FnExactStackLevel': WHATEVER THE INPUT: true; the input reads as it did. -/
def fnExactStackLevelSpec : ChangeSpec := { name := "fnExactStackLevel", fn := fun _ => fun
  | [d1, d2] => { results := [.lit (.bool true)], args := [d1, d2] }
  | _ => none }
def fnExactStackLevelRow : OpenClaim := { program := "ytdpifddmhbeklaa", sum := "70248a20f325603243ac6bc3677182f9c5716ca1199d7f19af4d9e2f1dd63390", func := "loop.example/g00879/laws.FnExactStackLevel", spec := "fnExactStackLevel", unfollowed := true, recurses := true, plainKeys := false, apart := false }
def FnExactStackLevelSaid : Prop := fnExactStackLevelRow.holds Try.pinned (OpenSpec.ofChange fnExactStackLevelSpec)

/-- ITS FALSE NEIGHBOUR: 'it returns false'. Refute it at one input. -/
def fnExactStackLevelWrong : ChangeSpec := { name := "fnExactStackLevel", fn := fun _ => fun
  | [d1, d2] => { results := [.lit (.bool false)], args := [d1, d2] }
  | _ => none }
def FnExactStackLevelWrongFalsely : Prop := fnExactStackLevelRow.holds Try.pinned (OpenSpec.ofChange fnExactStackLevelWrong)

/-- 'laws.FnExactStackElements': WHATEVER THE INPUT: true; the input reads as it did. -/
def fnExactStackElementsSpec : ChangeSpec := { name := "fnExactStackElements", fn := fun _ => fun
  | [d1, d2] => { results := [.lit (.bool true)], args := [d1, d2] }
  | _ => none }
def fnExactStackElementsRow : OpenClaim := { program := "ytdpifddmhbeklaa", sum := "70248a20f325603243ac6bc3677182f9c5716ca1199d7f19af4d9e2f1dd63390", func := "loop.example/g00879/laws.FnExactStackElements", spec := "fnExactStackElements", unfollowed := true, recurses := true, plainKeys := false, apart := false }
def FnExactStackElementsSaid : Prop := fnExactStackElementsRow.holds Try.pinned (OpenSpec.ofChange fnExactStackElementsSpec)

/-- ITS FALSE NEIGHBOUR: 'it returns false'. Refute it at one input. -/
def fnExactStackElementsWrong : ChangeSpec := { name := "fnExactStackElements", fn := fun _ => fun
  | [d1, d2] => { results := [.lit (.bool false)], args := [d1, d2] }
  | _ => none }
def FnExactStackElementsWrongFalsely : Prop := fnExactStackElementsRow.holds Try.pinned (OpenSpec.ofChange fnExactStackElementsWrong)

/-- 'laws.FnStackErasures': WHATEVER THE INPUT: true; the input reads as it did. -/
def fnStackErasuresSpec : ChangeSpec := { name := "fnStackErasures", fn := fun _ => fun
  | [d] => { results := [.lit (.bool true)], args := [d] }
  | _ => none }
def fnStackErasuresRow : OpenClaim := { program := "ytdpifddmhbeklaa", sum := "70248a20f325603243ac6bc3677182f9c5716ca1199d7f19af4d9e2f1dd63390", func := "loop.example/g00879/laws.FnStackErasures", spec := "fnStackErasures", unfollowed := true, recurses := true, plainKeys := false, apart := false }
def FnStackErasuresSaid : Prop := fnStackErasuresRow.holds Try.pinned (OpenSpec.ofChange fnStackErasuresSpec)

/-- ITS FALSE NEIGHBOUR: 'it returns false'. Refute it at one input. -/
def fnStackErasuresWrong : ChangeSpec := { name := "fnStackErasures", fn := fun _ => fun
  | [d] => { results := [.lit (.bool false)], args := [d] }
  | _ => none }
def FnStackErasuresWrongFalsely : Prop := fnStackErasuresRow.holds Try.pinned (OpenSpec.ofChange fnStackErasuresWrong)

/-- 'laws.FnStacks': WHATEVER THE INPUT: true; the input reads as it did. -/
def fnStacksSpec : ChangeSpec := { name := "fnStacks", fn := fun _ => fun
  | [d] => { results := [.lit (.bool true)], args := [d] }
  | _ => none }
def fnStacksRow : OpenClaim := { program := "ytdpifddmhbeklaa", sum := "70248a20f325603243ac6bc3677182f9c5716ca1199d7f19af4d9e2f1dd63390", func := "loop.example/g00879/laws.FnStacks", spec := "fnStacks", unfollowed := true, recurses := true, plainKeys := false, apart := false }
def FnStacksSaid : Prop := fnStacksRow.holds Try.pinned (OpenSpec.ofChange fnStacksSpec)

/-- ITS FALSE NEIGHBOUR: 'it returns false'. Refute it at one input. -/
def fnStacksWrong : ChangeSpec := { name := "fnStacks", fn := fun _ => fun
  | [d] => { results := [.lit (.bool false)], args := [d] }
  | _ => none }
def FnStacksWrongFalsely : Prop := fnStacksRow.holds Try.pinned (OpenSpec.ofChange fnStacksWrong)

/- THE SECOND FORM. 'bulk': how many values and letters a reading holds, each counted each time it is reached (what is shared counts as often as it is met; a slice's spare places count too). A statement '..UptoSaid' is the law's where the arguments, and the package variables that the reading takes, are together of bulk at most 1048576: NARROWER than '..Said'. Prove '..Said' where nothing that the law and all that it calls make is longer than what came in: it says more and counts as full. Else prove '..UptoSaid'. A law counts once. -/
mutual
def uptoBulk {H : Type} : DataW H → Nat
  | .lit (.string bytes) => bytes.length + 1
  | .lit _ => 1
  | .nil => 1
  | .ptr d => uptoBulk d + 1
  | .slice elems spare => uptoBulkAll elems + uptoBulkAll spare + 1
  | .agg parts => uptoBulkAll parts + 1
  | .iface _ d => uptoBulk d + 1
  | .map entries => uptoBulkEntries entries + 1
  | .held _ => 1
def uptoBulkAll {H : Type} : List (DataW H) → Nat
  | [] => 0
  | d :: r => uptoBulk d + uptoBulkAll r
def uptoBulkEntries {H : Type} : List (Lit × DataW H) → Nat
  | [] => 0
  | x :: r => uptoBulkEntry x + uptoBulkEntries r
def uptoBulkEntry {H : Type} : Lit × DataW H → Nat
  | (.string bytes, d) => bytes.length + uptoBulk d + 1
  | (_, d) => uptoBulk d + 1
 end
def uptoSmall : (H : Type) → List (DataW H) → Bool := fun _ ds => decide (uptoBulkAll ds ≤ 1048576)
def OpenSpec.upto (s : _root_.Go.ChangeSpec) : _root_.Go.OpenSpec := { _root_.Go.OpenSpec.ofChange s with cond := some uptoSmall }

/-- 'laws.FnExactIsLayout', WHERE WHAT IT READS IS OF BULK AT MOST 1048576: true; the input reads as it did. -/
def fnExactIsLayoutUptoRow : OpenClaim := { program := "ytdpifddmhbeklaa", sum := "70248a20f325603243ac6bc3677182f9c5716ca1199d7f19af4d9e2f1dd63390", func := "loop.example/g00879/laws.FnExactIsLayout", spec := "fnExactIsLayout", unfollowed := true, recurses := true, plainKeys := false, apart := false, narrowed := true }
def FnExactIsLayoutUptoSaid : Prop := fnExactIsLayoutUptoRow.holds Try.pinned (OpenSpec.upto fnExactIsLayoutSpec)

/-- 'laws.FnExactStreamIndex', WHERE WHAT IT READS IS OF BULK AT MOST 1048576: true; the input reads as it did. -/
def fnExactStreamIndexUptoRow : OpenClaim := { program := "ytdpifddmhbeklaa", sum := "70248a20f325603243ac6bc3677182f9c5716ca1199d7f19af4d9e2f1dd63390", func := "loop.example/g00879/laws.FnExactStreamIndex", spec := "fnExactStreamIndex", unfollowed := true, recurses := true, plainKeys := false, apart := false, narrowed := true }
def FnExactStreamIndexUptoSaid : Prop := fnExactStreamIndexUptoRow.holds Try.pinned (OpenSpec.upto fnExactStreamIndexSpec)

/-- 'laws.FnExactBurstBound', WHERE WHAT IT READS IS OF BULK AT MOST 1048576: true; the input reads as it did. -/
def fnExactBurstBoundUptoRow : OpenClaim := { program := "ytdpifddmhbeklaa", sum := "70248a20f325603243ac6bc3677182f9c5716ca1199d7f19af4d9e2f1dd63390", func := "loop.example/g00879/laws.FnExactBurstBound", spec := "fnExactBurstBound", unfollowed := true, recurses := true, plainKeys := false, apart := false, narrowed := true }
def FnExactBurstBoundUptoSaid : Prop := fnExactBurstBoundUptoRow.holds Try.pinned (OpenSpec.upto fnExactBurstBoundSpec)

/-- 'laws.FnExactReadRow', WHERE WHAT IT READS IS OF BULK AT MOST 1048576: true; the input reads as it did. -/
def fnExactReadRowUptoRow : OpenClaim := { program := "ytdpifddmhbeklaa", sum := "70248a20f325603243ac6bc3677182f9c5716ca1199d7f19af4d9e2f1dd63390", func := "loop.example/g00879/laws.FnExactReadRow", spec := "fnExactReadRow", unfollowed := true, recurses := true, plainKeys := false, apart := false, narrowed := true }
def FnExactReadRowUptoSaid : Prop := fnExactReadRowUptoRow.holds Try.pinned (OpenSpec.upto fnExactReadRowSpec)

/-- 'laws.FnRows', WHERE WHAT IT READS IS OF BULK AT MOST 1048576: true; the input reads as it did. -/
def fnRowsUptoRow : OpenClaim := { program := "ytdpifddmhbeklaa", sum := "70248a20f325603243ac6bc3677182f9c5716ca1199d7f19af4d9e2f1dd63390", func := "loop.example/g00879/laws.FnRows", spec := "fnRows", unfollowed := true, recurses := true, plainKeys := false, apart := false, narrowed := true }
def FnRowsUptoSaid : Prop := fnRowsUptoRow.holds Try.pinned (OpenSpec.upto fnRowsSpec)

/-- 'laws.FnExactSymbolSize', WHERE WHAT IT READS IS OF BULK AT MOST 1048576: true; the input reads as it did. -/
def fnExactSymbolSizeUptoRow : OpenClaim := { program := "ytdpifddmhbeklaa", sum := "70248a20f325603243ac6bc3677182f9c5716ca1199d7f19af4d9e2f1dd63390", func := "loop.example/g00879/laws.FnExactSymbolSize", spec := "fnExactSymbolSize", unfollowed := true, recurses := true, plainKeys := false, apart := false, narrowed := true }
def FnExactSymbolSizeUptoSaid : Prop := fnExactSymbolSizeUptoRow.holds Try.pinned (OpenSpec.upto fnExactSymbolSizeSpec)

/-- 'laws.FnExactStackGrid', WHERE WHAT IT READS IS OF BULK AT MOST 1048576: true; the input reads as it did. -/
def fnExactStackGridUptoRow : OpenClaim := { program := "ytdpifddmhbeklaa", sum := "70248a20f325603243ac6bc3677182f9c5716ca1199d7f19af4d9e2f1dd63390", func := "loop.example/g00879/laws.FnExactStackGrid", spec := "fnExactStackGrid", unfollowed := true, recurses := true, plainKeys := false, apart := false, narrowed := true }
def FnExactStackGridUptoSaid : Prop := fnExactStackGridUptoRow.holds Try.pinned (OpenSpec.upto fnExactStackGridSpec)

/-- 'laws.FnExactStackLevel', WHERE WHAT IT READS IS OF BULK AT MOST 1048576: true; the input reads as it did. -/
def fnExactStackLevelUptoRow : OpenClaim := { program := "ytdpifddmhbeklaa", sum := "70248a20f325603243ac6bc3677182f9c5716ca1199d7f19af4d9e2f1dd63390", func := "loop.example/g00879/laws.FnExactStackLevel", spec := "fnExactStackLevel", unfollowed := true, recurses := true, plainKeys := false, apart := false, narrowed := true }
def FnExactStackLevelUptoSaid : Prop := fnExactStackLevelUptoRow.holds Try.pinned (OpenSpec.upto fnExactStackLevelSpec)

/-- 'laws.FnExactStackElements', WHERE WHAT IT READS IS OF BULK AT MOST 1048576: true; the input reads as it did. -/
def fnExactStackElementsUptoRow : OpenClaim := { program := "ytdpifddmhbeklaa", sum := "70248a20f325603243ac6bc3677182f9c5716ca1199d7f19af4d9e2f1dd63390", func := "loop.example/g00879/laws.FnExactStackElements", spec := "fnExactStackElements", unfollowed := true, recurses := true, plainKeys := false, apart := false, narrowed := true }
def FnExactStackElementsUptoSaid : Prop := fnExactStackElementsUptoRow.holds Try.pinned (OpenSpec.upto fnExactStackElementsSpec)

/-- 'laws.FnStackErasures', WHERE WHAT IT READS IS OF BULK AT MOST 1048576: true; the input reads as it did. -/
def fnStackErasuresUptoRow : OpenClaim := { program := "ytdpifddmhbeklaa", sum := "70248a20f325603243ac6bc3677182f9c5716ca1199d7f19af4d9e2f1dd63390", func := "loop.example/g00879/laws.FnStackErasures", spec := "fnStackErasures", unfollowed := true, recurses := true, plainKeys := false, apart := false, narrowed := true }
def FnStackErasuresUptoSaid : Prop := fnStackErasuresUptoRow.holds Try.pinned (OpenSpec.upto fnStackErasuresSpec)

/-- 'laws.FnStacks', WHERE WHAT IT READS IS OF BULK AT MOST 1048576: true; the input reads as it did. -/
def fnStacksUptoRow : OpenClaim := { program := "ytdpifddmhbeklaa", sum := "70248a20f325603243ac6bc3677182f9c5716ca1199d7f19af4d9e2f1dd63390", func := "loop.example/g00879/laws.FnStacks", spec := "fnStacks", unfollowed := true, recurses := true, plainKeys := false, apart := false, narrowed := true }
def FnStacksUptoSaid : Prop := fnStacksUptoRow.holds Try.pinned (OpenSpec.upto fnStacksSpec)

end Rows
end Go.Proofs.Ytdpifddmhbeklaa
