/-
  No cell of these rows narrows 'for every input' (looked for: loops, veiled, ifaces, maps, wideKeys, modest, calm, conditions, laid).
  DERIVED. THE GIVEN ROWS OF THIS SEAT. 9 by the template 'for every input the law returns true; each argument reads behind the call as it read before'; 0 by the template 'total and deterministic' (their statements: YtfiddbmjgncabaaTotals.lean).
  GIVEN WITH THE SEED: the statements are not yours to turn. If you find one false, say at which input.
  Laid BY PROGRAM, IN A SANDBOX (cutbox-rows.mjs): the forced cells as the released guide's own fill.sh prints them over the translation 76b52a056d2d66e4… (all of the seat's roots in one cut). By AI agents, Wed Nov 11 2026. No macro, syntax, notation, axiom, sorry.
-/
import Derived.Test.YtfiddbmjgncabaaChecked
import GoSem.Claim
import GoSem.ClaimJoined
import GoSem.ClaimMapViews
import Derived.JoinedTies
import Derived.KernelRfl
namespace Go.Proofs.Ytfiddbmjgncabaa
/- THE CELL 'sum', in the pinned program and in every row, IS THE sha256 OF THE DUMP (.gsa) THAT YtfiddbmjgncabaaProg.lean LOADS. Nothing in Lean hashes anything: it is a label: what it is worth is what the hold of that sum in a sandbox is worth. -/
noncomputable def Try.pinned : Pinned := { name := "ytfiddbmjgncabaa", sum := "76b52a056d2d66e4124ec88ed5fb8ca6bd40258a17d24fd7a410acfb7d354e17", checked := Try.checked }
namespace Rows
def none {H : Type} : Left H := { results := [], args := [] }

/-- 'laws.FnExactSampleGrid': WHATEVER THE INPUT: true; the input reads as it did. -/
def fnExactSampleGridSpec : ChangeSpec := { name := "fnExactSampleGrid", fn := fun _ => fun
  | [d1, d2, d3, d4, d5] => { results := [.lit (.bool true)], args := [d1, d2, d3, d4, d5] }
  | _ => none }
def fnExactSampleGridRow : OpenClaim := { program := "ytfiddbmjgncabaa", sum := "76b52a056d2d66e4124ec88ed5fb8ca6bd40258a17d24fd7a410acfb7d354e17", func := "loop.example/g00879/laws.FnExactSampleGrid", spec := "fnExactSampleGrid", plainKeys := false, apart := false }
def FnExactSampleGridSaid : Prop := fnExactSampleGridRow.holds Try.pinned (OpenSpec.ofChange fnExactSampleGridSpec)

/-- ITS FALSE NEIGHBOUR: 'it returns false'. Refute it at one input. -/
def fnExactSampleGridWrong : ChangeSpec := { name := "fnExactSampleGrid", fn := fun _ => fun
  | [d1, d2, d3, d4, d5] => { results := [.lit (.bool false)], args := [d1, d2, d3, d4, d5] }
  | _ => none }
def FnExactSampleGridWrongFalsely : Prop := fnExactSampleGridRow.holds Try.pinned (OpenSpec.ofChange fnExactSampleGridWrong)

/-- 'laws.FnExactPrintGrid': WHATEVER THE INPUT: true; the input reads as it did. -/
def fnExactPrintGridSpec : ChangeSpec := { name := "fnExactPrintGrid", fn := fun _ => fun
  | [d1, d2] => { results := [.lit (.bool true)], args := [d1, d2] }
  | _ => none }
def fnExactPrintGridRow : OpenClaim := { program := "ytfiddbmjgncabaa", sum := "76b52a056d2d66e4124ec88ed5fb8ca6bd40258a17d24fd7a410acfb7d354e17", func := "loop.example/g00879/laws.FnExactPrintGrid", spec := "fnExactPrintGrid", unfollowed := true, recurses := true, plainKeys := false, apart := false }
def FnExactPrintGridSaid : Prop := fnExactPrintGridRow.holds Try.pinned (OpenSpec.ofChange fnExactPrintGridSpec)

/-- ITS FALSE NEIGHBOUR: 'it returns false'. Refute it at one input. -/
def fnExactPrintGridWrong : ChangeSpec := { name := "fnExactPrintGrid", fn := fun _ => fun
  | [d1, d2] => { results := [.lit (.bool false)], args := [d1, d2] }
  | _ => none }
def FnExactPrintGridWrongFalsely : Prop := fnExactPrintGridRow.holds Try.pinned (OpenSpec.ofChange fnExactPrintGridWrong)

/-- 'laws.FnModuleBoxes': WHATEVER THE INPUT: true; the input reads as it did. -/
def fnModuleBoxesSpec : ChangeSpec := { name := "fnModuleBoxes", fn := fun _ => fun
  | [d] => { results := [.lit (.bool true)], args := [d] }
  | _ => none }
def fnModuleBoxesRow : OpenClaim := { program := "ytfiddbmjgncabaa", sum := "76b52a056d2d66e4124ec88ed5fb8ca6bd40258a17d24fd7a410acfb7d354e17", func := "loop.example/g00879/laws.FnModuleBoxes", spec := "fnModuleBoxes", unfollowed := true, recurses := true, plainKeys := false, apart := false }
def FnModuleBoxesSaid : Prop := fnModuleBoxesRow.holds Try.pinned (OpenSpec.ofChange fnModuleBoxesSpec)

/-- ITS FALSE NEIGHBOUR: 'it returns false'. Refute it at one input. -/
def fnModuleBoxesWrong : ChangeSpec := { name := "fnModuleBoxes", fn := fun _ => fun
  | [d] => { results := [.lit (.bool false)], args := [d] }
  | _ => none }
def FnModuleBoxesWrongFalsely : Prop := fnModuleBoxesRow.holds Try.pinned (OpenSpec.ofChange fnModuleBoxesWrong)

/-- 'laws.FnExactCandidatesOf': WHATEVER THE INPUT: true; the input reads as it did. -/
def fnExactCandidatesOfSpec : ChangeSpec := { name := "fnExactCandidatesOf", fn := fun _ => fun
  | [d] => { results := [.lit (.bool true)], args := [d] }
  | _ => none }
def fnExactCandidatesOfRow : OpenClaim := { program := "ytfiddbmjgncabaa", sum := "76b52a056d2d66e4124ec88ed5fb8ca6bd40258a17d24fd7a410acfb7d354e17", func := "loop.example/g00879/laws.FnExactCandidatesOf", spec := "fnExactCandidatesOf", unfollowed := true, recurses := true, plainKeys := false, apart := false }
def FnExactCandidatesOfSaid : Prop := fnExactCandidatesOfRow.holds Try.pinned (OpenSpec.ofChange fnExactCandidatesOfSpec)

/-- ITS FALSE NEIGHBOUR: 'it returns false'. Refute it at one input. -/
def fnExactCandidatesOfWrong : ChangeSpec := { name := "fnExactCandidatesOf", fn := fun _ => fun
  | [d] => { results := [.lit (.bool false)], args := [d] }
  | _ => none }
def FnExactCandidatesOfWrongFalsely : Prop := fnExactCandidatesOfRow.holds Try.pinned (OpenSpec.ofChange fnExactCandidatesOfWrong)

/-- 'laws.FnExactFindersOf': WHATEVER THE INPUT: true; the input reads as it did. -/
def fnExactFindersOfSpec : ChangeSpec := { name := "fnExactFindersOf", fn := fun _ => fun
  | [d] => { results := [.lit (.bool true)], args := [d] }
  | _ => none }
def fnExactFindersOfRow : OpenClaim := { program := "ytfiddbmjgncabaa", sum := "76b52a056d2d66e4124ec88ed5fb8ca6bd40258a17d24fd7a410acfb7d354e17", func := "loop.example/g00879/laws.FnExactFindersOf", spec := "fnExactFindersOf", unfollowed := true, recurses := true, plainKeys := false, apart := false }
def FnExactFindersOfSaid : Prop := fnExactFindersOfRow.holds Try.pinned (OpenSpec.ofChange fnExactFindersOfSpec)

/-- ITS FALSE NEIGHBOUR: 'it returns false'. Refute it at one input. -/
def fnExactFindersOfWrong : ChangeSpec := { name := "fnExactFindersOf", fn := fun _ => fun
  | [d] => { results := [.lit (.bool false)], args := [d] }
  | _ => none }
def FnExactFindersOfWrongFalsely : Prop := fnExactFindersOfRow.holds Try.pinned (OpenSpec.ofChange fnExactFindersOfWrong)

/-- 'laws.FnExactMedianRaster': WHATEVER THE INPUT: true; the input reads as it did. -/
def fnExactMedianRasterSpec : ChangeSpec := { name := "fnExactMedianRaster", fn := fun _ => fun
  | [d] => { results := [.lit (.bool true)], args := [d] }
  | _ => none }
def fnExactMedianRasterRow : OpenClaim := { program := "ytfiddbmjgncabaa", sum := "76b52a056d2d66e4124ec88ed5fb8ca6bd40258a17d24fd7a410acfb7d354e17", func := "loop.example/g00879/laws.FnExactMedianRaster", spec := "fnExactMedianRaster", unfollowed := true, recurses := true, plainKeys := false, apart := false }
def FnExactMedianRasterSaid : Prop := fnExactMedianRasterRow.holds Try.pinned (OpenSpec.ofChange fnExactMedianRasterSpec)

/-- ITS FALSE NEIGHBOUR: 'it returns false'. Refute it at one input. -/
def fnExactMedianRasterWrong : ChangeSpec := { name := "fnExactMedianRaster", fn := fun _ => fun
  | [d] => { results := [.lit (.bool false)], args := [d] }
  | _ => none }
def FnExactMedianRasterWrongFalsely : Prop := fnExactMedianRasterRow.holds Try.pinned (OpenSpec.ofChange fnExactMedianRasterWrong)

/-- 'laws.FnMedians': WHATEVER THE INPUT: true; the input reads as it did. -/
def fnMediansSpec : ChangeSpec := { name := "fnMedians", fn := fun _ => fun
  | [d] => { results := [.lit (.bool true)], args := [d] }
  | _ => none }
def fnMediansRow : OpenClaim := { program := "ytfiddbmjgncabaa", sum := "76b52a056d2d66e4124ec88ed5fb8ca6bd40258a17d24fd7a410acfb7d354e17", func := "loop.example/g00879/laws.FnMedians", spec := "fnMedians", unfollowed := true, recurses := true, plainKeys := false, apart := false }
def FnMediansSaid : Prop := fnMediansRow.holds Try.pinned (OpenSpec.ofChange fnMediansSpec)

/-- ITS FALSE NEIGHBOUR: 'it returns false'. Refute it at one input. -/
def fnMediansWrong : ChangeSpec := { name := "fnMedians", fn := fun _ => fun
  | [d] => { results := [.lit (.bool false)], args := [d] }
  | _ => none }
def FnMediansWrongFalsely : Prop := fnMediansRow.holds Try.pinned (OpenSpec.ofChange fnMediansWrong)

/-- 'laws.FnExactReadRow': WHATEVER THE INPUT: true; the input reads as it did. -/
def fnExactReadRowSpec : ChangeSpec := { name := "fnExactReadRow", fn := fun _ => fun
  | [d1, d2] => { results := [.lit (.bool true)], args := [d1, d2] }
  | _ => none }
def fnExactReadRowRow : OpenClaim := { program := "ytfiddbmjgncabaa", sum := "76b52a056d2d66e4124ec88ed5fb8ca6bd40258a17d24fd7a410acfb7d354e17", func := "loop.example/g00879/laws.FnExactReadRow", spec := "fnExactReadRow", unfollowed := true, recurses := true, plainKeys := false, apart := false }
def FnExactReadRowSaid : Prop := fnExactReadRowRow.holds Try.pinned (OpenSpec.ofChange fnExactReadRowSpec)

/-- ITS FALSE NEIGHBOUR: 'it returns false'. Refute it at one input. -/
def fnExactReadRowWrong : ChangeSpec := { name := "fnExactReadRow", fn := fun _ => fun
  | [d1, d2] => { results := [.lit (.bool false)], args := [d1, d2] }
  | _ => none }
def FnExactReadRowWrongFalsely : Prop := fnExactReadRowRow.holds Try.pinned (OpenSpec.ofChange fnExactReadRowWrong)

/-- 'laws.FnRows': WHATEVER THE INPUT: true; the input reads as it did. -/
def fnRowsSpec : ChangeSpec := { name := "fnRows", fn := fun _ => fun
  | [d] => { results := [.lit (.bool true)], args := [d] }
  | _ => none }
def fnRowsRow : OpenClaim := { program := "ytfiddbmjgncabaa", sum := "76b52a056d2d66e4124ec88ed5fb8ca6bd40258a17d24fd7a410acfb7d354e17", func := "loop.example/g00879/laws.FnRows", spec := "fnRows", unfollowed := true, recurses := true, plainKeys := false, apart := false }
def FnRowsSaid : Prop := fnRowsRow.holds Try.pinned (OpenSpec.ofChange fnRowsSpec)

/-- ITS FALSE NEIGHBOUR: 'it returns false'. Refute it at one input. -/
def fnRowsWrong : ChangeSpec := { name := "fnRows", fn := fun _ => fun
  | [d] => { results := [.lit (.bool false)], args := [d] }
  | _ => none }
def FnRowsWrongFalsely : Prop := fnRowsRow.holds Try.pinned (OpenSpec.ofChange fnRowsWrong)

/- THE SECOND FORM. 'bulk': how many values and letters a reading holds, each counted each time it is reached (what is shared counts as often as it is met; a slice's spare places count too). A statement '..UptoSaid' is the law's where the arguments, and the package variables that the reading takes, are together of bulk at most 1048576: NARROWER than '..Said'. Prove '..Said' where nothing that the law and all that it calls make is longer than what came in: it says more and counts as full. Else prove '..UptoSaid'. A law counts once. -/
mutual
def uptoBulk {H : Type} : DataW H → Nat
  | .lit (.string bytes) => bytes.length + 1
  | .lit _ => 1
  | .nil => 1
  | .ptr d => uptoBulk d + 1
  | .slice elems spare => uptoBulkAll elems + uptoBulkAll spare + 1
  | .agg parts => uptoBulkAll parts + 1
  | .iface _ d => uptoBulk d + 1
  | .map entries => uptoBulkEntries entries + 1
  | .held _ => 1
def uptoBulkAll {H : Type} : List (DataW H) → Nat
  | [] => 0
  | d :: r => uptoBulk d + uptoBulkAll r
def uptoBulkEntries {H : Type} : List (Lit × DataW H) → Nat
  | [] => 0
  | x :: r => uptoBulkEntry x + uptoBulkEntries r
def uptoBulkEntry {H : Type} : Lit × DataW H → Nat
  | (.string bytes, d) => bytes.length + uptoBulk d + 1
  | (_, d) => uptoBulk d + 1
 end
def uptoSmall : (H : Type) → List (DataW H) → Bool := fun _ ds => decide (uptoBulkAll ds ≤ 1048576)
def OpenSpec.upto (s : _root_.Go.ChangeSpec) : _root_.Go.OpenSpec := { _root_.Go.OpenSpec.ofChange s with cond := some uptoSmall }

/-- 'laws.FnExactSampleGrid', WHERE WHAT IT READS IS OF BULK AT MOST 1048576: true; the input reads as it did. -/
def fnExactSampleGridUptoRow : OpenClaim := { program := "ytfiddbmjgncabaa", sum := "76b52a056d2d66e4124ec88ed5fb8ca6bd40258a17d24fd7a410acfb7d354e17", func := "loop.example/g00879/laws.FnExactSampleGrid", spec := "fnExactSampleGrid", plainKeys := false, apart := false, narrowed := true }
def FnExactSampleGridUptoSaid : Prop := fnExactSampleGridUptoRow.holds Try.pinned (OpenSpec.upto fnExactSampleGridSpec)

/-- 'laws.FnExactPrintGrid', WHERE WHAT IT READS IS OF BULK AT MOST 1048576: true; the input reads as it did. -/
def fnExactPrintGridUptoRow : OpenClaim := { program := "ytfiddbmjgncabaa", sum := "76b52a056d2d66e4124ec88ed5fb8ca6bd40258a17d24fd7a410acfb7d354e17", func := "loop.example/g00879/laws.FnExactPrintGrid", spec := "fnExactPrintGrid", unfollowed := true, recurses := true, plainKeys := false, apart := false, narrowed := true }
def FnExactPrintGridUptoSaid : Prop := fnExactPrintGridUptoRow.holds Try.pinned (OpenSpec.upto fnExactPrintGridSpec)

/-- 'laws.FnModuleBoxes', WHERE WHAT IT READS IS OF BULK AT MOST 1048576: true; the input reads as it did. -/
def fnModuleBoxesUptoRow : OpenClaim := { program := "ytfiddbmjgncabaa", sum := "76b52a056d2d66e4124ec88ed5fb8ca6bd40258a17d24fd7a410acfb7d354e17", func := "loop.example/g00879/laws.FnModuleBoxes", spec := "fnModuleBoxes", unfollowed := true, recurses := true, plainKeys := false, apart := false, narrowed := true }
def FnModuleBoxesUptoSaid : Prop := fnModuleBoxesUptoRow.holds Try.pinned (OpenSpec.upto fnModuleBoxesSpec)

/-- 'laws.FnExactCandidatesOf', WHERE WHAT IT READS IS OF BULK AT MOST 1048576: true; the input reads as it did. -/
def fnExactCandidatesOfUptoRow : OpenClaim := { program := "ytfiddbmjgncabaa", sum := "76b52a056d2d66e4124ec88ed5fb8ca6bd40258a17d24fd7a410acfb7d354e17", func := "loop.example/g00879/laws.FnExactCandidatesOf", spec := "fnExactCandidatesOf", unfollowed := true, recurses := true, plainKeys := false, apart := false, narrowed := true }
def FnExactCandidatesOfUptoSaid : Prop := fnExactCandidatesOfUptoRow.holds Try.pinned (OpenSpec.upto fnExactCandidatesOfSpec)

/-- 'laws.FnExactFindersOf', WHERE WHAT IT READS IS OF BULK AT MOST 1048576: true; the input reads as it did. -/
def fnExactFindersOfUptoRow : OpenClaim := { program := "ytfiddbmjgncabaa", sum := "76b52a056d2d66e4124ec88ed5fb8ca6bd40258a17d24fd7a410acfb7d354e17", func := "loop.example/g00879/laws.FnExactFindersOf", spec := "fnExactFindersOf", unfollowed := true, recurses := true, plainKeys := false, apart := false, narrowed := true }
def FnExactFindersOfUptoSaid : Prop := fnExactFindersOfUptoRow.holds Try.pinned (OpenSpec.upto fnExactFindersOfSpec)

/-- 'laws.FnExactMedianRaster', WHERE WHAT IT READS IS OF BULK AT MOST 1048576: true; the input reads as it did. -/
def fnExactMedianRasterUptoRow : OpenClaim := { program := "ytfiddbmjgncabaa", sum := "76b52a056d2d66e4124ec88ed5fb8ca6bd40258a17d24fd7a410acfb7d354e17", func := "loop.example/g00879/laws.FnExactMedianRaster", spec := "fnExactMedianRaster", unfollowed := true, recurses := true, plainKeys := false, apart := false, narrowed := true }
def FnExactMedianRasterUptoSaid : Prop := fnExactMedianRasterUptoRow.holds Try.pinned (OpenSpec.upto fnExactMedianRasterSpec)

/-- 'laws.FnMedians', WHERE WHAT IT READS IS OF BULK AT MOST 1048576: true; the input reads as it did. -/
def fnMediansUptoRow : OpenClaim := { program := "ytfiddbmjgncabaa", sum := "76b52a056d2d66e4124ec88ed5fb8ca6bd40258a17d24fd7a410acfb7d354e17", func := "loop.example/g00879/laws.FnMedians", spec := "fnMedians", unfollowed := true, recurses := true, plainKeys := false, apart := false, narrowed := true }
def FnMediansUptoSaid : Prop := fnMediansUptoRow.holds Try.pinned (OpenSpec.upto fnMediansSpec)

/-- 'laws.FnExactReadRow', WHERE WHAT IT READS IS OF BULK AT MOST 1048576: true; the input reads as it did. -/
def fnExactReadRowUptoRow : OpenClaim := { program := "ytfiddbmjgncabaa", sum := "76b52a056d2d66e4124ec88ed5fb8ca6bd40258a17d24fd7a410acfb7d354e17", func := "loop.example/g00879/laws.FnExactReadRow", spec := "fnExactReadRow", unfollowed := true, recurses := true, plainKeys := false, apart := false, narrowed := true }
def FnExactReadRowUptoSaid : Prop := fnExactReadRowUptoRow.holds Try.pinned (OpenSpec.upto fnExactReadRowSpec)

/-- 'laws.FnRows', WHERE WHAT IT READS IS OF BULK AT MOST 1048576: true; the input reads as it did. -/
def fnRowsUptoRow : OpenClaim := { program := "ytfiddbmjgncabaa", sum := "76b52a056d2d66e4124ec88ed5fb8ca6bd40258a17d24fd7a410acfb7d354e17", func := "loop.example/g00879/laws.FnRows", spec := "fnRows", unfollowed := true, recurses := true, plainKeys := false, apart := false, narrowed := true }
def FnRowsUptoSaid : Prop := fnRowsUptoRow.holds Try.pinned (OpenSpec.upto fnRowsSpec)

end Rows
end Go.Proofs.Ytfiddbmjgncabaa
