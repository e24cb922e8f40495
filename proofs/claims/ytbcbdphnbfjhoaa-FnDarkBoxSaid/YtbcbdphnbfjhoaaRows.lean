/-
  No cell of these rows narrows 'for every input' (looked for: loops, veiled, ifaces, maps, wideKeys, modest, calm, conditions, laid).
  DERIVED. THE GIVEN ROWS OF THIS SEAT. 12 by the template 'for every input the law returns true; each argument reads behind the call as it read before'; 0 by the template 'total and deterministic' (their statements: YtbcbdphnbfjhoaaTotals.lean).
  GIVEN WITH THE SEED: the statements are not yours to turn. If you find one false, say at which input.
  Laid BY PROGRAM, IN A SANDBOX (cutbox-rows.mjs): the forced cells as the released guide's own fill.sh prints them over the translation d26dee47b3812eb8… (all of the seat's roots in one cut). By AI agents, Wed Nov 11 2026. No macro, syntax, notation, axiom, sorry.
-/
import Derived.Test.YtbcbdphnbfjhoaaChecked
import GoSem.Claim
import GoSem.ClaimJoined
import GoSem.ClaimMapViews
import Derived.JoinedTies
import Derived.KernelRfl
namespace Go.Proofs.Ytbcbdphnbfjhoaa
/- THE CELL 'sum', in the pinned program and in every row, IS THE sha256 OF THE DUMP (.gsa) THAT YtbcbdphnbfjhoaaProg.lean LOADS. Nothing in Lean hashes anything: it is a label: what it is worth is what the hold of that sum in a sandbox is worth. -/
noncomputable def Try.pinned : Pinned := { name := "ytbcbdphnbfjhoaa", sum := "d26dee47b3812eb8341dd5bb0dd09ca3eab31d3a6d254a90e98d72909a29815c", checked := Try.checked }
namespace Rows
def none {H : Type} : Left H := { results := [], args := [] }

/-- 'laws.FnExactDarkCount': WHATEVER THE INPUT: true; the input reads as it did. -/
def fnExactDarkCountSpec : ChangeSpec := { name := "fnExactDarkCount", fn := fun _ => fun
  | [d] => { results := [.lit (.bool true)], args := [d] }
  | _ => none }
def fnExactDarkCountRow : OpenClaim := { program := "ytbcbdphnbfjhoaa", sum := "d26dee47b3812eb8341dd5bb0dd09ca3eab31d3a6d254a90e98d72909a29815c", func := "loop.example/g00879/laws.FnExactDarkCount", spec := "fnExactDarkCount", apart := false }
def FnExactDarkCountSaid : Prop := fnExactDarkCountRow.holds Try.pinned (OpenSpec.ofChange fnExactDarkCountSpec)

/-- ITS FALSE NEIGHBOUR: 'it returns false'. Refute it at one input. -/
def fnExactDarkCountWrong : ChangeSpec := { name := "fnExactDarkCount", fn := fun _ => fun
  | [d] => { results := [.lit (.bool false)], args := [d] }
  | _ => none }
def FnExactDarkCountWrongFalsely : Prop := fnExactDarkCountRow.holds Try.pinned (OpenSpec.ofChange fnExactDarkCountWrong)

/-- 'laws.FnExactRunsOf': WHATEVER THE INPUT: true; the input reads as it did. -/
def fnExactRunsOfSpec : ChangeSpec := { name := "fnExactRunsOf", fn := fun _ => fun
  | [d] => { results := [.lit (.bool true)], args := [d] }
  | _ => none }
def fnExactRunsOfRow : OpenClaim := { program := "ytbcbdphnbfjhoaa", sum := "d26dee47b3812eb8341dd5bb0dd09ca3eab31d3a6d254a90e98d72909a29815c", func := "loop.example/g00879/laws.FnExactRunsOf", spec := "fnExactRunsOf", unfollowed := true, recurses := true, apart := false }
def FnExactRunsOfSaid : Prop := fnExactRunsOfRow.holds Try.pinned (OpenSpec.ofChange fnExactRunsOfSpec)

/-- ITS FALSE NEIGHBOUR: 'it returns false'. Refute it at one input. -/
def fnExactRunsOfWrong : ChangeSpec := { name := "fnExactRunsOf", fn := fun _ => fun
  | [d] => { results := [.lit (.bool false)], args := [d] }
  | _ => none }
def FnExactRunsOfWrongFalsely : Prop := fnExactRunsOfRow.holds Try.pinned (OpenSpec.ofChange fnExactRunsOfWrong)

/-- 'laws.FnExactSectionsIn': WHATEVER THE INPUT: true; the input reads as it did. -/
def fnExactSectionsInSpec : ChangeSpec := { name := "fnExactSectionsIn", fn := fun _ => fun
  | [d] => { results := [.lit (.bool true)], args := [d] }
  | _ => none }
def fnExactSectionsInRow : OpenClaim := { program := "ytbcbdphnbfjhoaa", sum := "d26dee47b3812eb8341dd5bb0dd09ca3eab31d3a6d254a90e98d72909a29815c", func := "loop.example/g00879/laws.FnExactSectionsIn", spec := "fnExactSectionsIn", unfollowed := true, recurses := true, apart := false }
def FnExactSectionsInSaid : Prop := fnExactSectionsInRow.holds Try.pinned (OpenSpec.ofChange fnExactSectionsInSpec)

/-- ITS FALSE NEIGHBOUR: 'it returns false'. Refute it at one input. -/
def fnExactSectionsInWrong : ChangeSpec := { name := "fnExactSectionsIn", fn := fun _ => fun
  | [d] => { results := [.lit (.bool false)], args := [d] }
  | _ => none }
def FnExactSectionsInWrongFalsely : Prop := fnExactSectionsInRow.holds Try.pinned (OpenSpec.ofChange fnExactSectionsInWrong)

/-- 'laws.FnExactDarkBox': WHATEVER THE INPUT: true; the input reads as it did. -/
def fnExactDarkBoxSpec : ChangeSpec := { name := "fnExactDarkBox", fn := fun _ => fun
  | [d] => { results := [.lit (.bool true)], args := [d] }
  | _ => none }
def fnExactDarkBoxRow : OpenClaim := { program := "ytbcbdphnbfjhoaa", sum := "d26dee47b3812eb8341dd5bb0dd09ca3eab31d3a6d254a90e98d72909a29815c", func := "loop.example/g00879/laws.FnExactDarkBox", spec := "fnExactDarkBox", apart := false }
def FnExactDarkBoxSaid : Prop := fnExactDarkBoxRow.holds Try.pinned (OpenSpec.ofChange fnExactDarkBoxSpec)

/-- ITS FALSE NEIGHBOUR: 'it returns false'. Refute it at one input. -/
def fnExactDarkBoxWrong : ChangeSpec := { name := "fnExactDarkBox", fn := fun _ => fun
  | [d] => { results := [.lit (.bool false)], args := [d] }
  | _ => none }
def FnExactDarkBoxWrongFalsely : Prop := fnExactDarkBoxRow.holds Try.pinned (OpenSpec.ofChange fnExactDarkBoxWrong)

/-- 'laws.FnDarkBox': WHATEVER THE INPUT: true; the input reads as it did. -/
def fnDarkBoxSpec : ChangeSpec := { name := "fnDarkBox", fn := fun _ => fun
  | [d] => { results := [.lit (.bool true)], args := [d] }
  | _ => none }
def fnDarkBoxRow : OpenClaim := { program := "ytbcbdphnbfjhoaa", sum := "d26dee47b3812eb8341dd5bb0dd09ca3eab31d3a6d254a90e98d72909a29815c", func := "loop.example/g00879/laws.FnDarkBox", spec := "fnDarkBox", apart := false }
def FnDarkBoxSaid : Prop := fnDarkBoxRow.holds Try.pinned (OpenSpec.ofChange fnDarkBoxSpec)

/-- ITS FALSE NEIGHBOUR: 'it returns false'. Refute it at one input. -/
def fnDarkBoxWrong : ChangeSpec := { name := "fnDarkBox", fn := fun _ => fun
  | [d] => { results := [.lit (.bool false)], args := [d] }
  | _ => none }
def FnDarkBoxWrongFalsely : Prop := fnDarkBoxRow.holds Try.pinned (OpenSpec.ofChange fnDarkBoxWrong)

/-- 'laws.FnExactCandidatesOf': WHATEVER THE INPUT: true; the input reads as it did. -/
def fnExactCandidatesOfSpec : ChangeSpec := { name := "fnExactCandidatesOf", fn := fun _ => fun
  | [d] => { results := [.lit (.bool true)], args := [d] }
  | _ => none }
def fnExactCandidatesOfRow : OpenClaim := { program := "ytbcbdphnbfjhoaa", sum := "d26dee47b3812eb8341dd5bb0dd09ca3eab31d3a6d254a90e98d72909a29815c", func := "loop.example/g00879/laws.FnExactCandidatesOf", spec := "fnExactCandidatesOf", unfollowed := true, recurses := true, apart := false }
def FnExactCandidatesOfSaid : Prop := fnExactCandidatesOfRow.holds Try.pinned (OpenSpec.ofChange fnExactCandidatesOfSpec)

/-- ITS FALSE NEIGHBOUR: 'it returns false'. Refute it at one input. -/
def fnExactCandidatesOfWrong : ChangeSpec := { name := "fnExactCandidatesOf", fn := fun _ => fun
  | [d] => { results := [.lit (.bool false)], args := [d] }
  | _ => none }
def FnExactCandidatesOfWrongFalsely : Prop := fnExactCandidatesOfRow.holds Try.pinned (OpenSpec.ofChange fnExactCandidatesOfWrong)

/-- 'laws.FnExactFindersOf': WHATEVER THE INPUT: true; the input reads as it did. -/
def fnExactFindersOfSpec : ChangeSpec := { name := "fnExactFindersOf", fn := fun _ => fun
  | [d] => { results := [.lit (.bool true)], args := [d] }
  | _ => none }
def fnExactFindersOfRow : OpenClaim := { program := "ytbcbdphnbfjhoaa", sum := "d26dee47b3812eb8341dd5bb0dd09ca3eab31d3a6d254a90e98d72909a29815c", func := "loop.example/g00879/laws.FnExactFindersOf", spec := "fnExactFindersOf", unfollowed := true, recurses := true, apart := false }
def FnExactFindersOfSaid : Prop := fnExactFindersOfRow.holds Try.pinned (OpenSpec.ofChange fnExactFindersOfSpec)

/-- ITS FALSE NEIGHBOUR: 'it returns false'. Refute it at one input. -/
def fnExactFindersOfWrong : ChangeSpec := { name := "fnExactFindersOf", fn := fun _ => fun
  | [d] => { results := [.lit (.bool false)], args := [d] }
  | _ => none }
def FnExactFindersOfWrongFalsely : Prop := fnExactFindersOfRow.holds Try.pinned (OpenSpec.ofChange fnExactFindersOfWrong)

/-- 'laws.FnExactModuleSize': WHATEVER THE INPUT: true; the input reads as it did. -/
def fnExactModuleSizeSpec : ChangeSpec := { name := "fnExactModuleSize", fn := fun _ => fun
  | [d] => { results := [.lit (.bool true)], args := [d] }
  | _ => none }
def fnExactModuleSizeRow : OpenClaim := { program := "ytbcbdphnbfjhoaa", sum := "d26dee47b3812eb8341dd5bb0dd09ca3eab31d3a6d254a90e98d72909a29815c", func := "loop.example/g00879/laws.FnExactModuleSize", spec := "fnExactModuleSize", apart := false }
def FnExactModuleSizeSaid : Prop := fnExactModuleSizeRow.holds Try.pinned (OpenSpec.ofChange fnExactModuleSizeSpec)

/-- ITS FALSE NEIGHBOUR: 'it returns false'. Refute it at one input. -/
def fnExactModuleSizeWrong : ChangeSpec := { name := "fnExactModuleSize", fn := fun _ => fun
  | [d] => { results := [.lit (.bool false)], args := [d] }
  | _ => none }
def FnExactModuleSizeWrongFalsely : Prop := fnExactModuleSizeRow.holds Try.pinned (OpenSpec.ofChange fnExactModuleSizeWrong)

/-- 'laws.FnSections': WHATEVER THE INPUT: true; the input reads as it did. -/
def fnSectionsSpec : ChangeSpec := { name := "fnSections", fn := fun _ => fun
  | [d] => { results := [.lit (.bool true)], args := [d] }
  | _ => none }
def fnSectionsRow : OpenClaim := { program := "ytbcbdphnbfjhoaa", sum := "d26dee47b3812eb8341dd5bb0dd09ca3eab31d3a6d254a90e98d72909a29815c", func := "loop.example/g00879/laws.FnSections", spec := "fnSections", apart := false }
def FnSectionsSaid : Prop := fnSectionsRow.holds Try.pinned (OpenSpec.ofChange fnSectionsSpec)

/-- ITS FALSE NEIGHBOUR: 'it returns false'. Refute it at one input. -/
def fnSectionsWrong : ChangeSpec := { name := "fnSections", fn := fun _ => fun
  | [d] => { results := [.lit (.bool false)], args := [d] }
  | _ => none }
def FnSectionsWrongFalsely : Prop := fnSectionsRow.holds Try.pinned (OpenSpec.ofChange fnSectionsWrong)

/-- 'laws.FnOrdered': WHATEVER THE INPUT: true; the input reads as it did. -/
def fnOrderedSpec : ChangeSpec := { name := "fnOrdered", fn := fun _ => fun
  | [d] => { results := [.lit (.bool true)], args := [d] }
  | _ => none }
def fnOrderedRow : OpenClaim := { program := "ytbcbdphnbfjhoaa", sum := "d26dee47b3812eb8341dd5bb0dd09ca3eab31d3a6d254a90e98d72909a29815c", func := "loop.example/g00879/laws.FnOrdered", spec := "fnOrdered", apart := false }
def FnOrderedSaid : Prop := fnOrderedRow.holds Try.pinned (OpenSpec.ofChange fnOrderedSpec)

/-- ITS FALSE NEIGHBOUR: 'it returns false'. Refute it at one input. -/
def fnOrderedWrong : ChangeSpec := { name := "fnOrdered", fn := fun _ => fun
  | [d] => { results := [.lit (.bool false)], args := [d] }
  | _ => none }
def FnOrderedWrongFalsely : Prop := fnOrderedRow.holds Try.pinned (OpenSpec.ofChange fnOrderedWrong)

/-- 'laws.FnExactNearestSize': WHATEVER THE INPUT: true; the input reads as it did. -/
def fnExactNearestSizeSpec : ChangeSpec := { name := "fnExactNearestSize", fn := fun _ => fun
  | [d1, d2, d3, d4, d5] => { results := [.lit (.bool true)], args := [d1, d2, d3, d4, d5] }
  | _ => none }
def fnExactNearestSizeRow : OpenClaim := { program := "ytbcbdphnbfjhoaa", sum := "d26dee47b3812eb8341dd5bb0dd09ca3eab31d3a6d254a90e98d72909a29815c", func := "loop.example/g00879/laws.FnExactNearestSize", spec := "fnExactNearestSize", inPlace := ["math.sqrt"], apart := false }
def FnExactNearestSizeSaid : Prop := fnExactNearestSizeRow.holds Try.pinned (OpenSpec.ofChange fnExactNearestSizeSpec)

/-- ITS FALSE NEIGHBOUR: 'it returns false'. Refute it at one input. -/
def fnExactNearestSizeWrong : ChangeSpec := { name := "fnExactNearestSize", fn := fun _ => fun
  | [d1, d2, d3, d4, d5] => { results := [.lit (.bool false)], args := [d1, d2, d3, d4, d5] }
  | _ => none }
def FnExactNearestSizeWrongFalsely : Prop := fnExactNearestSizeRow.holds Try.pinned (OpenSpec.ofChange fnExactNearestSizeWrong)

/-- 'laws.FnRuns': WHATEVER THE INPUT: true; the input reads as it did. -/
def fnRunsSpec : ChangeSpec := { name := "fnRuns", fn := fun _ => fun
  | [d] => { results := [.lit (.bool true)], args := [d] }
  | _ => none }
def fnRunsRow : OpenClaim := { program := "ytbcbdphnbfjhoaa", sum := "d26dee47b3812eb8341dd5bb0dd09ca3eab31d3a6d254a90e98d72909a29815c", func := "loop.example/g00879/laws.FnRuns", spec := "fnRuns", unfollowed := true, recurses := true, apart := false }
def FnRunsSaid : Prop := fnRunsRow.holds Try.pinned (OpenSpec.ofChange fnRunsSpec)

/-- ITS FALSE NEIGHBOUR: 'it returns false'. Refute it at one input. -/
def fnRunsWrong : ChangeSpec := { name := "fnRuns", fn := fun _ => fun
  | [d] => { results := [.lit (.bool false)], args := [d] }
  | _ => none }
def FnRunsWrongFalsely : Prop := fnRunsRow.holds Try.pinned (OpenSpec.ofChange fnRunsWrong)

/- THE SECOND FORM. 'bulk': how many values and letters a reading holds, each counted each time it is reached (what is shared counts as often as it is met; a slice's spare places count too). A statement '..UptoSaid' is the law's where the arguments, and the package variables that the reading takes, are together of bulk at most 1048576: NARROWER than '..Said'. Prove '..Said' where nothing that the law and all that it calls make is longer than what came in: it says more and counts as full. Else prove '..UptoSaid'. A law counts once. -/
mutual
def uptoBulk {H : Type} : DataW H → Nat
  | .lit (.string bytes) => bytes.length + 1
  | .lit _ => 1
  | .nil => 1
  | .ptr d => uptoBulk d + 1
  | .slice elems spare => uptoBulkAll elems + uptoBulkAll spare + 1
  | .agg parts => uptoBulkAll parts + 1
  | .iface _ d => uptoBulk d + 1
  | .map entries => uptoBulkEntries entries + 1
  | .held _ => 1
def uptoBulkAll {H : Type} : List (DataW H) → Nat
  | [] => 0
  | d :: r => uptoBulk d + uptoBulkAll r
def uptoBulkEntries {H : Type} : List (Lit × DataW H) → Nat
  | [] => 0
  | x :: r => uptoBulkEntry x + uptoBulkEntries r
def uptoBulkEntry {H : Type} : Lit × DataW H → Nat
  | (.string bytes, d) => bytes.length + uptoBulk d + 1
  | (_, d) => uptoBulk d + 1
 end
def uptoSmall : (H : Type) → List (DataW H) → Bool := fun _ ds => decide (uptoBulkAll ds ≤ 1048576)
def OpenSpec.upto (s : _root_.Go.ChangeSpec) : _root_.Go.OpenSpec := { _root_.Go.OpenSpec.ofChange s with cond := some uptoSmall }

/-- 'laws.FnExactDarkCount', WHERE WHAT IT READS IS OF BULK AT MOST 1048576: true; the input reads as it did. -/
def fnExactDarkCountUptoRow : OpenClaim := { program := "ytbcbdphnbfjhoaa", sum := "d26dee47b3812eb8341dd5bb0dd09ca3eab31d3a6d254a90e98d72909a29815c", func := "loop.example/g00879/laws.FnExactDarkCount", spec := "fnExactDarkCount", apart := false, narrowed := true }
def FnExactDarkCountUptoSaid : Prop := fnExactDarkCountUptoRow.holds Try.pinned (OpenSpec.upto fnExactDarkCountSpec)

/-- 'laws.FnExactRunsOf', WHERE WHAT IT READS IS OF BULK AT MOST 1048576: true; the input reads as it did. -/
def fnExactRunsOfUptoRow : OpenClaim := { program := "ytbcbdphnbfjhoaa", sum := "d26dee47b3812eb8341dd5bb0dd09ca3eab31d3a6d254a90e98d72909a29815c", func := "loop.example/g00879/laws.FnExactRunsOf", spec := "fnExactRunsOf", unfollowed := true, recurses := true, apart := false, narrowed := true }
def FnExactRunsOfUptoSaid : Prop := fnExactRunsOfUptoRow.holds Try.pinned (OpenSpec.upto fnExactRunsOfSpec)

/-- 'laws.FnExactSectionsIn', WHERE WHAT IT READS IS OF BULK AT MOST 1048576: true; the input reads as it did. -/
def fnExactSectionsInUptoRow : OpenClaim := { program := "ytbcbdphnbfjhoaa", sum := "d26dee47b3812eb8341dd5bb0dd09ca3eab31d3a6d254a90e98d72909a29815c", func := "loop.example/g00879/laws.FnExactSectionsIn", spec := "fnExactSectionsIn", unfollowed := true, recurses := true, apart := false, narrowed := true }
def FnExactSectionsInUptoSaid : Prop := fnExactSectionsInUptoRow.holds Try.pinned (OpenSpec.upto fnExactSectionsInSpec)

/-- 'laws.FnExactDarkBox', WHERE WHAT IT READS IS OF BULK AT MOST 1048576: true; the input reads as it did. -/
def fnExactDarkBoxUptoRow : OpenClaim := { program := "ytbcbdphnbfjhoaa", sum := "d26dee47b3812eb8341dd5bb0dd09ca3eab31d3a6d254a90e98d72909a29815c", func := "loop.example/g00879/laws.FnExactDarkBox", spec := "fnExactDarkBox", apart := false, narrowed := true }
def FnExactDarkBoxUptoSaid : Prop := fnExactDarkBoxUptoRow.holds Try.pinned (OpenSpec.upto fnExactDarkBoxSpec)

/-- 'laws.FnDarkBox', WHERE WHAT IT READS IS OF BULK AT MOST 1048576: true; the input reads as it did. -/
def fnDarkBoxUptoRow : OpenClaim := { program := "ytbcbdphnbfjhoaa", sum := "d26dee47b3812eb8341dd5bb0dd09ca3eab31d3a6d254a90e98d72909a29815c", func := "loop.example/g00879/laws.FnDarkBox", spec := "fnDarkBox", apart := false, narrowed := true }
def FnDarkBoxUptoSaid : Prop := fnDarkBoxUptoRow.holds Try.pinned (OpenSpec.upto fnDarkBoxSpec)

/-- 'laws.FnExactCandidatesOf', WHERE WHAT IT READS IS OF BULK AT MOST 1048576: true; the input reads as it did. -/
def fnExactCandidatesOfUptoRow : OpenClaim := { program := "ytbcbdphnbfjhoaa", sum := "d26dee47b3812eb8341dd5bb0dd09ca3eab31d3a6d254a90e98d72909a29815c", func := "loop.example/g00879/laws.FnExactCandidatesOf", spec := "fnExactCandidatesOf", unfollowed := true, recurses := true, apart := false, narrowed := true }
def FnExactCandidatesOfUptoSaid : Prop := fnExactCandidatesOfUptoRow.holds Try.pinned (OpenSpec.upto fnExactCandidatesOfSpec)

/-- 'laws.FnExactFindersOf', WHERE WHAT IT READS IS OF BULK AT MOST 1048576: true; the input reads as it did. -/
def fnExactFindersOfUptoRow : OpenClaim := { program := "ytbcbdphnbfjhoaa", sum := "d26dee47b3812eb8341dd5bb0dd09ca3eab31d3a6d254a90e98d72909a29815c", func := "loop.example/g00879/laws.FnExactFindersOf", spec := "fnExactFindersOf", unfollowed := true, recurses := true, apart := false, narrowed := true }
def FnExactFindersOfUptoSaid : Prop := fnExactFindersOfUptoRow.holds Try.pinned (OpenSpec.upto fnExactFindersOfSpec)

/-- 'laws.FnExactModuleSize', WHERE WHAT IT READS IS OF BULK AT MOST 1048576: true; the input reads as it did. -/
def fnExactModuleSizeUptoRow : OpenClaim := { program := "ytbcbdphnbfjhoaa", sum := "d26dee47b3812eb8341dd5bb0dd09ca3eab31d3a6d254a90e98d72909a29815c", func := "loop.example/g00879/laws.FnExactModuleSize", spec := "fnExactModuleSize", apart := false, narrowed := true }
def FnExactModuleSizeUptoSaid : Prop := fnExactModuleSizeUptoRow.holds Try.pinned (OpenSpec.upto fnExactModuleSizeSpec)

/-- 'laws.FnSections', WHERE WHAT IT READS IS OF BULK AT MOST 1048576: true; the input reads as it did. -/
def fnSectionsUptoRow : OpenClaim := { program := "ytbcbdphnbfjhoaa", sum := "d26dee47b3812eb8341dd5bb0dd09ca3eab31d3a6d254a90e98d72909a29815c", func := "loop.example/g00879/laws.FnSections", spec := "fnSections", apart := false, narrowed := true }
def FnSectionsUptoSaid : Prop := fnSectionsUptoRow.holds Try.pinned (OpenSpec.upto fnSectionsSpec)

/-- 'laws.FnOrdered', WHERE WHAT IT READS IS OF BULK AT MOST 1048576: true; the input reads as it did. -/
def fnOrderedUptoRow : OpenClaim := { program := "ytbcbdphnbfjhoaa", sum := "d26dee47b3812eb8341dd5bb0dd09ca3eab31d3a6d254a90e98d72909a29815c", func := "loop.example/g00879/laws.FnOrdered", spec := "fnOrdered", apart := false, narrowed := true }
def FnOrderedUptoSaid : Prop := fnOrderedUptoRow.holds Try.pinned (OpenSpec.upto fnOrderedSpec)

/-- 'laws.FnExactNearestSize', WHERE WHAT IT READS IS OF BULK AT MOST 1048576: true; the input reads as it did. -/
def fnExactNearestSizeUptoRow : OpenClaim := { program := "ytbcbdphnbfjhoaa", sum := "d26dee47b3812eb8341dd5bb0dd09ca3eab31d3a6d254a90e98d72909a29815c", func := "loop.example/g00879/laws.FnExactNearestSize", spec := "fnExactNearestSize", inPlace := ["math.sqrt"], apart := false, narrowed := true }
def FnExactNearestSizeUptoSaid : Prop := fnExactNearestSizeUptoRow.holds Try.pinned (OpenSpec.upto fnExactNearestSizeSpec)

/-- 'laws.FnRuns', WHERE WHAT IT READS IS OF BULK AT MOST 1048576: true; the input reads as it did. -/
def fnRunsUptoRow : OpenClaim := { program := "ytbcbdphnbfjhoaa", sum := "d26dee47b3812eb8341dd5bb0dd09ca3eab31d3a6d254a90e98d72909a29815c", func := "loop.example/g00879/laws.FnRuns", spec := "fnRuns", unfollowed := true, recurses := true, apart := false, narrowed := true }
def FnRunsUptoSaid : Prop := fnRunsUptoRow.holds Try.pinned (OpenSpec.upto fnRunsSpec)

end Rows
end Go.Proofs.Ytbcbdphnbfjhoaa
