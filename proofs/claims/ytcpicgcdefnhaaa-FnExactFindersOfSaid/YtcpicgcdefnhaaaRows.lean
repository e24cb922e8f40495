/-
  No cell of these rows narrows 'for every input' (looked for: loops, veiled, ifaces, maps, wideKeys, modest, calm, conditions, laid).
  DERIVED. THE GIVEN ROWS OF THIS SEAT. 2 by the template 'for every input the law returns true; each argument reads behind the call as it read before'; 0 by the template 'total and deterministic' (their statements: YtcpicgcdefnhaaaTotals.lean).
  GIVEN WITH THE SEED: the statements are not yours to turn. If you find one false, say at which input.
  Laid BY PROGRAM, IN A SANDBOX (cutbox-rows.mjs): the forced cells as the released guide's own fill.sh prints them over the translation 021f5e20bd5e0ea0… (all of the seat's roots in one cut). By AI agents, Wed Nov 11 2026. No macro, syntax, notation, axiom, sorry.
-/
import Derived.Test.YtcpicgcdefnhaaaChecked
import GoSem.Claim
import GoSem.ClaimJoined
import GoSem.ClaimMapViews
import Derived.JoinedTies
import Derived.KernelRfl
namespace Go.Proofs.Ytcpicgcdefnhaaa
/- THE CELL 'sum', in the pinned program and in every row, IS THE sha256 OF THE DUMP (.gsa) THAT YtcpicgcdefnhaaaProg.lean LOADS. Nothing in Lean hashes anything: it is a label: what it is worth is what the hold of that sum in a sandbox is worth. -/
noncomputable def Try.pinned : Pinned := { name := "ytcpicgcdefnhaaa", sum := "021f5e20bd5e0ea089f2e97af2c041bec1ec9c8aad4439b5bd669832db3a855f", checked := Try.checked }
namespace Rows
def none {H : Type} : Left H := { results := [], args := [] }

/-- 'laws.FnExactCandidatesOf': WHATEVER THE INPUT: true; the input reads as it did. -/
def fnExactCandidatesOfSpec : ChangeSpec := { name := "fnExactCandidatesOf", fn := fun _ => fun
  | [d] => { results := [.lit (.bool true)], args := [d] }
  | _ => none }
def fnExactCandidatesOfRow : OpenClaim := { program := "ytcpicgcdefnhaaa", sum := "021f5e20bd5e0ea089f2e97af2c041bec1ec9c8aad4439b5bd669832db3a855f", func := "loop.example/g00879/laws.FnExactCandidatesOf", spec := "fnExactCandidatesOf", unfollowed := true, recurses := true, apart := false }
def FnExactCandidatesOfSaid : Prop := fnExactCandidatesOfRow.holds Try.pinned (OpenSpec.ofChange fnExactCandidatesOfSpec)

/-- ITS FALSE NEIGHBOUR: 'it returns false'. Refute it at one input. -/
def fnExactCandidatesOfWrong : ChangeSpec := { name := "fnExactCandidatesOf", fn := fun _ => fun
  | [d] => { results := [.lit (.bool false)], args := [d] }
  | _ => none }
def FnExactCandidatesOfWrongFalsely : Prop := fnExactCandidatesOfRow.holds Try.pinned (OpenSpec.ofChange fnExactCandidatesOfWrong)

/-- 'laws.FnExactFindersOf': WHATEVER THE INPUT: true; the input reads as it did. -/
def fnExactFindersOfSpec : ChangeSpec := { name := "fnExactFindersOf", fn := fun _ => fun
  | [d] => { results := [.lit (.bool true)], args := [d] }
  | _ => none }
def fnExactFindersOfRow : OpenClaim := { program := "ytcpicgcdefnhaaa", sum := "021f5e20bd5e0ea089f2e97af2c041bec1ec9c8aad4439b5bd669832db3a855f", func := "loop.example/g00879/laws.FnExactFindersOf", spec := "fnExactFindersOf", unfollowed := true, recurses := true, apart := false }
def FnExactFindersOfSaid : Prop := fnExactFindersOfRow.holds Try.pinned (OpenSpec.ofChange fnExactFindersOfSpec)

/-- ITS FALSE NEIGHBOUR: 'it returns false'. Refute it at one input. -/
def fnExactFindersOfWrong : ChangeSpec := { name := "fnExactFindersOf", fn := fun _ => fun
  | [d] => { results := [.lit (.bool false)], args := [d] }
  | _ => none }
def FnExactFindersOfWrongFalsely : Prop := fnExactFindersOfRow.holds Try.pinned (OpenSpec.ofChange fnExactFindersOfWrong)

/- THE SECOND FORM. 'bulk': how many values and letters a reading holds, each counted each time it is reached (what is shared counts as often as it is met; a slice's spare places count too). A statement '..UptoSaid' is the law's where the arguments, and the package variables that the reading takes, are together of bulk at most 1048576: NARROWER than '..Said'. Prove '..Said' where nothing that the law and all that it calls make is longer than what came in: it says more and counts as full. Else prove '..UptoSaid'. A law counts once. -/
mutual
def uptoBulk {H : Type} : DataW H → Nat
  | .lit (.string bytes) => bytes.length + 1
  | .lit _ => 1
  | .nil => 1
  | .ptr d => uptoBulk d + 1
  | .slice elems spare => uptoBulkAll elems + uptoBulkAll spare + 1
  | .agg parts => uptoBulkAll parts + 1
  | .iface _ d => uptoBulk d + 1
  | .map entries => uptoBulkEntries entries + 1
  | .held _ => 1
def uptoBulkAll {H : Type} : List (DataW H) → Nat
  | [] => 0
  | d :: r => uptoBulk d + uptoBulkAll r
def uptoBulkEntries {H : Type} : List (Lit × DataW H) → Nat
  | [] => 0
  | x :: r => uptoBulkEntry x + uptoBulkEntries r
def uptoBulkEntry {H : Type} : Lit × DataW H → Nat
  | (.string bytes, d) => bytes.length + uptoBulk d + 1
  | (_, d) => uptoBulk d + 1
 end
def uptoSmall : (H : Type) → List (DataW H) → Bool := fun _ ds => decide (uptoBulkAll ds ≤ 1048576)
def OpenSpec.upto (s : _root_.Go.ChangeSpec) : _root_.Go.OpenSpec := { _root_.Go.OpenSpec.ofChange s with cond := some uptoSmall }

/-- 'laws.FnExactCandidatesOf', WHERE WHAT IT READS IS OF BULK AT MOST 1048576: true; the input reads as it did. -/
def fnExactCandidatesOfUptoRow : OpenClaim := { program := "ytcpicgcdefnhaaa", sum := "021f5e20bd5e0ea089f2e97af2c041bec1ec9c8aad4439b5bd669832db3a855f", func := "loop.example/g00879/laws.FnExactCandidatesOf", spec := "fnExactCandidatesOf", unfollowed := true, recurses := true, apart := false, narrowed := true }
def FnExactCandidatesOfUptoSaid : Prop := fnExactCandidatesOfUptoRow.holds Try.pinned (OpenSpec.upto fnExactCandidatesOfSpec)

/-- 'laws.FnExactFindersOf', WHERE WHAT IT READS IS OF BULK AT MOST 1048576: true; the input reads as it did. -/
def fnExactFindersOfUptoRow : OpenClaim := { program := "ytcpicgcdefnhaaa", sum := "021f5e20bd5e0ea089f2e97af2c041bec1ec9c8aad4439b5bd669832db3a855f", func := "loop.example/g00879/laws.FnExactFindersOf", spec := "fnExactFindersOf", unfollowed := true, recurses := true, apart := false, narrowed := true }
def FnExactFindersOfUptoSaid : Prop := fnExactFindersOfUptoRow.holds Try.pinned (OpenSpec.upto fnExactFindersOfSpec)

end Rows
end Go.Proofs.Ytcpicgcdefnhaaa
