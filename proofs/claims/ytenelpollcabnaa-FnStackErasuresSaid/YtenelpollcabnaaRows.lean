/-
  No cell of these rows narrows 'for every input' (looked for: loops, veiled, ifaces, maps, wideKeys, modest, calm, conditions, laid).
  DERIVED. THE GIVEN ROWS OF THIS SEAT. 3 by the template 'for every input the law returns true; each argument reads behind the call as it read before'; 0 by the template 'total and deterministic' (their statements: YtenelpollcabnaaTotals.lean).
  GIVEN WITH THE SEED: the statements are not yours to turn. If you find one false, say at which input.
  Laid BY PROGRAM, IN A SANDBOX (cutbox-rows.mjs): the forced cells as the released guide's own fill.sh prints them over the translation 481b4ca7c6dee42d… (all of the seat's roots in one cut). By AI agents, Wed Nov 11 2026. No macro, syntax, notation, axiom, sorry.
-/
import Derived.Test.YtenelpollcabnaaChecked
import GoSem.Claim
import GoSem.ClaimJoined
import GoSem.ClaimMapViews
import Derived.JoinedTies
import Derived.KernelRfl
namespace Go.Proofs.Ytenelpollcabnaa
/- THE CELL 'sum', in the pinned program and in every row, IS THE sha256 OF THE DUMP (.gsa) THAT YtenelpollcabnaaProg.lean LOADS. Nothing in Lean hashes anything: it is a label: what it is worth is what the hold of that sum in a sandbox is worth. -/
noncomputable def Try.pinned : Pinned := { name := "ytenelpollcabnaa", sum := "481b4ca7c6dee42d636cf995ff653539de3bfb4ded4be277700302354d78884f", checked := Try.checked }
namespace Rows
def none {H : Type} : Left H := { results := [], args := [] }

/-- 'laws.FnExactStackGrid': WHATEVER THE INPUT: true; the input reads as it did. -/
def fnExactStackGridSpec : ChangeSpec := { name := "fnExactStackGrid", fn := fun _ => fun
  | [d1, d2, d3, d4] => { results := [.lit (.bool true)], args := [d1, d2, d3, d4] }
  | _ => none }
def fnExactStackGridRow : OpenClaim := { program := "ytenelpollcabnaa", sum := "481b4ca7c6dee42d636cf995ff653539de3bfb4ded4be277700302354d78884f", func := "loop.example/g00879/laws.FnExactStackGrid", spec := "fnExactStackGrid", unfollowed := true, recurses := true, plainKeys := false, apart := false }
def FnExactStackGridSaid : Prop := fnExactStackGridRow.holds Try.pinned (OpenSpec.ofChange fnExactStackGridSpec)

/-- ITS FALSE NEIGHBOUR: 'it returns false'. Refute it at one input. -/
def fnExactStackGridWrong : ChangeSpec := { name := "fnExactStackGrid", fn := fun _ => fun
  | [d1, d2, d3, d4] => { results := [.lit (.bool false)], args := [d1, d2, d3, d4] }
  | _ => none }
def FnExactStackGridWrongFalsely : Prop := fnExactStackGridRow.holds Try.pinned (OpenSpec.ofChange fnExactStackGridWrong)

/-- 'laws.FnStackErasures': WHATEVER THE INPUT: true; the input reads as it did. -/
def fnStackErasuresSpec : ChangeSpec := { name := "fnStackErasures", fn := fun _ => fun
  | [d] => { results := [.lit (.bool true)], args := [d] }
  | _ => none }
def fnStackErasuresRow : OpenClaim := { program := "ytenelpollcabnaa", sum := "481b4ca7c6dee42d636cf995ff653539de3bfb4ded4be277700302354d78884f", func := "loop.example/g00879/laws.FnStackErasures", spec := "fnStackErasures", unfollowed := true, recurses := true, plainKeys := false, apart := false }
def FnStackErasuresSaid : Prop := fnStackErasuresRow.holds Try.pinned (OpenSpec.ofChange fnStackErasuresSpec)

/-- ITS FALSE NEIGHBOUR: 'it returns false'. Refute it at one input. -/
def fnStackErasuresWrong : ChangeSpec := { name := "fnStackErasures", fn := fun _ => fun
  | [d] => { results := [.lit (.bool false)], args := [d] }
  | _ => none }
def FnStackErasuresWrongFalsely : Prop := fnStackErasuresRow.holds Try.pinned (OpenSpec.ofChange fnStackErasuresWrong)

/-- 'laws.FnStacks': WHATEVER THE INPUT: true; the input reads as it did. -/
def fnStacksSpec : ChangeSpec := { name := "fnStacks", fn := fun _ => fun
  | [d] => { results := [.lit (.bool true)], args := [d] }
  | _ => none }
def fnStacksRow : OpenClaim := { program := "ytenelpollcabnaa", sum := "481b4ca7c6dee42d636cf995ff653539de3bfb4ded4be277700302354d78884f", func := "loop.example/g00879/laws.FnStacks", spec := "fnStacks", unfollowed := true, recurses := true, plainKeys := false, apart := false }
def FnStacksSaid : Prop := fnStacksRow.holds Try.pinned (OpenSpec.ofChange fnStacksSpec)

/-- ITS FALSE NEIGHBOUR: 'it returns false'. Refute it at one input. -/
def fnStacksWrong : ChangeSpec := { name := "fnStacks", fn := fun _ => fun
  | [d] => { results := [.lit (.bool false)], args := [d] }
  | _ => none }
def FnStacksWrongFalsely : Prop := fnStacksRow.holds Try.pinned (OpenSpec.ofChange fnStacksWrong)

/- THE SECOND FORM. 'bulk': how many values and letters a reading holds, each counted each time it is reached (what is shared counts as often as it is met; a slice's spare places count too). A statement '..UptoSaid' is the law's where the arguments, and the package variables that the reading takes, are together of bulk at most 1048576: NARROWER than '..Said'. Prove '..Said' where nothing that the law and all that it calls make is longer than what came in: it says more and counts as full. Else prove '..UptoSaid'. A law counts once. -/
mutual
def uptoBulk {H : Type} : DataW H → Nat
  | .lit (.string bytes) => bytes.length + 1
  | .lit _ => 1
  | .nil => 1
  | .ptr d => uptoBulk d + 1
  | .slice elems spare => uptoBulkAll elems + uptoBulkAll spare + 1
  | .agg parts => uptoBulkAll parts + 1
  | .iface _ d => uptoBulk d + 1
  | .map entries => uptoBulkEntries entries + 1
  | .held _ => 1
def uptoBulkAll {H : Type} : List (DataW H) → Nat
  | [] => 0
  | d :: r => uptoBulk d + uptoBulkAll r
def uptoBulkEntries {H : Type} : List (Lit × DataW H) → Nat
  | [] => 0
  | x :: r => uptoBulkEntry x + uptoBulkEntries r
def uptoBulkEntry {H : Type} : Lit × DataW H → Nat
  | (.string bytes, d) => bytes.length + uptoBulk d + 1
  | (_, d) => uptoBulk d + 1
 end
def uptoSmall : (H : Type) → List (DataW H) → Bool := fun _ ds => decide (uptoBulkAll ds ≤ 1048576)
def OpenSpec.upto (s : _root_.Go.ChangeSpec) : _root_.Go.OpenSpec := { _root_.Go.OpenSpec.ofChange s with cond := some uptoSmall }

/-- 'laws.FnExactStackGrid', WHERE WHAT IT READS IS OF BULK AT MOST 1048576: true; the input reads as it did. -/
def fnExactStackGridUptoRow : OpenClaim := { program := "ytenelpollcabnaa", sum := "481b4ca7c6dee42d636cf995ff653539de3bfb4ded4be277700302354d78884f", func := "loop.example/g00879/laws.FnExactStackGrid", spec := "fnExactStackGrid", unfollowed := true, recurses := true, plainKeys := false, apart := false, narrowed := true }
def FnExactStackGridUptoSaid : Prop := fnExactStackGridUptoRow.holds Try.pinned (OpenSpec.upto fnExactStackGridSpec)

/-- 'laws.FnStackErasures', WHERE WHAT IT READS IS OF BULK AT MOST 1048576: true; the input reads as it did. -/
def fnStackErasuresUptoRow : OpenClaim := { program := "ytenelpollcabnaa", sum := "481b4ca7c6dee42d636cf995ff653539de3bfb4ded4be277700302354d78884f", func := "loop.example/g00879/laws.FnStackErasures", spec := "fnStackErasures", unfollowed := true, recurses := true, plainKeys := false, apart := false, narrowed := true }
def FnStackErasuresUptoSaid : Prop := fnStackErasuresUptoRow.holds Try.pinned (OpenSpec.upto fnStackErasuresSpec)

/-- 'laws.FnStacks', WHERE WHAT IT READS IS OF BULK AT MOST 1048576: true; the input reads as it did. -/
def fnStacksUptoRow : OpenClaim := { program := "ytenelpollcabnaa", sum := "481b4ca7c6dee42d636cf995ff653539de3bfb4ded4be277700302354d78884f", func := "loop.example/g00879/laws.FnStacks", spec := "fnStacks", unfollowed := true, recurses := true, plainKeys := false, apart := false, narrowed := true }
def FnStacksUptoSaid : Prop := fnStacksUptoRow.holds Try.pinned (OpenSpec.upto fnStacksSpec)

end Rows
end Go.Proofs.Ytenelpollcabnaa
