/-
  No cell of these rows narrows 'for every input' (looked for: loops, veiled, ifaces, maps, wideKeys, modest, calm, conditions, laid).
  DERIVED. THE GIVEN ROWS OF THIS SEAT. 12 by the template 'for every input the law returns true; each argument reads behind the call as it read before'; 0 by the template 'total and deterministic' (their statements: YtmcpgaidllpmcaaTotals.lean).
  GIVEN WITH THE SEED: the statements are not yours to turn. If you find one false, say at which input.
  Laid BY PROGRAM, IN A SANDBOX (cutbox-rows.mjs): the forced cells as the released guide's own fill.sh prints them over the translation 8abd4b9722a91ece… (all of the seat's roots in one cut). By AI agents, Wed Nov 11 2026. No macro, syntax, notation, axiom, sorry.
-/
import Derived.Test.YtmcpgaidllpmcaaChecked
import GoSem.Claim
import GoSem.ClaimJoined
import GoSem.ClaimMapViews
import Derived.JoinedTies
import Derived.KernelRfl
namespace Go.Proofs.Ytmcpgaidllpmcaa
/- THE CELL 'sum', in the pinned program and in every row, IS THE sha256 OF THE DUMP (.gsa) THAT YtmcpgaidllpmcaaProg.lean LOADS. Nothing in Lean hashes anything: it is a label: what it is worth is what the hold of that sum in a sandbox is worth. -/
noncomputable def Try.pinned : Pinned := { name := "ytmcpgaidllpmcaa", sum := "8abd4b9722a91ece122575bfd0a03ff471eceb0f8b48cce751b29f35322d43d7", checked := Try.checked }
namespace Rows
def none {H : Type} : Left H := { results := [], args := [] }

/-- 'laws.FnExactIsRaster': WHATEVER THE INPUT: true; the input reads as it did. -/
def fnExactIsRasterSpec : ChangeSpec := { name := "fnExactIsRaster", fn := fun _ => fun
  | [d] => { results := [.lit (.bool true)], args := [d] }
  | _ => none }
def fnExactIsRasterRow : OpenClaim := { program := "ytmcpgaidllpmcaa", sum := "8abd4b9722a91ece122575bfd0a03ff471eceb0f8b48cce751b29f35322d43d7", func := "loop.example/g00879/laws.FnExactIsRaster", spec := "fnExactIsRaster", apart := false }
def FnExactIsRasterSaid : Prop := fnExactIsRasterRow.holds Try.pinned (OpenSpec.ofChange fnExactIsRasterSpec)

/-- ITS FALSE NEIGHBOUR: 'it returns false'. Refute it at one input. -/
def fnExactIsRasterWrong : ChangeSpec := { name := "fnExactIsRaster", fn := fun _ => fun
  | [d] => { results := [.lit (.bool false)], args := [d] }
  | _ => none }
def FnExactIsRasterWrongFalsely : Prop := fnExactIsRasterRow.holds Try.pinned (OpenSpec.ofChange fnExactIsRasterWrong)

/-- 'laws.FnExactBlankRaster': WHATEVER THE INPUT: true; the input reads as it did. -/
def fnExactBlankRasterSpec : ChangeSpec := { name := "fnExactBlankRaster", fn := fun _ => fun
  | [d1, d2, d3] => { results := [.lit (.bool true)], args := [d1, d2, d3] }
  | _ => none }
def fnExactBlankRasterRow : OpenClaim := { program := "ytmcpgaidllpmcaa", sum := "8abd4b9722a91ece122575bfd0a03ff471eceb0f8b48cce751b29f35322d43d7", func := "loop.example/g00879/laws.FnExactBlankRaster", spec := "fnExactBlankRaster", unfollowed := true, recurses := true, apart := false }
def FnExactBlankRasterSaid : Prop := fnExactBlankRasterRow.holds Try.pinned (OpenSpec.ofChange fnExactBlankRasterSpec)

/-- ITS FALSE NEIGHBOUR: 'it returns false'. Refute it at one input. -/
def fnExactBlankRasterWrong : ChangeSpec := { name := "fnExactBlankRaster", fn := fun _ => fun
  | [d1, d2, d3] => { results := [.lit (.bool false)], args := [d1, d2, d3] }
  | _ => none }
def FnExactBlankRasterWrongFalsely : Prop := fnExactBlankRasterRow.holds Try.pinned (OpenSpec.ofChange fnExactBlankRasterWrong)

/-- 'laws.FnExactPixelAt': WHATEVER THE INPUT: true; the input reads as it did. -/
def fnExactPixelAtSpec : ChangeSpec := { name := "fnExactPixelAt", fn := fun _ => fun
  | [d1, d2, d3] => { results := [.lit (.bool true)], args := [d1, d2, d3] }
  | _ => none }
def fnExactPixelAtRow : OpenClaim := { program := "ytmcpgaidllpmcaa", sum := "8abd4b9722a91ece122575bfd0a03ff471eceb0f8b48cce751b29f35322d43d7", func := "loop.example/g00879/laws.FnExactPixelAt", spec := "fnExactPixelAt", apart := false }
def FnExactPixelAtSaid : Prop := fnExactPixelAtRow.holds Try.pinned (OpenSpec.ofChange fnExactPixelAtSpec)

/-- ITS FALSE NEIGHBOUR: 'it returns false'. Refute it at one input. -/
def fnExactPixelAtWrong : ChangeSpec := { name := "fnExactPixelAt", fn := fun _ => fun
  | [d1, d2, d3] => { results := [.lit (.bool false)], args := [d1, d2, d3] }
  | _ => none }
def FnExactPixelAtWrongFalsely : Prop := fnExactPixelAtRow.holds Try.pinned (OpenSpec.ofChange fnExactPixelAtWrong)

/-- 'laws.FnExactContrastOf': WHATEVER THE INPUT: true; the input reads as it did. -/
def fnExactContrastOfSpec : ChangeSpec := { name := "fnExactContrastOf", fn := fun _ => fun
  | [d] => { results := [.lit (.bool true)], args := [d] }
  | _ => none }
def fnExactContrastOfRow : OpenClaim := { program := "ytmcpgaidllpmcaa", sum := "8abd4b9722a91ece122575bfd0a03ff471eceb0f8b48cce751b29f35322d43d7", func := "loop.example/g00879/laws.FnExactContrastOf", spec := "fnExactContrastOf", apart := false }
def FnExactContrastOfSaid : Prop := fnExactContrastOfRow.holds Try.pinned (OpenSpec.ofChange fnExactContrastOfSpec)

/-- ITS FALSE NEIGHBOUR: 'it returns false'. Refute it at one input. -/
def fnExactContrastOfWrong : ChangeSpec := { name := "fnExactContrastOf", fn := fun _ => fun
  | [d] => { results := [.lit (.bool false)], args := [d] }
  | _ => none }
def FnExactContrastOfWrongFalsely : Prop := fnExactContrastOfRow.holds Try.pinned (OpenSpec.ofChange fnExactContrastOfWrong)

/-- 'laws.FnExactRangeLimit': WHATEVER THE INPUT: true; the input reads as it did. -/
def fnExactRangeLimitSpec : ChangeSpec := { name := "fnExactRangeLimit", fn := fun _ => fun
  | [d] => { results := [.lit (.bool true)], args := [d] }
  | _ => none }
def fnExactRangeLimitRow : OpenClaim := { program := "ytmcpgaidllpmcaa", sum := "8abd4b9722a91ece122575bfd0a03ff471eceb0f8b48cce751b29f35322d43d7", func := "loop.example/g00879/laws.FnExactRangeLimit", spec := "fnExactRangeLimit", apart := false }
def FnExactRangeLimitSaid : Prop := fnExactRangeLimitRow.holds Try.pinned (OpenSpec.ofChange fnExactRangeLimitSpec)

/-- ITS FALSE NEIGHBOUR: 'it returns false'. Refute it at one input. -/
def fnExactRangeLimitWrong : ChangeSpec := { name := "fnExactRangeLimit", fn := fun _ => fun
  | [d] => { results := [.lit (.bool false)], args := [d] }
  | _ => none }
def FnExactRangeLimitWrongFalsely : Prop := fnExactRangeLimitRow.holds Try.pinned (OpenSpec.ofChange fnExactRangeLimitWrong)

/-- 'laws.FnExactHistogram': WHATEVER THE INPUT: true; the input reads as it did. -/
def fnExactHistogramSpec : ChangeSpec := { name := "fnExactHistogram", fn := fun _ => fun
  | [d] => { results := [.lit (.bool true)], args := [d] }
  | _ => none }
def fnExactHistogramRow : OpenClaim := { program := "ytmcpgaidllpmcaa", sum := "8abd4b9722a91ece122575bfd0a03ff471eceb0f8b48cce751b29f35322d43d7", func := "loop.example/g00879/laws.FnExactHistogram", spec := "fnExactHistogram", apart := false }
def FnExactHistogramSaid : Prop := fnExactHistogramRow.holds Try.pinned (OpenSpec.ofChange fnExactHistogramSpec)

/-- ITS FALSE NEIGHBOUR: 'it returns false'. Refute it at one input. -/
def fnExactHistogramWrong : ChangeSpec := { name := "fnExactHistogram", fn := fun _ => fun
  | [d] => { results := [.lit (.bool false)], args := [d] }
  | _ => none }
def FnExactHistogramWrongFalsely : Prop := fnExactHistogramRow.holds Try.pinned (OpenSpec.ofChange fnExactHistogramWrong)

/-- 'laws.FnExactInvertRaster': WHATEVER THE INPUT: true; the input reads as it did. -/
def fnExactInvertRasterSpec : ChangeSpec := { name := "fnExactInvertRaster", fn := fun _ => fun
  | [d] => { results := [.lit (.bool true)], args := [d] }
  | _ => none }
def fnExactInvertRasterRow : OpenClaim := { program := "ytmcpgaidllpmcaa", sum := "8abd4b9722a91ece122575bfd0a03ff471eceb0f8b48cce751b29f35322d43d7", func := "loop.example/g00879/laws.FnExactInvertRaster", spec := "fnExactInvertRaster", unfollowed := true, recurses := true, apart := false }
def FnExactInvertRasterSaid : Prop := fnExactInvertRasterRow.holds Try.pinned (OpenSpec.ofChange fnExactInvertRasterSpec)

/-- ITS FALSE NEIGHBOUR: 'it returns false'. Refute it at one input. -/
def fnExactInvertRasterWrong : ChangeSpec := { name := "fnExactInvertRaster", fn := fun _ => fun
  | [d] => { results := [.lit (.bool false)], args := [d] }
  | _ => none }
def FnExactInvertRasterWrongFalsely : Prop := fnExactInvertRasterRow.holds Try.pinned (OpenSpec.ofChange fnExactInvertRasterWrong)

/-- 'laws.FnExactDarkPixels': WHATEVER THE INPUT: true; the input reads as it did. -/
def fnExactDarkPixelsSpec : ChangeSpec := { name := "fnExactDarkPixels", fn := fun _ => fun
  | [d1, d2] => { results := [.lit (.bool true)], args := [d1, d2] }
  | _ => none }
def fnExactDarkPixelsRow : OpenClaim := { program := "ytmcpgaidllpmcaa", sum := "8abd4b9722a91ece122575bfd0a03ff471eceb0f8b48cce751b29f35322d43d7", func := "loop.example/g00879/laws.FnExactDarkPixels", spec := "fnExactDarkPixels", apart := false }
def FnExactDarkPixelsSaid : Prop := fnExactDarkPixelsRow.holds Try.pinned (OpenSpec.ofChange fnExactDarkPixelsSpec)

/-- ITS FALSE NEIGHBOUR: 'it returns false'. Refute it at one input. -/
def fnExactDarkPixelsWrong : ChangeSpec := { name := "fnExactDarkPixels", fn := fun _ => fun
  | [d1, d2] => { results := [.lit (.bool false)], args := [d1, d2] }
  | _ => none }
def FnExactDarkPixelsWrongFalsely : Prop := fnExactDarkPixelsRow.holds Try.pinned (OpenSpec.ofChange fnExactDarkPixelsWrong)

/-- 'laws.FnExactTurnRaster': WHATEVER THE INPUT: true; the input reads as it did. -/
def fnExactTurnRasterSpec : ChangeSpec := { name := "fnExactTurnRaster", fn := fun _ => fun
  | [d] => { results := [.lit (.bool true)], args := [d] }
  | _ => none }
def fnExactTurnRasterRow : OpenClaim := { program := "ytmcpgaidllpmcaa", sum := "8abd4b9722a91ece122575bfd0a03ff471eceb0f8b48cce751b29f35322d43d7", func := "loop.example/g00879/laws.FnExactTurnRaster", spec := "fnExactTurnRaster", unfollowed := true, recurses := true, apart := false }
def FnExactTurnRasterSaid : Prop := fnExactTurnRasterRow.holds Try.pinned (OpenSpec.ofChange fnExactTurnRasterSpec)

/-- ITS FALSE NEIGHBOUR: 'it returns false'. Refute it at one input. -/
def fnExactTurnRasterWrong : ChangeSpec := { name := "fnExactTurnRaster", fn := fun _ => fun
  | [d] => { results := [.lit (.bool false)], args := [d] }
  | _ => none }
def FnExactTurnRasterWrongFalsely : Prop := fnExactTurnRasterRow.holds Try.pinned (OpenSpec.ofChange fnExactTurnRasterWrong)

/-- 'laws.FnExactCropRaster': WHATEVER THE INPUT: true; the input reads as it did. -/
def fnExactCropRasterSpec : ChangeSpec := { name := "fnExactCropRaster", fn := fun _ => fun
  | [d1, d2, d3, d4, d5] => { results := [.lit (.bool true)], args := [d1, d2, d3, d4, d5] }
  | _ => none }
def fnExactCropRasterRow : OpenClaim := { program := "ytmcpgaidllpmcaa", sum := "8abd4b9722a91ece122575bfd0a03ff471eceb0f8b48cce751b29f35322d43d7", func := "loop.example/g00879/laws.FnExactCropRaster", spec := "fnExactCropRaster", unfollowed := true, recurses := true, apart := false }
def FnExactCropRasterSaid : Prop := fnExactCropRasterRow.holds Try.pinned (OpenSpec.ofChange fnExactCropRasterSpec)

/-- ITS FALSE NEIGHBOUR: 'it returns false'. Refute it at one input. -/
def fnExactCropRasterWrong : ChangeSpec := { name := "fnExactCropRaster", fn := fun _ => fun
  | [d1, d2, d3, d4, d5] => { results := [.lit (.bool false)], args := [d1, d2, d3, d4, d5] }
  | _ => none }
def FnExactCropRasterWrongFalsely : Prop := fnExactCropRasterRow.holds Try.pinned (OpenSpec.ofChange fnExactCropRasterWrong)

/-- 'laws.FnExactPasteRaster': WHATEVER THE INPUT: true; the input reads as it did. -/
def fnExactPasteRasterSpec : ChangeSpec := { name := "fnExactPasteRaster", fn := fun _ => fun
  | [d1, d2, d3, d4] => { results := [.lit (.bool true)], args := [d1, d2, d3, d4] }
  | _ => none }
def fnExactPasteRasterRow : OpenClaim := { program := "ytmcpgaidllpmcaa", sum := "8abd4b9722a91ece122575bfd0a03ff471eceb0f8b48cce751b29f35322d43d7", func := "loop.example/g00879/laws.FnExactPasteRaster", spec := "fnExactPasteRaster", unfollowed := true, recurses := true, apart := false }
def FnExactPasteRasterSaid : Prop := fnExactPasteRasterRow.holds Try.pinned (OpenSpec.ofChange fnExactPasteRasterSpec)

/-- ITS FALSE NEIGHBOUR: 'it returns false'. Refute it at one input. -/
def fnExactPasteRasterWrong : ChangeSpec := { name := "fnExactPasteRaster", fn := fun _ => fun
  | [d1, d2, d3, d4] => { results := [.lit (.bool false)], args := [d1, d2, d3, d4] }
  | _ => none }
def FnExactPasteRasterWrongFalsely : Prop := fnExactPasteRasterRow.holds Try.pinned (OpenSpec.ofChange fnExactPasteRasterWrong)

/-- 'laws.FnExactBinaryOf': WHATEVER THE INPUT: true; the input reads as it did. -/
def fnExactBinaryOfSpec : ChangeSpec := { name := "fnExactBinaryOf", fn := fun _ => fun
  | [d1, d2] => { results := [.lit (.bool true)], args := [d1, d2] }
  | _ => none }
def fnExactBinaryOfRow : OpenClaim := { program := "ytmcpgaidllpmcaa", sum := "8abd4b9722a91ece122575bfd0a03ff471eceb0f8b48cce751b29f35322d43d7", func := "loop.example/g00879/laws.FnExactBinaryOf", spec := "fnExactBinaryOf", apart := false }
def FnExactBinaryOfSaid : Prop := fnExactBinaryOfRow.holds Try.pinned (OpenSpec.ofChange fnExactBinaryOfSpec)

/-- ITS FALSE NEIGHBOUR: 'it returns false'. Refute it at one input. -/
def fnExactBinaryOfWrong : ChangeSpec := { name := "fnExactBinaryOf", fn := fun _ => fun
  | [d1, d2] => { results := [.lit (.bool false)], args := [d1, d2] }
  | _ => none }
def FnExactBinaryOfWrongFalsely : Prop := fnExactBinaryOfRow.holds Try.pinned (OpenSpec.ofChange fnExactBinaryOfWrong)

/- THE SECOND FORM. 'bulk': how many values and letters a reading holds, each counted each time it is reached (what is shared counts as often as it is met; a slice's spare places count too). A statement '..UptoSaid' is the law's where the arguments, and the package variables that the reading takes, are together of bulk at most 1048576: NARROWER than '..Said'. Prove '..Said' where nothing that the law and all that it calls make is longer than what came in: it says more and counts as full. Else prove '..UptoSaid'. A law counts once. -/
mutual
def uptoBulk {H : Type} : DataW H → Nat
  | .lit (.string bytes) => bytes.length + 1
  | .lit _ => 1
  | .nil => 1
  | .ptr d => uptoBulk d + 1
  | .slice elems spare => uptoBulkAll elems + uptoBulkAll spare + 1
  | .agg parts => uptoBulkAll parts + 1
  | .iface _ d => uptoBulk d + 1
  | .map entries => uptoBulkEntries entries + 1
  | .held _ => 1
def uptoBulkAll {H : Type} : List (DataW H) → Nat
  | [] => 0
  | d :: r => uptoBulk d + uptoBulkAll r
def uptoBulkEntries {H : Type} : List (Lit × DataW H) → Nat
  | [] => 0
  | x :: r => uptoBulkEntry x + uptoBulkEntries r
def uptoBulkEntry {H : Type} : Lit × DataW H → Nat
  | (.string bytes, d) => bytes.length + uptoBulk d + 1
  | (_, d) => uptoBulk d + 1
 end
def uptoSmall : (H : Type) → List (DataW H) → Bool := fun _ ds => decide (uptoBulkAll ds ≤ 1048576)
def OpenSpec.upto (s : _root_.Go.ChangeSpec) : _root_.Go.OpenSpec := { _root_.Go.OpenSpec.ofChange s with cond := some uptoSmall }

/-- 'laws.FnExactIsRaster', WHERE WHAT IT READS IS OF BULK AT MOST 1048576: true; the input reads as it did. -/
def fnExactIsRasterUptoRow : OpenClaim := { program := "ytmcpgaidllpmcaa", sum := "8abd4b9722a91ece122575bfd0a03ff471eceb0f8b48cce751b29f35322d43d7", func := "loop.example/g00879/laws.FnExactIsRaster", spec := "fnExactIsRaster", apart := false, narrowed := true }
def FnExactIsRasterUptoSaid : Prop := fnExactIsRasterUptoRow.holds Try.pinned (OpenSpec.upto fnExactIsRasterSpec)

/-- 'laws.FnExactBlankRaster', WHERE WHAT IT READS IS OF BULK AT MOST 1048576: true; the input reads as it did. -/
def fnExactBlankRasterUptoRow : OpenClaim := { program := "ytmcpgaidllpmcaa", sum := "8abd4b9722a91ece122575bfd0a03ff471eceb0f8b48cce751b29f35322d43d7", func := "loop.example/g00879/laws.FnExactBlankRaster", spec := "fnExactBlankRaster", unfollowed := true, recurses := true, apart := false, narrowed := true }
def FnExactBlankRasterUptoSaid : Prop := fnExactBlankRasterUptoRow.holds Try.pinned (OpenSpec.upto fnExactBlankRasterSpec)

/-- 'laws.FnExactPixelAt', WHERE WHAT IT READS IS OF BULK AT MOST 1048576: true; the input reads as it did. -/
def fnExactPixelAtUptoRow : OpenClaim := { program := "ytmcpgaidllpmcaa", sum := "8abd4b9722a91ece122575bfd0a03ff471eceb0f8b48cce751b29f35322d43d7", func := "loop.example/g00879/laws.FnExactPixelAt", spec := "fnExactPixelAt", apart := false, narrowed := true }
def FnExactPixelAtUptoSaid : Prop := fnExactPixelAtUptoRow.holds Try.pinned (OpenSpec.upto fnExactPixelAtSpec)

/-- 'laws.FnExactContrastOf', WHERE WHAT IT READS IS OF BULK AT MOST 1048576: true; the input reads as it did. -/
def fnExactContrastOfUptoRow : OpenClaim := { program := "ytmcpgaidllpmcaa", sum := "8abd4b9722a91ece122575bfd0a03ff471eceb0f8b48cce751b29f35322d43d7", func := "loop.example/g00879/laws.FnExactContrastOf", spec := "fnExactContrastOf", apart := false, narrowed := true }
def FnExactContrastOfUptoSaid : Prop := fnExactContrastOfUptoRow.holds Try.pinned (OpenSpec.upto fnExactContrastOfSpec)

/-- 'laws.FnExactRangeLimit', WHERE WHAT IT READS IS OF BULK AT MOST 1048576: true; the input reads as it did. -/
def fnExactRangeLimitUptoRow : OpenClaim := { program := "ytmcpgaidllpmcaa", sum := "8abd4b9722a91ece122575bfd0a03ff471eceb0f8b48cce751b29f35322d43d7", func := "loop.example/g00879/laws.FnExactRangeLimit", spec := "fnExactRangeLimit", apart := false, narrowed := true }
def FnExactRangeLimitUptoSaid : Prop := fnExactRangeLimitUptoRow.holds Try.pinned (OpenSpec.upto fnExactRangeLimitSpec)

/-- 'laws.FnExactHistogram', WHERE WHAT IT READS IS OF BULK AT MOST 1048576: true; the input reads as it did. -/
def fnExactHistogramUptoRow : OpenClaim := { program := "ytmcpgaidllpmcaa", sum := "8abd4b9722a91ece122575bfd0a03ff471eceb0f8b48cce751b29f35322d43d7", func := "loop.example/g00879/laws.FnExactHistogram", spec := "fnExactHistogram", apart := false, narrowed := true }
def FnExactHistogramUptoSaid : Prop := fnExactHistogramUptoRow.holds Try.pinned (OpenSpec.upto fnExactHistogramSpec)

/-- 'laws.FnExactInvertRaster', WHERE WHAT IT READS IS OF BULK AT MOST 1048576: true; the input reads as it did. -/
def fnExactInvertRasterUptoRow : OpenClaim := { program := "ytmcpgaidllpmcaa", sum := "8abd4b9722a91ece122575bfd0a03ff471eceb0f8b48cce751b29f35322d43d7", func := "loop.example/g00879/laws.FnExactInvertRaster", spec := "fnExactInvertRaster", unfollowed := true, recurses := true, apart := false, narrowed := true }
def FnExactInvertRasterUptoSaid : Prop := fnExactInvertRasterUptoRow.holds Try.pinned (OpenSpec.upto fnExactInvertRasterSpec)

/-- 'laws.FnExactDarkPixels', WHERE WHAT IT READS IS OF BULK AT MOST 1048576: true; the input reads as it did. -/
def fnExactDarkPixelsUptoRow : OpenClaim := { program := "ytmcpgaidllpmcaa", sum := "8abd4b9722a91ece122575bfd0a03ff471eceb0f8b48cce751b29f35322d43d7", func := "loop.example/g00879/laws.FnExactDarkPixels", spec := "fnExactDarkPixels", apart := false, narrowed := true }
def FnExactDarkPixelsUptoSaid : Prop := fnExactDarkPixelsUptoRow.holds Try.pinned (OpenSpec.upto fnExactDarkPixelsSpec)

/-- 'laws.FnExactTurnRaster', WHERE WHAT IT READS IS OF BULK AT MOST 1048576: true; the input reads as it did. -/
def fnExactTurnRasterUptoRow : OpenClaim := { program := "ytmcpgaidllpmcaa", sum := "8abd4b9722a91ece122575bfd0a03ff471eceb0f8b48cce751b29f35322d43d7", func := "loop.example/g00879/laws.FnExactTurnRaster", spec := "fnExactTurnRaster", unfollowed := true, recurses := true, apart := false, narrowed := true }
def FnExactTurnRasterUptoSaid : Prop := fnExactTurnRasterUptoRow.holds Try.pinned (OpenSpec.upto fnExactTurnRasterSpec)

/-- 'laws.FnExactCropRaster', WHERE WHAT IT READS IS OF BULK AT MOST 1048576: true; the input reads as it did. -/
def fnExactCropRasterUptoRow : OpenClaim := { program := "ytmcpgaidllpmcaa", sum := "8abd4b9722a91ece122575bfd0a03ff471eceb0f8b48cce751b29f35322d43d7", func := "loop.example/g00879/laws.FnExactCropRaster", spec := "fnExactCropRaster", unfollowed := true, recurses := true, apart := false, narrowed := true }
def FnExactCropRasterUptoSaid : Prop := fnExactCropRasterUptoRow.holds Try.pinned (OpenSpec.upto fnExactCropRasterSpec)

/-- 'laws.FnExactPasteRaster', WHERE WHAT IT READS IS OF BULK AT MOST 1048576: true; the input reads as it did. -/
def fnExactPasteRasterUptoRow : OpenClaim := { program := "ytmcpgaidllpmcaa", sum := "8abd4b9722a91ece122575bfd0a03ff471eceb0f8b48cce751b29f35322d43d7", func := "loop.example/g00879/laws.FnExactPasteRaster", spec := "fnExactPasteRaster", unfollowed := true, recurses := true, apart := false, narrowed := true }
def FnExactPasteRasterUptoSaid : Prop := fnExactPasteRasterUptoRow.holds Try.pinned (OpenSpec.upto fnExactPasteRasterSpec)

/-- 'laws.FnExactBinaryOf', WHERE WHAT IT READS IS OF BULK AT MOST 1048576: true; the input reads as it did. -/
def fnExactBinaryOfUptoRow : OpenClaim := { program := "ytmcpgaidllpmcaa", sum := "8abd4b9722a91ece122575bfd0a03ff471eceb0f8b48cce751b29f35322d43d7", func := "loop.example/g00879/laws.FnExactBinaryOf", spec := "fnExactBinaryOf", apart := false, narrowed := true }
def FnExactBinaryOfUptoSaid : Prop := fnExactBinaryOfUptoRow.holds Try.pinned (OpenSpec.upto fnExactBinaryOfSpec)

end Rows
end Go.Proofs.Ytmcpgaidllpmcaa
