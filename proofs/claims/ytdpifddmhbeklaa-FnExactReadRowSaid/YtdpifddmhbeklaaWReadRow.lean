/-
  DERIVED. The walk of FnExactReadRow.
-/
import Derived.Test.YtdpifddmhbeklaaCReadRow
namespace Go.Proofs.Ytdpifddmhbeklaa
open Go.RowKit
set_option linter.unusedVariables false
theorem walk_FnExactReadRow (aCells_a : Option Addr) (aCells_n aCells_c : Nat) (aCells_z : List Int) (aCluster : Int) (w : World) (h_aCells : Ints .i64 w aCells_a aCells_n aCells_c aCells_z) (f_aCluster : (Lit.int .i64 aCluster).wf = true) :
    Calls Try.prog 6 #[.slice aCells_a aCells_n aCells_c, .int .i64 aCluster] w fun e w' => e = .returned (.bool true) ∧ Below w.heap.size w w' := by
  rcases Int.lt_or_le (1048576 : Int) aCells_n with hbig | hsm
  · exact big_FnExactReadRow aCells_a aCells_n aCells_c aCluster w h_aCells.max hbig
  · have hn : aCells_n ≤ 1048576 := by omega
    cases hx : aCells_z.all (fun x => inB x (-1) 1)
    · exact core_FnExactReadRow aCells_a aCells_n aCells_c aCells_z aCluster w h_aCells.rd hn [] _ (fun a cp W e h => sRR_bad a _ cp _ _ W h hn e hx) (fun a cp W e h => iRR_bad a _ cp _ _ W h hn e hx)
    cases hl : limB aCells_n
    · exact core_FnExactReadRow aCells_a aCells_n aCells_c aCells_z aCluster w h_aCells.rd hn [] _ (fun a cp W e h => sRR_lim a _ cp _ _ W h hn e hx hl) (fun a cp W e h => iRR_lim a _ cp _ _ W h hn e hx hl)
    cases hcl : inB aCluster 0 2
    · exact core_FnExactReadRow aCells_a aCells_n aCells_c aCells_z aCluster w h_aCells.rd hn [] _ (fun a cp W e h => sRR_cl a _ cp _ _ W h hn e hx hl hcl) (fun a cp W e h => iRR_cl a _ cp _ _ W h hn e hx hl hcl)
    · exact core_FnExactReadRow aCells_a aCells_n aCells_c aCells_z aCluster w h_aCells.rd hn _ _ (fun a cp W e h => sRR_ok a _ cp _ _ W h hn e hx hl hcl) (fun a cp W e h => iRR_ok a _ cp _ _ W h hn e hx hl hcl)
end Go.Proofs.Ytdpifddmhbeklaa
