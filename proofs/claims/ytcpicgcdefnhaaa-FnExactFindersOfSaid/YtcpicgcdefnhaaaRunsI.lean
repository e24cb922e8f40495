/-
  DERIVED. Runs: impl.
-/
import Derived.Test.YtcpicgcdefnhaaaRunsI0
import Derived.RangeFuncBox
import Derived.RangeFuncNested
import Derived.RangeFuncBound
import Derived.RangeFuncCalls
import Derived.RangeFuncLeaves
import Derived.Shelf.Abstract
import Derived.Shelf.RegionOpen
import Derived.WalkKit
import Derived.OwnWalkIn
import Derived.TacticsInMore
import Derived.LoopNIn
import Derived.LoopIn
import Derived.Maps.AppendAt
import Derived.Sort.QuietIn
namespace Go.Proofs.Ytcpicgcdefnhaaa
open Go.RowKit Go.Shelf
set_option linter.unusedVariables false
attribute [local go_sem] Oper.semAt_some
set_option maxHeartbeats 1000000 in
theorem iRunsMk (a : Option Addr) (n cp : Nat) (w : World) : Calls Try.prog 44 #[.slice a n cp] w fun e w' => e = .returned (.func (.func 45) #[] #[.pointer (some ⟨w.heap.size, 0, none⟩)]) ∧ w.alloc (.cells #[.slice a n cp] 22) = w' := by
  go_enter Try.func44, Try.ntmps44
  go_wp2
  go_returns
  exact ⟨rfl, rfl⟩
theorem blk_own (B : Nat) (t : TypeId) (cs : Array Value) : OwnFrom (β := Unit) 0 (fun _ W => Blk W B t cs) := fun _ X Y row h hg hr => by
  refine (hg.block B h.lt (fun e => ?_)).trans h
  obtain ⟨_, o, ho, hc⟩ := hr B e.symm
  rw [show X.heap[B]? = _ from h] at ho
  cases ho
  cases hc
set_option maxRecDepth 100000 in
set_option maxHeartbeats 4000000 in
theorem iRunsL (a : Option Addr) (n cp : Nat) (zs : List Int) (w : World) (h : Rd w a n zs) (hn : n ≤ 40000) :
    Calls Try.prog 40 #[.slice a n cp] w (NewRuns w (runF zs n)) := by
  obtain ⟨i0, hi, hz0, hz1, hz2⟩ := info_parts infoRun
  refine (callsIn_wide (n := 8)).1 ?_
  refine callsIn_of_wp_marks Try.func40 rfl trivial ?_ rfl
  simp only [Try.ntmps40, List.size_toArray, List.length_cons, List.length_nil, Nat.reduceAdd, Nat.reduceSub, Array.replicate_succ, Array.replicate_zero, List.push_toArray, List.append_toArray, List.nil_append, List.cons_append]
  gi_wp2_with (refine ⟨trivial, ?_⟩; gi_at_call 44; refine (callsIn_wide.2 (iRunsMk _ _ _ _)).mono ?_; rintro e w' ⟨rfl, rfl⟩)
  have bO := (Boxed.new (w.alloc (.cells #[] 51)) 47 (.slice (some ⟨w.heap.size, 0, none⟩) 0 0)).alloc (.cells #[.slice a n cp] 22)
  have bL := Boxed.new ((w.alloc (.cells #[] 51)).alloc (.cells #[.slice (some ⟨w.heap.size, 0, none⟩) 0 0] 47)) 22 (.slice a n cp)
  simp only [World.size_alloc] at bO bL
  have hB0 : Below w.heap.size w (((w.alloc (.cells #[] 51)).alloc (.cells #[.slice (some ⟨w.heap.size, 0, none⟩) 0 0] 47)).alloc (.cells #[.slice a n cp] 22)) := by repeat' (first | (with_reducible exact Below.refl _ _) | (with_reducible assumption) | (with_reducible refine Below.alloc ?_ ?_ _) | (with_reducible refine Below.setCell ?_ ?_ _) | (with_reducible refine Below.drew ?_) | (with_reducible refine below_drewN ?_ _) | (with_reducible refine below_via (by with_reducible assumption) ?_ ?_) | go_size)
  have hR0 : (((w.alloc (.cells #[] 51)).alloc (.cells #[.slice (some ⟨w.heap.size, 0, none⟩) 0 0] 47)).alloc (.cells #[.slice a n cp] 22)).ownsRow w.heap.size 51 3 (.slice (some ⟨w.heap.size, 0, none⟩) 0 0) 0 [] := by
    have := World.ownsRow_lit (base := w.heap.size) (e := 51) (size := 3) w #[] 0 (by simp) (by unfold maxLen; omega) (by simp)
    simp at this
    exact (this.alloc _).alloc _
  have hsz : (((w.alloc (.cells #[] 51)).alloc (.cells #[.slice (some ⟨w.heap.size, 0, none⟩) 0 0] 47)).alloc (.cells #[.slice a n cp] 22)).heap.size = w.heap.size + 3 := by simp
  obtain ⟨W0, hW0⟩ : ∃ W0, ((w.alloc (.cells #[] 51)).alloc (.cells #[.slice (some ⟨w.heap.size, 0, none⟩) 0 0] 47)).alloc (.cells #[.slice a n cp] 22) = W0 := ⟨_, rfl⟩
  rw [hW0] at bO bL hB0 hR0 hsz ⊢
  clear hW0
  have hseq : SeqStopsK Fence.wide (8 - 1) Try.prog 45 #[.pointer (some ⟨w.heap.size + 1 + 1, 0, none⟩)] (fun x : R3 => #[Value.agg #[.int .i64 x.1, .int .i64 x.2.1, .bool x.2.2]]) (KpR w.heap.size (w.heap.size + 1 + 1)) (fun ys => ys = runF zs n) (fun _ => True) n W0 := by
    intro l J Jx W hW hJ _ hY h0
    refine iRuns1 (8 - 1) (by omega) l (w.heap.size + 1 + 1) w.heap.size a n cp zs hn J Jx (fun pre W q hj => hJ pre W _ none hj (grown_drewN W q) (fun r e => by cases e)) hY W ?_ ?_ h0
    · exact (hW.cell (p := ⟨w.heap.size + 1 + 1, 0, none⟩) bL.lt).trans bL.cell
    · intro hp
      obtain ⟨b, off, e, hb, hc⟩ := h.2 hp
      exact ⟨b, off, e, hb, fun i hi => ((hB0.trans (hW.mono (by omega))).cell (p := ⟨b, off + i, none⟩) hb).trans (hc i hi)⟩
  have h1 : 1 ≤ 8 := by omega
  refine wpIn_rangeFunc_ownH rfl h1 (gf := 45) (lb := #[.pointer (some ⟨w.heap.size + 1 + 1, 0, none⟩)]) rfl trivial (enters_of Try.func45 (by kernel_rfl) rfl)
    hseq KpR.trans (kpR_b (by omega) (by omega)) (Below.refl _ _) (fun _ => rfl)
    (fun pre W => ((∃ v, Boxed W (w.heap.size + 1) 47 v ∧ W.ownsRow w.heap.size 51 3 v pre.length (runV pre) ∧ True) ∧ Boxed W (w.heap.size + 1 + 1) 22 (.slice a n cp)) ∧ Below w.heap.size w W)
    (fun _ _ _ => False)
    (OwnFrom.and (OwnFrom.and (Own.from (holdsRow_own w.heap.size (w.heap.size + 1) 47 51 3 (fun pre : List R3 => pre.length) runV (fun _ _ => True)) _) (Own.from (boxed_own _ _ _) _)) (ownFrom_below (Nat.le_refl _) (by omega)))
    (fun _ _ _ _ _ hs _ _ => hs)
    ⟨⟨⟨_, bO, hR0, trivial⟩, bL⟩, hB0⟩
    (fun x a' W => ∃ Bx, w.heap.size + 1 + 1 < Bx ∧ Blk W Bx 51 #[.int .i64 x.1, .int .i64 x.2.1, .bool x.2.2] ∧ a' = { tmps := #[.slice a n cp, undef, .slice none 0 0, .pointer (some ⟨w.heap.size + 1, 0, none⟩), .pointer (some ⟨Bx, 0, none⟩), .slice (some ⟨w.heap.size, 0, none⟩) 0 0, .slice a n cp, .func (.func 45) #[] #[.pointer (some ⟨w.heap.size + 1 + 1, 0, none⟩)], .agg #[.int .i64 x.1, .int .i64 x.2.1, .bool x.2.2], undef, undef, undef, undef, undef], defers := [] })
    (fun x a' _ X Y row hs hg hr => by obtain ⟨Bx, h1, h2, h3⟩ := hs; exact ⟨Bx, h1, blk_own Bx _ _ () X Y row h2 hg (fun r e => ⟨Nat.zero_le _, (hr r e).2⟩), h3⟩)
    ?assign ?body ?done ?stop
  case assign =>
    rintro l pre x W K ⟨⟨⟨v, hv, hrow, _⟩, bL1⟩, hB1⟩ hK
    have hlt1 := bL1.lt
    gi_wp2
    exact hK _ _ ((KeepsOthers.alloc _ _).from _) ⟨(Below.refl _ W).alloc hB1.size _, (bL1.alloc _).trans bL1.symm⟩ ⟨⟨⟨v, hv.alloc _, hrow.alloc _, trivial⟩, bL1.alloc _⟩, hB1.alloc hB1.size _⟩ ⟨W.heap.size, hlt1, Blk.new W _ _, rfl⟩
  case body =>
    rintro l pre x a' W hl ⟨r, hr⟩ ⟨⟨⟨v, hv, hrow, _⟩, bL1⟩, hB1⟩ ⟨Bx, hBx, bX, rfl⟩ hlt
    have hc := hv.cell
    have x0 := bX.cell 0
    have x1 := bX.cell 1
    have x2 := bX.cell 2
    simp at x0 x1 x2
    have hsW := hB1.size
    gi_wp2_with (gi_at_builtin; refine wpListIn_append_own _ rfl _ _ 47 rfl w.heap.size 51 i0 _ 3 24 Try.underlying47 hi hz0 hz1 hz2 rfl (by decide) _ _ _ rfl (hrow.alloc _) ⟨W.heap.size, 0, none⟩ 1 1 [.int .i64 x.1, .int .i64 x.2.1, .bool x.2.2] rfl rfl (World.news_of_block (heap_alloc_new W _)) (by simp [Value.oneCell']) (by unfold maxLen; omega) (by omega) (by simp; omega) ?_; intro v' w1 hown' hgrow _; obtain ⟨g', cap', rfl⟩ := ownsRow_succ hown'; obtain ⟨hv1, hv2, hr2, hk2, hb2⟩ := hv.appended (by decide) hrow hsW (Nat.le_succ _) hown' hgrow; have hc1 := hv1.cell; have hf1 := hv1.frozen; have bL2 := ((bL1.alloc _).kept hgrow (bL1.not_row (by decide) hrow)).other (B' := w.heap.size + 1) (by omega) (.slice (some ⟨g', 0, none⟩) (pre.length + 1) cap'))
    exact ⟨hk2.from _, ⟨hb2, bL2.trans bL1.symm⟩, ⟨⟨⟨_, hv2, by rw [runV_app, List.length_append]; simpa [runV, runCell] using hr2, trivial⟩, bL2⟩, hB1.trans hb2⟩⟩
  case done =>
    rintro D ys W hD rfl ⟨⟨⟨v, hv, hrow, _⟩, bL1⟩, hB1⟩ hK
    have hc := hv.cell
    obtain ⟨av, cv, rfl⟩ := ownN_shape hrow
    gi_wp2
    refine ⟨by simp, .inl ⟨_, _, rfl, run_takeDeferred hK, ?_⟩⟩
    have hlen := runF_len zs n
    exact ⟨_, results_tmp rfl _ _ _, av, cv, rfl, ownsRow_putObj hrow _ hK rfl, hB1.trans (belowK_b (w := w) (Nat.le_refl _) W D _ _ (by omega) hK rfl rfl), by omega⟩
  case stop =>
    rintro D c pre W _ _ h _
    exact h.elim
end Go.Proofs.Ytcpicgcdefnhaaa
