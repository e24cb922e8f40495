/-
  DERIVED. Lay0, Lay1, Lay2, WLayout.
-/
import Derived.Test.YtenelpollcabnaaFldD
import Derived.BigQuiet
import Derived.Test.YtenelpollcabnaaRegI
namespace Go.Proofs.Ytenelpollcabnaa
open Go.RowKit
set_option linter.unusedVariables false
noncomputable def codeB (p pw po len chk : Int) : Bool := fldB p pw po && inB chk 1 64 && inB len (chk + 1) 255 && decide (len < fszZ p pw)
theorem sSzF {p pw po : Int} (h : fldB p pw po = true) (w : World) : Calls Try.prog 105 #[.agg #[.int .i64 p, .int .i64 pw, .int .i64 po]] w fun e w' => e = .returned (.int .i64 (fszZ p pw)) ∧ Below w.heap.size w w' := by
  rcases fldB_true.1 h with ⟨rfl, -⟩ | ⟨h1, rfl, k, h3, h8, rfl, -⟩
  · exact sSz1 p po w
  · have e : fszZ 2 (k : Int) = 2 ^ k := by unfold fszZ; rw [if_neg h1]; rfl
    rw [e]
    exact sSzB k h3 h8 po w
theorem fsz_bd {p pw po : Int} (h : fldB p pw po = true) : 3 ≤ fszZ p pw ∧ fszZ p pw ≤ 1021 := by
  rcases fldB_true.1 h with ⟨rfl, a, b, -⟩ | ⟨h1, rfl, k, h3, h8, rfl, -⟩
  · unfold fszZ; rw [if_pos rfl]; exact ⟨a, b⟩
  · have e : fszZ 2 (k : Int) = 2 ^ k := by unfold fszZ; rw [if_neg h1]; rfl
    rw [e]
    have hs : (8 : Nat) ≤ 2 ^ k := Nat.pow_le_pow_right (n := 2) (by decide) h3
    have hs2 : (2 : Nat) ^ k ≤ 256 := Nat.pow_le_pow_right (n := 2) (by decide) h8
    have e2 : ((2 ^ k : Nat) : Int) = 2 ^ k := by simp
    omega
end Go.Proofs.Ytenelpollcabnaa
namespace Go.Proofs.Ytenelpollcabnaa
open Go.RowKit
set_option linter.unusedVariables false
def shareZ (d c k : Int) : Int := if c - d % c ≤ k then d / c + 1 else d / c
theorem share_bd {d c k : Int} (c1 : 1 ≤ c) (c2 : c ≤ d) (d2 : d ≤ 1500) : 1 ≤ shareZ d c k ∧ shareZ d c k ≤ 1501 := by
  have h1 : d / c ≤ d := Int.ediv_le_self _ (by omega)
  have h2 : 1 ≤ d / c := by
    have := Int.ediv_le_ediv (c := c) (by omega) c2
    rwa [Int.ediv_self (by omega)] at this
  unfold shareZ
  split <;> omega
theorem share_yes {d c k : Int} (h : c - d % c ≤ k) : shareZ d c k = d / c + 1 := if_pos h
theorem share_no {d c k : Int} (h : ¬ c - d % c ≤ k) : shareZ d c k = d / c := if_neg h
def Res5 (w : World) (b : Nat) : Prop := b < w.heap.size ∧ (w.cell? ⟨b, 0, none⟩ = some (.int .i64 0) ∧ w.cell? ⟨b, 1, none⟩ = some (.int .i64 0) ∧ w.cell? ⟨b, 2, none⟩ = some (.int .i64 0) ∧ w.cell? ⟨b, 3, none⟩ = some (.int .i64 0) ∧ w.cell? ⟨b, 4, none⟩ = some (.int .i64 0)) ∧ (w.frozen? ⟨b, 0, none⟩ = false ∧ w.frozen? ⟨b, 1, none⟩ = false ∧ w.frozen? ⟨b, 2, none⟩ = false ∧ w.frozen? ⟨b, 3, none⟩ = false ∧ w.frozen? ⟨b, 4, none⟩ = false)
def Code5 (w : World) (b : Nat) (v0 v1 v2 v3 v4 : Int) : Prop := b < w.heap.size ∧ (w.cell? ⟨b, 0, none⟩ = some (.int .i64 v0) ∧ w.cell? ⟨b, 1, none⟩ = some (.int .i64 v1) ∧ w.cell? ⟨b, 2, none⟩ = some (.int .i64 v2) ∧ w.cell? ⟨b, 3, none⟩ = some (.int .i64 v3) ∧ w.cell? ⟨b, 4, none⟩ = some (.int .i64 v4))
theorem Res5.keep {w w' : World} {b : Nat} (h : Res5 w b) (hb : Below w.heap.size w w') : Res5 w' b := by
  obtain ⟨h0, ⟨a0, a1, a2, a3, a4⟩, ⟨f0, f1, f2, f3, f4⟩⟩ := h
  have hc : ∀ j, w'.cell? ⟨b, j, none⟩ = w.cell? ⟨b, j, none⟩ := fun j => hb.cell (p := ⟨b, j, none⟩) h0
  have hf : ∀ j, w'.frozen? ⟨b, j, none⟩ = w.frozen? ⟨b, j, none⟩ := fun j => hb.frozen (p := ⟨b, j, none⟩) h0
  exact ⟨Nat.lt_of_lt_of_le h0 hb.size, ⟨(hc 0).trans a0, (hc 1).trans a1, (hc 2).trans a2, (hc 3).trans a3, (hc 4).trans a4⟩, ⟨(hf 0).trans f0, (hf 1).trans f1, (hf 2).trans f2, (hf 3).trans f3, (hf 4).trans f4⟩⟩
theorem Res5.new (w : World) (t : TypeId) : Res5 (w.alloc (.cells #[.int .i64 0, .int .i64 0, .int .i64 0, .int .i64 0, .int .i64 0] t)) w.heap.size := by
  refine ⟨by simp, ⟨by simp, by simp, by simp, by simp, by simp⟩, ⟨?_, ?_, ?_, ?_, ?_⟩⟩ <;> simp [go_sem]
def Lay6 (w : World) (b : Nat) (p pw po d k c : Int) : Prop := b < w.heap.size ∧ (w.cell? ⟨b, 0, none⟩ = some (.int .i64 p) ∧ w.cell? ⟨b, 1, none⟩ = some (.int .i64 pw) ∧ w.cell? ⟨b, 2, none⟩ = some (.int .i64 po) ∧ w.cell? ⟨b, 3, none⟩ = some (.int .i64 d) ∧ w.cell? ⟨b, 4, none⟩ = some (.int .i64 k) ∧ w.cell? ⟨b, 5, none⟩ = some (.int .i64 c))
theorem Lay6.below {w w' : World} {b B : Nat} {p pw po d k c : Int} (h : Lay6 w b p pw po d k c) (hb : Below B w w') (hB : b < B) : Lay6 w' b p pw po d k c := by
  obtain ⟨h0, a0, a1, a2, a3, a4, a5⟩ := h
  have hc : ∀ j, w'.cell? ⟨b, j, none⟩ = w.cell? ⟨b, j, none⟩ := fun j => hb.cell (p := ⟨b, j, none⟩) hB
  exact ⟨Nat.lt_of_lt_of_le h0 hb.size, (hc 0).trans a0, (hc 1).trans a1, (hc 2).trans a2, (hc 3).trans a3, (hc 4).trans a4, (hc 5).trans a5⟩
theorem Lay6.new (w : World) (t : TypeId) (p pw po d k c : Int) : Lay6 (w.alloc (.cells #[.int .i64 p, .int .i64 pw, .int .i64 po, .int .i64 d, .int .i64 k, .int .i64 c] t)) w.heap.size p pw po d k c := ⟨by simp, by simp, by simp, by simp, by simp, by simp, by simp⟩
theorem store5 {w : World} {b : Nat} {v0 v1 v2 v3 v4 : Int} {x0 x1 x2 x3 x4 : Value} (hb : b < w.heap.size) (h0 : w.cell? ⟨b, 0, none⟩ = some x0) (h1 : w.cell? ⟨b, 1, none⟩ = some x1) (h2 : w.cell? ⟨b, 2, none⟩ = some x2) (h3 : w.cell? ⟨b, 3, none⟩ = some x3) (h4 : w.cell? ⟨b, 4, none⟩ = some x4) :
    Hid (Code5 (((((w.setCell ⟨b, 0, none⟩ (.int .i64 v0)).setCell ⟨b, 1, none⟩ (.int .i64 v1)).setCell ⟨b, 2, none⟩ (.int .i64 v2)).setCell ⟨b, 3, none⟩ (.int .i64 v3)).setCell ⟨b, 4, none⟩ (.int .i64 v4)) b v0 v1 v2 v3 v4) := by
  have ot : ∀ (W : World) (i j : Nat) (v : Value), i ≠ j → (W.setCell ⟨b, j, none⟩ v).cell? ⟨b, i, none⟩ = W.cell? ⟨b, i, none⟩ := fun W i j v h => World.cell?_setCell_other _ _ _ _ (by intro e; injection e with e1 e2; omega)
  refine ⟨by simpa using hb, ?_, ?_, ?_, ?_, ?_⟩
  · rw [ot _ 0 4 _ (by decide), ot _ 0 3 _ (by decide), ot _ 0 2 _ (by decide), ot _ 0 1 _ (by decide)]; exact World.cell?_setCell_same w ⟨b, 0, none⟩ _ h0
  · rw [ot _ 1 4 _ (by decide), ot _ 1 3 _ (by decide), ot _ 1 2 _ (by decide)]; exact World.cell?_setCell_same _ ⟨b, 1, none⟩ _ ((ot _ 1 0 _ (by decide)).trans h1)
  · rw [ot _ 2 4 _ (by decide), ot _ 2 3 _ (by decide)]; exact World.cell?_setCell_same _ ⟨b, 2, none⟩ _ ((ot _ 2 1 _ (by decide)).trans ((ot _ 2 0 _ (by decide)).trans h2))
  · rw [ot _ 3 4 _ (by decide)]; exact World.cell?_setCell_same _ ⟨b, 3, none⟩ _ ((ot _ 3 2 _ (by decide)).trans ((ot _ 3 1 _ (by decide)).trans ((ot _ 3 0 _ (by decide)).trans h3)))
  · exact World.cell?_setCell_same _ ⟨b, 4, none⟩ _ ((ot _ 4 3 _ (by decide)).trans ((ot _ 4 2 _ (by decide)).trans ((ot _ 4 1 _ (by decide)).trans ((ot _ 4 0 _ (by decide)).trans h4))))
end Go.Proofs.Ytenelpollcabnaa
namespace Go.Proofs.Ytenelpollcabnaa
open Go.RowKit
set_option linter.unusedVariables false
end Go.Proofs.Ytenelpollcabnaa
namespace Go.Proofs.Ytenelpollcabnaa
open Go.RowKit
set_option linter.unusedVariables false
set_option maxHeartbeats 1000000 in
theorem toField (a b c : Int) (w : World) : Calls Try.prog 37 #[.agg #[.int .i64 a, .int .i64 b, .int .i64 c]] w fun e w' => e = .returned (.agg #[.int .i64 a, .int .i64 b, .int .i64 c]) ∧ Below w.heap.size w w' := by
  go_enter Try.func37, Try.ntmps37
  go_wp2
  go_returns
  exact ⟨rfl, by repeat' (first | (with_reducible exact Below.refl _ _) | (with_reducible assumption) | (with_reducible refine Below.alloc ?_ ?_ _) | (with_reducible refine Below.setCell ?_ ?_ _) | (with_reducible refine Below.drew ?_) | (with_reducible refine below_drewN ?_ _) | (with_reducible refine below_via (by with_reducible assumption) ?_ ?_) | go_size)⟩
theorem toFieldX (a b c : Int) (w : World) : Calls Try.prog 37 #[.agg #[.int .i64 a, .int .i64 b, .int .i64 c]] w fun e w' => e = .returned (.agg #[.int .i64 a, .int .i64 b, .int .i64 c]) ∧
    ((w.alloc (.cells #[.int .i64 a, .int .i64 b, .int .i64 c] 23)).alloc (.cells #[.int .i64 a, .int .i64 b, .int .i64 c] 32)).alloc (.cells #[.int .i64 a, .int .i64 b, .int .i64 c] 32) = w' := by
  go_enter Try.func37, Try.ntmps37
  go_wp2
  go_returns
  exact ⟨rfl, rfl⟩
end Go.Proofs.Ytenelpollcabnaa
