/-
  DERIVED. Runs: plain law.
-/
import Derived.Test.YtcpicgcdefnhaaaBas
import Derived.Test.YtcpicgcdefnhaaaRast
namespace Go.Proofs.Ytcpicgcdefnhaaa
open Go.RowKit
set_option linter.unusedVariables false
/-- The colour of a cell; the runs that are closed when k + 1 cells have been seen, and where the open one begins. -/
def dk (zs : List Int) (k : Nat) : Bool := zs.getD k 0 == 1
def rO (zs : List Int) : Nat → List R3 × Nat
  | 0 => ([], 0)
  | k + 1 => if dk zs (k + 1) = dk zs k then rO zs k else ((rO zs k).1 ++ [(((rO zs k).2 : Int), (k : Int) + 1 - ((rO zs k).2 : Int), dk zs k)], k + 1)
def runF (zs : List Int) : Nat → List R3
  | 0 => []
  | k + 1 => (rO zs k).1 ++ [(((rO zs k).2 : Int), (k : Int) + 1 - ((rO zs k).2 : Int), dk zs k)]
theorem rO_same {zs : List Int} {k : Nat} (h : dk zs (k + 1) = dk zs k) : rO zs (k + 1) = rO zs k := by rw [rO, if_pos h]
theorem rO_new {zs : List Int} {k : Nat} (h : dk zs (k + 1) ≠ dk zs k) : rO zs (k + 1) = (runF zs (k + 1), k + 1) := by rw [rO, if_neg h, runF]
theorem rO_bd (zs : List Int) (k : Nat) : (rO zs k).2 ≤ k ∧ (rO zs k).1.length ≤ (rO zs k).2 := by
  induction k with
  | zero => simp [rO]
  | succ k ih =>
    rw [rO]
    split
    · omega
    · simp only [List.length_append, List.length_cons, List.length_nil]; omega
theorem runF_len (zs : List Int) (k : Nat) : (runF zs k).length ≤ k := by
  cases k with
  | zero => simp [runF]
  | succ k => have := rO_bd zs k; simp [runF]; omega
theorem runF_same {zs : List Int} {k : Nat} (h : dk zs (k + 1) = dk zs k) : runF zs (k + 2) = (rO zs k).1 ++ [(((rO zs k).2 : Int), ((k : Int) + 1 - ((rO zs k).2 : Int)) + 1, dk zs k)] := by
  rw [runF, rO_same h, h]
  congr 3
  simp only [Prod.mk.injEq, and_true]
  omega
theorem runF_new {zs : List Int} {k : Nat} (h : dk zs (k + 1) ≠ dk zs k) : runF zs (k + 2) = runF zs (k + 1) ++ [(((k + 1 : Nat) : Int), 1, dk zs (k + 1))] := by
  have e := rO_new h
  rw [runF, e]
  congr 3
  simp only [Prod.mk.injEq, and_true]
  omega
theorem run_set1 (L1 : List R3) (s y y' : Int) (p : Bool) : (runV (L1 ++ [(s, y, p)])).set (L1.length * 3 + 1) (.int .i64 y') = runV (L1 ++ [(s, y', p)]) := by
  have l : (runV L1).length = L1.length * 3 := runV_length L1
  have e : ∀ q : R3, runV (L1 ++ [q]) = runV L1 ++ runCell q := fun q => by simp [runV]
  rw [e, e, List.set_append_right _ _ (by omega)]
  simp [runCell, l]
theorem run_last (L1 : List R3) (x : R3) : (L1 ++ [x]).getD L1.length (0, 0, false) = x := by simp [List.getD_eq_getElem?_getD]
def lineB (n : Nat) (zs : List Int) : Bool := zs.all (fun x => inB x (-1) 1) && decide (n ≤ 40000)
theorem lineB_no {n : Nat} {zs : List Int} {k : Nat} (hk : k < zs.length) (h : inB (zs.getD k 0) (-1) 1 = false) : lineB n zs = false := by
  rw [lineB, all_no hk h]; rfl
theorem lineB_long {n : Nat} {zs : List Int} (h : ¬ n ≤ 40000) : lineB n zs = false := by simp [lineB, h]
theorem lineB_yes {n : Nat} {zs : List Int} (h1 : ∀ i, i < zs.length → inB (zs.getD i 0) (-1) 1 = true) : lineB n zs = decide (n ≤ 40000) := by
  rw [lineB, all_yes h1]; rfl
theorem lineB_iff {n : Nat} {zs : List Int} (h : lineB n zs = true) : n ≤ 40000 ∧ ∀ x ∈ zs, -1 ≤ x ∧ x ≤ 1 := by
  simp only [lineB, Bool.and_eq_true, decide_eq_true_eq, List.all_eq_true] at h
  exact ⟨h.2, fun x hx => inB_iff.1 (h.1 x hx)⟩
def NewRuns (w : World) (L : List R3) (e : Ending) (w' : World) : Prop :=
  ∃ a cp, e = .returned (.slice a L.length cp) ∧ w'.ownsRow w.heap.size 51 3 (.slice a L.length cp) L.length (runV L) ∧ Below w.heap.size w w' ∧ L.length ≤ 1048576
end Go.Proofs.Ytcpicgcdefnhaaa
