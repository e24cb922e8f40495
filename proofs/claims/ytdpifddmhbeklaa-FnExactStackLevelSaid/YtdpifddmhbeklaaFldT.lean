/-
  DERIVED. FldR, FldC.
-/
import Derived.Test.YtdpifddmhbeklaaFldQ
import Derived.Test.YtdpifddmhbeklaaFldI
import Derived.Test.YtdpifddmhbeklaaFldM
import Derived.Laws.Tables
namespace Go.Proofs.Ytdpifddmhbeklaa
open Go.RowKit
set_option linter.unusedVariables false
set_option maxRecDepth 20000 in
set_option maxHeartbeats 2000000 in
theorem sRuns (p pw po g : Int) (T : Int → Int) (m : Nat) (hm : 1 ≤ m) (hm2 : m ≤ 1020)
    (hsz : ∀ W, Calls Try.prog 102 #[.agg #[.int .i64 p, .int .i64 pw, .int .i64 po]] W fun e w' => e = .returned (.int .i64 ((m : Int) + 1)) ∧ Below W.heap.size W w')
    (hmul : ∀ x W, 0 ≤ x → x < (m : Int) + 1 → Calls Try.prog 140 #[.agg #[.int .i64 p, .int .i64 pw, .int .i64 po], .int .i64 x, .int .i64 g] W fun e w' => e = .returned (.int .i64 (T x)) ∧ Below W.heap.size W w')
    (hT : ∀ x, 0 ≤ x → x < (m : Int) + 1 → 0 ≤ T x ∧ T x < (m : Int) + 1) (h1 : T 1 = g) (w : World) :
    Calls Try.prog 129 #[.agg #[.int .i64 p, .int .i64 pw, .int .i64 po], .int .i64 g] w fun e w' => e = .returned (.bool (fillB T m)) ∧ Below w.heap.size w w' := by
  have HSZ := Lib.hid hsz
  have HMU := Lib.hid hmul
  have HT := Lib.hid hT
  clear hsz hmul hT
  have HO : Hid (∀ n, 0 ≤ orb T n ∧ orb T n < (m : Int) + 1) := fun n => orb_in (by omega) HT.out n
  have hg : Hid (g = orb T 1) := by unfold Hid; rw [← h1]; rfl
  clear h1
  have wm : IntKind.i64.wrap ((m : Int) + 1 - 1) = (m : Int) := by rw [IntWalk.i64_in _ (by omega)]; omega
  go_enter Try.func129, Try.ntmps129
  go_wp2
  go_loopw [5, 6] (fun xv nv wr => ∃ (x : Int) (n : Nat), xv = .int .i64 x ∧ nv = .int .i64 (n : Int) ∧ 1 ≤ n ∧ n ≤ m + 1 ∧ Hid (x = orb T n) ∧ Hid (Goes T n) ∧ Hid (Below w.heap.size w wr) ∧ w.heap.size < wr.heap.size ∧ wr.cell? ⟨w.heap.size, 0, none⟩ = some (.int .i64 p) ∧ wr.cell? ⟨w.heap.size, 1, none⟩ = some (.int .i64 pw) ∧ wr.cell? ⟨w.heap.size, 2, none⟩ = some (.int .i64 po)) (fun _ n _ => m + 1 - (intOf n).toNat)
  case atStart => exact ⟨g, 1, rfl, rfl, by omega, by omega, hg, Goes.one T, by unfold Hid; repeat' (first | (with_reducible exact Below.refl _ _) | (with_reducible assumption) | (with_reducible refine Below.alloc ?_ ?_ _) | (with_reducible refine Below.setCell ?_ ?_ _) | (with_reducible refine Below.drew ?_) | (with_reducible refine below_drewN ?_ _) | (with_reducible refine below_via (by with_reducible assumption) ?_ ?_) | go_size), by simp, by simp [go_sem], by simp [go_sem], by simp [go_sem]⟩
  case round =>
    obtain ⟨x, n, rfl, rfl, n1, n2, HX, HG, HB, z0, z1, z2, z3⟩ := hrel
    obtain ⟨x0, x1⟩ : 0 ≤ x ∧ x < (m : Int) + 1 := by rw [HX.out]; exact HO.out n
    by_cases hx1 : x = 1
    · subst hx1
      have HE : Hid (∀ b : Bool, (b = true ↔ n = m) → b = fillB T m) := fun b hb => fillB_iff (by
        rw [← Fills.of_runs HG.out n1 hm n2 (.inl HX.out.symm), hb]
        exact ⟨fun h => ⟨HX.out.symm, h⟩, fun h => h.2⟩)
      go_wp2_with (go_at_call 102; refine (HSZ.out _).mono ?_; rintro e w' ⟨rfl, hb⟩; obtain ⟨hc, hf⟩ := bcell hb; have hz := hb.size; (try simp at hz))
      go_returns
      have hbel := HB.out
      exact ⟨ret_bool (HE.out _ (by simp; omega)), by repeat' (first | (with_reducible exact Below.refl _ _) | (with_reducible assumption) | (with_reducible refine Below.alloc ?_ ?_ _) | (with_reducible refine Below.setCell ?_ ?_ _) | (with_reducible refine Below.drew ?_) | (with_reducible refine below_drewN ?_ _) | (with_reducible refine below_via (by with_reducible assumption) ?_ ?_) | go_size)⟩
    by_cases hx0 : x = 0
    · subst hx0
      have HE : Hid (false = fillB T m) := fillB_iff (by
        rw [← Fills.of_runs HG.out n1 hm n2 (.inr (.inl HX.out.symm))]
        constructor
        · intro h; cases h
        · rintro ⟨h, -⟩; exact absurd (HX.out.symm ▸ h : (0 : Int) = 1) (by decide))
      go_wp2
      go_returns
      exact ⟨ret_bool HE.out, HB.out⟩
    have b1 : (x != 1) = true := by simp [hx1]
    have b0 : (x != 0) = true := by simp [hx0]
    by_cases hn : n < m + 1
    · have hnn : (n : Int) < (m : Int) + 1 := by omega
      have HS : Hid (T x = orb T (n + 1)) := by rw [HX.out]; rfl
      have HG' : Hid (Goes T (n + 1)) := HG.out.succ (by rw [← HX.out]; exact hx0) (fun _ => by rw [← HX.out]; exact hx1)
      have hbel := HB.out
      go_wp2_with (first | (go_at_call 102; refine (HSZ.out _).mono ?_; rintro e w' ⟨rfl, hb⟩; obtain ⟨hc, hf⟩ := bcell hb; have hz := hb.size; (try simp at hz)) | (go_at_call 140; refine (HMU.out x _ x0 x1).mono ?_; rintro e w2 ⟨rfl, hb2⟩; obtain ⟨hc2, hf2⟩ := bcell hb2; have hz2 := hb2.size; (try simp at hz2)))
      go_roundw
      case rel => exact ⟨T x, n + 1, rfl, by simp, by omega, by omega, HS, HG', by unfold Hid; repeat' (first | (with_reducible exact Below.refl _ _) | (with_reducible assumption) | (with_reducible refine Below.alloc ?_ ?_ _) | (with_reducible refine Below.setCell ?_ ?_ _) | (with_reducible refine Below.drew ?_) | (with_reducible refine below_drewN ?_ _) | (with_reducible refine below_via (by with_reducible assumption) ?_ ?_) | go_size), by omega, (hc2 _ _ (by omega)).trans ((hc _ _ (by omega)).trans z1), (hc2 _ _ (by omega)).trans ((hc _ _ (by omega)).trans z2), (hc2 _ _ (by omega)).trans ((hc _ _ (by omega)).trans z3)⟩
      case measure => simp [intOf]; omega
    · have en : n = m + 1 := by omega
      subst en
      have HE : Hid (false = fillB T m) := fillB_iff (by
        rw [← Fills.of_runs HG.out n1 hm n2 (.inr (.inr rfl))]
        constructor
        · intro h; cases h
        · rintro ⟨-, h⟩; omega)
      have hbel := HB.out
      go_wp2_with (go_at_call 102; refine (HSZ.out _).mono ?_; rintro e w' ⟨rfl, hb⟩; obtain ⟨hc, hf⟩ := bcell hb; have hz := hb.size; (try simp at hz))
      go_returns
      exact ⟨ret_bool HE.out, by repeat' (first | (with_reducible exact Below.refl _ _) | (with_reducible assumption) | (with_reducible refine Below.alloc ?_ ?_ _) | (with_reducible refine Below.setCell ?_ ?_ _) | (with_reducible refine Below.drew ?_) | (with_reducible refine below_drewN ?_ _) | (with_reducible refine below_via (by with_reducible assumption) ?_ ?_) | go_size)⟩
end Go.Proofs.Ytdpifddmhbeklaa
namespace Go.Proofs.Ytdpifddmhbeklaa
open Go.RowKit
set_option linter.unusedVariables false
def calcCells (b : Bool) (sz : Int) : Array Value := (Value.bool b :: .int .i64 sz :: List.replicate 2042 (.int .i64 0)).toArray
theorem buildP (n : Int) (w : World) : (Instr.build 162 #[(1, .int .i64 n)]).run Try.prog w = .ok (.agg (calcCells false n)) w := run_build w 162 _ _ (by kernel_rfl)
theorem buildB (b : Bool) (n : Int) (w : World) : (Instr.build 162 #[(0, .bool b), (1, .int .i64 n)]).run Try.prog w = .ok (.agg (calcCells b n)) w := run_build w 162 _ _ (by kernel_rfl)
theorem zcP (n : Int) : Try.zeroCells162.setIfInBounds 1 (.int .i64 n) = calcCells false n := by kernel_rfl
theorem zcB (b : Bool) (n : Int) : (Try.zeroCells162.setIfInBounds 0 (.bool b)).setIfInBounds 1 (.int .i64 n) = calcCells b n := by kernel_rfl
theorem calc_at (b : Bool) (sz : Int) (i : Nat) (hi : i < 2044) : ∃ v, (calcCells b sz)[i]? = some v := by
  have : i < (calcCells b sz).size := by
    unfold calcCells
    rw [List.size_toArray]
    simp only [List.length_cons, List.length_replicate]
    omega
  exact ⟨_, Array.getElem?_eq_getElem this⟩
theorem alloc_obj (w : World) (o : Obj) : (w.alloc o).heap[w.heap.size]? = some o := by unfold World.alloc; simp
theorem alloc_cell (w : World) (cs : Array Value) (t : TypeId) (i : Nat) : (w.alloc (.cells cs t)).cell? ⟨w.heap.size, i, none⟩ = cs[i]? := by
  unfold World.cell?
  simp only [alloc_obj]
  simp
theorem alloc_frozen (w : World) (cs : Array Value) (t : TypeId) (i : Nat) : (w.alloc (.cells cs t)).frozen? ⟨w.heap.size, i, none⟩ = false := by
  unfold World.frozen?
  simp only [alloc_obj]
  simp
theorem CalcB.new (w : World) (b : Bool) (sz : Int) (t : TypeId) : CalcB (w.alloc (.cells (calcCells b sz) t)) w.heap.size sz := by
  refine ⟨by simp, ?_, fun i hi => ?_⟩
  · rw [alloc_cell, calcCells, List.getElem?_toArray]
    rfl
  · obtain ⟨v, hv⟩ := calc_at b sz i hi
    exact ⟨v, (alloc_cell _ _ _ _).trans hv, alloc_frozen _ _ _ _⟩
theorem CalcB.below {w w' : World} {b B : Nat} {sz : Int} (h : CalcB w b sz) (hb : Below B w w') (hB : b < B) : CalcB w' b sz :=
  ⟨Nat.lt_of_lt_of_le h.1 hb.size, (hb.cell (p := ⟨b, 1, none⟩) hB).trans h.2.1, fun i hi => by
    obtain ⟨v, hv, hf⟩ := h.2.2 i hi
    exact ⟨v, (hb.cell (p := ⟨b, i, none⟩) hB).trans hv, (hb.frozen (p := ⟨b, i, none⟩) hB).trans hf⟩⟩
set_option maxRecDepth 20000 in
set_option maxHeartbeats 2000000 in
theorem iPows (p g : Int) (m : Nat) (hpm : p = (m : Int) + 1) (hm : 2 ≤ m) (hm2 : m ≤ 1020) (g0 : 0 ≤ g) (g1 : g < p) (w : World) :
    Calls Try.prog 136 #[.int .i64 p, .int .i64 g] w fun e w' => ∃ b, e = .returned (.tuple #[.pointer (some ⟨b, 0, none⟩), .bool (fillB (Tp p g) m)]) ∧ w.heap.size ≤ b ∧ CalcB w' b p ∧ Below w.heap.size w w' := by
  have HPM := Lib.hid hpm
  clear hpm
  go_enter Try.func136, Try.ntmps136
  go_wp2_with fail
  rw [zcP]
  have hp3 : 3 ≤ p := by have := HPM.out; omega
  have hbn := CalcB.new ((w.alloc (.cells #[.int .i64 p] 2)).alloc (.cells #[.int .i64 g] 2)) false p 162
  have hzz : ((w.alloc (.cells #[.int .i64 p] 2)).alloc (.cells #[.int .i64 g] 2)).heap.size = w.heap.size + 1 + 1 := by simp
  rw [hzz] at hbn
  have hk : Below w.heap.size w (((w.alloc (.cells #[.int .i64 p] 2)).alloc (.cells #[.int .i64 g] 2)).alloc (.cells (calcCells false p) 162)) := by repeat' (first | (with_reducible exact Below.refl _ _) | (with_reducible assumption) | (with_reducible refine Below.alloc ?_ ?_ _) | (with_reducible refine Below.setCell ?_ ?_ _) | (with_reducible refine Below.drew ?_) | (with_reducible refine below_drewN ?_ _) | (with_reducible refine below_via (by with_reducible assumption) ?_ ?_) | go_size)
  have hcg : (((w.alloc (.cells #[.int .i64 p] 2)).alloc (.cells #[.int .i64 g] 2)).alloc (.cells (calcCells false p) 162)).cell? ⟨w.heap.size + 1, 0, none⟩ = some (.int .i64 g) := by simp [go_sem]
  have hcp : (((w.alloc (.cells #[.int .i64 p] 2)).alloc (.cells #[.int .i64 g] 2)).alloc (.cells (calcCells false p) 162)).cell? ⟨w.heap.size, 0, none⟩ = some (.int .i64 p) := by simp [go_sem]
  have hsz : (((w.alloc (.cells #[.int .i64 p] 2)).alloc (.cells #[.int .i64 g] 2)).alloc (.cells (calcCells false p) 162)).heap.size = w.heap.size + 3 := by simp
  generalize (((w.alloc (.cells #[.int .i64 p] 2)).alloc (.cells #[.int .i64 g] 2)).alloc (.cells (calcCells false p) 162)) = W at hbn hk hcg hcp hsz ⊢
  refine (iFillP (w.heap.size + 1 + 1) (w.heap.size + 1) w.heap.size p g m HPM.out hm hm2 W hbn hp3 g0 g1 (by omega) (by omega) (by omega) (by omega) hcg hcp).mono ?_
  rintro e w' ⟨rfl, hcb, hgr, hz⟩
  have hbel : Hid (Below w.heap.size w w') := hk.grown hgr (by omega) (fun k e => by injection e with e; omega)
  have HCB := Lib.hid hcb
  clear hbn hk hcg hcp hgr hcb
  go_wp2_with fail
  go_returns
  exact ⟨w.heap.size + 1 + 1, rfl, by omega, HCB.out, hbel.out⟩
end Go.Proofs.Ytdpifddmhbeklaa
