/-
  DERIVED. Runs: the iterator.
-/
import Derived.Test.YtcpicgcdefnhaaaRunsS
import Derived.RangeFuncBox
import Derived.RangeFuncNested
import Derived.RangeFuncBound
import Derived.RangeFuncCalls
import Derived.RangeFuncLeaves
import Derived.Shelf.Abstract
import Derived.Shelf.RegionOpen
import Derived.WalkKit
import Derived.OwnWalkIn
import Derived.TacticsInMore
import Derived.LoopNIn
import Derived.LoopIn
import Derived.Maps.AppendAt
import Derived.Sort.QuietIn
namespace Go.Proofs.Ytcpicgcdefnhaaa
open Go.RowKit Go.Shelf
set_option linter.unusedVariables false
/-- What has come when k cells have been seen, and where the open run begins. -/
def itE (zs : List Int) (n k : Nat) : List R3 := if k < n then (rO zs k).1 else runF zs k
def itS (zs : List Int) (n k : Nat) : Nat := if k < n then (rO zs k).2 else k
theorem itE_zero (zs : List Int) (n : Nat) : itE zs n 0 = [] := by unfold itE; split <;> rfl
theorem itS_zero (zs : List Int) (n : Nat) : itS zs n 0 = 0 := by unfold itS; split <;> rfl
theorem it_same {zs : List Int} {n k : Nat} (h : k + 1 < n) (e : dk zs (k + 1) = dk zs k) : itE zs n (k + 1) = itE zs n k ∧ itS zs n (k + 1) = itS zs n k := by
  unfold itE itS
  rw [if_pos h, if_pos (by omega), if_pos h, if_pos (by omega), rO_same e]
  exact ⟨rfl, rfl⟩
theorem it_new {zs : List Int} {n k : Nat} (hk : k < n) (h : ¬ (k + 1 < n ∧ dk zs (k + 1) = dk zs k)) : itE zs n (k + 1) = itE zs n k ++ [((itS zs n k : Int), (k : Int) + 1 - (itS zs n k : Int), dk zs k)] ∧ itS zs n (k + 1) = k + 1 := by
  have e0 : itE zs n k = (rO zs k).1 := if_pos hk
  have e1 : itS zs n k = (rO zs k).2 := if_pos hk
  rw [e0, e1]
  by_cases hk1 : k + 1 < n
  · have hne : dk zs (k + 1) ≠ dk zs k := fun e => h ⟨hk1, e⟩
    unfold itE itS
    rw [if_pos hk1, if_pos hk1, rO_new hne]
    exact ⟨rfl, rfl⟩
  · unfold itE itS
    rw [if_neg hk1, if_neg hk1]
    exact ⟨rfl, rfl⟩
theorem it_all (zs : List Int) (n : Nat) : itE zs n n = runF zs n := if_neg (by omega)
theorem itS_le (zs : List Int) (n k : Nat) : itS zs n k ≤ k := by
  unfold itS
  split
  · exact (rO_bd zs k).1
  · omega
theorem itE_len (zs : List Int) (n k : Nat) : (itE zs n k).length ≤ k := by
  unfold itE
  split
  · have := rO_bd zs k; omega
  · exact runF_len zs k
/-- Below n₀, and in the box Bs, all lies as it lay. -/
def KpR (n₀ Bs : Nat) (W W' : World) : Prop := Below n₀ W W' ∧ W'.heap[Bs]? = W.heap[Bs]?
theorem KpR.refl (n₀ Bs : Nat) (W : World) : KpR n₀ Bs W W := ⟨Below.refl _ _, rfl⟩
theorem KpR.trans {n₀ Bs : Nat} {A B C : World} (h : KpR n₀ Bs A B) (k : KpR n₀ Bs B C) : KpR n₀ Bs A C := ⟨h.1.trans k.1, k.2.trans h.2⟩
theorem KpR.drewN {n₀ Bs : Nat} {A B : World} (h : KpR n₀ Bs A B) (q : Nat) : KpR n₀ Bs A (B.drewN q) := ⟨below_drewN h.1 q, h.2⟩
theorem KpR.cell {n₀ Bs : Nat} {A B : World} (h : KpR n₀ Bs A B) {i : Nat} : B.cell? ⟨Bs, i, none⟩ = A.cell? ⟨Bs, i, none⟩ := World.cell?_of_block (a := ⟨Bs, i, none⟩) h.2
theorem kpR_b {n₀ Bs : Nat} {w : World} (hn : n₀ ≤ w.heap.size) (hB : Bs < w.heap.size) (W : World) (l : Nat) (o o' : Obj) (hl : w.heap.size ≤ l) (h : W.heap[l]? = some o) (hc : o.isCells = false) (hw : o.isWalk = false) : KpR n₀ Bs W (W.putObj l o') :=
  ⟨belowK_b hn W l o o' hl h hc hw, World.putObj_heap_other (fun e => by omega)⟩
theorem grown_drewN (W : World) (q : Nat) : W.grownBy (W.drewN q) none := ⟨rfl, rfl, rfl, Nat.le_refl _, fun _ _ _ => rfl⟩
attribute [local go_sem] Oper.semAt_some
set_option maxRecDepth 100000 in
set_option maxHeartbeats 4000000 in
theorem iRuns1 (N : Nat) (hN : 1 ≤ N) (l Bs n₀ : Nat) (a : Option Addr) (n cap : Nat) (zs : List Int) (hn : n ≤ 40000) (J Jx : List R3 → World → Prop) (hJd : ∀ pre W q, J pre W → J pre (W.drewN q))
    (hY : ∀ (pre : List R3) (x : R3) (W : World), J pre W → pre.length < n → YieldAt Fence.wide (N - 1) Try.prog l #[.agg #[.int .i64 x.1, .int .i64 x.2.1, .bool x.2.2]] W fun e W' =>
      (e = .returned (.bool true) ∧ J (pre ++ [x]) W' ∧ KpR n₀ Bs W W') ∨ (e = .returned (.bool false) ∧ Jx (pre ++ [x]) W'))
    (W : World) (hBs : W.cell? ⟨Bs, 0, none⟩ = some (.slice a n cap)) (hR : 0 < n → ∃ b off, a = some ⟨b, off, none⟩ ∧ b < n₀ ∧ ∀ i, i < n → W.cell? ⟨b, off + i, none⟩ = some (.int .i64 (zs.getD i 0))) (h0 : J [] W) :
    CallsIn Fence.wide N Try.prog 45 #[.func (.yield l) #[] #[], .pointer (some ⟨Bs, 0, none⟩)] W fun e W' => (∃ v, e = .returned v) ∧
      ((∃ ys, ys = runF zs n ∧ J ys W') ∨ (∃ pre, True ∧ Jx pre W')) := by
  refine callsIn_of_wp Try.func45 rfl trivial ?_ rfl
  simp only [Try.ntmps45, List.size_toArray, List.length_cons, List.length_nil, Nat.reduceAdd, Nat.reduceSub, Array.replicate_succ, Array.replicate_zero, List.push_toArray, List.append_toArray, List.nil_append, List.cons_append]
  have HR := Lib.hid hR
  have HB := Lib.hid hBs
  clear hR
  gi_wp2
  clear hBs
  gi_loopw [3, 7] (fun sv i wr => ∃ (k s : Nat), k ≤ n ∧ i = .int .i64 k ∧ Hid (itS zs n k = s) ∧ s ≤ k ∧ sv = .int .i64 s ∧ Hid (J (itE zs n k) wr) ∧ KpR n₀ Bs W wr) (fun _ i _ => n - (intOf i).toNat)
  case atStart => exact ⟨0, 0, Nat.zero_le _, rfl, itS_zero zs n, Nat.le_refl _, rfl, by rw [itE_zero]; exact h0, KpR.refl _ _ _⟩
  case round =>
    obtain ⟨k, s, hk, rfl, HS, hsk, rfl, HJ, hkp⟩ := hrel
    have hbx : wr.cell? ⟨Bs, 0, none⟩ = some (.slice a n cap) := hkp.cell.trans HB.out
    have HK := Lib.hid hkp
    by_cases hlt : k < n
    · obtain ⟨b, off, rfl, hb, hc⟩ := HR.out (by omega)
      have hx : wr.cell? ⟨b, off + k, none⟩ = some (.int .i64 (zs.getD k 0)) := (hkp.1.cell (p := ⟨b, off + k, none⟩) hb).trans (hc k hlt)
      have HC := Lib.hid hc
      clear hc hkp
      have HDK : Hid ((zs.getD k 0 == 1) = dk zs k) := rfl
      generalize zs.getD k 0 = x at hx HDK
      generalize hdv : dk zs k = d at HDK
      have HD := Lib.hid hdv
      have hxd := HDK.out
      clear hdv HDK
      have k0 : (0 : Int) ≤ (k : Int) := Int.natCast_nonneg _
      have k1 : (k : Int) < (n : Int) := by omega
      by_cases hk1 : k + 1 < n
      · have hx2 : wr.cell? ⟨b, off + (k + 1), none⟩ = some (.int .i64 (zs.getD (k + 1) 0)) := (HK.out.1.cell (p := ⟨b, off + (k + 1), none⟩) hb).trans (HC.out (k + 1) hk1)
        have HDK2 : Hid ((zs.getD (k + 1) 0 == 1) = dk zs (k + 1)) := rfl
        generalize zs.getD (k + 1) 0 = x2 at hx2 HDK2
        generalize hdv : dk zs (k + 1) = d2 at HDK2
        have HD2 := Lib.hid hdv
        have hxd2 := HDK2.out
        clear hdv HDK2
        have k2 : (0 : Int) ≤ (k : Int) + 1 := by omega
        have k3 : (k : Int) + 1 < (n : Int) := by omega
        have kw : IntKind.i64.wrap ((k : Int) + 1) = (k : Int) + 1 := IntWalk.i64_in _ (by omega)
        have kd : decide ((k : Int) + 1 < (n : Int)) = true := by simpa using k3
        have kt : ((k : Int) + 1).toNat = k + 1 := by omega
        by_cases hsame : d2 = d
        · subst hsame
          have HI := Lib.hid (it_same (zs := zs) (n := n) (k := k) hk1 (by rw [HD.out, HD2.out]))
          have hdd : (d2 == d2) = true := by simp
          gi_wp2
          gi_quiet (fail)
          clear kw kd kt
          gi_wp2
          go_roundw
          case rel => exact ⟨k + 1, s, by omega, by go_num, HI.out.2.trans HS.out, by omega, rfl, by rw [HI.out.1]; exact hJd _ _ _ HJ.out, HK.out.drewN _⟩
          case measure => simp [intOf]; omega
        · have HI := Lib.hid (it_new (zs := zs) (n := n) (k := k) hlt (fun h => hsame (by rw [← HD.out, ← HD2.out]; exact h.2)))
          have hdd : (d == d2) = false := by cases d <;> cases d2 <;> simp at hsame ⊢
          gi_wp2
          gi_quiet (fail)
          clear kw kd kt
          generalize hwq : World.drewN wr _ = wq
          have HJq : Hid (J (itE zs n k) wq) := by rw [← hwq]; exact hJd _ _ _ HJ.out
          have HKq : Hid (KpR n₀ Bs W wq) := by rw [← hwq]; exact HK.out.drewN _
          have hxq : wq.cell? ⟨b, off + k, none⟩ = some (.int .i64 x) := by rw [← hwq]; exact hx
          have hbq : wq.cell? ⟨Bs, 0, none⟩ = some (.slice (some ⟨b, off, none⟩) n cap) := by rw [← hwq]; exact hbx
          clear hwq hx hx2 hbx
          obtain ⟨fn, tmps, assign, body, hy, hRd⟩ := hY (itE zs n k) ((s : Int), (k : Int) + 1 - (s : Int), d) wq HJq.out (Nat.lt_of_le_of_lt (itE_len zs n k) hlt)
          dsimp only at hy
          have HRd := Lib.hid hRd
          clear hRd
          gi_wp2
          refine HRd.out.mono ?_
          rintro e W3 (⟨rfl, hJ3, hk3⟩ | ⟨rfl, hJx3⟩)
          · have HJ3 := Lib.hid hJ3
            have HK3 := Lib.hid (HKq.out.trans hk3)
            clear hJ3 hk3
            gi_wp2
            go_roundw
            case rel => exact ⟨k + 1, k + 1, by omega, by go_num, HI.out.2, Nat.le_refl _, by go_num, by rw [HI.out.1, HS.out, HD.out]; exact HJ3.out, HK3.out⟩
            case measure => simp [intOf]; omega
          · gi_wp2
            refine bodyPost_ret (results_none rfl _ _ _) rfl ?_
            exact ⟨⟨_, rfl⟩, .inr ⟨_, trivial, hJx3⟩⟩
      · have HI := Lib.hid (it_new (zs := zs) (n := n) (k := k) hlt (fun h => hk1 h.1))
        have kw : IntKind.i64.wrap ((k : Int) + 1) = (k : Int) + 1 := IntWalk.i64_in _ (by omega)
        have kd : decide ((k : Int) + 1 < (n : Int)) = false := by simp; omega
        gi_wp2
        gi_quiet (fail)
        clear kw kd
        generalize hwq : World.drewN wr _ = wq
        have HJq : Hid (J (itE zs n k) wq) := by rw [← hwq]; exact hJd _ _ _ HJ.out
        have HKq : Hid (KpR n₀ Bs W wq) := by rw [← hwq]; exact HK.out.drewN _
        have hxq : wq.cell? ⟨b, off + k, none⟩ = some (.int .i64 x) := by rw [← hwq]; exact hx
        have hbq : wq.cell? ⟨Bs, 0, none⟩ = some (.slice (some ⟨b, off, none⟩) n cap) := by rw [← hwq]; exact hbx
        clear hwq hx hbx
        obtain ⟨fn, tmps, assign, body, hy, hRd⟩ := hY (itE zs n k) ((s : Int), (k : Int) + 1 - (s : Int), d) wq HJq.out (Nat.lt_of_le_of_lt (itE_len zs n k) hlt)
        dsimp only at hy
        have HRd := Lib.hid hRd
        clear hRd
        gi_wp2
        refine HRd.out.mono ?_
        rintro e W3 (⟨rfl, hJ3, hk3⟩ | ⟨rfl, hJx3⟩)
        · have HJ3 := Lib.hid hJ3
          have HK3 := Lib.hid (HKq.out.trans hk3)
          clear hJ3 hk3
          gi_wp2
          go_roundw
          case rel => exact ⟨k + 1, k + 1, by omega, by go_num, HI.out.2, Nat.le_refl _, by go_num, by rw [HI.out.1, HS.out, HD.out]; exact HJ3.out, HK3.out⟩
          case measure => simp [intOf]; omega
        · gi_wp2
          refine bodyPost_ret (results_none rfl _ _ _) rfl ?_
          exact ⟨⟨_, rfl⟩, .inr ⟨_, trivial, hJx3⟩⟩
    · have hke : k = n := by omega
      have HN := Lib.hid hke
      clear hke
      gi_wp2
      go_end0
      have hj := HJ.out
      rw [HN.out, it_all] at hj
      exact ⟨⟨_, rfl⟩, .inl ⟨_, rfl, hj⟩⟩
end Go.Proofs.Ytcpicgcdefnhaaa
