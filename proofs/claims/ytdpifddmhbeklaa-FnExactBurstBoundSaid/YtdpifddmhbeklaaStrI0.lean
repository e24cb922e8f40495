/-
  DERIVED. The order of a stream: impl's iterator.
-/
import Derived.Test.YtdpifddmhbeklaaStrP
import Derived.RangeFuncBox
import Derived.RangeFuncNested
import Derived.RangeFuncBound
import Derived.RangeFuncCalls
import Derived.RangeFuncLeaves
import Derived.Shelf.Abstract
import Derived.Shelf.RegionOpen
import Derived.WalkKit
import Derived.OwnWalkIn
import Derived.TacticsInMore
import Derived.LoopNIn
import Derived.LoopIn
import Derived.Maps.AppendAt
import Derived.Sort.QuietIn
import Derived.BigFrameIn
import Derived.BigGuardIn
namespace Go.Proofs.Ytdpifddmhbeklaa
open Go.RowKit Go.Shelf
set_option linter.unusedVariables false
/-- Below n₀, and in the box Bs, all lies as it lay. -/
def KpL (n₀ Bs : Nat) (W W' : World) : Prop := Below n₀ W W' ∧ W'.heap[Bs]? = W.heap[Bs]?
theorem KpL.refl (n₀ Bs : Nat) (W : World) : KpL n₀ Bs W W := ⟨Below.refl _ _, rfl⟩
theorem KpL.trans {n₀ Bs : Nat} {A B C : World} (h : KpL n₀ Bs A B) (k : KpL n₀ Bs B C) : KpL n₀ Bs A C := ⟨h.1.trans k.1, k.2.trans h.2⟩
theorem KpL.call {n₀ Bs : Nat} {A B C : World} (h : KpL n₀ Bs A B) (hn' : n₀ ≤ A.heap.size) (hb : Below B.heap.size B C) (hB : Bs < B.heap.size) : KpL n₀ Bs A C :=
  ⟨h.1.trans (hb.mono (Nat.le_trans hn' h.1.size)), (hb.block Bs hB).trans h.2⟩
theorem kpL_b {n₀ Bs : Nat} {w : World} (hn : n₀ ≤ w.heap.size) (hB : Bs < w.heap.size) (W : World) (l : Nat) (o o' : Obj) (hl : w.heap.size ≤ l) (h : W.heap[l]? = some o) (hc : o.isCells = false) (hw : o.isWalk = false) : KpL n₀ Bs W (W.putObj l o') :=
  ⟨belowK_b hn W l o o' hl h hc hw, World.putObj_heap_other (fun e => by omega)⟩
theorem Lay6.kpl {w w' : World} {n₀ b : Nat} {p pw po d k c : Int} (h : Lay6 w b p pw po d k c) (hk : KpL n₀ b w w') : Lay6 w' b p pw po d k c := by
  obtain ⟨h0, a0, a1, a2, a3, a4, a5⟩ := h
  have hc : ∀ j, w'.cell? ⟨b, j, none⟩ = w.cell? ⟨b, j, none⟩ := fun j => World.cell?_of_block (a := ⟨b, j, none⟩) hk.2
  exact ⟨Nat.lt_of_lt_of_le h0 hk.1.size, (hc 0).trans a0, (hc 1).trans a1, (hc 2).trans a2, (hc 3).trans a3, (hc 4).trans a4, (hc 5).trans a5⟩
theorem part1_bd (d c : Int) (C : Nat) (h : C ≤ 16) (E : Nat) : (part1 d c C E).length ≤ E * 16 := Nat.le_trans (part1_len d c C E) (Nat.mul_le_mul_left E h)
theorem row1_pre (d c : Int) (e : Nat) {m n : Nat} (h : m ≤ n) : row1 d c e m <+: row1 d c e n := by
  induction n with
  | zero => obtain rfl : m = 0 := by omega
            exact List.prefix_refl _
  | succ n ih =>
    rcases Nat.lt_or_ge m (n + 1) with h1 | h1
    · exact (ih (by omega)).trans (List.prefix_append _ _)
    · obtain rfl : m = n + 1 := by omega
      exact List.prefix_refl _
theorem row2_pre (d c : Int) (e : Nat) {m n : Nat} (h : m ≤ n) : row2 d c e m <+: row2 d c e n := by
  induction n with
  | zero => obtain rfl : m = 0 := by omega
            exact List.prefix_refl _
  | succ n ih =>
    rcases Nat.lt_or_ge m (n + 1) with h1 | h1
    · exact (ih (by omega)).trans (List.prefix_append _ _)
    · obtain rfl : m = n + 1 := by omega
      exact List.prefix_refl _
theorem part1_pre (d c : Int) (C : Nat) {m n : Nat} (h : m ≤ n) : part1 d c C m <+: part1 d c C n := by
  induction n with
  | zero => obtain rfl : m = 0 := by omega
            exact List.prefix_refl _
  | succ n ih =>
    rcases Nat.lt_or_ge m (n + 1) with h1 | h1
    · exact (ih (by omega)).trans (List.prefix_append _ _)
    · obtain rfl : m = n + 1 := by omega
      exact List.prefix_refl _
theorem part2_pre (d c : Int) (C : Nat) {m n : Nat} (h : m ≤ n) : part2 d c C m <+: part2 d c C n := by
  induction n with
  | zero => obtain rfl : m = 0 := by omega
            exact List.prefix_refl _
  | succ n ih =>
    rcases Nat.lt_or_ge m (n + 1) with h1 | h1
    · exact (ih (by omega)).trans (List.prefix_append _ _)
    · obtain rfl : m = n + 1 := by omega
      exact List.prefix_refl _
theorem pre_app {α : Type} {a b : List α} (c : List α) (h : a <+: b) : c ++ a <+: c ++ b := (List.prefix_append_right_inj c).2 h
theorem pre_1 {d c : Int} {C K e k : Nat} (he : e < longZ d c) (hk : k < C) : part1 d c C e ++ row1 d c e (k + 1) <+: ordL d c C K :=
  ((pre_app _ (row1_pre d c e (show k + 1 ≤ C by omega))).trans (part1_pre d c C (show e + 1 ≤ longZ d c by omega))).trans (List.prefix_append _ _)
theorem pre_2 {d c : Int} {C K e k : Nat} (he : e < K) (hk : k < C) : part1 d c C (longZ d c) ++ (part2 d c C e ++ row2 d c e (k + 1)) <+: ordL d c C K :=
  pre_app _ ((pre_app _ (row2_pre d c e (show k + 1 ≤ C by omega))).trans (part2_pre d c C (show e + 1 ≤ K by omega)))
attribute [local go_sem] Oper.semAt_some
set_option maxRecDepth 100000 in
set_option maxHeartbeats 4000000 in
theorem iOrd1 (N : Nat) (hN : 1 ≤ N) (l Bs n₀ : Nat) (p pw po d chk c : Int) (C K : Nat) (c1 : 1 ≤ c) (c16 : c ≤ 16) (c2 : c ≤ d) (d2 : d ≤ 1500) (k1 : 1 ≤ chk) (k2 : chk ≤ 64) (hC : c = (C : Int)) (hK : chk = (K : Int))
    (J Jx : List (Int × Int) → World → Prop) (hJd : ∀ pre W W', J pre W → Below W.heap.size W W' → J pre W')
    (hY : ∀ (pre : List (Int × Int)) (x : Int × Int) (W : World), J pre W → pre.length < 40000 → YieldAt Fence.wide (N - 1) Try.prog l #[.int .i64 x.1, .int .i64 x.2] W fun e W' =>
      (e = .returned (.bool true) ∧ J (pre ++ [x]) W' ∧ KpL n₀ Bs W W') ∨ (e = .returned (.bool false) ∧ Jx (pre ++ [x]) W'))
    (W : World) (hL : Lay6 W Bs p pw po d chk c) (hn₀ : n₀ ≤ W.heap.size) (h0 : J [] W) :
    CallsIn Fence.wide N Try.prog 105 #[.func (.yield l) #[] #[], .pointer (some ⟨Bs, 0, none⟩)] W fun e W' => (∃ v, e = .returned v) ∧
      ((∃ ys, ys = ordL d c C K ∧ J ys W') ∨ (∃ pre, pre <+: ordL d c C K ∧ Jx pre W')) := by
  refine callsIn_of_wp Try.func105 rfl trivial ?_ rfl
  simp only [Try.ntmps105, List.size_toArray, List.length_cons, List.length_nil, Nat.reduceAdd, Nat.reduceSub, Array.replicate_succ, Array.replicate_zero, List.push_toArray, List.append_toArray, List.nil_append, List.cons_append]
  have HC := Lib.hid hC
  have HKK := Lib.hid hK
  obtain ⟨S, hS⟩ : ∃ S : Nat, shareZ d c (c - 1) = (S : Int) := by
    have := (share_bd (k := c - 1) c1 c2 d2).1
    exact ⟨(shareZ d c (c - 1)).toNat, by omega⟩
  have hS2 : S ≤ 1501 := by
    have := (share_bd (k := c - 1) c1 c2 d2).2
    omega
  have HSL : Hid (longZ d c = S) := by unfold Hid longZ; rw [hS]; rfl
  have HSH := Lib.hid hS
  have HL0 := Lib.hid hL
  have HJ00 := Lib.hid h0
  obtain ⟨hlt0, a0, a1, a2, a3, a4, a5⟩ := hL
  clear hC hK hS h0
  gi_wp2_with (refine ⟨trivial, ?_⟩; gi_at_call 64; refine (callsIn_wide.2 (iShare p pw po d chk c _ _ c1 c2 d2)).mono ?_; rintro e1 w1 ⟨rfl, hb1⟩)
  rw [HSH.out]
  have HL1 := Lib.hid (HL0.out.below hb1 hlt0)
  have HK1 := Lib.hid ((KpL.refl n₀ Bs W).call hn₀ hb1 hlt0)
  have HJ1 := Lib.hid (hJd _ _ _ HJ00.out hb1)
  clear hb1 HL0 HJ00 a0 a1 a2 a3 a4 a5
  gi_wp2
  gi_loopw [4] (fun i wr => ∃ (e m : Nat), e ≤ S ∧ i = .int .i64 e ∧ m ≤ e * 16 ∧ Hid ((part1 d c C e).length = m) ∧ Hid (J (part1 d c C e) wr) ∧ Hid (Lay6 wr Bs p pw po d chk c) ∧ Hid (KpL n₀ Bs W wr)) (fun i _ => S - (intOf i).toNat)
  case atStart => exact ⟨0, 0, Nat.zero_le _, rfl, by omega, rfl, HJ1.out, HL1, HK1⟩
  case round =>
    obtain ⟨e, m, he, rfl, hm, HM, HJ, HL, HK⟩ := hrel
    by_cases hlt : e < S
    · have heI : (e : Int) < (S : Int) := by omega
      obtain ⟨wo, hwo⟩ : ∃ wo : World, wo = wr := ⟨_, rfl⟩
      subst hwo
      gi_wp2
      gi_loopw [5] (fun i wr => ∃ (k m : Nat), k ≤ C ∧ i = .int .i64 k ∧ m ≤ e * 16 + k ∧ Hid ((part1 d c C e ++ row1 d c e k).length = m) ∧ Hid (J (part1 d c C e ++ row1 d c e k) wr) ∧ Hid (Lay6 wr Bs p pw po d chk c) ∧ Hid (KpL n₀ Bs W wr)) (fun i _ => C - (intOf i).toNat)
      case atStart => exact ⟨0, m, Nat.zero_le _, rfl, by omega, by rw [row1, List.append_nil]; exact HM.out, by rw [row1, List.append_nil]; exact HJ.out, HL, HK⟩
      case round =>
        clear HM HJ HL HK hm
        obtain ⟨k, m, hk, rfl, hm, HM, HJ, HL, HK⟩ := hrel
        obtain ⟨hlt0, a0, a1, a2, a3, a4, a5⟩ := HL.out
        by_cases hkc : k < C
        · have hkI : (k : Int) < c := by have := HC.out; omega
          have hk16 : k < 16 := by have := HC.out; omega
          by_cases hsh : (e : Int) < shareZ d c (k : Int)
          · have HRow : Hid (part1 d c C e ++ row1 d c e (k + 1) = (part1 d c C e ++ row1 d c e k) ++ [((k : Int), (e : Int))]) := by
              unfold Hid; rw [row1, if_pos hsh, List.append_assoc]
            have HJc := Lib.hid (fun W' (hb : Below wr.heap.size wr W') => hJd _ _ W' HJ.out hb)
            gi_wp2_with (refine ⟨trivial, ?_⟩; gi_at_call 64; refine (callsIn_wide.2 (iShare p pw po d chk c _ _ c1 c2 d2)).mono ?_; rintro e1 w1 ⟨rfl, hb1⟩; have HL1 := Lib.hid (HL.out.below hb1 hlt0); have HK1 := Lib.hid (HK.out.call (hn' := (by omega)) hb1 hlt0); have HJ1 := Lib.hid (HJc.out w1 hb1); obtain ⟨fn, tmps, assign, body, hy, hRd⟩ := hY (part1 d c C e ++ row1 d c e k) ((k : Int), (e : Int)) w1 HJ1.out (by rw [HM.out]; omega); dsimp only at hy; have HRd := Lib.hid hRd; clear hRd hb1)
            refine HRd.out.mono ?_
            rintro e2 W3 (⟨rfl, hJ3, hk3⟩ | ⟨rfl, hJx3⟩)
            · have HJ3 := Lib.hid hJ3
              have HL3 := Lib.hid (HL1.out.kpl hk3)
              have HK3 := Lib.hid (HK1.out.trans hk3)
              clear hJ3 hk3 hy
              gi_wp2
              go_roundw
              case rel => exact ⟨k + 1, m + 1, by omega, by go_num, by omega, by unfold Hid; rw [HRow.out, List.length_append, HM.out]; rfl, by unfold Hid; rw [HRow.out]; exact HJ3.out, HL3, HK3⟩
              case measure => simp [intOf]; omega
            · clear hy
              gi_wp2
              refine bodyPost_ret (results_none rfl _ _ _) rfl ?_
              exact ⟨⟨_, rfl⟩, .inr ⟨_, by rw [← HRow.out]; exact pre_1 (by rw [HSL.out]; exact hlt) hkc, hJx3⟩⟩
          · have hdf : decide ((e : Int) < shareZ d c (k : Int)) = false := decide_eq_false hsh
            have HRow : Hid (part1 d c C e ++ row1 d c e (k + 1) = part1 d c C e ++ row1 d c e k) := by
              unfold Hid; rw [row1, if_neg hsh, List.append_nil]
            gi_wp2_with (refine ⟨trivial, ?_⟩; gi_at_call 64; refine (callsIn_wide.2 (iShare p pw po d chk c _ _ c1 c2 d2)).mono ?_; rintro e1 w1 ⟨rfl, hb1⟩)
            have HL1 := Lib.hid (HL.out.below hb1 hlt0)
            have HK1 := Lib.hid (HK.out.call (hn' := by omega) hb1 hlt0)
            have HJ1 : Hid (J (part1 d c C e ++ row1 d c e (k + 1)) w1) := by rw [HRow.out]; exact hJd _ _ _ HJ.out hb1
            clear hb1
            gi_wp2
            refine ⟨(fun f hf => by cases hf), ?_⟩
            gi_wp2
            go_roundw
            case rel => exact ⟨k + 1, m, by omega, by go_num, by omega, by unfold Hid; rw [HRow.out, HM.out], HJ1, HL1, HK1⟩
            case measure => simp [intOf]; omega
        · have HkC : Hid (k = C) := by unfold Hid; omega
          have hkI : c ≤ (k : Int) := by have := HC.out; omega
          have HE : Hid (part1 d c C e ++ row1 d c e k = part1 d c C (e + 1)) := by unfold Hid; rw [HkC.out]; rfl
          gi_wp2
          go_roundw
          case rel => exact ⟨e + 1, m, by omega, by go_num, by have := HC.out; omega, by unfold Hid; rw [← HE.out]; exact HM.out, by unfold Hid; rw [← HE.out]; exact HJ.out, HL, HK⟩
          case measure => simp [intOf]; omega
    · have HEE : Hid (part1 d c C e = part1 d c C (longZ d c)) := by
        unfold Hid
        rw [HSL.out]
        congr 1
        omega
      have heI : (S : Int) ≤ (e : Int) := by omega
      have hm9 : m ≤ 30000 := by omega
      have HM1 : Hid ((part1 d c C (longZ d c)).length = m) := by rw [← HEE.out]; exact HM.out
      have HJ1 : Hid (J (part1 d c C (longZ d c)) wr) := by rw [← HEE.out]; exact HJ.out
      obtain ⟨wo, hwo⟩ : ∃ wo : World, wo = wr := ⟨_, rfl⟩
      subst hwo
      clear HM HJ
      gi_wp2
      gi_loopw [6] (fun i wr => ∃ (e m : Nat), e ≤ K ∧ i = .int .i64 e ∧ m ≤ 30000 + e * 16 ∧ Hid ((part1 d c C (longZ d c) ++ part2 d c C e).length = m) ∧ Hid (J (part1 d c C (longZ d c) ++ part2 d c C e) wr) ∧ Hid (Lay6 wr Bs p pw po d chk c) ∧ Hid (KpL n₀ Bs W wr)) (fun i _ => K - (intOf i).toNat)
      case atStart => exact ⟨0, m, Nat.zero_le _, rfl, by omega, by rw [part2, List.append_nil]; exact HM1.out, by rw [part2, List.append_nil]; exact HJ1.out, HL, HK⟩
      case round =>
        clear HL HK hm HM1 HJ1 he hlt HEE hm9 heI
        obtain ⟨e, m, he, rfl, hm, HM, HJ, HL, HK⟩ := hrel
        obtain ⟨hlt0, a0, a1, a2, a3, a4, a5⟩ := HL.out
        by_cases hec : e < K
        · have heI : (e : Int) < chk := by have := HKK.out; omega
          have heK : e < 64 := by have := HKK.out; omega
          obtain ⟨wo, hwo⟩ : ∃ wo : World, wo = wr := ⟨_, rfl⟩
          subst hwo
          gi_wp2
          gi_loopw [7] (fun i wr => ∃ (k m : Nat), k ≤ C ∧ i = .int .i64 k ∧ m ≤ 30000 + e * 16 + k ∧ Hid ((part1 d c C (longZ d c) ++ (part2 d c C e ++ row2 d c e k)).length = m) ∧ Hid (J (part1 d c C (longZ d c) ++ (part2 d c C e ++ row2 d c e k)) wr) ∧ Hid (Lay6 wr Bs p pw po d chk c) ∧ Hid (KpL n₀ Bs W wr)) (fun i _ => C - (intOf i).toNat)
          case atStart => exact ⟨0, m, Nat.zero_le _, rfl, by omega, by rw [row2, List.append_nil]; exact HM.out, by rw [row2, List.append_nil]; exact HJ.out, HL, HK⟩
          case round =>
            clear a0 a1 a2 a3 a4 a5 hlt0 HM HJ HL HK hm
            obtain ⟨k, m, hk, rfl, hm, HM, HJ, HL, HK⟩ := hrel
            obtain ⟨hlt0, a0, a1, a2, a3, a4, a5⟩ := HL.out
            by_cases hkc : k < C
            · have hkI : (k : Int) < c := by have := HC.out; omega
              have hk16 : k < 16 := by have := HC.out; omega
              have HRow : Hid (part1 d c C (longZ d c) ++ (part2 d c C e ++ row2 d c e (k + 1)) = (part1 d c C (longZ d c) ++ (part2 d c C e ++ row2 d c e k)) ++ [((k : Int), shareZ d c (k : Int) + (e : Int))]) := by
                unfold Hid; simp only [row2, List.append_assoc]
              obtain ⟨sb1, sb2⟩ := share_bd (k := (k : Int)) c1 c2 d2
              have HJc := Lib.hid (fun W' (hb : Below wr.heap.size wr W') => hJd _ _ W' HJ.out hb)
              gi_wp2_with (refine ⟨trivial, ?_⟩; gi_at_call 64; refine (callsIn_wide.2 (iShare p pw po d chk c _ _ c1 c2 d2)).mono ?_; rintro e1 w1 ⟨rfl, hb1⟩; have HL1 := Lib.hid (HL.out.below hb1 hlt0); have HK1 := Lib.hid (HK.out.call (hn' := (by omega)) hb1 hlt0); have HJ1 := Lib.hid (HJc.out w1 hb1); obtain ⟨fn, tmps, assign, body, hy, hRd⟩ := hY (part1 d c C (longZ d c) ++ (part2 d c C e ++ row2 d c e k)) ((k : Int), shareZ d c (k : Int) + (e : Int)) w1 HJ1.out (by rw [HM.out]; omega); dsimp only at hy; have HRd := Lib.hid hRd; clear hRd hb1)
              refine HRd.out.mono ?_
              rintro e2 W3 (⟨rfl, hJ3, hk3⟩ | ⟨rfl, hJx3⟩)
              · have HJ3 := Lib.hid hJ3
                have HL3 := Lib.hid (HL1.out.kpl hk3)
                have HK3 := Lib.hid (HK1.out.trans hk3)
                clear hJ3 hk3 hy
                gi_wp2
                go_roundw
                case rel => exact ⟨k + 1, m + 1, by omega, by go_num, by omega, by unfold Hid; rw [HRow.out, List.length_append, HM.out]; rfl, by unfold Hid; rw [HRow.out]; exact HJ3.out, HL3, HK3⟩
                case measure => simp [intOf]; omega
              · clear hy
                gi_wp2
                refine bodyPost_ret (results_none rfl _ _ _) rfl ?_
                exact ⟨⟨_, rfl⟩, .inr ⟨_, by rw [← HRow.out]; exact pre_2 hec hkc, hJx3⟩⟩
            · have HkC : Hid (k = C) := by unfold Hid; omega
              have hkI : c ≤ (k : Int) := by have := HC.out; omega
              have HE : Hid (part1 d c C (longZ d c) ++ (part2 d c C e ++ row2 d c e k) = part1 d c C (longZ d c) ++ part2 d c C (e + 1)) := by unfold Hid; rw [HkC.out]; simp only [part2]
              gi_wp2
              go_roundw
              case rel => exact ⟨e + 1, m, by omega, by go_num, by have := HC.out; omega, by unfold Hid; rw [← HE.out]; exact HM.out, by unfold Hid; rw [← HE.out]; exact HJ.out, HL, HK⟩
              case measure => simp [intOf]; omega
        · have HeK : Hid (e = K) := by unfold Hid; omega
          have heI : chk ≤ (e : Int) := by have := HKK.out; omega
          have HE : Hid (part1 d c C (longZ d c) ++ part2 d c C e = ordL d c C K) := by unfold Hid; rw [HeK.out]; rfl
          gi_wp2
          go_end0
          exact ⟨⟨_, rfl⟩, .inl ⟨_, rfl, by rw [← HE.out]; exact HJ.out⟩⟩
end Go.Proofs.Ytdpifddmhbeklaa
