/-
  DERIVED. Sections: impl.
-/
import Derived.Test.YtbcbdphnbfjhoaaSecI0
import Derived.Test.YtbcbdphnbfjhoaaRunsO
import Derived.Conc.MuLone
import Derived.Maps.AppendAt
import Derived.Deep.AppendLies
namespace Go.Proofs.Ytbcbdphnbfjhoaa
open Go.RowKit
set_option linter.unusedVariables false
set_option maxHeartbeats 2000000 in
theorem iSectionsIn_no (a : Option Addr) (n cp : Nat) (zs : List Int) (w : World) (h : Rd w a n zs) (hn : n ≤ 1048576) (hl : lineB n zs = false) :
    Calls Try.prog 29 #[.slice a n cp] w (ResRun w [] 1) := by
  have HH := Lib.hid h
  clear h
  go_enter Try.func29, Try.ntmps29
  go_wp2_with fail
  refine (iLine _ n _ zs _ HH.out hn).mono ?_
  rintro e w1 ⟨rfl, hb1⟩
  rw [hl]
  go_wp2
  go_returns
  exact ⟨none, 0, rfl, World.ownsRow_nil _ _ _ _, by repeat' (first | (with_reducible exact Below.refl _ _) | (with_reducible assumption) | (with_reducible refine Below.alloc ?_ ?_ _) | (with_reducible refine Below.setCell ?_ ?_ _) | (with_reducible refine Below.drew ?_) | (with_reducible refine below_drewN ?_ _) | (with_reducible refine below_via (by with_reducible assumption) ?_ ?_) | go_size), by simp⟩
theorem secW_of {L : List R3} {k : Nat} : (secL L k).map (fun x => ((x.1, x.2.1, true) : R3)) = secW L k := secL_map L k
def partW (S : List S5) (k : Nat) : List R3 := (S.take k).map fun x => ((x.1, x.2.1, true) : R3)
theorem partW_succ (S : List S5) (k : Nat) (h : k < S.length) : partW S (k + 1) = partW S k ++ [((S.getD k (0, 0, rz)).1, (S.getD k (0, 0, rz)).2.1, true)] := by
  unfold partW
  rw [List.take_succ_eq_append_getElem h, List.map_append]
  simp [List.getD_eq_getElem?_getD, List.getElem?_eq_getElem h]
theorem partW_all (S : List S5) : partW S S.length = S.map fun x => ((x.1, x.2.1, true) : R3) := by simp [partW]
theorem partW_length (S : List S5) (k : Nat) (h : k ≤ S.length) : (partW S k).length = k := by simp [partW]; omega
set_option maxRecDepth 100000 in
set_option maxHeartbeats 4000000 in
theorem iSectionsIn_ok (a : Option Addr) (n cp : Nat) (zs : List Int) (w : World) (h : Rd w a n zs) (hn : n ≤ 1048576) (hl : lineB n zs = true) :
    Calls Try.prog 29 #[.slice a n cp] w (ResRun w (secW (runF zs n) (runF zs n).length) 0) := by
  obtain ⟨i0, hi, hz0, hz1, hz2⟩ := info_parts infoRun
  have HH := Lib.hid h
  have h4 := (lineB_iff hl).1
  clear h
  go_enter Try.func29, Try.ntmps29
  go_wp2_with fail
  refine (iLine _ n _ zs _ HH.out hn).mono ?_
  rintro e w1 ⟨rfl, hb1⟩
  have hz1' := hb1.size
  rw [hl]
  go_wp2_with fail
  have hbA : Below w1.heap.size w1 (w1.alloc (.cells #[] 77)) := by repeat' (first | (with_reducible exact Below.refl _ _) | (with_reducible assumption) | (with_reducible refine Below.alloc ?_ ?_ _) | (with_reducible refine Below.setCell ?_ ?_ _) | (with_reducible refine Below.drew ?_) | (with_reducible refine below_drewN ?_ _) | (with_reducible refine below_via (by with_reducible assumption) ?_ ?_) | go_size)
  refine (iSections _ n _ zs _ ((HH.out.below hb1).below hbA) h4).mono ?_
  rintro e w2 ⟨av, cv, rfl, ho, hb2, hL⟩
  have hz2' := hb2.size
  simp at hz2'
  obtain ⟨S, hSe⟩ : ∃ S, S = secL (runF zs n) (runF zs n).length := ⟨_, rfl⟩
  rw [← hSe] at ho hL ⊢
  obtain ⟨m, hme⟩ : ∃ m, m = S.length := ⟨_, rfl⟩
  rw [← hme] at ho hL ⊢
  have HSE : Hid (S.map (fun x => ((x.1, x.2.1, true) : R3)) = secW (runF zs n) (runF zs n).length) := by rw [hSe]; exact secL_map _ _
  have HM := Lib.hid hme
  have HO := Lib.hid ho
  clear hme ho hSe
  have HO0 : Hid (w2.ownsRow w1.heap.size 77 3 (.slice (some ⟨w1.heap.size, 0, none⟩) 0 0) 0 []) := by
    have := World.ownsRow_lit (base := w1.heap.size) (e := 77) (size := 3) w1 #[] 0 (by omega) (by unfold maxLen; omega) (by simp)
    simp at this
    exact ownN_below this hb2
  have HB0 : Hid (Below w1.heap.size w1 w2) := hbA.trans (hb2.mono (by simp))
  have HRS : Hid (RdV w2 av 5 m (secV S)) := own_rdV HO.out
  have HOB : Hid (∀ k, (Value.slice av m cv).ownBlock = some k → w1.heap.size + 1 ≤ k ∧ k < w2.heap.size) := fun k e => by have := ownN_block HO.out k e; simp at this; omega
  clear hb2
  go_wp2
  go_loopw [4, 14] (fun v i wr => ∃ (k : Nat), k ≤ m ∧ i = .int .i64 k ∧ Hid (wr.ownsRow w1.heap.size 77 3 v k (runV (partW S k))) ∧ Below w1.heap.size w1 wr ∧ w2.heap.size ≤ wr.heap.size ∧ Hid (RdV wr av 5 m (secV S)) ∧ Hid (∀ j, v.ownBlock = some j → j = w1.heap.size ∨ w2.heap.size ≤ j)) (fun _ i _ => m - (intOf i).toNat)
  case atStart => exact ⟨0, Nat.zero_le _, rfl, HO0.out, HB0.out, Nat.le_refl _, HRS.out, fun j e => by simp [Value.ownBlock] at e; omega⟩
  case round =>
    obtain ⟨k, hk, rfl, HOQ, hbel, hsz, HRW, HX⟩ := hrel
    have hzz := hbel.size
    obtain ⟨aq, cq, rfl⟩ := ownN_shape HOQ.out
    by_cases hlt : k < m
    · obtain ⟨b, off, rfl, hb, c0, c1, c2, c3, c4⟩ := HRW.out.sec hlt
      have HE := Lib.hid (partW_succ S k (by rw [← HM.out]; exact hlt))
      generalize (S.getD k (0, 0, rz)).1 = x0 at c0 HE
      generalize (S.getD k (0, 0, rz)).2.1 = x1 at c1 HE
      generalize (S.getD k (0, 0, rz)).2.2.1 = x2 at c2
      generalize (S.getD k (0, 0, rz)).2.2.2.1 = x3 at c3
      generalize (S.getD k (0, 0, rz)).2.2.2.2 = x4 at c4
      go_wp2_with (at_builtin; refine wpList_append_lies _ rfl _ _ 32 rfl w1.heap.size 77 i0 _ 3 24 Try.underlying32 hi hz0 hz1 hz2 rfl (by decide) _ _ _ rfl ((HOQ.out.alloc _).alloc _) ⟨wr.heap.size + 1, 0, none⟩ 1 1 [.int .i64 x0, .int .i64 x1, .bool true] rfl rfl (World.news_of_block (cs := #[.int .i64 x0, .int .i64 x1, .bool true]) (t := 77) (fr := (0, 0)) (by simpa using heap_alloc_new (wr.alloc _) _)) (by simp [Value.oneCell']) (by omega) (by unfold maxLen; omega) (by omega) (by simp; omega) (wr.heap.size + 2) (by simp) ?_; intro g cap w5 hown' hgrow hat hlt5)
      have HBA : Hid (Below wr.heap.size wr ((wr.alloc (.cells #[.int .i64 x0, .int .i64 x1, .int .i64 x2, .int .i64 x3, .bool x4] 87)).alloc (.cells #[.int .i64 x0, .int .i64 x1, .bool true] 77))) := by unfold Hid; repeat' (first | (with_reducible exact Below.refl _ _) | (with_reducible assumption) | (with_reducible refine Below.alloc ?_ ?_ _) | (with_reducible refine Below.setCell ?_ ?_ _) | (with_reducible refine Below.drew ?_) | (with_reducible refine below_drewN ?_ _) | (with_reducible refine below_via (by with_reducible assumption) ?_ ?_) | go_size)
      have HO5 : Hid (w5.ownsRow w1.heap.size 77 3 (.slice (some ⟨g, 0, none⟩) (k + 1) cap) (k + 1) (runV (partW S (k + 1)))) := by rw [HE.out, runV_app]; exact hown'
      have HB5 : Hid (Below w1.heap.size w1 w5) := (hbel.trans (HBA.out.mono hzz)).grown hgrow (by simp; omega) (fun q e => (HOQ.out.lt q e).1)
      have HR5 : Hid (RdV w5 (some ⟨b, off, none⟩) 5 m (secV S)) := by
        obtain ⟨lv, rv⟩ := HRW.out.below HBA.out
        refine ⟨lv, fun hp => ?_⟩
        obtain ⟨b', off', e, hlt', hc'⟩ := rv hp
        injection e with e
        injection e with e1 e2
        subst e1 e2
        have hbk : w1.heap.size + 1 ≤ b ∧ b < w2.heap.size := HOB.out b rfl
        refine ⟨b, off, rfl, Nat.lt_of_lt_of_le hlt' hgrow.size, fun i hi => (World.cell?_of_block (a := ⟨b, off + i, none⟩) (hgrow.block b hlt' (fun e' => ?_))).trans (hc' i hi)⟩
        have := HX.out b e'.symm
        omega
      have HX5 : Hid (∀ j, (Value.slice (some ⟨g, 0, none⟩) (k + 1) cap).ownBlock = some j → j = w1.heap.size ∨ w2.heap.size ≤ j) := fun j e => by
        simp [Value.ownBlock] at e
        subst e
        rcases hat with h1 | h1
        · exact HX.out _ h1
        · omega
      have hz5 := hgrow.size
      simp at hz5
      have hz55 : w2.heap.size ≤ w5.heap.size := by omega
      clear hown' hgrow hbel hat hz5 c0 c1 c2 c3 c4
      go_wp2
      go_roundw
      case rel => exact ⟨k + 1, by omega, by go_num, HO5, HB5.out, hz55, HR5, HX5⟩
      case measure => simp [intOf]; omega
    · have hke : k = m := by omega
      have HK := Lib.hid hke
      clear hke
      go_wp2
      go_returns
      have e2 := HOQ.out
      have e3 := partW_all S
      rw [← HM.out, HSE.out] at e3
      rw [HK.out, e3] at e2
      have e1 : (secW (runF zs n) (runF zs n).length).length = m := by
        have h1 := e2.1
        rw [runV_length] at h1
        omega
      refine ⟨aq, cq, by rw [e1, ← HK.out]; rfl, ?_, hb1.trans (hbel.mono hz1'), by rw [e1]; omega⟩
      rw [e1]
      exact ownN_mono e2 hz1'
end Go.Proofs.Ytbcbdphnbfjhoaa
