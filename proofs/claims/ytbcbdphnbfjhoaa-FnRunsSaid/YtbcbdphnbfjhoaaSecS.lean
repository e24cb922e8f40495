/-
  DERIVED. Sections: spec.
-/
import Derived.Test.YtbcbdphnbfjhoaaSecS1
import Derived.Test.YtbcbdphnbfjhoaaRunsO
import Derived.Conc.MuLone
import Derived.Maps.AppendAt
namespace Go.Proofs.Ytbcbdphnbfjhoaa
open Go.RowKit
set_option linter.unusedVariables false
set_option maxHeartbeats 2000000 in
theorem sSectionsIn_no (a : Option Addr) (n cp : Nat) (zs : List Int) (w : World) (h : Rd w a n zs) (hn : n ≤ 1048576) (hl : lineB n zs = false) :
    Calls Try.prog 28 #[.slice a n cp] w (ResRun w [] 1) := by
  have HH := Lib.hid h
  clear h
  go_enter Try.func28, Try.ntmps28
  go_wp2_with fail
  refine (sLine _ n _ zs _ HH.out hn).mono ?_
  rintro e w1 ⟨rfl, hb1⟩
  rw [hl]
  go_wp2
  go_returns
  exact ⟨none, 0, rfl, World.ownsRow_nil _ _ _ _, by repeat' (first | (with_reducible exact Below.refl _ _) | (with_reducible assumption) | (with_reducible refine Below.alloc ?_ ?_ _) | (with_reducible refine Below.setCell ?_ ?_ _) | (with_reducible refine Below.drew ?_) | (with_reducible refine below_drewN ?_ _) | (with_reducible refine below_via (by with_reducible assumption) ?_ ?_) | go_size), by simp⟩
set_option maxRecDepth 100000 in
set_option maxHeartbeats 4000000 in
theorem sSectionsIn_ok (a : Option Addr) (n cp : Nat) (zs : List Int) (w : World) (h : Rd w a n zs) (hn : n ≤ 1048576) (hl : lineB n zs = true) :
    Calls Try.prog 28 #[.slice a n cp] w (ResRun w (secW (runF zs n) (runF zs n).length) 0) := by
  obtain ⟨i0, hi, hz0, hz1, hz2⟩ := info_parts infoRun
  have HH := Lib.hid h
  have h4 := (lineB_iff hl).1
  have HCH := Lib.hid (runF_chain zs n)
  have HRL := Lib.hid (runF_len zs n)
  clear h
  go_enter Try.func28, Try.ntmps28
  go_wp2_with fail
  refine (sLine _ n _ zs _ HH.out hn).mono ?_
  rintro e w1 ⟨rfl, hb1⟩
  have hz1' := hb1.size
  rw [hl]
  go_wp2_with fail
  refine (sRunsL _ n _ zs _ (HH.out.below hb1) h4).mono ?_
  rintro e w2 ⟨av, cv, rfl, ho, hb2, hL⟩
  have hz2' := hb2.size
  obtain ⟨L, hLe⟩ : ∃ L, L = runF zs n := ⟨_, rfl⟩
  rw [← hLe] at HCH HRL ho hL ⊢
  obtain ⟨m, hme⟩ : ∃ m, m = L.length := ⟨_, rfl⟩
  rw [← hme] at HRL ho hL ⊢
  have HLE := Lib.hid hLe
  clear hLe
  have HM := Lib.hid hme
  have hm4 : m ≤ 40000 := by have := HRL.out; omega
  have HO := Lib.hid ho
  clear hme ho
  have HO0 : Hid ((w2.alloc (.cells #[] 77)).ownsRow w.heap.size 77 3 (.slice (some ⟨w2.heap.size, 0, none⟩) 0 0) 0 []) := by
    have := World.ownsRow_lit (base := w.heap.size) (e := 77) (size := 3) w2 #[] 0 (by omega) (by unfold maxLen; omega) (by simp)
    simp at this
    exact this
  go_wp2
  have hB2 : Below w.heap.size w (w2.alloc (.cells #[] 77)) := by repeat' (first | (with_reducible exact Below.refl _ _) | (with_reducible assumption) | (with_reducible refine Below.alloc ?_ ?_ _) | (with_reducible refine Below.setCell ?_ ?_ _) | (with_reducible refine Below.drew ?_) | (with_reducible refine below_drewN ?_ _) | (with_reducible refine below_via (by with_reducible assumption) ?_ ?_) | go_size)
  have hgo := ownN_block HO.out
  have HOW : Hid ((w2.alloc (.cells #[] 77)).ownsRow w1.heap.size 77 3 (.slice av m cv) m (runV L)) := HO.out.alloc _
  have HB2 := Lib.hid hB2
  have HRV : Hid (RdV (w2.alloc (.cells #[] 77)) av 3 m (runV L)) := own_rdV HOW.out
  clear hB2 hgo
  go_loopw [5, 6] (fun v i wr => ∃ (k q : Nat), k ≤ m ∧ i = .int .i64 k ∧ q ≤ k ∧ Hid ((secW L k).length = q) ∧ Hid (wr.ownsRow w2.heap.size 77 3 v q (runV (secW L k))) ∧ Below w2.heap.size w2 wr) (fun _ i _ => m - (intOf i).toNat)
  case atStart => exact ⟨0, 0, Nat.zero_le _, rfl, Nat.le_refl _, rfl, by have := World.ownsRow_lit (base := w2.heap.size) (e := 77) (size := 3) w2 #[] 0 (Nat.le_refl _) (by unfold maxLen; omega) (by simp); simp at this; exact this, by repeat' (first | (with_reducible exact Below.refl _ _) | (with_reducible assumption) | (with_reducible refine Below.alloc ?_ ?_ _) | (with_reducible refine Below.setCell ?_ ?_ _) | (with_reducible refine Below.drew ?_) | (with_reducible refine below_drewN ?_ _) | (with_reducible refine below_via (by with_reducible assumption) ?_ ?_) | go_size)⟩
  case round =>
    obtain ⟨k, q, hk, rfl, hq, HQ, HOQ, hbel⟩ := hrel
    have hzz := hbel.size
    obtain ⟨aq, cq, rfl⟩ := ownN_shape HOQ.out
    have HR3 : Hid (RdV wr av 3 m (runV L)) := (own_rdV HO.out).below hbel
    by_cases hlt : k < m
    · cases hs : secI L k
      · have HE := Lib.hid (secW_no hs)
        have HS := Lib.hid hs
        clear hs
        go_wp2_with fail
        refine (sSection av m cv k n L _ HR3.out HM.out.symm hlt HCH.out h4 hm4).mono ?_
        rintro e w3 ⟨rfl, hb3⟩
        have hz3 := hb3.size
        rw [HS.out]
        go_wp2
        go_roundw
        case rel => exact ⟨k + 1, q, by omega, by go_num, by omega, by rw [HE.out]; exact HQ.out, by rw [HE.out]; exact ownN_below HOQ.out hb3, hbel.trans (hb3.mono hzz)⟩
        case measure => simp [intOf]; omega
      · have HE := Lib.hid (secW_yes hs)
        have hk5 : k + 5 ≤ m := by
          have h5 := hs
          simp only [secI, Bool.and_eq_true, decide_eq_true_eq] at h5
          have := HM.out; omega
        have HS := Lib.hid hs
        clear hs
        go_wp2_with fail
        refine (sSection av m cv k n L _ HR3.out HM.out.symm hlt HCH.out h4 hm4).mono ?_
        rintro e w3 ⟨rfl, hb3⟩
        have hz3 := hb3.size
        rw [HS.out]
        go_wp2_with fail
        refine (sWhole av m cv k n L _ (HR3.out.below hb3) HM.out.symm hk5 HCH.out h4 hm4).mono ?_
        rintro e w4 ⟨rfl, hb4⟩
        have hz4 := hb4.size
        generalize stR L k = x0 at HE ⊢
        generalize fiveR L k = x1 at HE ⊢
        have HO4 := Lib.hid (ownN_below (ownN_below HOQ.out hb3) hb4)
        have HB4 : Hid (Below w2.heap.size w2 w4) := (hbel.trans (hb3.mono hzz)).trans (hb4.mono (by omega))
        go_wp2_with (at_builtin; refine wpList_append_own _ rfl _ _ 32 rfl w2.heap.size 77 i0 _ 3 24 Try.underlying32 hi hz0 hz1 hz2 rfl (by decide) _ _ _ rfl (HO4.out.alloc _) ⟨w4.heap.size, 0, none⟩ 1 1 [.int .i64 x0, .int .i64 x1, .bool true] rfl rfl (World.news_of_block (heap_alloc_new w4 _)) (by simp [Value.oneCell']) (by unfold maxLen; omega) (by omega) (by simp; omega) ?_; intro v' w5 hown' hgrow _)
        have HO5 : Hid (w5.ownsRow w2.heap.size 77 3 v' (q + 1) (runV (secW L (k + 1)))) := by rw [HE.out, runV_app]; exact hown'
        have HL5 : Hid ((secW L (k + 1)).length = q + 1) := by rw [HE.out, List.length_append, HQ.out]; exact rfl
        have HB5 : Hid (Below w2.heap.size w2 w5) := (HB4.out.alloc (by omega) _).grown hgrow (by simp; omega) (fun q e => (HO4.out.lt q e).1)
        clear hown' hgrow hbel
        go_wp2
        go_roundw
        case rel => exact ⟨k + 1, q + 1, by omega, by go_num, by omega, HL5, HO5, HB5.out⟩
        case measure => simp [intOf]; omega
    · have hke : k = m := by omega
      have HK := Lib.hid hke
      have hB3 := HB2.out
      clear hke
      go_wp2
      go_returns
      have e1 := HQ.out
      have e2 := HOQ.out
      rw [HK.out] at e1 e2
      have e3 : Below w.heap.size w w2 := (hb1).trans (hb2.mono hz1')
      rw [← HLE.out, ← HM.out]
      refine ⟨aq, cq, by rw [e1]; rfl, ?_, e3.trans (hbel.mono (by omega)), by rw [e1]; omega⟩
      rw [e1]
      exact ownN_mono e2 (by omega)
end Go.Proofs.Ytbcbdphnbfjhoaa
