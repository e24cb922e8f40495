/-
  DERIVED. Sections: impl.
-/
import Derived.Test.YtcpicgcdefnhaaaSec0
import Derived.Test.YtcpicgcdefnhaaaSect2
import Derived.Test.YtcpicgcdefnhaaaRunsI
import Derived.Test.YtcpicgcdefnhaaaBas
import Derived.Conc.MuLone
import Derived.Maps.AppendAt
import Derived.Deep.AppendLies
import Derived.Deep.RegionHeld3
namespace Go.Proofs.Ytcpicgcdefnhaaa
open Go.RowKit
set_option linter.unusedVariables false
theorem infoSec : (Try.prog.info? 59).map (fun i => (i.zero, i.size, i.bytes)) = some (some (.agg #[.int .i64 0, .int .i64 0, .int .i64 0, .int .i64 0, .bool false]), 5, 40) := by kernel_rfl
def NewSecs (w : World) (L : List S5) (e : Ending) (w' : World) : Prop :=
  ∃ a cp, e = .returned (.slice a L.length cp) ∧ w'.ownsRow w.heap.size 59 5 (.slice a L.length cp) L.length (secV L) ∧ Below w.heap.size w w' ∧ L.length ≤ 40000
theorem secI_true {L : List R3} {k : Nat} (h : k + 5 ≤ L.length) (hd : dkR L k = true) : secI L k = sectB (lnR L k) (lnR L (k + 1)) (lnR L (k + 2)) (lnR L (k + 3)) (lnR L (k + 4)) := by simp [secI, h, hd]
set_option maxRecDepth 100000 in
set_option maxHeartbeats 8000000 in
theorem iSections (a : Option Addr) (n cp : Nat) (zs : List Int) (w : World) (h : Rd w a n zs) (hn : n ≤ 40000) :
    Calls Try.prog 34 #[.slice a n cp] w (NewSecs w (secL (runF zs n) (runF zs n).length)) := by
  obtain ⟨i0, hi, hz0, hz1, hz2⟩ := info_parts infoSec
  have HH := Lib.hid h
  have HCH := Lib.hid (runF_chain zs n)
  have HRL := Lib.hid (runF_len zs n)
  clear h
  go_enter Try.func34, Try.ntmps34
  go_wp2_with fail
  refine (iRunsL _ n _ zs _ HH.out hn).mono ?_
  rintro e w2 ⟨av, cv, rfl, ho, hb2, hL⟩
  have hz2' := hb2.size
  obtain ⟨L, hLe⟩ : ∃ L, L = runF zs n := ⟨_, rfl⟩
  rw [← hLe] at HCH HRL ho hL ⊢
  obtain ⟨m, hme⟩ : ∃ m, m = L.length := ⟨_, rfl⟩
  rw [← hme] at HRL ho hL ⊢
  have HLE := Lib.hid hLe
  clear hLe
  have HM := Lib.hid hme
  have hm4 : m ≤ 40000 := by have := HRL.out; omega
  have HO := Lib.hid ho
  clear hme ho
  go_wp2
  go_loopw [4, 5] (fun v i wr => ∃ (k q : Nat), k ≤ m ∧ i = .int .i64 k ∧ q ≤ k ∧ (k = 0 ∨ k + 4 ≤ m) ∧ Hid ((secL L k).length = q) ∧ Hid (wr.ownsRow w2.heap.size 59 5 v q (secV (secL L k))) ∧ Below w2.heap.size w2 wr) (fun _ i _ => m - (intOf i).toNat)
  case atStart => exact ⟨0, 0, Nat.zero_le _, rfl, Nat.le_refl _, .inl rfl, rfl, by have := World.ownsRow_lit (base := w2.heap.size) (e := 59) (size := 5) w2 #[] 0 (Nat.le_refl _) (by unfold maxLen; omega) (by simp); simp at this; exact this, by repeat' (first | (with_reducible exact Below.refl _ _) | (with_reducible assumption) | (with_reducible refine Below.alloc ?_ ?_ _) | (with_reducible refine Below.setCell ?_ ?_ _) | (with_reducible refine Below.drew ?_) | (with_reducible refine below_drewN ?_ _) | (with_reducible refine below_via (by with_reducible assumption) ?_ ?_) | go_size)⟩
  case round =>
    obtain ⟨k, q, hk, rfl, hq, hke0, HQ, HOQ, hbel⟩ := hrel
    have hzz := hbel.size
    obtain ⟨aq, cq, rfl⟩ := ownN_shape HOQ.out
    have HR3 : Hid (RdV wr av 3 m (runV L)) := (own_rdV HO.out).below hbel
    by_cases hlt : k + 5 ≤ m
    · clear hke0
      have hk5 : k + 5 ≤ m := hlt
      obtain ⟨b, off, rfl, hb, hc⟩ := HR3.out.runAt (k := k) (by omega)
      have c0 := (hc k (by omega)).2.1
      have c1 := (hc (k + 1) (by omega)).2.1
      have c2 := (hc (k + 2) (by omega)).2.1
      have c3 := (hc (k + 3) (by omega)).2.1
      have c4 := (hc (k + 4) (by omega)).2.1
      have d0 := (hc k (by omega)).2.2
      have HC := Lib.hid hc
      clear hc
      have B0 := HCH.out.bd (j := k) (by have := HM.out; omega)
      have B1 := HCH.out.bd (j := k + 1) (by have := HM.out; omega)
      have B2 := HCH.out.bd (j := k + 2) (by have := HM.out; omega)
      have B3 := HCH.out.bd (j := k + 3) (by have := HM.out; omega)
      have B4 := HCH.out.bd (j := k + 4) (by have := HM.out; omega)
      obtain ⟨-, p0, q0, -, -⟩ := B0
      obtain ⟨-, p1, q1, -, -⟩ := B1
      obtain ⟨-, p2, q2, -, -⟩ := B2
      obtain ⟨-, p3, q3, -, -⟩ := B3
      obtain ⟨-, p4, q4, -, -⟩ := B4
      have HFV : Hid (fiveR L k = lnR L k + lnR L (k + 1) + lnR L (k + 2) + lnR L (k + 3) + lnR L (k + 4)) := rfl
      have HST : Hid ((k + 5 ≤ L.length → dkR L k = true → secI L k = sectB (lnR L k) (lnR L (k + 1)) (lnR L (k + 2)) (lnR L (k + 3)) (lnR L (k + 4))) ∧ (dkR L k = false → secI L k = false)) := ⟨secI_true, secI_light⟩
      generalize lnR L k = l0 at c0 p0 q0 HFV HST
      generalize lnR L (k + 1) = l1 at c1 p1 q1 HFV HST
      generalize lnR L (k + 2) = l2 at c2 p2 q2 HFV HST
      generalize lnR L (k + 3) = l3 at c3 p3 q3 HFV HST
      generalize lnR L (k + 4) = l4 at c4 p4 q4 HFV HST
      generalize hdv : dkR L k = d at d0 HST
      clear hdv
      cases d
      · have HE := Lib.hid (secL_no (HST.out.2 rfl))
        have k0 : (0 : Int) ≤ (k : Int) := Int.natCast_nonneg _
        have k1 : (k : Int) < (m : Int) := by omega
        have k2 : (k : Int) + 1 < (m : Int) := by omega
        have k3 : (k : Int) + 2 < (m : Int) := by omega
        have k4 : (k : Int) + 3 < (m : Int) := by omega
        have k5 : (k : Int) + 4 < (m : Int) := by omega
        have k6 : (k : Int) + 5 ≤ (m : Int) := by omega
        have n1 : ((k : Int) + 1).toNat = k + 1 := by omega
        have n2 : ((k : Int) + 2).toNat = k + 2 := by omega
        have n3 : ((k : Int) + 3).toNat = k + 3 := by omega
        have n4 : ((k : Int) + 4).toNat = k + 4 := by omega
        go_wp2
        refine wp_loop_rounds 6 ?_
        repeat (rw [rounds_succ]; go_wp2)
        go_roundw
        case rel => exact ⟨k + 1, q, by omega, by go_num, by omega, by omega, by rw [HE.out]; exact HQ.out, by rw [HE.out]; exact ownN_below HOQ.out (by repeat' (first | (with_reducible exact Below.refl _ _) | (with_reducible assumption) | (with_reducible refine Below.alloc ?_ ?_ _) | (with_reducible refine Below.setCell ?_ ?_ _) | (with_reducible refine Below.drew ?_) | (with_reducible refine below_drewN ?_ _) | (with_reducible refine below_via (by with_reducible assumption) ?_ ?_) | go_size)), hbel.trans (by repeat' (first | (with_reducible exact Below.refl _ _) | (with_reducible assumption) | (with_reducible refine Below.alloc ?_ ?_ _) | (with_reducible refine Below.setCell ?_ ?_ _) | (with_reducible refine Below.drew ?_) | (with_reducible refine below_drewN ?_ _) | (with_reducible refine below_via (by with_reducible assumption) ?_ ?_) | go_size))⟩
        case measure => simp [intOf]; omega
      · cases hsb : sectB l0 l1 l2 l3 l4
        · have HE := Lib.hid (secL_no ((HST.out.1 (by rw [← HM.out]; exact hk5) rfl).trans hsb))
          have HSB := Lib.hid hsb
          clear hsb
          have k0 : (0 : Int) ≤ (k : Int) := Int.natCast_nonneg _
          have k1 : (k : Int) < (m : Int) := by omega
          have k2 : (k : Int) + 1 < (m : Int) := by omega
          have k3 : (k : Int) + 2 < (m : Int) := by omega
          have k4 : (k : Int) + 3 < (m : Int) := by omega
          have k5 : (k : Int) + 4 < (m : Int) := by omega
          have k6 : (k : Int) + 5 ≤ (m : Int) := by omega
          have n1 : ((k : Int) + 1).toNat = k + 1 := by omega
          have n2 : ((k : Int) + 2).toNat = k + 2 := by omega
          have n3 : ((k : Int) + 3).toNat = k + 3 := by omega
          have n4 : ((k : Int) + 4).toNat = k + 4 := by omega
          go_wp2
          refine wp_loop_rounds 6 ?_
          repeat (rw [rounds_succ]; go_wp2_with fail)
          refine (iSectIn l0 l1 l2 l3 l4 _ p0 (by omega) p1 (by omega) p2 (by omega) p3 (by omega) p4 (by omega)).mono ?_
          rintro e w3 ⟨rfl, hb3⟩
          have hz3 := hb3.size
          simp at hz3
          rw [HSB.out]
          go_wp2
          go_roundw
          case rel => exact ⟨k + 1, q, by omega, by go_num, by omega, by omega, by rw [HE.out]; exact HQ.out, by rw [HE.out]; exact ownN_below HOQ.out (by repeat' (first | (with_reducible exact Below.refl _ _) | (with_reducible assumption) | (with_reducible refine Below.alloc ?_ ?_ _) | (with_reducible refine Below.setCell ?_ ?_ _) | (with_reducible refine Below.drew ?_) | (with_reducible refine below_drewN ?_ _) | (with_reducible refine below_via (by with_reducible assumption) ?_ ?_) | go_size)), hbel.trans (by repeat' (first | (with_reducible exact Below.refl _ _) | (with_reducible assumption) | (with_reducible refine Below.alloc ?_ ?_ _) | (with_reducible refine Below.setCell ?_ ?_ _) | (with_reducible refine Below.drew ?_) | (with_reducible refine below_drewN ?_ _) | (with_reducible refine below_via (by with_reducible assumption) ?_ ?_) | go_size))⟩
          case measure => simp [intOf]; omega
        · have HE := Lib.hid (secL_yes ((HST.out.1 (by rw [← HM.out]; exact hk5) rfl).trans hsb))
          have HSB := Lib.hid hsb
          clear hsb
          have k0 : (0 : Int) ≤ (k : Int) := Int.natCast_nonneg _
          have k1 : (k : Int) < (m : Int) := by omega
          have k2 : (k : Int) + 1 < (m : Int) := by omega
          have k3 : (k : Int) + 2 < (m : Int) := by omega
          have k4 : (k : Int) + 3 < (m : Int) := by omega
          have k5 : (k : Int) + 4 < (m : Int) := by omega
          have k6 : (k : Int) + 5 ≤ (m : Int) := by omega
          have n1 : ((k : Int) + 1).toNat = k + 1 := by omega
          have n2 : ((k : Int) + 2).toNat = k + 2 := by omega
          have n3 : ((k : Int) + 3).toNat = k + 3 := by omega
          have n4 : ((k : Int) + 4).toNat = k + 4 := by omega
          go_wp2
          refine wp_loop_rounds 6 ?_
          repeat (rw [rounds_succ]; go_wp2_with fail)
          refine (iSectIn l0 l1 l2 l3 l4 _ p0 (by omega) p1 (by omega) p2 (by omega) p3 (by omega) p4 (by omega)).mono ?_
          rintro e w3 ⟨rfl, hb3⟩
          have hz3 := hb3.size
          simp at hz3
          rw [HSB.out]
          have hB3 : Below wr.heap.size wr w3 := by repeat' (first | (with_reducible exact Below.refl _ _) | (with_reducible assumption) | (with_reducible refine Below.alloc ?_ ?_ _) | (with_reducible refine Below.setCell ?_ ?_ _) | (with_reducible refine Below.drew ?_) | (with_reducible refine below_drewN ?_ _) | (with_reducible refine below_via (by with_reducible assumption) ?_ ?_) | go_size)
          have s0 := (hB3.cell (p := ⟨b, _, none⟩) hb).trans (HC.out k (by omega)).1
          have t0 := (hB3.cell (p := ⟨b, _, none⟩) hb).trans (HC.out (k + 2) (by omega)).1
          have t1 := (hB3.cell (p := ⟨b, _, none⟩) hb).trans (HC.out (k + 2) (by omega)).2.1
          have t2 := (hB3.cell (p := ⟨b, _, none⟩) hb).trans (HC.out (k + 2) (by omega)).2.2
          rw [show (L.getD (k + 2) rz) = (stR L (k + 2), lnR L (k + 2), dkR L (k + 2)) from rfl] at HE
          generalize stR L k = x0 at s0 HE
          generalize fiveR L k = x1 at HE HFV
          generalize stR L (k + 2) = y0 at t0 HE
          generalize lnR L (k + 2) = y1 at t1 HE
          generalize dkR L (k + 2) = y2 at t2 HE
          have hx1 := HFV.out
          clear HFV c0 c1 c2 c3 c4 d0
          subst hx1
          have HO3 := Lib.hid (ownN_below HOQ.out hB3)
          have hbb : b < w2.heap.size := by
            obtain ⟨b', off', e', hb', _⟩ := (own_rdV HO.out).runAt (k := k) (by omega)
            injection e' with e'
            injection e' with e1 e2
            omega
          have hz3' := hB3.size
          have HS : Hid (∀ w', Below w2.heap.size w3 w' → Below w2.heap.size w3 w' ∧ w2.heap.size ≤ w'.heap.size ∧ w'.cell? ⟨b, off + k * 3, none⟩ = some (.int .i64 x0) ∧ w'.cell? ⟨b, off + (k + 2) * 3, none⟩ = some (.int .i64 y0) ∧ w'.cell? ⟨b, off + (k + 2) * 3 + 1, none⟩ = some (.int .i64 y1) ∧ w'.cell? ⟨b, off + (k + 2) * 3 + 2, none⟩ = some (.bool y2)) :=
            fun w' h => ⟨h, by have := h.size; omega, (h.cell (p := ⟨b, _, none⟩) hbb).trans s0, (h.cell (p := ⟨b, _, none⟩) hbb).trans t0, (h.cell (p := ⟨b, _, none⟩) hbb).trans t1, (h.cell (p := ⟨b, _, none⟩) hbb).trans t2⟩
          have HB3 : Hid (Below w2.heap.size w2 w3) := hbel.trans (hB3.mono hzz)
          have j0 : (0 : Int) ≤ (k : Int) + 2 := by omega
          have jw : IntKind.i64.wrap ((k : Int) + 2) = (k : Int) + 2 := IntWalk.i64_in _ (by omega)
          have hz33 : w2.heap.size ≤ w3.heap.size := by omega
          go_wp2_with fail
          go_region_held3 (fun w' => Below w2.heap.size w3 w' ∧ w2.heap.size ≤ w'.heap.size ∧ w'.cell? ⟨b, off + k * 3, none⟩ = some (.int .i64 x0) ∧ w'.cell? ⟨b, off + (k + 2) * 3, none⟩ = some (.int .i64 y0) ∧ w'.cell? ⟨b, off + (k + 2) * 3 + 1, none⟩ = some (.int .i64 y1) ∧ w'.cell? ⟨b, off + (k + 2) * 3 + 2, none⟩ = some (.bool y2))
            (first | (exact HS.out _ (by repeat' (first | (with_reducible exact Below.refl _ _) | (with_reducible assumption) | (with_reducible refine Below.alloc ?_ ?_ _) | (with_reducible refine Below.setCell ?_ ?_ _) | (with_reducible refine Below.drew ?_) | (with_reducible refine below_drewN ?_ _) | (with_reducible refine below_via (by with_reducible assumption) ?_ ?_) | go_size))) | (exact HS.out _ (by simpa using hbg)))
            ((refine step_append_lies _ (by rfl) _ _ _ (by rfl) w2.heap.size 59 i0 _ 5 40 Try.underlying56 hi hz0 hz1 hz2 rfl (by omega) _ q _ (by rfl) (ownN_below HO3.out (by repeat' (first | (with_reducible exact Below.refl _ _) | (with_reducible assumption) | (with_reducible refine Below.alloc ?_ ?_ _) | (with_reducible refine Below.setCell ?_ ?_ _) | (with_reducible refine Below.drew ?_) | (with_reducible refine below_drewN ?_ _) | (with_reducible refine below_via (by with_reducible assumption) ?_ ?_) | go_size))) ⟨w3.heap.size, 0, none⟩ 1 1 [.int .i64 x0, .int .i64 (l0 + l1 + l2 + l3 + l4), .int .i64 y0, .int .i64 y1, .bool y2] (by rfl) (by rfl) (World.news_of_block (cs := #[.int .i64 x0, .int .i64 (l0 + l1 + l2 + l3 + l4), .int .i64 y0, .int .i64 y1, .bool y2]) (t := 59) (fr := (0, 0)) (heap_alloc_new w3 _)) (by simp [Value.oneCell']) (by omega) (by unfold maxLen; omega) (by omega) (by go_size) _ rfl ?_; intro g cap w5 hown5 hgrow hat hlt5; have hbg : Below w2.heap.size w3 w5 := (by repeat' (first | (with_reducible exact Below.refl _ _) | (with_reducible assumption) | (with_reducible refine Below.alloc ?_ ?_ _) | (with_reducible refine Below.setCell ?_ ?_ _) | (with_reducible refine Below.drew ?_) | (with_reducible refine below_drewN ?_ _) | (with_reducible refine below_via (by with_reducible assumption) ?_ ?_) | go_size) : Below w2.heap.size w3 _).grown hgrow (by go_size) (fun j e => (HO3.out.lt j e).1)))
          have HO5 : Hid (w5.ownsRow w2.heap.size 59 5 (.slice (some ⟨g, 0, none⟩) (q + 1) cap) (q + 1) (secV (secL L (k + 1)))) := by rw [HE.out, secV_app]; exact hown5
          have HL5 : Hid ((secL L (k + 1)).length = q + 1) := by rw [HE.out, List.length_append, HQ.out]; exact rfl
          have HB5 := Lib.hid (HB3.out.trans hbg)
          clear hgrow hown5 hbg hbel jw
          go_wp2
          go_roundw
          case rel => exact ⟨k + 1, q + 1, by omega, by go_num, by omega, by omega, HL5, HO5.out, HB5.out⟩
          case measure => simp [intOf]; omega
    · have hke : ¬ (k : Int) + 5 ≤ (m : Int) := by omega
      have ht : decide ((k : Int) + 5 ≤ (m : Int)) = false := by simp; omega
      have HEE : Hid (secL L m = secL L k) := by
        have e1 := secL_end L k (m - k) (by have := HM.out; omega)
        rwa [show k + (m - k) = m by omega] at e1
      go_wp2
      go_returns
      have e1 := HQ.out
      have e2 := HOQ.out
      rw [← HEE.out] at e1 e2
      rw [← HLE.out, ← HM.out]
      refine ⟨aq, cq, by rw [e1]; rfl, ?_, hb2.trans (hbel.mono hz2'), by rw [e1]; omega⟩
      rw [e1]
      exact ownN_mono e2 hz2'
end Go.Proofs.Ytcpicgcdefnhaaa
