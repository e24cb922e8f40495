/-
  DERIVED. Finders: spec.l23Finders.
-/
import Derived.Test.YtcpicgcdefnhaaaFndP
import Derived.Test.YtcpicgcdefnhaaaFinA
import Derived.Deep.RegionHeld3
import Derived.Deep.DeepFit
import Derived.Deep.QuietTactic
import Derived.BigQuiet
namespace Go.Proofs.Ytcpicgcdefnhaaa
open Go.RowKit
set_option linter.unusedVariables false
set_option maxRecDepth 100000 in
set_option maxHeartbeats 8000000 in
theorem sFinders (R C : Nat) (ga : Option Addr) (gn gc : Nat) (gs : List Int) (w : World) (h : Rd w ga gn gs) (hgn : gn = R * C) (hn4 : gn ≤ 40000) (hgc : gn ≤ gc) (hR1 : 1 ≤ R) (hC1 : 1 ≤ C) :
    Calls Try.prog 25 #[.agg #[.int .i64 (R : Int), .int .i64 (C : Int), .slice ga gn gc]] w (GotFins w (fnd (cand gs C R R) (cand gs C R R).length)) := by
  obtain ⟨i0, hi, hz0, hI1, hI2⟩ := info_parts infoFin
  have HH := Lib.hid h
  have HN := Lib.hid hgn
  have hC4 : C ≤ 40000 := by
    have : 1 * C ≤ R * C := Nat.mul_le_mul_right _ hR1
    omega
  have hR4 : R ≤ 40000 := by
    have : R * 1 ≤ R * C := Nat.mul_le_mul_left _ hC1
    omega
  have HFit := Lib.hid (cand_fit gs C R hC4 hR4 R)
  have HLn : Hid ((cand gs C R R).length ≤ 40000) := by unfold Hid; have := cand_len gs C R R; omega
  clear h hgn
  have HBw : Hid (Below w.heap.size w (w.alloc (.cells #[.int .i64 (R : Int), .int .i64 (C : Int), .slice ga gn gc] 29))) := by unfold Hid; repeat' (first | (with_reducible exact Below.refl _ _) | (with_reducible assumption) | (with_reducible refine Below.alloc ?_ ?_ _) | (with_reducible refine Below.setCell ?_ ?_ _) | (with_reducible refine Below.drew ?_) | (with_reducible refine below_drewN ?_ _) | (with_reducible refine below_via (by with_reducible assumption) ?_ ?_) | go_size)
  obtain ⟨Wb, hWb⟩ : ∃ Wb : World, w.alloc (.cells #[.int .i64 (R : Int), .int .i64 (C : Int), .slice ga gn gc] 29) = Wb := ⟨_, rfl⟩
  rw [hWb] at HBw
  have hWs : w.heap.size < Wb.heap.size := by rw [← hWb]; simp
  have HKG : Hid (Blk Wb w.heap.size 29 #[.int .i64 (R : Int), .int .i64 (C : Int), .slice ga gn gc]) := by rw [← hWb]; exact Blk.new w 29 _
  have g0 : Wb.cell? ⟨w.heap.size, 0, none⟩ = some (.int .i64 (R : Int)) := HKG.out.cell 0
  have g1 : Wb.cell? ⟨w.heap.size, 1, none⟩ = some (.int .i64 (C : Int)) := HKG.out.cell 1
  have g2 : Wb.cell? ⟨w.heap.size, 2, none⟩ = some (.slice ga gn gc) := HKG.out.cell 2
  go_enter Try.func25, Try.ntmps25
  go_wp2_with fail
  clear hWb
  refine (sCands R C ga gn gc gs Wb (HH.out.below HBw.out) HN.out hn4 hgc hR1 hC1).mono ?_
  rintro e w1 ⟨la, lc, rfl, hol, hb1⟩
  have hz1 := hb1.size
  have HBw1 : Hid (Below w.heap.size w w1) := HBw.out.trans (hb1.mono (by omega))
  obtain ⟨L, hL⟩ : ∃ L, cand gs C R R = L := ⟨_, rfl⟩
  rw [hL] at HFit HLn hol ⊢
  have HLL := Lib.hid hL
  obtain ⟨m, hm⟩ : ∃ m, L.length = m := ⟨_, rfl⟩
  rw [hm] at HLn hol ⊢
  have hm4 : m ≤ 40000 := HLn.out
  have HM := Lib.hid hm
  have HOL := Lib.hid hol
  have HO0 : Hid ((w1.alloc (.cells #[] 42)).ownsRow w1.heap.size 42 4 (.slice (some ⟨w1.heap.size, 0, none⟩) 0 0) 0 []) := by
    have := World.ownsRow_lit (base := w1.heap.size) (e := 42) (size := 4) w1 #[] 0 (by simp) (by unfold maxLen; omega) (by simp)
    exact this
  have HS0 : Hid (Stand w1 (w1.alloc (.cells #[] 42)) Wb.heap.size w1.heap.size (.slice (some ⟨w1.heap.size, 0, none⟩) 0 0)) := ⟨by simp, fun b _ h2 => Below.heap_alloc w1 _ b h2, fun b e => by simp [Value.ownBlock] at e; omega⟩
  have HB0 : Hid (Below w1.heap.size w1 (w1.alloc (.cells #[] 42))) := by unfold Hid; repeat' (first | (with_reducible exact Below.refl _ _) | (with_reducible assumption) | (with_reducible refine Below.alloc ?_ ?_ _) | (with_reducible refine Below.setCell ?_ ?_ _) | (with_reducible refine Below.drew ?_) | (with_reducible refine below_drewN ?_ _) | (with_reducible refine below_via (by with_reducible assumption) ?_ ?_) | go_size)
  clear hL hm hol hb1 g0 g1 g2
  go_wp2_with fail
  go_loopw [4, 5] (fun v i wr => ∃ k q : Nat, k ≤ m ∧ i = .int .i64 (k : Int) ∧ q ≤ k ∧ Hid ((fnd L k).length = q) ∧ Hid (wr.ownsRow w1.heap.size 42 4 v q (finV (fnd L k))) ∧ Hid (Stand w1 wr Wb.heap.size w1.heap.size v) ∧ Hid (Below w1.heap.size w1 wr)) (fun _ i _ => m - (intOf i).toNat)
  case atStart => exact ⟨0, 0, Nat.zero_le _, rfl, Nat.le_refl _, rfl, HO0.out, HS0.out, HB0.out⟩
  case round =>
    clear HO0 HS0 HB0
    obtain ⟨k, q, hk, rfl, hqk, HQ, HO, HS, HB⟩ := hrel
    obtain ⟨wo, rfl⟩ : ∃ W : World, W = wr := ⟨_, rfl⟩
    have hzo := HB.out.size
    by_cases hlt : k < m
    · have hkI : (k : Int) < (m : Int) := by omega
      have HXf := Lib.hid (HFit.out _ (getD_memF (L := L) (k := k) (by rw [HM.out]; exact hlt)))
      have HOf : Hid (∀ j, j < q → fitF ((fnd L k).getD j f0)) := fun j hj => HFit.out _ (fnd_mem L k (by rw [HM.out]; exact hk) _ (getD_memF (by rw [HQ.out]; exact hj)))
      have HY := Lib.hid (fnd_yes (L := L) (k := k))
      have HNo := Lib.hid (fnd_no (L := L) (k := k))
      have HRL : Hid (RdV wo la 4 m (finV L)) := HS.out.rdV HOL.out (Nat.le_refl _)
      obtain ⟨lb, lo, rfl, hlbo, c0_, c1_, c2_, c3_⟩ := HRL.out.fin hlt
      rw [show ((0, 0, 0, 0) : F4) = f0 from rfl] at c0_ c1_ c2_ c3_
      generalize hx : L.getD k f0 = x at HXf HY HNo c0_ c1_ c2_ c3_
      clear hx
      obtain ⟨O, hOe⟩ : ∃ O, fnd L k = O := ⟨_, rfl⟩
      rw [hOe] at HQ HO HOf HY HNo
      rw [HQ.out] at HY HNo
      obtain ⟨x1, x2, x3, x4⟩ := x
      simp only at c0_ c1_ c2_ c3_
      obtain ⟨oa, oc, rfl⟩ := ownN_shape HO.out
      clear hOe
      go_wp2_with fail
      go_loopw [6, 7] (fun f i wr2 => ∃ j : Nat, j ≤ q ∧ i = .int .i64 (j : Int) ∧ f = .bool (farK O (x1, x2, x3, x4) j) ∧ Hid (Below wo.heap.size wo wr2)) (fun _ i _ => q - (intOf i).toNat)
      case atStart => exact ⟨0, Nat.zero_le _, rfl, rfl, Below.refl _ _⟩
      case round =>
        obtain ⟨j, hj, rfl, rfl, HBx⟩ := hrel
        obtain ⟨wx, rfl⟩ : ∃ W : World, W = wr := ⟨_, rfl⟩
        have hzx := HBx.out.size
        have hbx := HBx.out
        have hlb : lb < wx.heap.size := by omega
        have c0 : wx.cell? ⟨lb, lo + k * 4, none⟩ = some (.int .i64 x1) := (hbx.cell (p := ⟨_, _, none⟩) hlbo).trans c0_
        have c1 : wx.cell? ⟨lb, lo + k * 4 + 1, none⟩ = some (.int .i64 x2) := (hbx.cell (p := ⟨_, _, none⟩) hlbo).trans c1_
        have c2 : wx.cell? ⟨lb, lo + k * 4 + 2, none⟩ = some (.int .i64 x3) := (hbx.cell (p := ⟨_, _, none⟩) hlbo).trans c2_
        have c3 : wx.cell? ⟨lb, lo + k * 4 + 3, none⟩ = some (.int .i64 x4) := (hbx.cell (p := ⟨_, _, none⟩) hlbo).trans c3_
        have HO2 := Lib.hid (ownN_below HO.out hbx)
        have HS2 := Lib.hid (HS.out.below hbx)
        have HB2 : Hid (Below w1.heap.size w1 wx) := HB.out.trans (hbx.mono hzo)
        clear hbx
        by_cases hlt2 : j < q
        · have hjI : (j : Int) < (q : Int) := by omega
          have HYf := HOf.out j hlt2
          obtain ⟨ob, oo, rfl, hob, d0, d1, d2, d3⟩ := (own_rdV HO2.out).fin hlt2
          rw [show ((0, 0, 0, 0) : F4) = f0 from rfl] at d0 d1 d2 d3
          have HStep : Hid (farK O (x1, x2, x3, x4) (j + 1) = (farK O (x1, x2, x3, x4) j && !nearF (O.getD j f0) (x1, x2, x3, x4))) := rfl
          have HSame : Hid (∀ W, Calls Try.prog 35 #[.agg #[.int .i64 (O.getD j f0).1, .int .i64 (O.getD j f0).2.1, .int .i64 (O.getD j f0).2.2.1, .int .i64 (O.getD j f0).2.2.2], .agg #[.int .i64 x1, .int .i64 x2, .int .i64 x3, .int .i64 x4]] W fun e w' => e = .returned (.bool (nearF (O.getD j f0) (x1, x2, x3, x4))) ∧ Below W.heap.size W w') := fun W => by
            have h1 := sSame (O.getD j f0).1 (O.getD j f0).2.1 (O.getD j f0).2.2.1 (O.getD j f0).2.2.2 x1 x2 x3 x4 W
            have h2 := sameB_near HYf HXf.out
            simp only at h2
            rw [h2] at h1
            exact h1
          generalize O.getD j f0 = y at d0 d1 d2 d3 HStep HSame
          obtain ⟨y1, y2, y3, y4⟩ := y
          simp only at d0 d1 d2 d3 HSame
          generalize nearF (y1, y2, y3, y4) (x1, x2, x3, x4) = nb at HStep HSame
          clear HYf
          cases hf : farK O (x1, x2, x3, x4) j
          · have HNx : Hid (farK O (x1, x2, x3, x4) (j + 1) = false) := by unfold Hid; rw [HStep.out, hf]; rfl
            clear HStep HSame hf
            go_wp2_with fail
            go_quiet (fail)
            go_wp2_with fail
            go_roundw
            case rel => exact ⟨j + 1, by omega, by go_num, by rw [HNx.out], below_drewN HBx.out _⟩
            case measure => simp [intOf]; omega
          · have HNx : Hid (farK O (x1, x2, x3, x4) (j + 1) = !nb) := by unfold Hid; rw [HStep.out, hf]; rfl
            have HSx : Hid (∀ w', Below wx.heap.size wx w' → (fun w' => Below wx.heap.size wx w' ∧ ob < w'.heap.size ∧ lb < w'.heap.size ∧ w'.cell? ⟨ob, oo + j * 4, none⟩ = some (.int .i64 y1) ∧ w'.cell? ⟨ob, oo + j * 4 + 1, none⟩ = some (.int .i64 y2) ∧ w'.cell? ⟨ob, oo + j * 4 + 2, none⟩ = some (.int .i64 y3) ∧ w'.cell? ⟨ob, oo + j * 4 + 3, none⟩ = some (.int .i64 y4) ∧ w'.cell? ⟨lb, lo + k * 4, none⟩ = some (.int .i64 x1) ∧ w'.cell? ⟨lb, lo + k * 4 + 1, none⟩ = some (.int .i64 x2) ∧ w'.cell? ⟨lb, lo + k * 4 + 2, none⟩ = some (.int .i64 x3) ∧ w'.cell? ⟨lb, lo + k * 4 + 3, none⟩ = some (.int .i64 x4)) w') := fun w' h => ⟨h, Nat.lt_of_lt_of_le hob h.size, Nat.lt_of_lt_of_le hlb h.size, (h.cell (p := ⟨_, _, none⟩) hob).trans d0, (h.cell (p := ⟨_, _, none⟩) hob).trans d1, (h.cell (p := ⟨_, _, none⟩) hob).trans d2, (h.cell (p := ⟨_, _, none⟩) hob).trans d3, (h.cell (p := ⟨_, _, none⟩) hlb).trans c0, (h.cell (p := ⟨_, _, none⟩) hlb).trans c1, (h.cell (p := ⟨_, _, none⟩) hlb).trans c2, (h.cell (p := ⟨_, _, none⟩) hlb).trans c3⟩
            clear HStep hf
            go_wp2_with fail
            go_region_held3 (fun w' => Below wx.heap.size wx w' ∧ ob < w'.heap.size ∧ lb < w'.heap.size ∧ w'.cell? ⟨ob, oo + j * 4, none⟩ = some (.int .i64 y1) ∧ w'.cell? ⟨ob, oo + j * 4 + 1, none⟩ = some (.int .i64 y2) ∧ w'.cell? ⟨ob, oo + j * 4 + 2, none⟩ = some (.int .i64 y3) ∧ w'.cell? ⟨ob, oo + j * 4 + 3, none⟩ = some (.int .i64 y4) ∧ w'.cell? ⟨lb, lo + k * 4, none⟩ = some (.int .i64 x1) ∧ w'.cell? ⟨lb, lo + k * 4 + 1, none⟩ = some (.int .i64 x2) ∧ w'.cell? ⟨lb, lo + k * 4 + 2, none⟩ = some (.int .i64 x3) ∧ w'.cell? ⟨lb, lo + k * 4 + 3, none⟩ = some (.int .i64 x4)) (exact HSx.out _ (by repeat' (first | (with_reducible exact Below.refl _ _) | (with_reducible assumption) | (with_reducible refine Below.alloc ?_ ?_ _) | (with_reducible refine Below.setCell ?_ ?_ _) | (with_reducible refine Below.drew ?_) | (with_reducible refine below_drewN ?_ _) | (with_reducible refine below_via (by with_reducible assumption) ?_ ?_) | go_size))) ((go_at_call 35; go_fit (HSame.out _); rintro e w' ⟨rfl, hb⟩; obtain ⟨hc_, hf_⟩ := bcell hb; have hz_ := hb.size; (try simp at hz_)))
            all_goals
              obtain ⟨w6, rfl⟩ : ∃ W : World, W = w' := ⟨_, rfl⟩
              have hb6 : Below wx.heap.size wx w6 := by repeat' (first | (with_reducible exact Below.refl _ _) | (with_reducible assumption) | (with_reducible refine Below.alloc ?_ ?_ _) | (with_reducible refine Below.setCell ?_ ?_ _) | (with_reducible refine Below.drew ?_) | (with_reducible refine below_drewN ?_ _) | (with_reducible refine below_via (by with_reducible assumption) ?_ ?_) | go_size)
              have HB6 : Hid (Below wo.heap.size wo w6) := HBx.out.trans (hb6.mono hzx)
              clear hb hz_ hc_ hf_ hb6 HSx HSame
              go_wp2_with fail
              go_roundw
              case rel => exact ⟨j + 1, by omega, by go_num, by rw [HNx.out], HB6.out⟩
              case measure => simp [intOf]; omega
        · have hje : j = q := by omega
          have hge : (q : Int) ≤ (j : Int) := by omega
          have HJ := Lib.hid hje
          clear hje
          cases hf : farK O (x1, x2, x3, x4) j
          · have hf2 := hf
            rw [HJ.out] at hf2
            have HF := Lib.hid (HNo.out hf2)
            clear hf hf2 HY HNo
            go_wp2_with fail
            go_roundw
            case rel => exact ⟨k + 1, q, by omega, by go_num, by omega, by rw [HF.out]; exact HQ.out, by rw [HF.out]; exact HO2.out, HS2.out, HB2.out⟩
            case measure => simp [intOf]; omega
          · have hf2 := hf
            rw [HJ.out] at hf2
            have HF := Lib.hid (HY.out hf2)
            clear hf hf2 HY HNo
            have hzw : w1.heap.size ≤ wx.heap.size := by omega
            go_wp2_with (at_builtin; refine wpList_append_own_at _ rfl _ _ 26 rfl w1.heap.size 42 i0 _ 4 32 Try.underlying26 hi hz0 hI1 hI2 rfl (by decide) _ _ _ rfl (HO2.out.alloc _) ⟨wx.heap.size, 0, none⟩ 1 1 [.int .i64 x1, .int .i64 x2, .int .i64 x3, .int .i64 x4] rfl rfl (World.news_of_block (heap_alloc_new wx _)) (by simp [Value.oneCell']) (by unfold maxLen; omega) (by omega) (by simp; omega) ?_; intro v9 w9 hown9 hgrow9 _ hat9)
            have HO9 : Hid (w9.ownsRow w1.heap.size 42 4 v9 (q + 1) (finV (fnd L (k + 1)))) := by
              unfold Hid
              rw [HF.out, finV_app]
              exact hown9
            have HQ9 : Hid ((fnd L (k + 1)).length = q + 1) := by unfold Hid; rw [HF.out, List.length_append, HQ.out]; rfl
            have HS9 := Lib.hid (HS2.out.app hgrow9 hat9)
            have HB9 : Hid (Below w1.heap.size w1 w9) := (HB2.out.alloc (by omega) _).grown hgrow9 (by simp; omega) (fun j e => (HO2.out.lt j e).1)
            clear hown9 hgrow9 hat9
            go_wp2_with fail
            go_roundw
            case rel => exact ⟨k + 1, q + 1, by omega, by go_num, by omega, HQ9.out, HO9.out, HS9.out, HB9.out⟩
            case measure => simp [intOf]; omega
    · have hke : k = m := by omega
      have hge : (m : Int) ≤ (k : Int) := by omega
      obtain ⟨av, cv, rfl⟩ := ownN_shape HO.out
      have HE := Lib.hid hke
      have hww : w.heap.size ≤ w1.heap.size := by omega
      clear hke
      go_wp2
      go_returns
      have HO2 := HO.out
      have HQ2 := HQ.out
      rw [HE.out] at HO2 HQ2
      rw [HLL.out, HM.out]
      rw [← HQ2] at HO2 ⊢
      exact ⟨av, cv, rfl, ownN_mono HO2 hww, HBw1.out.trans (HB.out.mono hww)⟩
end Go.Proofs.Ytcpicgcdefnhaaa
