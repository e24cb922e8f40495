/-
  DERIVED. Finders: impl.finders.
-/
import Derived.Test.YtcpicgcdefnhaaaFndP
import Derived.Test.YtcpicgcdefnhaaaFinA
import Derived.Test.YtcpicgcdefnhaaaCndI
import Derived.Deep.LoopGhost
import Derived.WalkMore
import Derived.Outline
namespace Go.Proofs.Ytcpicgcdefnhaaa
open Go.RowKit
set_option linter.unusedVariables false
def GotFinds (w : World) (L : List F4) (e : Ending) (w' : World) : Prop :=
  (L.length ≤ 60 ∧ ∃ a cp, e = .returned (.tuple #[.slice a L.length cp, .bool true]) ∧ w'.ownsRow w.heap.size 42 4 (.slice a L.length cp) L.length (finV L) ∧ Below w.heap.size w w') ∨
  (60 < L.length ∧ e = .returned (.tuple #[.slice none 0 0, .bool false]) ∧ Below w.heap.size w w')
set_option maxRecDepth 100000 in
set_option maxHeartbeats 8000000 in
theorem iFinders (R C : Nat) (ga : Option Addr) (gn gc : Nat) (gs : List Int) (w : World) (h : Rd w ga gn gs) (hgn : gn = R * C) (hn4 : gn ≤ 40000) (hgc : gn ≤ gc) (hR1 : 1 ≤ R) (hC1 : 1 ≤ C) :
    Calls Try.prog 26 #[.agg #[.int .i64 (R : Int), .int .i64 (C : Int), .slice ga gn gc]] w (GotFinds w (fnd (cand gs C R R) (cand gs C R R).length)) := by
  obtain ⟨i0, hi, hz0, hI1, hI2⟩ := info_parts infoFin
  have HH := Lib.hid h
  have HN := Lib.hid hgn
  have hC4 : C ≤ 40000 := by
    have : 1 * C ≤ R * C := Nat.mul_le_mul_right _ hR1
    omega
  have hR4 : R ≤ 40000 := by
    have : R * 1 ≤ R * C := Nat.mul_le_mul_left _ hC1
    omega
  have HFit := Lib.hid (cand_fit gs C R hC4 hR4 R)
  have HLn : Hid ((cand gs C R R).length ≤ 40000) := by unfold Hid; have := cand_len gs C R R; omega
  clear h hgn
  have HBw : Hid (Below w.heap.size w (w.alloc (.cells #[.int .i64 (R : Int), .int .i64 (C : Int), .slice ga gn gc] 29))) := by unfold Hid; repeat' (first | (with_reducible exact Below.refl _ _) | (with_reducible assumption) | (with_reducible refine Below.alloc ?_ ?_ _) | (with_reducible refine Below.setCell ?_ ?_ _) | (with_reducible refine Below.drew ?_) | (with_reducible refine below_drewN ?_ _) | (with_reducible refine below_via (by with_reducible assumption) ?_ ?_) | go_size)
  obtain ⟨Wb, hWb⟩ : ∃ Wb : World, w.alloc (.cells #[.int .i64 (R : Int), .int .i64 (C : Int), .slice ga gn gc] 29) = Wb := ⟨_, rfl⟩
  rw [hWb] at HBw
  have hWs : w.heap.size < Wb.heap.size := by rw [← hWb]; simp
  have HKG : Hid (Blk Wb w.heap.size 29 #[.int .i64 (R : Int), .int .i64 (C : Int), .slice ga gn gc]) := by rw [← hWb]; exact Blk.new w 29 _
  have g0 : Wb.cell? ⟨w.heap.size, 0, none⟩ = some (.int .i64 (R : Int)) := HKG.out.cell 0
  have g1 : Wb.cell? ⟨w.heap.size, 1, none⟩ = some (.int .i64 (C : Int)) := HKG.out.cell 1
  have g2 : Wb.cell? ⟨w.heap.size, 2, none⟩ = some (.slice ga gn gc) := HKG.out.cell 2
  have HO0 : Hid ((Wb.alloc (.cells #[] 42)).ownsRow Wb.heap.size 42 4 (.slice (some ⟨Wb.heap.size, 0, none⟩) 0 0) 0 []) := by
    have := World.ownsRow_lit (base := Wb.heap.size) (e := 42) (size := 4) Wb #[] 0 (by simp) (by unfold maxLen; omega) (by simp)
    exact this
  obtain ⟨Wc, hWc⟩ : ∃ Wc : World, Wb.alloc (.cells #[] 42) = Wc := ⟨_, rfl⟩
  have hbc : Below Wb.heap.size Wb Wc := by rw [← hWc]; exact (Below.refl _ _).alloc (Nat.le_refl _) _
  have hzc : Wb.heap.size < Wc.heap.size := by rw [← hWc]; simp
  have HBc : Hid (Below w.heap.size w Wc) := HBw.out.trans (hbc.mono (by omega))
  have HBb := Lib.hid hbc
  rw [hWc] at HO0
  have q0 : Wc.cell? ⟨w.heap.size, 0, none⟩ = some (.int .i64 (R : Int)) := (hbc.cell (p := ⟨_, _, none⟩) hWs).trans g0
  have q1 : Wc.cell? ⟨w.heap.size, 1, none⟩ = some (.int .i64 (C : Int)) := (hbc.cell (p := ⟨_, _, none⟩) hWs).trans g1
  have q2 : Wc.cell? ⟨w.heap.size, 2, none⟩ = some (.slice ga gn gc) := (hbc.cell (p := ⟨_, _, none⟩) hWs).trans g2
  clear g0 g1 g2 hbc
  go_enter Try.func26, Try.ntmps26
  go_wp2_with fail
  go_step3
  go_wp2_with fail
  go_step3
  go_wp2_with fail
  clear hWb hWc
  refine (iCands R C ga gn gc gs Wc (HH.out.below HBc.out) HN.out hn4 hgc hR1 hC1).mono ?_
  rintro e w1 ⟨la, lc, rfl, hol, hb1⟩
  have hz1 := hb1.size
  obtain ⟨L, hL⟩ : ∃ L, cand gs C R R = L := ⟨_, rfl⟩
  rw [hL] at HFit HLn hol ⊢
  have HLL := Lib.hid hL
  obtain ⟨m, hm⟩ : ∃ m, L.length = m := ⟨_, rfl⟩
  rw [hm] at HLn hol ⊢
  have hm4 : m ≤ 40000 := HLn.out
  have HM := Lib.hid hm
  have HOL := Lib.hid hol
  have HO1 := Lib.hid (ownN_below HO0.out hb1)
  have HS1 : Hid (Stand w1 w1 Wc.heap.size w1.heap.size (.slice (some ⟨Wb.heap.size, 0, none⟩) 0 0)) := Stand.start (fun b e => by simp [Value.ownBlock] at e; omega)
  have HB1 : Hid (Below Wb.heap.size Wb w1) := HBb.out.trans (hb1.mono (by omega))
  clear hL hm hol hb1 q0 q1 q2 HO0
  go_wp2_with fail
  go_loopg [4, 13] m (fun g v i wr => ∃ k q : Nat, k + g = m ∧ i = .int .i64 (k : Int) ∧ q ≤ 60 ∧ Hid ((fnd L k).length = q) ∧ Hid (wr.ownsRow Wb.heap.size 42 4 v q (finV (fnd L k))) ∧ Hid (Stand w1 wr Wc.heap.size w1.heap.size v) ∧ Hid (Below Wb.heap.size Wb wr))
  case atStart => exact ⟨0, 0, by omega, rfl, by omega, rfl, HO1.out, HS1.out, HB1.out⟩
  case round =>
    clear HO1 HS1 HB1
    obtain ⟨k, q, hkg, rfl, hq6, HQ, HO, HS, HB⟩ := hrel
    obtain ⟨wo, rfl⟩ : ∃ W : World, W = wr := ⟨_, rfl⟩
    have hzo := HB.out.size
    cases gk with
    | zero =>
      have hge : (m : Int) ≤ (k : Int) := by omega
      obtain ⟨av, cv, rfl⟩ := ownN_shape HO.out
      have hww : w.heap.size ≤ Wb.heap.size := by omega
      have HE : Hid (k = m) := by unfold Hid; omega
      clear hkg
      go_wp2_with fail
      (try simp only [Exit.noGoto_ret])
      go_returns
      have HO2 := HO.out
      have HQ2 := HQ.out
      rw [HE.out] at HO2 HQ2
      rw [HLL.out, HM.out]
      rw [← HQ2] at HO2 hq6 ⊢
      exact .inl ⟨hq6, av, cv, rfl, ownN_mono HO2 hww, HBw.out.trans (HB.out.mono hww)⟩
    | succ g =>
      have hlt : k < m := by omega
      have hkI : (k : Int) < (m : Int) := by omega
      have HXf := Lib.hid (HFit.out _ (getD_memF (L := L) (k := k) (by rw [HM.out]; exact hlt)))
      have HOf : Hid (∀ j, j < q → fitF ((fnd L k).getD j f0)) := fun j hj => HFit.out _ (fnd_mem L k (by rw [HM.out]; omega) _ (getD_memF (by rw [HQ.out]; exact hj)))
      have HY := Lib.hid (fnd_yes (L := L) (k := k))
      have HNo := Lib.hid (fnd_no (L := L) (k := k))
      have HHit := Lib.hid (fun j => farK_hit (O := fnd L k) (x := L.getD k f0) (j := j))
      have HMo : Hid ((fnd L (k + 1)).length ≤ (fnd L m).length) := by
        have := fnd_mono L (k + 1) (m - (k + 1))
        rw [show k + 1 + (m - (k + 1)) = m by omega] at this
        exact this
      have HRL : Hid (RdV wo la 4 m (finV L)) := HS.out.rdV HOL.out (Nat.le_refl _)
      obtain ⟨lb, lo, rfl, hlbo, c0_, c1_, c2_, c3_⟩ := HRL.out.fin hlt
      rw [show ((0, 0, 0, 0) : F4) = f0 from rfl] at c0_ c1_ c2_ c3_
      generalize hx : L.getD k f0 = x at HXf HY HNo HHit c0_ c1_ c2_ c3_
      clear hx
      obtain ⟨O, hOe⟩ : ∃ O, fnd L k = O := ⟨_, rfl⟩
      rw [hOe] at HQ HO HOf HY HNo HHit
      rw [HQ.out] at HY HNo HHit
      obtain ⟨x1, x2, x3, x4⟩ := x
      simp only at c0_ c1_ c2_ c3_
      obtain ⟨oa, oc, rfl⟩ := ownN_shape HO.out
      obtain ⟨w3, hw3⟩ : ∃ W : World, W = wo.alloc (.cells #[.int .i64 x1, .int .i64 x2, .int .i64 x3, .int .i64 x4] 42) := ⟨_, rfl⟩
      have hb3 : Below wo.heap.size wo w3 := by rw [hw3]; exact (Below.refl _ _).alloc (Nat.le_refl _) _
      have hz3 : wo.heap.size < w3.heap.size := by rw [hw3]; simp
      have HX3 : Hid (Blk w3 wo.heap.size 42 #[.int .i64 x1, .int .i64 x2, .int .i64 x3, .int .i64 x4]) := by rw [hw3]; exact Blk.new _ _ _
      have HO3 := Lib.hid (ownN_below HO.out hb3)
      have HS3 := Lib.hid (HS.out.below hb3)
      have HB3 : Hid (Below Wb.heap.size Wb w3) := HB.out.trans (hb3.mono hzo)
      clear hOe hb3 HO HS HB HRL
      go_upto_region 5 with (fail)
      rw [← hw3]
      clear hw3 c0_ c1_ c2_ c3_
      go_wp2_with fail
      go_loopg [19] q (fun g2 i wr2 => ∃ j : Nat, j + g2 = q ∧ i = .int .i64 (j : Int) ∧ Hid (farK O (x1, x2, x3, x4) j = true) ∧ Hid (Below w3.heap.size w3 wr2))
      case atStart => exact ⟨0, by omega, rfl, rfl, Below.refl _ _⟩
      case round =>
        obtain ⟨j, hjg, rfl, HFa, HBx⟩ := hrel
        obtain ⟨wx, rfl⟩ : ∃ W : World, W = wr := ⟨_, rfl⟩
        have hzx := HBx.out.size
        have hbx := HBx.out
        have HX2 := Lib.hid (HX3.out.keep hbx)
        have HO2 := Lib.hid (ownN_below HO3.out hbx)
        have HS2 := Lib.hid (HS3.out.below hbx)
        have HB2 : Hid (Below Wb.heap.size Wb wx) := HB3.out.trans (hbx.mono (by omega))
        have e0 : wx.cell? ⟨wo.heap.size, 0, none⟩ = some (.int .i64 x1) := HX2.out.cell 0
        have e1 : wx.cell? ⟨wo.heap.size, 1, none⟩ = some (.int .i64 x2) := HX2.out.cell 1
        have e2 : wx.cell? ⟨wo.heap.size, 2, none⟩ = some (.int .i64 x3) := HX2.out.cell 2
        have e3 : wx.cell? ⟨wo.heap.size, 3, none⟩ = some (.int .i64 x4) := HX2.out.cell 3
        have hwo : wo.heap.size < wx.heap.size := by omega
        have hwb : Wb.heap.size ≤ wx.heap.size := by omega
        clear hbx
        cases gk with
        | zero =>
          have hge : (q : Int) ≤ (j : Int) := by omega
          have HJ : Hid (j = q) := by unfold Hid; omega
          have hf : farK O (x1, x2, x3, x4) q = true := by rw [← HJ.out]; exact HFa.out
          have HF := Lib.hid (HY.out hf)
          clear hf hjg
          by_cases hq60 : q < 60
          · have hne : ((q : Int) == 60) = false := by simp; omega
            go_wp2_with (at_builtin; refine wpList_append_own_at _ rfl _ _ 26 rfl Wb.heap.size 42 i0 _ 4 32 Try.underlying26 hi hz0 hI1 hI2 rfl (by decide) _ _ _ rfl (HO2.out.alloc _) ⟨wx.heap.size, 0, none⟩ 1 1 [.int .i64 x1, .int .i64 x2, .int .i64 x3, .int .i64 x4] rfl rfl (World.news_of_block (heap_alloc_new wx _)) (by simp [Value.oneCell']) (by unfold maxLen; omega) (by omega) (by simp; omega) ?_; intro v9 w9 hown9 hgrow9 _ hat9)
            have HO9 : Hid (w9.ownsRow Wb.heap.size 42 4 v9 (q + 1) (finV (fnd L (k + 1)))) := by
              unfold Hid
              rw [HF.out, finV_app]
              exact hown9
            have HQ9 : Hid ((fnd L (k + 1)).length = q + 1) := by unfold Hid; rw [HF.out, List.length_append, HQ.out]; rfl
            have HS9 := Lib.hid (HS2.out.app hgrow9 hat9)
            have HB9 : Hid (Below Wb.heap.size Wb w9) := (HB2.out.alloc (by omega) _).grown hgrow9 (by simp; omega) (fun j e => (HO2.out.lt j e).1)
            clear hown9 hgrow9 hat9
            go_wp2_with fail
            go_roundg g
            case measure => omega
            case rel => exact ⟨k + 1, q + 1, by omega, by go_num, by omega, HQ9.out, HO9.out, HS9.out, HB9.out⟩
          · have hq60' : (q : Int) = 60 := by omega
            have hne : ((q : Int) == 60) = true := by simp; omega
            have HBig : Hid (60 < (fnd L m).length) := by
              have h1 := HMo.out
              have h2 := congrArg List.length HF.out
              rw [List.length_append, HQ.out] at h2
              simp at h2
              unfold Hid
              omega
            have hww : w.heap.size ≤ Wb.heap.size := by omega
            clear hq60'
            go_wp2_with fail
            (try simp only [Exit.noGoto_ret])
            go_returns
            rw [HLL.out, HM.out]
            exact .inr ⟨HBig.out, rfl, HBw.out.trans (HB2.out.mono hww)⟩
        | succ g2 =>
          have hlt2 : j < q := by omega
          have hjI : (j : Int) < (q : Int) := by omega
          have HYf := HOf.out j hlt2
          obtain ⟨ob, oo, rfl, hob, d0, d1, d2, d3⟩ := (own_rdV HO2.out).fin hlt2
          rw [show ((0, 0, 0, 0) : F4) = f0 from rfl] at d0 d1 d2 d3
          have HStep := Lib.hid (fun h => farK_step (O := O) (x := (x1, x2, x3, x4)) (j := j) HFa.out h)
          have HH2 := Lib.hid (HHit.out j)
          have HNear : Hid (∀ W, Calls Try.prog 36 #[.agg #[.int .i64 (O.getD j f0).1, .int .i64 (O.getD j f0).2.1, .int .i64 (O.getD j f0).2.2.1, .int .i64 (O.getD j f0).2.2.2], .agg #[.int .i64 x1, .int .i64 x2, .int .i64 x3, .int .i64 x4]] W fun e w' => e = .returned (.bool (nearF (O.getD j f0) (x1, x2, x3, x4))) ∧ Below W.heap.size W w') := fun W => by
            obtain ⟨⟨a1, a2⟩, ⟨a3, a4⟩, ⟨a5, a6⟩, a7, a8⟩ := HYf
            obtain ⟨⟨b1, b2⟩, ⟨b3, b4⟩, ⟨b5, b6⟩, b7, b8⟩ := HXf.out
            exact iNear _ _ _ _ x1 x2 x3 x4 W (inB_yes a1 a2) (inB_yes a3 a4) (inB_yes b1 b2) (inB_yes b3 b4) (inB_yes b5 b6) (inB_yes b7 b8)
          generalize O.getD j f0 = y at d0 d1 d2 d3 HStep HNear HH2
          obtain ⟨y1, y2, y3, y4⟩ := y
          simp only at d0 d1 d2 d3 HNear
          generalize hnb : nearF (y1, y2, y3, y4) (x1, x2, x3, x4) = nb at HStep HNear HH2
          clear HYf hnb
          obtain ⟨w4, hw4⟩ : ∃ W : World, W = wx.alloc (.cells #[.int .i64 y1, .int .i64 y2, .int .i64 y3, .int .i64 y4] 42) := ⟨_, rfl⟩
          have hb4 : Below wx.heap.size wx w4 := by rw [hw4]; exact (Below.refl _ _).alloc (Nat.le_refl _) _
          have hz4 : wx.heap.size < w4.heap.size := by rw [hw4]; simp
          have HY4 : Hid (Blk w4 wx.heap.size 42 #[.int .i64 y1, .int .i64 y2, .int .i64 y3, .int .i64 y4]) := by rw [hw4]; exact Blk.new _ _ _
          have HX4 := HX2.out.keep hb4
          have r0 : w4.cell? ⟨wo.heap.size, 0, none⟩ = some (.int .i64 x1) := HX4.cell 0
          have r1 : w4.cell? ⟨wo.heap.size, 1, none⟩ = some (.int .i64 x2) := HX4.cell 1
          have r2 : w4.cell? ⟨wo.heap.size, 2, none⟩ = some (.int .i64 x3) := HX4.cell 2
          have r3 : w4.cell? ⟨wo.heap.size, 3, none⟩ = some (.int .i64 x4) := HX4.cell 3
          have s0_ : w4.cell? ⟨wx.heap.size, 0, none⟩ = some (.int .i64 y1) := HY4.out.cell 0
          have s1_ : w4.cell? ⟨wx.heap.size, 1, none⟩ = some (.int .i64 y2) := HY4.out.cell 1
          have s2_ : w4.cell? ⟨wx.heap.size, 2, none⟩ = some (.int .i64 y3) := HY4.out.cell 2
          have s3_ : w4.cell? ⟨wx.heap.size, 3, none⟩ = some (.int .i64 y4) := HY4.out.cell 3
          have HB4 := Lib.hid hb4
          clear e0 e1 e2 e3 HX4 hb4
          go_upto_region 8 with (fail)
          rw [← hw4]
          clear hw4 d0 d1 d2 d3
          go_wp2_with fail
          refine (HNear.out w4).mono ?_
          rintro e w5 ⟨rfl, hb5⟩
          have hb45 : Below wx.heap.size wx w5 := HB4.out.trans (hb5.mono (by omega))
          have hz5 := hb5.size
          have HO5 := Lib.hid (ownN_below HO2.out hb45)
          have HS5 := Lib.hid (HS2.out.below hb45)
          have HB5 : Hid (Below Wb.heap.size Wb w5) := HB2.out.trans (hb45.mono (by omega))
          have HBx5 : Hid (Below w3.heap.size w3 w5) := HBx.out.trans (hb45.mono hzx)
          clear hb5 hb45 HB4 r0 r1 r2 r3 s0_ s1_ s2_ s3_ HNear
          cases nb
          · have HFa2 := Lib.hid (HStep.out rfl)
            clear HStep HH2
            go_wp2_with fail
            go_roundg g2
            case measure => omega
            case rel => exact ⟨j + 1, by omega, by go_num, HFa2.out, HBx5.out⟩
          · have hf2 := HH2.out hlt2 rfl
            have HF := Lib.hid (HNo.out hf2)
            clear hf2 HStep HH2 HY HNo
            go_wp2_with fail
            go_roundg g
            case measure => omega
            case rel => exact ⟨k + 1, q, by omega, by go_num, hq6, by rw [HF.out]; exact HQ.out, by rw [HF.out]; exact HO5.out, HS5.out, HB5.out⟩
end Go.Proofs.Ytcpicgcdefnhaaa
