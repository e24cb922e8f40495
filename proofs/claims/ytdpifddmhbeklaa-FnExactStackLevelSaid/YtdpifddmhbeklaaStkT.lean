/-
  DERIVED. StkM, StkN.
-/
import Derived.Test.YtdpifddmhbeklaaStkL
import Derived.Test.YtdpifddmhbeklaaLev
namespace Go.Proofs.Ytdpifddmhbeklaa
open Go.RowKit
set_option linter.unusedVariables false
theorem cntL4 (vs : List Int) : vals (cntL 4 vs) = #[.int .i64 (cnt vs 0), .int .i64 (cnt vs 1), .int .i64 (cnt vs 2), .int .i64 (cnt vs 3)] := rfl
set_option maxRecDepth 20000 in
set_option maxHeartbeats 8000000 in
theorem iLevel (nm : ByteArray) (kd p pw po : Int) (sa : Option Addr) (sn sc co : Nat) (la : Option Addr) (ln lc : Nat) (R C gn gc : Nat) (ga : Option Addr) (gs : List Int) (w : World) (h : Rd w ga gn gs) (hn : gn ≤ 40000) (hc : gn ≤ gc) (hc2 : gc ≤ maxLen) (hgn : gn = R * C) (hC : C = 15 + 11 * (co + 2)) (hco : co ≤ 8) (hl1 : 1 ≤ ln) (hl4 : ln ≤ 4) (hbd : ∀ x ∈ gs, -1 ≤ x ∧ x ≤ 1) :
    Calls Try.prog 94 #[.agg #[.string nm, .int .i64 kd, .int .i64 p, .int .i64 pw, .int .i64 po, .slice sa sn sc, .int .i64 (co : Int), .slice la ln lc], .agg #[.int .i64 (R : Int), .int .i64 (C : Int), .slice ga gn gc]] w fun e w' => e = .returned (.tuple #[.int .i64 (iBest (cnt (lvI gs C co ln R)) 4 : Int), .bool (decide (0 < cnt (lvI gs C co ln R) (iBest (cnt (lvI gs C co ln R)) 4)))]) ∧ Below w.heap.size w w' := by
  have hC1 : 1 ≤ C := by omega
  have hR4 : R ≤ 40000 := by have : R * 1 ≤ R * C := Nat.mul_le_mul_left _ hC1; omega
  have HK : Hid ((C - 15) / 11 = co + 2) := by unfold Hid; omega
  have HH := Lib.hid h
  have HG := Lib.hid hgn
  have HBd := Lib.hid hbd
  obtain ⟨c, hc0⟩ : ∃ c, cnt (lvI gs C co ln R) = c := ⟨_, rfl⟩
  rw [hc0]
  have HCe := Lib.hid hc0
  clear h hgn hC hc0 hbd
  go_enter Try.func94, Try.ntmps94
  go_wp2_with fail
  obtain ⟨W, hW⟩ : ∃ W : World, ((w.alloc (.cells #[.string nm, .int .i64 kd, .int .i64 p, .int .i64 pw, .int .i64 po, .slice sa sn sc, .int .i64 (co : Int), .slice la ln lc] 60)).alloc (.cells #[.int .i64 (R : Int), .int .i64 (C : Int), .slice ga gn gc] 62)).alloc (.cells #[.int .i64 0, .int .i64 0, .int .i64 0, .int .i64 0] 150) = W := ⟨_, rfl⟩
  have HKF : Hid (Blk W w.heap.size 60 #[.string nm, .int .i64 kd, .int .i64 p, .int .i64 pw, .int .i64 po, .slice sa sn sc, .int .i64 (co : Int), .slice la ln lc]) := by rw [← hW]; exact ((Blk.new w 60 _).alloc _).alloc _
  have HL0 : Hid (Blk W (w.heap.size + 2) 150 (vals (cntL 4 (lvI gs C co ln 0)))) := by
    unfold Hid
    rw [show vals (cntL 4 (lvI gs C co ln 0)) = #[.int .i64 0, .int .i64 0, .int .i64 0, .int .i64 0] from rfl, ← hW]
    have := Blk.new ((w.alloc (.cells #[.string nm, .int .i64 kd, .int .i64 p, .int .i64 pw, .int .i64 po, .slice sa sn sc, .int .i64 (co : Int), .slice la ln lc] 60)).alloc (.cells #[.int .i64 (R : Int), .int .i64 (C : Int), .slice ga gn gc] 62)) 150 #[.int .i64 0, .int .i64 0, .int .i64 0, .int .i64 0]
    simp only [World.size_alloc] at this
    exact this
  have HBW : Hid (Below w.heap.size w W) := by rw [← hW]; unfold Hid; repeat' (first | (with_reducible exact Below.refl _ _) | (with_reducible assumption) | (with_reducible refine Below.alloc ?_ ?_ _) | (with_reducible refine Below.setCell ?_ ?_ _) | (with_reducible refine Below.drew ?_) | (with_reducible refine below_drewN ?_ _) | (with_reducible refine below_via (by with_reducible assumption) ?_ ?_) | go_size)
  have HWs : Hid (W.heap.size = w.heap.size + 3) := by unfold Hid; rw [← hW]; simp
  rw [hW]
  clear hW
  refine (iValues R C gn gc ga gs _ (HH.out.below HBW.out) hn hc hc2 HG.out hC1 HBd.out).mono ?_
  rintro e w1 ⟨g, rfl, hrr, hcaps, hg1, hg2, hb1⟩
  have HRR := Lib.hid hrr
  have HB1 : Hid (Below w.heap.size w w1) := HBW.out.trans (hb1.mono (by have := HWs.out; omega))
  have HKF1 := Lib.hid (HKF.out.keep hb1)
  have HL1 := Lib.hid (HL0.out.keep hb1)
  have hz1 : w.heap.size + 3 ≤ w1.heap.size := by have := hb1.size; have := HWs.out; omega
  clear hrr hcaps hb1 HKF HL0 HBW
  go_wp2
  go_loopw [16] (fun i wr => ∃ r : Nat, r ≤ R ∧ i = .int .i64 (r : Int) ∧ Hid (Blk wr (w.heap.size + 2) 150 (vals (cntL 4 (lvI gs C co ln r)))) ∧ Hid (w1.grownBy wr (some (w.heap.size + 2)))) (fun i _ => R - (intOf i).toNat)
  case atStart => exact ⟨0, Nat.zero_le _, rfl, HL1.out, World.grownBy.refl _ _⟩
  case round =>
    clear HL1
    obtain ⟨r, hr, rfl, HL, HGr⟩ := hrel
    have hzo : w.heap.size + 2 < wr.heap.size := HL.out.lt
    have hzo0 : w.heap.size < wr.heap.size := by omega
    have HBo : Hid (Below w.heap.size w wr) := HB1.out.grown HGr.out (by omega) (fun j e => by injection e with e; omega)
    by_cases hlt : r < R
    · have HKF2 : Hid (Blk wr w.heap.size 60 #[.string nm, .int .i64 kd, .int .i64 p, .int .i64 pw, .int .i64 po, .slice sa sn sc, .int .i64 (co : Int), .slice la ln lc]) := (HGr.out.block w.heap.size HKF1.out.lt (by simp)).trans HKF1.out
      have a0 : wr.cell? ⟨w.heap.size, 0, none⟩ = some (.string nm) := HKF2.out.cell 0
      have a1 : wr.cell? ⟨w.heap.size, 1, none⟩ = some (.int .i64 kd) := HKF2.out.cell 1
      have a2 : wr.cell? ⟨w.heap.size, 2, none⟩ = some (.int .i64 p) := HKF2.out.cell 2
      have a3 : wr.cell? ⟨w.heap.size, 3, none⟩ = some (.int .i64 pw) := HKF2.out.cell 3
      have a4 : wr.cell? ⟨w.heap.size, 4, none⟩ = some (.int .i64 po) := HKF2.out.cell 4
      have a5 : wr.cell? ⟨w.heap.size, 5, none⟩ = some (.slice sa sn sc) := HKF2.out.cell 5
      have a6 : wr.cell? ⟨w.heap.size, 6, none⟩ = some (.int .i64 (co : Int)) := HKF2.out.cell 6
      have a7 : wr.cell? ⟨w.heap.size, 7, none⟩ = some (.slice la ln lc) := HKF2.out.cell 7
      have HVl : Hid ((gVal gs C r).length = co + 2) := by unfold Hid; rw [gVal_len, HK.out]
      obtain ⟨b0, off0, a', cp, e0, hb0, hcell, hrd⟩ := (HRR.out.kept HGr.out.size (fun b h1 h2 => HGr.out.block b h2 (by simp; have := HWs.out; omega))).at hlt
      rw [gVals_get _ _ hlt, HVl.out] at hcell hrd
      injection e0 with e0
      injection e0 with e1 e2
      subst e1 e2
      rw [Nat.zero_add] at hcell
      obtain ⟨b, off, rfl, hb, hc2⟩ := hrd.2 (by omega)
      have hcx := hc2 (co + 1) (by omega)
      obtain ⟨v, hv⟩ : ∃ v, (gVal gs C r).getD (co + 1) 0 = v := ⟨_, rfl⟩
      rw [hv] at hcx
      have HV : Hid (lvV gs C co r = v) := hv
      have hx1 : (0 : Int) ≤ (co : Int) + 1 := by omega
      have hx2 : (co : Int) + 1 < (co : Int) + 2 := by omega
      have hx3 : ((co : Int) + 1).toNat = co + 1 := by omega
      have hx4 : (co : Int) + 2 - 1 = (co : Int) + 1 := by omega
      clear hv hc2 hrd hb hb0
      by_cases hr3 : r % 3 = 2
      · have t3 : ((r : Int) % 3 == 2) = true := by simp; omega
        cases hin : inB v 0 ((ln : Int) - 1)
        · have HN : Hid (lvI gs C co ln (r + 1) = lvI gs C co ln r) := lvI_no (by rw [HV.out, hin]; simp)
          go_wp2_with (go_at_call 89; refine (iHasLevel nm kd p pw po sa sn sc (co : Int) la ln lc v _ (by omega)).mono ?_; rintro e w' ⟨rfl, hb⟩; rw [hin]; obtain ⟨hc, hf⟩ := bcell hb; have hz := hb.size; (try simp at hz))
          have HL2 : Hid (Blk w' (w.heap.size + 2) 150 (vals (cntL 4 (lvI gs C co ln (r + 1))))) := by rw [HN.out]; exact HL.out.keep hb
          have HG2 : Hid (w1.grownBy w' (some (w.heap.size + 2))) := only_below HGr.out hb
          go_roundw
          case rel => exact ⟨r + 1, by omega, by go_num, HL2, HG2⟩
          case measure => simp [intOf]; omega
        · obtain ⟨v0, v1⟩ := inB_iff.1 hin
          obtain ⟨k, rfl⟩ := Int.eq_ofNat_of_zero_le v0
          have hk : k < ln := by omega
          have hk4 : (k : Int) < 4 := by omega
          have hk5 : k < 4 := by omega
          have HN : Hid (lvI gs C co ln (r + 1) = lvI gs C co ln r ++ [(k : Int)]) := by
            unfold Hid
            rw [lvI_yes hr3 (by rw [HV.out]; exact hin), HV.out]
          have hy : wr.cell? ⟨w.heap.size + 2, k, none⟩ = some (.int .i64 (cnt (lvI gs C co ln r) k)) := by
            rw [HL.out.cell, vals_get _ _ (by rw [cntL_len]; exact hk5), cntL_get _ hk5]
          have hzf : wr.frozen? ⟨w.heap.size + 2, k, none⟩ = false := HL.out.frozen k
          have g1 := cnt_nn (lvI gs C co ln r) k
          have g2 := cnt_le (lvI gs C co ln r) k
          have g3 := lvI_len gs C co ln r
          obtain ⟨q, hq⟩ : ∃ q, cnt (lvI gs C co ln r) k = q := ⟨_, rfl⟩
          rw [hq] at hy g1 g2
          have g4 : q ≤ 40010 := by omega
          have HQ := Lib.hid hq
          clear g2 g3 hq
          go_wp2_with (go_at_call 89; refine (iHasLevel nm kd p pw po sa sn sc (co : Int) la ln lc (k : Int) _ (by omega)).mono ?_; rintro e w' ⟨rfl, hb⟩; rw [hin]; obtain ⟨hc, hf⟩ := bcell hb; have hz := hb.size; (try simp at hz))
          have HS : Hid (Blk (w'.setCell ⟨w.heap.size + 2, k, none⟩ (.int .i64 (q + 1))) (w.heap.size + 2) 150 (vals (cntL 4 (lvI gs C co ln (r + 1))))) := by
            have := (HL.out.keep hb).set_ k (.int .i64 (q + 1))
            rw [vals_set, ← HQ.out, cntL_push _ hk5, ← HN.out, HQ.out] at this
            exact this
          have HG3 : Hid (w1.grownBy (w'.setCell ⟨w.heap.size + 2, k, none⟩ (.int .i64 (q + 1))) (some (w.heap.size + 2))) := only_setCell (only_below HGr.out hb) _
          go_roundw
          case rel => exact ⟨r + 1, by omega, by go_num, HS.out, HG3.out⟩
          case measure => simp [intOf]; omega
      · have t3 : ((r : Int) % 3 == 2) = false := by simp; omega
        have HN : Hid (lvI gs C co ln (r + 1) = lvI gs C co ln r) := lvI_no (by omega)
        go_wp2_with fail
        go_roundw
        case rel => exact ⟨r + 1, by omega, by go_num, by rw [HN.out]; exact HL.out, HGr.out⟩
        case measure => simp [intOf]; omega
    · have hre : r = R := by omega
      rw [hre] at HL
      have HB4 : Hid (Blk wr (w.heap.size + 2) 150 #[.int .i64 (c 0), .int .i64 (c 1), .int .i64 (c 2), .int .i64 (c 3)]) := by
        have := HL.out
        rw [cntL4, HCe.out] at this
        exact this
      have HRe := Lib.hid hre
      have hge : (R : Int) ≤ (r : Int) := by omega
      clear hre HL HGr hlt
      obtain ⟨x0, h0⟩ : ∃ x, c 0 = x := ⟨_, rfl⟩
      obtain ⟨x1, h1⟩ : ∃ x, c 1 = x := ⟨_, rfl⟩
      obtain ⟨x2, h2⟩ : ∃ x, c 2 = x := ⟨_, rfl⟩
      obtain ⟨x3, h3⟩ : ∃ x, c 3 = x := ⟨_, rfl⟩
      rw [h0, h1, h2, h3] at HB4
      have HX := Lib.hid (And.intro h0 (And.intro h1 (And.intro h2 h3)))
      have k0 : wr.cell? ⟨w.heap.size + 2, 0, none⟩ = some (.int .i64 x0) := HB4.out.cell 0
      have k1 : wr.cell? ⟨w.heap.size + 2, 1, none⟩ = some (.int .i64 x1) := HB4.out.cell 1
      have k2 : wr.cell? ⟨w.heap.size + 2, 2, none⟩ = some (.int .i64 x2) := HB4.out.cell 2
      have k3 : wr.cell? ⟨w.heap.size + 2, 3, none⟩ = some (.int .i64 x3) := HB4.out.cell 3
      clear h0 h1 h2 h3
      have HCell : Hid (∀ b, b < 4 → wr.cell? ⟨w.heap.size + 2, b, none⟩ = some (.int .i64 (c b))) := fun b hb => by
        obtain ⟨h0, h1, h2, h3⟩ := HX.out
        have : b = 0 ∨ b = 1 ∨ b = 2 ∨ b = 3 := by omega
        rcases this with rfl | rfl | rfl | rfl
        · rw [h0]; exact HB4.out.cell 0
        · rw [h1]; exact HB4.out.cell 1
        · rw [h2]; exact HB4.out.cell 2
        · rw [h3]; exact HB4.out.cell 3
      have hix0 : ∀ W : World, (Instr.index 150 (.agg #[.int .i64 x0, .int .i64 x1, .int .i64 x2, .int .i64 x3]) (.int .i64 0)).run Try.prog W = .ok (.int .i64 x0) W := fun W => by kernel_rfl
      have hix1 : ∀ W : World, (Instr.index 150 (.agg #[.int .i64 x0, .int .i64 x1, .int .i64 x2, .int .i64 x3]) (.int .i64 1)).run Try.prog W = .ok (.int .i64 x1) W := fun W => by kernel_rfl
      have hix2 : ∀ W : World, (Instr.index 150 (.agg #[.int .i64 x0, .int .i64 x1, .int .i64 x2, .int .i64 x3]) (.int .i64 2)).run Try.prog W = .ok (.int .i64 x2) W := fun W => by kernel_rfl
      have hix3 : ∀ W : World, (Instr.index 150 (.agg #[.int .i64 x0, .int .i64 x1, .int .i64 x2, .int .i64 x3]) (.int .i64 3)).run Try.prog W = .ok (.int .i64 x3) W := fun W => by kernel_rfl
      go_wp2
      clear k0 k1 k2 k3
      go_loopw [10, 42] (fun q i wz => ∃ (k b : Nat), k ≤ 4 ∧ b < 4 ∧ i = .int .i64 (k : Int) ∧ q = .int .i64 (b : Int) ∧ Hid (b = iBest c k) ∧ wz = wr) (fun _ i _ => 4 - (intOf i).toNat)
      case atStart => exact ⟨0, 0, by omega, by omega, rfl, rfl, rfl, rfl⟩
      case round =>
        obtain ⟨k, b, hk, hb4, rfl, rfl, HBk, rfl⟩ := hrel
        have hy := HCell.out b hb4
        obtain ⟨y, hye⟩ : ∃ y, c b = y := ⟨_, rfl⟩
        rw [hye] at hy
        have HY := Lib.hid hye
        have hbI : (b : Int) < 4 := by omega
        clear hye
        have hk5 : k = 0 ∨ k = 1 ∨ k = 2 ∨ k = 3 ∨ k = 4 := by omega
        rcases hk5 with rfl | rfl | rfl | rfl | rfl
        · by_cases hcmp : y < x0
          · have HE : Hid (0 = iBest c 1) := (iBest_yes (k := 0) (by rw [← HBk.out, HY.out, HX.out.1]; exact hcmp)).symm
            go_wp2
            go_roundw
            case rel => exact ⟨1, 0, by omega, by omega, by first | rfl | go_num, by first | rfl | go_num, HE.out, trivial⟩
            case measure => simp [intOf]
          · have HE : Hid (b = iBest c 1) := by
              unfold Hid
              rw [iBest_no (k := 0) (by rw [← HBk.out, HY.out, HX.out.1]; exact hcmp)]
              exact HBk.out
            go_wp2
            go_roundw
            case rel => exact ⟨1, b, by omega, hb4, by first | rfl | go_num, rfl, HE.out, trivial⟩
            case measure => simp [intOf]
        · by_cases hcmp : y < x1
          · have HE : Hid (1 = iBest c 2) := (iBest_yes (k := 1) (by rw [← HBk.out, HY.out, HX.out.2.1]; exact hcmp)).symm
            go_wp2
            go_roundw
            case rel => exact ⟨2, 1, by omega, by omega, by first | rfl | go_num, by first | rfl | go_num, HE.out, trivial⟩
            case measure => simp [intOf]
          · have HE : Hid (b = iBest c 2) := by
              unfold Hid
              rw [iBest_no (k := 1) (by rw [← HBk.out, HY.out, HX.out.2.1]; exact hcmp)]
              exact HBk.out
            go_wp2
            go_roundw
            case rel => exact ⟨2, b, by omega, hb4, by first | rfl | go_num, rfl, HE.out, trivial⟩
            case measure => simp [intOf]
        · by_cases hcmp : y < x2
          · have HE : Hid (2 = iBest c 3) := (iBest_yes (k := 2) (by rw [← HBk.out, HY.out, HX.out.2.2.1]; exact hcmp)).symm
            go_wp2
            go_roundw
            case rel => exact ⟨3, 2, by omega, by omega, by first | rfl | go_num, by first | rfl | go_num, HE.out, trivial⟩
            case measure => simp [intOf]
          · have HE : Hid (b = iBest c 3) := by
              unfold Hid
              rw [iBest_no (k := 2) (by rw [← HBk.out, HY.out, HX.out.2.2.1]; exact hcmp)]
              exact HBk.out
            go_wp2
            go_roundw
            case rel => exact ⟨3, b, by omega, hb4, by first | rfl | go_num, rfl, HE.out, trivial⟩
            case measure => simp [intOf]
        · by_cases hcmp : y < x3
          · have HE : Hid (3 = iBest c 4) := (iBest_yes (k := 3) (by rw [← HBk.out, HY.out, HX.out.2.2.2]; exact hcmp)).symm
            go_wp2
            go_roundw
            case rel => exact ⟨4, 3, by omega, by omega, by first | rfl | go_num, by first | rfl | go_num, HE.out, trivial⟩
            case measure => simp [intOf]
          · have HE : Hid (b = iBest c 4) := by
              unfold Hid
              rw [iBest_no (k := 3) (by rw [← HBk.out, HY.out, HX.out.2.2.2]; exact hcmp)]
              exact HBk.out
            go_wp2
            go_roundw
            case rel => exact ⟨4, b, by omega, hb4, by first | rfl | go_num, rfl, HE.out, trivial⟩
            case measure => simp [intOf]
        · have HF : Hid (b = iBest c 4) := HBk.out
          by_cases hpos : 0 < y
          · have HD : Hid (decide (0 < c (iBest c 4)) = true) := by unfold Hid; rw [← HF.out, HY.out]; simpa using hpos
            go_wp2_with fail
            go_quiet (fail)
            go_wp2
            go_returns
            exact ⟨by rw [HD.out, ← HF.out]; rfl, below_drewN HBo.out _⟩
          · have HD : Hid (decide (0 < c (iBest c 4)) = false) := by unfold Hid; rw [← HF.out, HY.out]; simpa using hpos
            have dpos : decide (0 < y) = false := by simpa using hpos
            go_wp2_with fail
            go_quiet (fail)
            go_wp2
            go_returns
            exact ⟨by rw [HD.out, ← HF.out]; rfl, below_drewN HBo.out _⟩
end Go.Proofs.Ytdpifddmhbeklaa
namespace Go.Proofs.Ytdpifddmhbeklaa
open Go.RowKit
set_option linter.unusedVariables false
/-- The two results of StackLevel, where the code is 0. -/
def lvO (gs : List Int) (C co ln R : Nat) : Int × Int := if sBest (cnt (lvI gs C co ln R)) ln < 0 then (0, 7) else (sBest (cnt (lvI gs C co ln R)) ln, 0)
theorem lv_ends (gs : List Int) {C co ln R : Nat} (h1 : 1 ≤ ln) (h4 : ln ≤ 4) : (sBest (cnt (lvI gs C co ln R)) ln = -1 ∧ ¬ 0 < cnt (lvI gs C co ln R) (iBest (cnt (lvI gs C co ln R)) 4)) ∨ (sBest (cnt (lvI gs C co ln R)) ln = (iBest (cnt (lvI gs C co ln R)) 4 : Int) ∧ 0 < cnt (lvI gs C co ln R) (iBest (cnt (lvI gs C co ln R)) 4)) :=
  best_end (cnt_nn _) h1 h4 (fun j hj => cnt_out (lvI_mem gs C co ln R) hj)
set_option maxRecDepth 20000 in
set_option maxHeartbeats 4000000 in
theorem sSL_no (nm : ByteArray) (kd p pw po : Int) (sa : Option Addr) (sn sc : Nat) (col : Int) (la : Option Addr) (ln lc : Nat) (zs ls : List Int) (r c : Int) (ga : Option Addr) (gn gc : Nat) (gs : List Int) (w : World) (hnm : nm.size ≤ maxLen) (hs : Rd w sa sn zs) (hsn : sn ≤ 1048576) (hl : Rd w la ln ls) (hln : ln ≤ 1048576) (hg : Rd w ga gn gs) (hgn : gn ≤ 1048576) (o : Int) (ho : stkO nm kd p pw po sn zs col ln ls r c gn gs = o) (hne : o ≠ 0) : Calls Try.prog 47 #[.agg #[.string nm, .int .i64 kd, .int .i64 p, .int .i64 pw, .int .i64 po, .slice sa sn sc, .int .i64 col, .slice la ln lc], .agg #[.int .i64 r, .int .i64 c, .slice ga gn gc]] w fun e w' => e = .returned (.tuple #[.int .i64 0, .int .i64 o]) ∧ Below w.heap.size w w' := by
  have HS := Lib.hid hs
  have HL := Lib.hid hl
  have HG := Lib.hid hg
  have HO := Lib.hid ho
  have hno : (o != 0) = true := by simp [hne]
  clear hs hl hg ho hne
  go_enter Try.func47, Try.ntmps47
  go_wp2_with (go_at_call 91; refine (sCode nm kd p pw po sa sn sc col la ln lc zs ls r c ga gn gc gs _ hnm (HS.out.below (by repeat' (first | (with_reducible exact Below.refl _ _) | (with_reducible assumption) | (with_reducible refine Below.alloc ?_ ?_ _) | (with_reducible refine Below.setCell ?_ ?_ _) | (with_reducible refine Below.drew ?_) | (with_reducible refine below_drewN ?_ _) | (with_reducible refine below_via (by with_reducible assumption) ?_ ?_) | go_size))) hsn (HL.out.below (by repeat' (first | (with_reducible exact Below.refl _ _) | (with_reducible assumption) | (with_reducible refine Below.alloc ?_ ?_ _) | (with_reducible refine Below.setCell ?_ ?_ _) | (with_reducible refine Below.drew ?_) | (with_reducible refine below_drewN ?_ _) | (with_reducible refine below_via (by with_reducible assumption) ?_ ?_) | go_size))) hln (HG.out.below (by repeat' (first | (with_reducible exact Below.refl _ _) | (with_reducible assumption) | (with_reducible refine Below.alloc ?_ ?_ _) | (with_reducible refine Below.setCell ?_ ?_ _) | (with_reducible refine Below.drew ?_) | (with_reducible refine below_drewN ?_ _) | (with_reducible refine below_via (by with_reducible assumption) ?_ ?_) | go_size))) hgn).mono ?_; rintro e w' ⟨rfl, hb⟩; rw [HO.out]; obtain ⟨hc, hf⟩ := bcell hb; have hz := hb.size; (try simp at hz); have hz0 : w.heap.size < w'.heap.size := (by omega); have hz1 : w.heap.size + 1 < w'.heap.size := (by omega))
  go_returns
  exact ⟨rfl, by repeat' (first | (with_reducible exact Below.refl _ _) | (with_reducible assumption) | (with_reducible refine Below.alloc ?_ ?_ _) | (with_reducible refine Below.setCell ?_ ?_ _) | (with_reducible refine Below.drew ?_) | (with_reducible refine below_drewN ?_ _) | (with_reducible refine below_via (by with_reducible assumption) ?_ ?_) | go_size)⟩
set_option maxRecDepth 20000 in
set_option maxHeartbeats 4000000 in
theorem sSL_ok (nm : ByteArray) (kd p pw po : Int) (sa : Option Addr) (sn sc : Nat) (co : Nat) (la : Option Addr) (ln lc : Nat) (zs ls : List Int) (R C : Nat) (ga : Option Addr) (gn gc : Nat) (gs : List Int) (w : World) (hnm : nm.size ≤ maxLen) (hs : Rd w sa sn zs) (hsn : sn ≤ 1048576) (hl : Rd w la ln ls) (hln : ln ≤ 1048576) (hg : Rd w ga gn gs) (hgn : gn ≤ 1048576) (hcp : gn ≤ gc) (hcp2 : gc ≤ maxLen) (ho : stkO nm kd p pw po sn zs (co : Int) ln ls (R : Int) (C : Int) gn gs = 0) (hC : C = 15 + 11 * (co + 2)) (hco : co ≤ 8) (hn4 : gn ≤ 40000) (hnr : gn = R * C) (hbd : ∀ x ∈ gs, -1 ≤ x ∧ x ≤ 1) (o1 o2 : Int) (hd : lvO gs C co ln R = (o1, o2)) (hl1 : 1 ≤ ln) (hl4 : ln ≤ 4) : Calls Try.prog 47 #[.agg #[.string nm, .int .i64 kd, .int .i64 p, .int .i64 pw, .int .i64 po, .slice sa sn sc, .int .i64 (co : Int), .slice la ln lc], .agg #[.int .i64 (R : Int), .int .i64 (C : Int), .slice ga gn gc]] w fun e w' => e = .returned (.tuple #[.int .i64 o1, .int .i64 o2]) ∧ Below w.heap.size w w' := by
  have HS := Lib.hid hs
  have HL := Lib.hid hl
  have HG := Lib.hid hg
  have HO := Lib.hid ho
  have HC := Lib.hid hC
  have HN := Lib.hid hnr
  have HBd := Lib.hid hbd
  have HD := Lib.hid hd
  clear hs hl hg ho hC hnr hbd hd
  go_enter Try.func47, Try.ntmps47
  go_wp2_with (go_at_call 91; refine (sCode nm kd p pw po sa sn sc (co : Int) la ln lc zs ls (R : Int) (C : Int) ga gn gc gs _ hnm (HS.out.below (by repeat' (first | (with_reducible exact Below.refl _ _) | (with_reducible assumption) | (with_reducible refine Below.alloc ?_ ?_ _) | (with_reducible refine Below.setCell ?_ ?_ _) | (with_reducible refine Below.drew ?_) | (with_reducible refine below_drewN ?_ _) | (with_reducible refine below_via (by with_reducible assumption) ?_ ?_) | go_size))) hsn (HL.out.below (by repeat' (first | (with_reducible exact Below.refl _ _) | (with_reducible assumption) | (with_reducible refine Below.alloc ?_ ?_ _) | (with_reducible refine Below.setCell ?_ ?_ _) | (with_reducible refine Below.drew ?_) | (with_reducible refine below_drewN ?_ _) | (with_reducible refine below_via (by with_reducible assumption) ?_ ?_) | go_size))) hln (HG.out.below (by repeat' (first | (with_reducible exact Below.refl _ _) | (with_reducible assumption) | (with_reducible refine Below.alloc ?_ ?_ _) | (with_reducible refine Below.setCell ?_ ?_ _) | (with_reducible refine Below.drew ?_) | (with_reducible refine below_drewN ?_ _) | (with_reducible refine below_via (by with_reducible assumption) ?_ ?_) | go_size))) hgn).mono ?_; rintro e w' ⟨rfl, hb⟩; rw [HO.out]; obtain ⟨hc, hf⟩ := bcell hb; have hz := hb.size; (try simp at hz); have hz0 : w.heap.size < w'.heap.size := (by omega); have hz1 : w.heap.size + 1 < w'.heap.size := (by omega))
  have HB : Hid (Below w.heap.size w w') := by unfold Hid; repeat' (first | (with_reducible exact Below.refl _ _) | (with_reducible assumption) | (with_reducible refine Below.alloc ?_ ?_ _) | (with_reducible refine Below.setCell ?_ ?_ _) | (with_reducible refine Below.drew ?_) | (with_reducible refine below_drewN ?_ _) | (with_reducible refine below_via (by with_reducible assumption) ?_ ?_) | go_size)
  refine (sLevel nm kd p pw po sa sn sc co la ln lc R C gn gc ga gs _ (HG.out.below (by repeat' (first | (with_reducible exact Below.refl _ _) | (with_reducible assumption) | (with_reducible refine Below.alloc ?_ ?_ _) | (with_reducible refine Below.setCell ?_ ?_ _) | (with_reducible refine Below.drew ?_) | (with_reducible refine below_drewN ?_ _) | (with_reducible refine below_via (by with_reducible assumption) ?_ ?_) | go_size))) hn4 hcp HN.out HC.out hco hl1 hl4).mono ?_
  rintro e w2 ⟨rfl, hb2⟩
  obtain ⟨s, hs⟩ : ∃ s, sBest (cnt (lvI gs C co ln R)) ln = s := ⟨_, rfl⟩
  have HB2 : Hid (Below w.heap.size w w2) := HB.out.trans (hb2.mono (by omega))
  clear hb2 HB
  by_cases hneg : s < 0
  · have HE : Hid ((0, 7) = lvO gs C co ln R) := by unfold Hid lvO; rw [hs, if_pos hneg]
    rw [hs]
    clear hs
    go_wp2
    go_returns
    exact ⟨ret2_of (HE.out.trans HD.out), HB2.out⟩
  · have HE : Hid ((s, 0) = lvO gs C co ln R) := by unfold Hid lvO; rw [hs, if_neg hneg]
    rw [hs]
    clear hs
    go_wp2
    go_returns
    exact ⟨ret2_of (HE.out.trans HD.out), HB2.out⟩
set_option maxRecDepth 20000 in
set_option maxHeartbeats 4000000 in
theorem iSL_no (nm : ByteArray) (kd p pw po : Int) (sa : Option Addr) (sn sc : Nat) (col : Int) (la : Option Addr) (ln lc : Nat) (zs ls : List Int) (r c : Int) (ga : Option Addr) (gn gc : Nat) (gs : List Int) (w : World) (hnm : nm.size ≤ maxLen) (hs : Rd w sa sn zs) (hsn : sn ≤ 1048576) (hl : Rd w la ln ls) (hln : ln ≤ 1048576) (hg : Rd w ga gn gs) (hgn : gn ≤ 1048576) (o : Int) (ho : stkO nm kd p pw po sn zs col ln ls r c gn gs = o) (hne : o ≠ 0) : Calls Try.prog 48 #[.agg #[.string nm, .int .i64 kd, .int .i64 p, .int .i64 pw, .int .i64 po, .slice sa sn sc, .int .i64 col, .slice la ln lc], .agg #[.int .i64 r, .int .i64 c, .slice ga gn gc]] w fun e w' => e = .returned (.tuple #[.int .i64 0, .int .i64 o]) ∧ Below w.heap.size w w' := by
  have HS := Lib.hid hs
  have HL := Lib.hid hl
  have HG := Lib.hid hg
  have HO := Lib.hid ho
  have hno : (o != 0) = true := by simp [hne]
  clear hs hl hg ho hne
  go_enter Try.func48, Try.ntmps48
  go_wp2_with (go_at_call 93; refine (iCode nm kd p pw po sa sn sc col la ln lc zs ls r c ga gn gc gs _ hnm (HS.out.below (by repeat' (first | (with_reducible exact Below.refl _ _) | (with_reducible assumption) | (with_reducible refine Below.alloc ?_ ?_ _) | (with_reducible refine Below.setCell ?_ ?_ _) | (with_reducible refine Below.drew ?_) | (with_reducible refine below_drewN ?_ _) | (with_reducible refine below_via (by with_reducible assumption) ?_ ?_) | go_size))) hsn (HL.out.below (by repeat' (first | (with_reducible exact Below.refl _ _) | (with_reducible assumption) | (with_reducible refine Below.alloc ?_ ?_ _) | (with_reducible refine Below.setCell ?_ ?_ _) | (with_reducible refine Below.drew ?_) | (with_reducible refine below_drewN ?_ _) | (with_reducible refine below_via (by with_reducible assumption) ?_ ?_) | go_size))) hln (HG.out.below (by repeat' (first | (with_reducible exact Below.refl _ _) | (with_reducible assumption) | (with_reducible refine Below.alloc ?_ ?_ _) | (with_reducible refine Below.setCell ?_ ?_ _) | (with_reducible refine Below.drew ?_) | (with_reducible refine below_drewN ?_ _) | (with_reducible refine below_via (by with_reducible assumption) ?_ ?_) | go_size))) hgn).mono ?_; rintro e w' ⟨rfl, hb⟩; rw [HO.out]; obtain ⟨hc, hf⟩ := bcell hb; have hz := hb.size; (try simp at hz); have hz0 : w.heap.size < w'.heap.size := (by omega); have hz1 : w.heap.size + 1 < w'.heap.size := (by omega))
  go_returns
  exact ⟨rfl, by repeat' (first | (with_reducible exact Below.refl _ _) | (with_reducible assumption) | (with_reducible refine Below.alloc ?_ ?_ _) | (with_reducible refine Below.setCell ?_ ?_ _) | (with_reducible refine Below.drew ?_) | (with_reducible refine below_drewN ?_ _) | (with_reducible refine below_via (by with_reducible assumption) ?_ ?_) | go_size)⟩
set_option maxRecDepth 20000 in
set_option maxHeartbeats 4000000 in
theorem iSL_ok (nm : ByteArray) (kd p pw po : Int) (sa : Option Addr) (sn sc : Nat) (co : Nat) (la : Option Addr) (ln lc : Nat) (zs ls : List Int) (R C : Nat) (ga : Option Addr) (gn gc : Nat) (gs : List Int) (w : World) (hnm : nm.size ≤ maxLen) (hs : Rd w sa sn zs) (hsn : sn ≤ 1048576) (hl : Rd w la ln ls) (hln : ln ≤ 1048576) (hg : Rd w ga gn gs) (hgn : gn ≤ 1048576) (hcp : gn ≤ gc) (hcp2 : gc ≤ maxLen) (ho : stkO nm kd p pw po sn zs (co : Int) ln ls (R : Int) (C : Int) gn gs = 0) (hC : C = 15 + 11 * (co + 2)) (hco : co ≤ 8) (hn4 : gn ≤ 40000) (hnr : gn = R * C) (hbd : ∀ x ∈ gs, -1 ≤ x ∧ x ≤ 1) (o1 o2 : Int) (hd : lvO gs C co ln R = (o1, o2)) (hl1 : 1 ≤ ln) (hl4 : ln ≤ 4) : Calls Try.prog 48 #[.agg #[.string nm, .int .i64 kd, .int .i64 p, .int .i64 pw, .int .i64 po, .slice sa sn sc, .int .i64 (co : Int), .slice la ln lc], .agg #[.int .i64 (R : Int), .int .i64 (C : Int), .slice ga gn gc]] w fun e w' => e = .returned (.tuple #[.int .i64 o1, .int .i64 o2]) ∧ Below w.heap.size w w' := by
  have HS := Lib.hid hs
  have HL := Lib.hid hl
  have HG := Lib.hid hg
  have HO := Lib.hid ho
  have HC := Lib.hid hC
  have HN := Lib.hid hnr
  have HBd := Lib.hid hbd
  have HD := Lib.hid hd
  clear hs hl hg ho hC hnr hbd hd
  go_enter Try.func48, Try.ntmps48
  go_wp2_with (go_at_call 93; refine (iCode nm kd p pw po sa sn sc (co : Int) la ln lc zs ls (R : Int) (C : Int) ga gn gc gs _ hnm (HS.out.below (by repeat' (first | (with_reducible exact Below.refl _ _) | (with_reducible assumption) | (with_reducible refine Below.alloc ?_ ?_ _) | (with_reducible refine Below.setCell ?_ ?_ _) | (with_reducible refine Below.drew ?_) | (with_reducible refine below_drewN ?_ _) | (with_reducible refine below_via (by with_reducible assumption) ?_ ?_) | go_size))) hsn (HL.out.below (by repeat' (first | (with_reducible exact Below.refl _ _) | (with_reducible assumption) | (with_reducible refine Below.alloc ?_ ?_ _) | (with_reducible refine Below.setCell ?_ ?_ _) | (with_reducible refine Below.drew ?_) | (with_reducible refine below_drewN ?_ _) | (with_reducible refine below_via (by with_reducible assumption) ?_ ?_) | go_size))) hln (HG.out.below (by repeat' (first | (with_reducible exact Below.refl _ _) | (with_reducible assumption) | (with_reducible refine Below.alloc ?_ ?_ _) | (with_reducible refine Below.setCell ?_ ?_ _) | (with_reducible refine Below.drew ?_) | (with_reducible refine below_drewN ?_ _) | (with_reducible refine below_via (by with_reducible assumption) ?_ ?_) | go_size))) hgn).mono ?_; rintro e w' ⟨rfl, hb⟩; rw [HO.out]; obtain ⟨hc, hf⟩ := bcell hb; have hz := hb.size; (try simp at hz); have hz0 : w.heap.size < w'.heap.size := (by omega); have hz1 : w.heap.size + 1 < w'.heap.size := (by omega))
  have HB : Hid (Below w.heap.size w w') := by unfold Hid; repeat' (first | (with_reducible exact Below.refl _ _) | (with_reducible assumption) | (with_reducible refine Below.alloc ?_ ?_ _) | (with_reducible refine Below.setCell ?_ ?_ _) | (with_reducible refine Below.drew ?_) | (with_reducible refine below_drewN ?_ _) | (with_reducible refine below_via (by with_reducible assumption) ?_ ?_) | go_size)
  refine (iLevel nm kd p pw po sa sn sc co la ln lc R C gn gc ga gs _ (HG.out.below (by repeat' (first | (with_reducible exact Below.refl _ _) | (with_reducible assumption) | (with_reducible refine Below.alloc ?_ ?_ _) | (with_reducible refine Below.setCell ?_ ?_ _) | (with_reducible refine Below.drew ?_) | (with_reducible refine below_drewN ?_ _) | (with_reducible refine below_via (by with_reducible assumption) ?_ ?_) | go_size))) hn4 hcp hcp2 HN.out HC.out hco hl1 hl4 HBd.out).mono ?_
  rintro e w2 ⟨rfl, hb2⟩
  have HB2 : Hid (Below w.heap.size w w2) := HB.out.trans (hb2.mono (by omega))
  clear hb2 HB
  rcases lv_ends gs (C := C) (co := co) (R := R) hl1 hl4 with ⟨e1, e2⟩ | ⟨e1, e2⟩
  · have HE : Hid ((0, 7) = lvO gs C co ln R) := by unfold Hid lvO; rw [e1, if_pos (by omega)]
    rw [decide_eq_false e2]
    clear e1 e2
    obtain ⟨s, hs⟩ : ∃ s, iBest (cnt (lvI gs C co ln R)) 4 = s := ⟨_, rfl⟩
    rw [hs]
    clear hs
    go_wp2
    go_returns
    exact ⟨ret2_of (HE.out.trans HD.out), HB2.out⟩
  · have HE : Hid (((iBest (cnt (lvI gs C co ln R)) 4 : Int), 0) = lvO gs C co ln R) := by unfold Hid lvO; rw [e1, if_neg (by omega)]
    rw [decide_eq_true e2]
    clear e1 e2
    obtain ⟨s, hs⟩ : ∃ s, iBest (cnt (lvI gs C co ln R)) 4 = s := ⟨_, rfl⟩
    rw [hs] at HE ⊢
    clear hs
    go_wp2
    go_returns
    exact ⟨ret2_of (HE.out.trans HD.out), HB2.out⟩
end Go.Proofs.Ytdpifddmhbeklaa
