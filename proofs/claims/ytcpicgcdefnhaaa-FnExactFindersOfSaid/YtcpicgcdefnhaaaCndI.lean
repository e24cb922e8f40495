/-
  DERIVED. Candidates: impl.candidates.
-/
import Derived.Test.YtcpicgcdefnhaaaCndQ
import Derived.Test.YtcpicgcdefnhaaaCacI
import Derived.WalkMore
import Derived.ScopeJumps
import Derived.Outline
namespace Go.Proofs.Ytcpicgcdefnhaaa
open Go.RowKit
set_option linter.unusedVariables false
section
variable {P : Program} {a : Act} {w : World} {Q : Exit → Act → World → Prop}
/-- A scope whose code runs up to its label, from where every pass either leaves or jumps back with a smaller measure. -/
theorem wp_scope_search {c rest : Code} (l : Nat) (J : Act → World → Prop) (μ : Act → World → Nat) (hf : findLabel c l = some (Code.skip.seq rest))
    (pass : ∀ a w, J a w → rest.wp P (Exit.jump l (fun a' w' => J a' w' ∧ μ a' w' < μ a w) Q) a w)
    (first : Hid (∀ a w, J a w → rest.wp P (Exit.jump l J Q) a w) → c.wp P (Exit.jump l J Q) a w) : (Code.scope c).wp P Q a w :=
  wp_scope_jumps l J μ hf (first fun a w h => wp_mono (pass a w h) (fun e a w q => by cases e <;> first | exact ⟨q.1, q.2.1⟩ | exact q)) (fun a w h => wp_seq (wp_skip (pass a w h)))
end
theorem enters_at {f : FuncId} {fn : Func} {c : Code} (hf : Try.prog.funcs[f]? = some fn) (hname : (fn.name == "runtime.NumGoroutine") = false) (hb : fn.body = some c) : ∀ (args : Array Value) (w : World), (callFunc f args).run Try.prog w = .ok (.enter f args) w := by
  intro args w
  have h1 : fn.name ≠ "runtime.NumGoroutine" := by simpa using hname
  simp [callFunc, hf, h1, hb]
theorem entCol : ∀ (args : Array Value) (w : World), (callFunc 38 args).run Try.prog w = .ok (.enter 38 args) w := enters_at Try.func38 (by kernel_rfl) rfl
set_option maxRecDepth 100000 in
set_option maxHeartbeats 16000000 in
theorem iCands (R C : Nat) (ga : Option Addr) (gn gc : Nat) (gs : List Int) (w : World) (h : Rd w ga gn gs) (hgn : gn = R * C) (hn4 : gn ≤ 40000) (hgc : gn ≤ gc) (hR1 : 1 ≤ R) (hC1 : 1 ≤ C) :
    Calls Try.prog 21 #[.agg #[.int .i64 (R : Int), .int .i64 (C : Int), .slice ga gn gc]] w (GotFins w (cand gs C R R)) := by
  obtain ⟨i0, hi, hz0, hI1, hI2⟩ := info_parts infoFin
  have HH := Lib.hid h
  have HN := Lib.hid hgn
  have hent := entCol
  have hC4 : C ≤ 40000 := by
    have : 1 * C ≤ R * C := Nat.mul_le_mul_right _ hR1
    omega
  have hR4 : R ≤ 40000 := by
    have : R * 1 ≤ R * C := Nat.mul_le_mul_left _ hC1
    omega
  clear h hgn
  have HKG : Hid (Blk (w.alloc (.cells #[.int .i64 (R : Int), .int .i64 (C : Int), .slice ga gn gc] 29)) w.heap.size 29 #[.int .i64 (R : Int), .int .i64 (C : Int), .slice ga gn gc]) := Blk.new w 29 _
  have HBw : Hid (Below w.heap.size w (w.alloc (.cells #[.int .i64 (R : Int), .int .i64 (C : Int), .slice ga gn gc] 29))) := by unfold Hid; repeat' (first | (with_reducible exact Below.refl _ _) | (with_reducible assumption) | (with_reducible refine Below.alloc ?_ ?_ _) | (with_reducible refine Below.setCell ?_ ?_ _) | (with_reducible refine Below.drew ?_) | (with_reducible refine below_drewN ?_ _) | (with_reducible refine below_via (by with_reducible assumption) ?_ ?_) | go_size)
  obtain ⟨Wb, hWb⟩ : ∃ Wb : World, w.alloc (.cells #[.int .i64 (R : Int), .int .i64 (C : Int), .slice ga gn gc] 29) = Wb := ⟨_, rfl⟩
  rw [hWb] at HKG HBw
  have hWs : w.heap.size < Wb.heap.size := by rw [← hWb]; simp
  have HWs : Hid (Wb.heap.size = w.heap.size + 1) := by unfold Hid; rw [← hWb]; simp
  have HWb := Lib.hid hWb
  have g0 : Wb.cell? ⟨w.heap.size, 0, none⟩ = some (.int .i64 (R : Int)) := HKG.out.cell 0
  have g1 : Wb.cell? ⟨w.heap.size, 1, none⟩ = some (.int .i64 (C : Int)) := HKG.out.cell 1
  have g2 : Wb.cell? ⟨w.heap.size, 2, none⟩ = some (.slice ga gn gc) := HKG.out.cell 2
  go_enter Try.func21, Try.ntmps21
  go_wp2_with fail
  clear hWb
  refine (iColumns R C ga gn gc Wb hC1 hC4).mono ?_
  rintro e w1 ⟨db, gb, fb, dr, fr, rfl, hbg, hca, hg1, hg2, hl1, hl2, hl3, hl4, hl5, hb1⟩
  have hz1 := hb1.size
  have HBG := Lib.hid hbg
  have hgbl := hbg.lt
  obtain ⟨hdb, hfb, hdr, hfr⟩ := (hca (fun _ => True) (fun _ => [])).lt
  have HNE := Lib.hid (hca (fun _ => True) (fun _ => [])).ne
  have HB1 : Hid (Below (w.heap.size + 1) Wb w1) := hb1.mono (by have := HWs.out; omega)
  have HC0 := Lib.hid (fun v : Value => hca (Apart v dr fr) (colS gs C R))
  have HO0 : Hid ((w1.alloc (.cells #[] 42)).ownsRow w1.heap.size 42 4 (.slice (some ⟨w1.heap.size, 0, none⟩) 0 0) 0 []) := by
    have := World.ownsRow_lit (base := w1.heap.size) (e := 42) (size := 4) w1 #[] 0 (by simp) (by unfold maxLen; omega) (by simp)
    exact this
  obtain ⟨B, hB⟩ : ∃ B, w1.heap.size = B := ⟨_, rfl⟩
  have HBe := Lib.hid hB
  have HCA : Hid (Cache (w1.alloc (.cells #[] 42)) (Apart (.slice (some ⟨w1.heap.size, 0, none⟩) 0 0) dr fr) db fb dr fr C (colS gs C R)) := (HC0.out _).below (by repeat' (first | (with_reducible exact Below.refl _ _) | (with_reducible assumption) | (with_reducible refine Below.alloc ?_ ?_ _) | (with_reducible refine Below.setCell ?_ ?_ _) | (with_reducible refine Below.drew ?_) | (with_reducible refine below_drewN ?_ _) | (with_reducible refine below_via (by with_reducible assumption) ?_ ?_) | go_size))
  have HG1 : Hid (Blk (w1.alloc (.cells #[] 42)) gb 29 #[.int .i64 (R : Int), .int .i64 (C : Int), .slice ga gn gc]) := HBG.out.alloc _
  have HB2 : Hid (Below (w.heap.size + 1) Wb (w1.alloc (.cells #[] 42))) := HB1.out.alloc (by have := HB1.out.size; have := HWs.out; omega) _
  rw [hB] at hgbl hdb hfb hdr hfr
  clear hb1 hbg hca hz1 g0 g1 g2 HB1 HBG HC0 hB
  go_wp2_with fail
  go_loopw [4, 5] (fun v i wr => ∃ r q : Nat, r ≤ R ∧ i = .int .i64 (r : Int) ∧ q ≤ 40000 ∧ Hid ((cand gs C R r).length = q) ∧ Hid (wr.ownsRow B 42 4 v q (finV (cand gs C R r))) ∧ Hid (Cache wr (Apart v dr fr) db fb dr fr C (colS gs C R)) ∧ Hid (Blk wr gb 29 #[.int .i64 (R : Int), .int .i64 (C : Int), .slice ga gn gc]) ∧ B ≤ wr.heap.size ∧ Hid (Below (w.heap.size + 1) Wb wr)) (fun _ i _ => R - (intOf i).toNat)
  case atStart => exact ⟨0, 0, Nat.zero_le _, rfl, by omega, rfl, ownN_mono HO0.out (by have := HBe.out; omega), HCA.out, HG1.out, by have := HBe.out; simp; omega, HB2.out⟩
  case round =>
    clear HO0 HB2 HCA HG1
    obtain ⟨r, q, hr, rfl, hq4, HQ, HO, HCa, HGb, hBz, HB⟩ := hrel
    obtain ⟨wo, rfl⟩ : ∃ W : World, W = wr := ⟨_, rfl⟩
    have hzr : w.heap.size + 1 ≤ wo.heap.size := by have := HB.out.size; have := HWs.out; omega
    have HBwr : Hid (Below w.heap.size w wo) := HBw.out.trans (HB.out.mono (by omega))
    obtain ⟨qb1, qb2, qb3, qb4⟩ := HCa.out.lt
    have qb5 := HGb.out.lt
    have hkr_ := HKG.out.below HB.out (by omega)
    have g0 : wo.cell? ⟨w.heap.size, 0, none⟩ = some (.int .i64 (R : Int)) := hkr_.cell 0
    have g1 : wo.cell? ⟨w.heap.size, 1, none⟩ = some (.int .i64 (C : Int)) := hkr_.cell 1
    have g2 : wo.cell? ⟨w.heap.size, 2, none⟩ = some (.slice ga gn gc) := hkr_.cell 2
    clear hkr_
    by_cases hlt : r < R
    · have hfit0 : r * C + C ≤ gn := by
        rw [HN.out]
        have : (r + 1) * C ≤ R * C := Nat.mul_le_mul_right _ hlt
        rw [Nat.add_mul, Nat.one_mul] at this
        exact this
      obtain ⟨b, off, rfl, hb, -⟩ := HH.out.2 (by omega)
      obtain ⟨m, hm⟩ : ∃ m, r * C = m := ⟨_, rfl⟩
      have hqm : q ≤ m := by have := cand_len gs C R r; have := HQ.out; omega
      rw [hm] at hfit0
      have hpI : (r : Int) * (C : Int) = (m : Int) := by rw [← hm]; simp
      have hpI2 : ((r : Int) + 1) * (C : Int) = (m : Int) + (C : Int) := by rw [Int.add_mul, hpI]; omega
      have ht2 : ((m : Int) + (C : Int)).toNat = m + C := by omega
      have hm0 : (m : Int) + (C : Int) ≤ (gc : Int) := by omega
      have hm4 : m ≤ 40000 := by omega
      have HLine : Hid (∀ W, Below w.heap.size w W → Rd W (some ⟨b, off + m, none⟩) C (lineL gs C r)) := fun W hW => by unfold lineL; rw [hm]; exact rd_part3 (HH.out.below hW) hfit0
      have hrI : (r : Int) < (R : Int) := by omega
      clear hm hb
      go_wp2_with fail
      refine (iSections _ C _ (lineL gs C r) wo (HLine.out wo HBwr.out) (by omega)).mono ?_
      rintro e w2 ⟨la, lc, rfl, hoL, hb2, hL⟩
      have hz2 := hb2.size
      have HSB := Lib.hid (secL_bd (runF_chain (lineL gs C r) C) (runF (lineL gs C r) C).length)
      have HSL := Lib.hid (secL_len (runF (lineL gs C r) C) (runF (lineL gs C r) C).length)
      have HRL := Lib.hid (runF_len (lineL gs C r) C)
      have HCd : Hid (cand gs C R (r + 1) = cand gs C R r ++ acq gs C R (r : Int) (secL (runF (lineL gs C r) C) (runF (lineL gs C r) C).length) (secL (runF (lineL gs C r) C) (runF (lineL gs C r) C).length).length) := by unfold Hid; rw [acq_all]; exact cand_succ gs C R r
      have hm1 : (secL (runF (lineL gs C r) C) (runF (lineL gs C r) C).length).length ≤ C := Nat.le_trans HSL.out HRL.out
      clear HSL HRL
      obtain ⟨S, hSe⟩ : ∃ S, S = secL (runF (lineL gs C r) C) (runF (lineL gs C r) C).length := ⟨_, rfl⟩
      rw [← hSe] at HSB HCd hm1 hoL hL ⊢
      obtain ⟨m1, hme⟩ : ∃ m1, S.length = m1 := ⟨_, rfl⟩
      rw [hme] at HCd hm1 hoL hL ⊢
      have HM := Lib.hid hme
      have HOL := Lib.hid hoL
      have HO1 := Lib.hid (ownN_below HO.out hb2)
      have HCa1 := Lib.hid (HCa.out.below hb2)
      have HGb1 := Lib.hid (HGb.out.keep hb2)
      obtain ⟨X, hX⟩ : ∃ X, cand gs C R r = X := ⟨_, rfl⟩
      rw [hX] at HQ HO HO1 HCd
      have hXl : X.length ≤ m := by rw [HQ.out]; exact hqm
      have HSt : Hid (∀ u : Value, (∀ k, u.ownBlock = some k → k < wo.heap.size) → Stand w2 w2 wo.heap.size w2.heap.size u) := fun u hu => Stand.start hu
      have HOlt : Hid (∀ k, ∀ u : Value, wo.ownsRow B 42 4 u q (finV X) → u.ownBlock = some k → k < wo.heap.size) := fun k u hu e => (hu.lt k e).2
      have HB1 : Hid (Below (w.heap.size + 1) Wb w2) := HB.out.trans (hb2.mono hzr)
      have HS1 := Lib.hid (HSt.out _ (fun k e => HOlt.out k _ HO.out e))
      clear hSe hme hoL hb2 hX g0 g1 g2 HOlt HSt HO HCa HGb
      go_wp2_with fail
      go_loopw [4, 35] (fun v i wq => ∃ i' q : Nat, i' ≤ m1 ∧ i = .int .i64 (i' : Int) ∧ q ≤ 40000 ∧ Hid ((X ++ acq gs C R (r : Int) S i').length = q) ∧ Hid (wq.ownsRow B 42 4 v q (finV (X ++ acq gs C R (r : Int) S i'))) ∧ Hid (Stand w2 wq wo.heap.size w2.heap.size v) ∧ Hid (Cache wq (Apart v dr fr) db fb dr fr C (colS gs C R)) ∧ Hid (Blk wq gb 29 #[.int .i64 (R : Int), .int .i64 (C : Int), .slice (some ⟨b, off, none⟩) gn gc]) ∧ Hid (Below (w.heap.size + 1) Wb wq)) (fun _ i _ => m1 - (intOf i).toNat)
      case atStart => exact ⟨0, q, Nat.zero_le _, rfl, hq4, by rw [acq_zero, List.append_nil]; exact HQ.out, by rw [acq_zero, List.append_nil]; exact HO1.out, HS1.out, HCa1.out, HGb1.out, HB1.out⟩
      case round =>
        clear HO1 HB1 HB HQ HCa1 HGb1 HS1
        obtain ⟨i, q2, hi1, rfl, hq2, HQ, HO, HS, HCa, HGb, HB⟩ := hrel
        obtain ⟨wq, rfl⟩ : ∃ W : World, W = wr := ⟨_, rfl⟩
        have hzq : w.heap.size + 1 ≤ wq.heap.size := by have := HB.out.size; have := HWs.out; omega
        have hzs : w2.heap.size ≤ wq.heap.size := HS.out.1
        have HRL : Hid (RdV wq la 5 m1 (secV S)) := HS.out.rdV HOL.out (Nat.le_refl _)
        by_cases hlt2 : i < m1
        · have hiI : (i : Int) < (m1 : Int) := by omega
          obtain ⟨lb, lo, rfl, hlb, e0, e1, e2, e3, e4⟩ := HRL.out.sec hlt2
          have HA := Lib.hid (acq_succ gs C R (r : Int) S i (by rw [HM.out]; exact hlt2))
          obtain ⟨B0, B1, B2, B3, B4, B5, B6⟩ := HSB.out (S.getD i s0) (by rw [List.getD_eq_getElem?_getD, List.getElem?_eq_getElem (by rw [HM.out]; exact hlt2)]; simp)
          have HAq : Hid ((X ++ acq gs C R (r : Int) S (i + 1)).length ≤ m + (i + 1)) := by
            unfold Hid
            have := acq_len gs C R (r : Int) S (i + 1) (by rw [HM.out]; omega)
            rw [List.length_append]; omega
          rw [show ((0, 0, rz) : S5) = s0 from rfl] at e0 e1 e2 e3 e4
          generalize S.getD i s0 = x at HA B0 B1 B2 B3 B4 B5 B6 e0 e1 e2 e3 e4
          obtain ⟨st, fv, ms, ml, md⟩ := x
          simp only at B0 B1 B2 B3 B4 B5 B6 e0 e1 e2 e3 e4
          obtain ⟨cN, hcN⟩ := Int.eq_ofNat_of_zero_le (show 0 ≤ ms + ml / 2 by omega)
          have HAC0 := Lib.hid (acrF_col gs C R (r : Int) (st, fv, ms, ml, md) cN hcN)
          have hcC : cN < C := by omega
          have HY0 := Lib.hid (secL_bd (runF_chain (colL gs C R cN) R) (runF (colL gs C R cN) R).length)
          have HYL : Hid ((colS gs C R cN).length ≤ R) := Nat.le_trans (secL_len _ _) (runF_len _ _)
          have HY1_ := Lib.hid (col_hits gs C R cN (r : Int) st fv)
          obtain ⟨v3, hv3⟩ : ∃ W : World, W = wq.alloc (.cells #[.int .i64 st, .int .i64 fv, .int .i64 ms, .int .i64 ml, .bool md] 59) := ⟨_, rfl⟩
          have hb3 : Below wq.heap.size wq v3 := by rw [hv3]; exact (Below.refl _ _).alloc (Nat.le_refl _) _
          have hz3 : wq.heap.size < v3.heap.size := by rw [hv3]; simp
          have HSb3 : Hid (Blk v3 wq.heap.size 59 #[.int .i64 st, .int .i64 fv, .int .i64 ms, .int .i64 ml, .bool md]) := by rw [hv3]; exact Blk.new _ _ _
          have HO3 := Lib.hid (ownN_below HO.out hb3)
          have HS3 := Lib.hid (HS.out.below hb3)
          have HCa3 := Lib.hid (HCa.out.below hb3)
          have HGb3 := Lib.hid (HGb.out.keep hb3)
          have HB3 : Hid (Below (w.heap.size + 1) Wb v3) := HB.out.trans (hb3.mono (by omega))
          have HBz : Hid (B ≤ wo.heap.size) := hBz
          have hbs2 : v3.cell? ⟨wq.heap.size, 2, none⟩ = some (.int .i64 ms) := HSb3.out.cell 2
          have hbs3 : v3.cell? ⟨wq.heap.size, 3, none⟩ = some (.int .i64 ml) := HSb3.out.cell 3
          have hml2 : ml / 2 ≤ ml := by omega
          have hml0 : 0 ≤ ml / 2 := by omega
          have HCol : Hid (Calls Try.prog 38 #[.int .i64 (cN : Int), .pointer (some ⟨db, 0, none⟩), .pointer (some ⟨gb, 0, none⟩), .pointer (some ⟨fb, 0, none⟩)] v3 (ColGot v3 (Apart u4 dr fr) db fb dr fr C R gs cN)) :=
            iColumn R C (some ⟨b, off, none⟩) gn gc gs gb db fb dr fr cN _ v3 (HH.out.below (HBw.out.trans (HB3.out.mono (by omega)))) HN.out hn4 hR1 hcC HGb3.out HCa3.out (fun bb hbb => ⟨fun e => by have := (HO3.out.lt bb e).2; omega, by have := HCa3.out.lt; omega, by have := HCa3.out.lt; omega⟩) (fun bb hbb => hbb.2)
          clear hb3 HO HS HCa HGb HB HRL
          go_wp2_with fail
          rw [← hv3]
          clear hv3 e0 e1 e2 e3 e4
          obtain ⟨Y, hYe⟩ : ∃ Y, Y = colS gs C R cN := ⟨_, rfl⟩
          have HYB : Hid (∀ x ∈ Y, 0 ≤ x.1 ∧ x.1 ≤ (R : Nat) ∧ 0 ≤ x.2.1 ∧ x.2.1 ≤ (R : Nat) ∧ 0 ≤ x.2.2.1 ∧ 1 ≤ x.2.2.2.1 ∧ x.2.2.1 + x.2.2.2.1 ≤ (R : Nat)) := by rw [hYe]; exact HY0.out
          have HAC : Hid (acrF gs C R (r : Int) (st, fv, ms, ml, md) = Y.flatMap (oneF (r : Int) st fv)) := by rw [hYe]; exact HAC0.out
          have HY1 : Hid ((Y.flatMap (oneF (r : Int) st fv)).length ≤ 1) := by rw [hYe]; exact HY1_.out
          obtain ⟨n3, hn3⟩ : ∃ n3, n3 = Y.length := ⟨_, rfl⟩
          have hn3R : n3 ≤ R := by rw [hn3, hYe]; exact HYL.out
          have HYn : Hid (Y.length = n3) := hn3.symm
          have HYe := Lib.hid hYe
          clear hYe hn3 HY0 HAC0 HY1_ HYL
          refine wp_scope_search 0 (fun a' w' => ∃ (k yc : Nat) (ya : Option Addr) (x8 x11 x39 x40 x41 x42 x43 x44 x45 x46 x47 x48 x49 x50 x51 x52 x53 x54 x55 x56 x57 x58 x59 x60 x61 x62 x63 x64 x65 x66 x67 x68 x69 x70 x71 x72 x73 : Value), a' = { tmps := #[.agg #[.int .i64 (R : Int), .int .i64 (C : Int), .slice (some ⟨b, off, none⟩) gn gc], .pointer (some ⟨w.heap.size, 0, none⟩), .slice none 0 0, .func (.func 38) #[] #[.pointer (some ⟨db, 0, none⟩), .pointer (some ⟨gb, 0, none⟩), .pointer (some ⟨fb, 0, none⟩)], u4, .int .i64 (r : Int), undef, .pointer (some ⟨wq.heap.size, 0, none⟩), x8, .slice ya n3 yc, .int .i64 (k : Int), x11, .agg #[.int .i64 (R : Int), .int .i64 (C : Int), .slice (some ⟨b, off, none⟩) gn gc], .func (.func 38) #[] #[.pointer (some ⟨db, 0, none⟩), .pointer (some ⟨gb, 0, none⟩), .pointer (some ⟨fb, 0, none⟩)], .slice (some ⟨w1.heap.size, 0, none⟩) 0 0, .int .i64 (r : Int), .pointer (some ⟨w.heap.size, 0, none⟩), .int .i64 (R : Int), .bool true, u19, u20, .pointer (some ⟨w.heap.size, 2, none⟩), .slice (some ⟨b, off, none⟩) gn gc, .int .i64 (r : Int), .pointer (some ⟨w.heap.size, 1, none⟩), .int .i64 (C : Int), .int .i64 (m : Int), .int .i64 (r : Int), .int .i64 ((r : Int) + 1), .pointer (some ⟨w.heap.size, 1, none⟩), .int .i64 (C : Int), .int .i64 ((m : Int) + (C : Int)), .slice (some ⟨b, off + m, none⟩) C (gc - m), .slice (some ⟨lb, lo, none⟩) m1 lc, .int .i64 (m1 : Int), .int .i64 (i : Int), .bool true, .pointer (some ⟨lb, lo + i * 5, none⟩), .agg #[.int .i64 st, .int .i64 fv, .int .i64 ms, .int .i64 ml, .bool md], x39, x40, x41, x42, x43, x44, x45, x46, x47, x48, x49, x50, x51, x52, x53, x54, x55, x56, x57, x58, x59, x60, x61, x62, x63, x64, x65, x66, x67, x68, x69, x70, x71, x72, x73, u74, u75, u76, u77, u78, u79, u80, u81, u82, u83, u84, u85, u86, u87, u88, u89, u90, u91, u92, u93, u94, undef], defers := [] } ∧ k ≤ n3 ∧ Hid (∀ i, i < k → hitB (r : Int) (Y.getD i s0) = false) ∧ Hid (RdV w' ya 5 n3 (secV Y)) ∧ Hid (Blk w' wq.heap.size 59 #[.int .i64 st, .int .i64 fv, .int .i64 ms, .int .i64 ml, .bool md]) ∧ Hid (w'.ownsRow B 42 4 u4 q2 (finV (X ++ acq gs C R (r : Int) S i))) ∧ Hid (Stand w2 w' wo.heap.size w2.heap.size u4) ∧ Hid (Cache w' (Apart u4 dr fr) db fb dr fr C (colS gs C R)) ∧ Hid (Blk w' gb 29 #[.int .i64 (R : Int), .int .i64 (C : Int), .slice (some ⟨b, off, none⟩) gn gc]) ∧ Hid (Below (w.heap.size + 1) Wb w')) (fun a' _ => n3 - (intOf (a'.tmps.getD 10 undef)).toNat) rfl ?_ ?_
          · rintro a' wy ⟨k, yc, ya, x8, x11, x39, x40, x41, x42, x43, x44, x45, x46, x47, x48, x49, x50, x51, x52, x53, x54, x55, x56, x57, x58, x59, x60, x61, x62, x63, x64, x65, x66, x67, x68, x69, x70, x71, x72, x73, rfl, hk, HNo, HY, HSb, HO, HS, HCa, HGb, HB⟩
            have hzy := HSb.out.lt
            have hzy2 : w.heap.size + 1 ≤ wy.heap.size := by omega
            clear HO3 HS3 HCa3 HGb3 HB3 HCol hbs2 hbs3 HSb3
            by_cases hk3 : k < n3
            · have hk3I : (k : Int) < (n3 : Int) := by omega
              have hkne : ((k : Int) == (n3 : Int)) = false := by simp; omega
              obtain ⟨yb, yo, rfl, hyb, f0, f1, f2, f3, f4⟩ := HY.out.sec hk3
              obtain ⟨D0, D1, D2, D3, D4, D5, D6⟩ := HYB.out (Y.getD k s0) (by rw [List.getD_eq_getElem?_getD, List.getElem?_eq_getElem (by rw [HYn.out]; exact hk3)]; simp)
              have HHit : Hid (hitB (r : Int) (Y.getD k s0) = inB (r : Int) (Y.getD k s0).2.2.1 ((Y.getD k s0).2.2.1 + (Y.getD k s0).2.2.2.1 - 1)) := rfl
              have HNo1 : Hid (hitB (r : Int) (Y.getD k s0) = false → ∀ i, i < k + 1 → hitB (r : Int) (Y.getD i s0) = false) := fun e i hi => by
                rcases Nat.lt_or_ge i k with h1 | h1
                · exact HNo.out i h1
                · obtain rfl : i = k := by omega
                  exact e
              have HHF : Hid (hitB (r : Int) (Y.getD k s0) = true → Y.flatMap (oneF (r : Int) st fv) = [hitF st fv (Y.getD k s0)]) := fun e => first_hit Y (r : Int) st fv k (by rw [HYn.out]; exact hk3) HNo.out e HY1.out
              have HY_ := Lib.hid HY.out
              rw [show ((0, 0, rz) : S5) = s0 from rfl] at f0 f1 f2 f3 f4
              generalize Y.getD k s0 = y at f0 f1 f2 f3 f4 D0 D1 D2 D3 D4 D5 D6 HHit HNo1 HHF
              obtain ⟨y1, y2, y3, y4, y5⟩ := y
              simp only at f0 f1 f2 f3 f4 D0 D1 D2 D3 D4 D5 D6 HHit
              obtain ⟨v7, hv7⟩ : ∃ W : World, W = wy.alloc (.cells #[.int .i64 y1, .int .i64 y2, .int .i64 y3, .int .i64 y4, .bool y5] 59) := ⟨_, rfl⟩
              have hb7 : Below wy.heap.size wy v7 := by rw [hv7]; exact (Below.refl _ _).alloc (Nat.le_refl _) _
              have hz7 : wy.heap.size < v7.heap.size := by rw [hv7]; simp
              have Q7 : Hid (Blk v7 wy.heap.size 59 #[.int .i64 y1, .int .i64 y2, .int .i64 y3, .int .i64 y4, .bool y5]) := by rw [hv7]; exact Blk.new _ _ _
              have HY8 := Lib.hid (HY.out.below hb7)
              have HSb8 := Lib.hid (HSb.out.keep hb7)
              have HO8 := Lib.hid (ownN_below HO.out hb7)
              have HS8 := Lib.hid (HS.out.below hb7)
              have HCa8 := Lib.hid (HCa.out.below hb7)
              have HGb8 := Lib.hid (HGb.out.keep hb7)
              have HB8 : Hid (Below (w.heap.size + 1) Wb v7) := HB.out.trans (hb7.mono (by omega))
              have hp0 : v7.cell? ⟨wy.heap.size, 0, none⟩ = some (.int .i64 y1) := Q7.out.cell 0
              have hp1 : v7.cell? ⟨wy.heap.size, 1, none⟩ = some (.int .i64 y2) := Q7.out.cell 1
              have hp2 : v7.cell? ⟨wy.heap.size, 2, none⟩ = some (.int .i64 y3) := Q7.out.cell 2
              have hp3 : v7.cell? ⟨wy.heap.size, 3, none⟩ = some (.int .i64 y4) := Q7.out.cell 3
              have hs0 : v7.cell? ⟨wq.heap.size, 0, none⟩ = some (.int .i64 st) := HSb8.out.cell 0
              have hs1 : v7.cell? ⟨wq.heap.size, 1, none⟩ = some (.int .i64 fv) := HSb8.out.cell 1
              have hzb : B ≤ v7.heap.size := by have := HBz.out; omega
              clear HNo HY HSb HO HS HCa HGb HB hb7 Q7
              go_upto_region 14 with (fail)
              rw [← hv7]
              clear hv7 f0 f1 f2 f3 f4
              go_wp2_with fail
              refine (iIn (r : Int) y3 (y3 + y4 - 1) v7).mono ?_
              rintro e wz ⟨rfl, rfl⟩
              rw [← HHit.out]
              cases hh : hitB (r : Int) ((y1, y2, y3, y4, y5) : S5)
              · have HNo2 := Lib.hid (HNo1.out hh)
                have HNo1 := HNo2
                clear hh HHF HHit
                go_wp2_with fail
                go_step3
                exact ⟨rfl, ⟨k + 1, yc, some ⟨yb, yo, none⟩, _, _, _, _, _, _, _, _, _, _, _, _, _, _, _, _, _, _, _, _, _, _, _, _, _, _, _, _, _, _, _, _, _, _, _, _, _, rfl, by omega, HNo1.out, HY8.out, HSb8.out, HO8.out, HS8.out, HCa8.out, HGb8.out, HB8.out⟩, by simp [intOf]; omega⟩
              · have HHF2 := Lib.hid (HHF.out hh)
                clear hh HHF HHit HNo1
                go_wp2_with (at_builtin; refine wpList_append_own_at _ rfl _ _ 26 rfl B 42 i0 _ 4 32 Try.underlying26 hi hz0 hI1 hI2 rfl (by decide) _ _ _ rfl (HO8.out.alloc _) ⟨v7.heap.size, 0, none⟩ 1 1 [.int .i64 (2 * y1 + y2), .int .i64 (2 * st + fv), .int .i64 y2, .int .i64 fv] rfl rfl (World.news_of_block (heap_alloc_new v7 _)) (by simp [Value.oneCell']) (by unfold maxLen; omega) (by omega) (by simp; omega) ?_; intro v9 w9 hown9 hgrow9 _ hat9)
                have HO9 : Hid (w9.ownsRow B 42 4 v9 (q2 + 1) (finV (X ++ acq gs C R (r : Int) S (i + 1)))) := by
                  unfold Hid
                  rw [HA.out, HAC.out, HHF2.out, ← List.append_assoc, finV_app]
                  exact hown9
                have HQ9 : Hid ((X ++ acq gs C R (r : Int) S (i + 1)).length = q2 + 1) := by
                  unfold Hid
                  rw [HA.out, HAC.out, HHF2.out, ← List.append_assoc, List.length_append, HQ.out]
                  rfl
                have HS9 := Lib.hid (HS8.out.app hgrow9 hat9)
                have HCa9 := Lib.hid (HCa8.out.app hgrow9 hat9 (B := B) (fun j e => (HO8.out.lt j e).1) hdb hfb hdr hfr)
                have HGb9 : Hid (Blk w9 gb 29 #[.int .i64 (R : Int), .int .i64 (C : Int), .slice (some ⟨b, off, none⟩) gn gc]) := by
                  have h1 := hgrow9.block gb (by have := HGb8.out.lt; simp; omega) (fun e => by have := (HO8.out.lt gb e.symm).1; omega)
                  exact h1.trans (HGb8.out.alloc _)
                have HB9 : Hid (Below (w.heap.size + 1) Wb w9) := (HB8.out.alloc (by omega) _).grown hgrow9 (by simp; omega) (fun j e => by have := (HO8.out.lt j e).1; omega)
                have hq9 : q2 + 1 ≤ 40000 := by have h1 := HAq.out; have h2 := HQ9.out; omega
                clear hown9 hgrow9 hat9
                go_wp2_with fail
                (try simp only [Exit.jump])
                (try go_wp2_with fail)
                go_roundw
                case rel => exact ⟨i + 1, q2 + 1, by omega, by go_num, hq9, HQ9.out, HO9.out, HS9.out, HCa9.out, HGb9.out, HB9.out⟩
                case measure => simp [intOf]; omega
            · have hke : k = n3 := by omega
              have hkeI : ((k : Int) == (n3 : Int)) = true := by simp; omega
              have HNone : Hid (acrF gs C R (r : Int) (st, fv, ms, ml, md) = []) := by
                unfold Hid
                rw [HAC.out]
                exact none_hit Y (r : Int) st fv (fun i hi => HNo.out i (by rw [HYn.out] at hi; omega))
              have HO9 : Hid (wy.ownsRow B 42 4 u4 q2 (finV (X ++ acq gs C R (r : Int) S (i + 1)))) := by
                unfold Hid
                rw [HA.out, HNone.out, List.append_nil]
                exact HO.out
              have HQ9 : Hid ((X ++ acq gs C R (r : Int) S (i + 1)).length = q2) := by
                unfold Hid
                rw [HA.out, HNone.out, List.append_nil]
                exact HQ.out
              clear hke
              go_wp2_with fail
              (try simp only [Exit.jump])
              (try go_wp2_with fail)
              go_roundw
              case rel => exact ⟨i + 1, q2, by omega, by go_num, hq2, HQ9.out, HO9.out, HS.out, HCa.out, HGb.out, HB.out⟩
              case measure => simp [intOf]; omega
          · intro HPass
            go_wp2_with fail
            refine HCol.out.mono ?_
            rintro e w4 ⟨ya, yc, rfl, hsy, hca4, hk4⟩
            have hz4 := hk4.2.2.2.1
            have HY4 : Hid (RdV w4 ya 5 n3 (secV Y)) := by
              obtain ⟨a', c', hE, hR, -⟩ := hsy
              injection hE with hE1 hE2 hE3
              subst hE1
              unfold Hid
              rw [← HYn.out, HYe.out]
              exact hR
            have HLn : Hid ((colS gs C R cN).length = n3) := by unfold Hid; rw [← HYe.out]; exact HYn.out
            rw [HLn.out]
            have HO4 := Lib.hid (hk4.own HO3.out hdr hfr)
            have HS4 := Lib.hid (hk4.stand HS3.out qb3 qb4)
            have HSb4 := Lib.hid (hk4.blk HSb3.out (by omega) (by omega))
            have HGb4 := Lib.hid (hk4.blk HGb3.out hg1 hg2)
            have HB4 : Hid (Below (w.heap.size + 1) Wb w4) := hk4.below HB3.out (by have := HWs.out; omega) (by have := HWs.out; omega) (by omega)
            have HCa4 := Lib.hid hca4
            clear hsy hca4 hk4 HO3 HS3 HSb3 HGb3 HB3 HCa3 HCol hbs2 hbs3
            go_wp2_with fail
            go_step3
            dsimp only [Exit.then]
            apply_assumption
            exact HPass.out _ _ ⟨0, yc, ya, _, _, _, _, _, _, _, _, _, _, _, _, _, _, _, _, _, _, _, _, _, _, _, _, _, _, _, _, _, _, _, _, _, _, _, _, _, rfl, Nat.zero_le _, fun i hi => absurd hi (Nat.not_lt_zero _), HY4.out, HSb4.out, HO4.out, HS4.out, HCa4.out, HGb4.out, HB4.out⟩
        · have hie : i = m1 := by omega
          have hge : (m1 : Int) ≤ (i : Int) := by omega
          have HF : Hid (X ++ acq gs C R (r : Int) S i = cand gs C R (r + 1)) := by unfold Hid; rw [hie, HCd.out]
          clear hie HRL
          rw [HF.out] at HQ HO
          go_wp2_with fail
          go_roundw
          case rel => exact ⟨r + 1, q2, by omega, by go_num, hq2, HQ.out, HO.out, HCa.out, HGb.out, by omega, HB.out⟩
          case measure => simp [intOf]; omega
    · have hre : r = R := by omega
      have hge : (R : Int) ≤ (r : Int) := by omega
      obtain ⟨av, cv, rfl⟩ := ownN_shape HO.out
      have HE := Lib.hid hre
      have hBw : w.heap.size ≤ B := by omega
      clear hre
      go_wp2
      go_returns
      have HO2 := HO.out
      have HQ2 := HQ.out
      rw [HE.out] at HO2 HQ2
      rw [← HQ2] at HO2 ⊢
      exact ⟨av, cv, rfl, ownN_mono HO2 hBw, HBwr.out⟩
end Go.Proofs.Ytcpicgcdefnhaaa
