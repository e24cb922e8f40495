/-
  DERIVED. Candidates: spec.l23Candidates.
-/
import Derived.Test.YtcpicgcdefnhaaaCndC
import Derived.Test.YtcpicgcdefnhaaaFinA
import Derived.Deep.RegionHeld3
import Derived.Deep.DeepFit
import Derived.Deep.CutBlock
namespace Go.Proofs.Ytcpicgcdefnhaaa
open Go.RowKit
set_option linter.unusedVariables false
theorem Stand.box3 {w1 wq : World} {lo hi b : Nat} {v x y z : Value} (h : Stand w1 wq lo hi v) (hb : Box3 w1 b x y z) (h1 : lo ≤ b) (h2 : w1.heap.size ≤ hi) : Box3 wq b x y z := by
  have e := h.2.1 b h1 (by have := hb.1; omega)
  exact ⟨by have := h.1; have := hb.1; omega, (World.cell?_of_block (a := ⟨b, 0, none⟩) e).trans hb.2.1, (World.cell?_of_block (a := ⟨b, 1, none⟩) e).trans hb.2.2.1, (World.cell?_of_block (a := ⟨b, 2, none⟩) e).trans hb.2.2.2⟩
/-- A slice of finders that the call made. -/
def GotFins (w : World) (L : List F4) (e : Ending) (w' : World) : Prop :=
  ∃ a cp, e = .returned (.slice a L.length cp) ∧ w'.ownsRow w.heap.size 42 4 (.slice a L.length cp) L.length (finV L) ∧ Below w.heap.size w w'
theorem five_bd {L : List R3} {n i : Nat} (h : Chain L n) (hi : i + 5 ≤ L.length) : 0 ≤ stR L i ∧ 0 ≤ fiveR L i ∧ stR L i ≤ n ∧ fiveR L i ≤ n := by
  have e := five_eq h hi
  have b0 := h.bd (j := i) (by omega)
  have b1 := h.bd (j := i + 1) (by omega)
  have b2 := h.bd (j := i + 2) (by omega)
  have b3 := h.bd (j := i + 3) (by omega)
  have b4 := h.bd (j := i + 4) (by omega)
  unfold fiveR at *
  omega
section
variable {P : Program} {ops : Array Oper} {Q : Exit → Act → World → Prop} {md : Region.Mode} {S : World → Prop}
/-- An operation whose guard says no may be taken first. -/
theorem takeNo {i d : Nat} {fuel : Nat} {listed : Array Bool} {a : Act} {w : World} (hw : (ops[i]?.map fun o => (Region.wanted o (yielded ops a.tmps), o.dst)) = some (false, some d))
    (hs : Region.noSelect ops = true) (hf : Region.free md ops listed i = true) (hr : (Region.ready md ops listed).contains i = true)
    (hQ : ∀ c a w, Q (.panic c) (a.put (some d) undef) w → Q (.panic c) a w) (hS : S w)
    (h : wpAnyH P md ops Q S fuel (listed.setIfInBounds i true) (a.put (some d) undef) w) : wpAnyH P md ops Q S (fuel + 1) listed a w := by
  cases ho : ops[i]? with
  | none => rw [ho] at hw; cases hw
  | some o =>
    rw [ho] at hw
    simp only [Option.map_some, Option.some.injEq, Prod.mk.injEq] at hw
    obtain ⟨h1, h2⟩ := hw
    rw [← h2] at h hQ
    exact wpAnyH_take ho hs hf hr hQ (.inr ⟨h1, rfl⟩) hS h
theorem takeYes {i d : Nat} {o : Oper} {v : Value} {fuel : Nat} {listed : Array Bool} {a : Act} {w : World} (ho : ops[i]? = some o) (hw : (Region.wanted o (yielded ops a.tmps), o.dst) = (true, some d))
    (hs : Region.noSelect ops = true) (hf : Region.free md ops listed i = true) (hr : (Region.ready md ops listed).contains i = true)
    (hQ : ∀ c a w, Q (.panic c) (a.put (some d) v) w → Q (.panic c) a w) (hv : ∀ w, S w → (execOp a.eval o).run P w = .ok (.value v) w) (hS : S w)
    (h : wpAnyH P md ops Q S fuel (listed.setIfInBounds i true) (a.put (some d) v) w) : wpAnyH P md ops Q S (fuel + 1) listed a w := by
  simp only [Prod.mk.injEq] at hw
  obtain ⟨h1, h2⟩ := hw
  rw [← h2] at h hQ
  exact wpAnyH_take ho hs hf hr hQ (.inl ⟨h1, hv⟩) hS h
end
set_option maxRecDepth 100000 in
set_option maxHeartbeats 16000000 in
theorem sCands (R C : Nat) (ga : Option Addr) (gn gc : Nat) (gs : List Int) (w : World) (h : Rd w ga gn gs) (hgn : gn = R * C) (hn4 : gn ≤ 40000) (hgc : gn ≤ gc) (hR1 : 1 ≤ R) (hC1 : 1 ≤ C) :
    Calls Try.prog 18 #[.agg #[.int .i64 (R : Int), .int .i64 (C : Int), .slice ga gn gc]] w (GotFins w (cand gs C R R)) := by
  obtain ⟨i0, hi, hz0, hI1, hI2⟩ := info_parts infoFin
  have HH := Lib.hid h
  have HN := Lib.hid hgn
  have hC4 : C ≤ 40000 := by
    have : 1 * C ≤ R * C := Nat.mul_le_mul_right _ hR1
    omega
  have hR4 : R ≤ 40000 := by
    have : R * 1 ≤ R * C := Nat.mul_le_mul_left _ hC1
    omega
  clear h hgn
  have HKG : Hid (Blk (w.alloc (.cells #[.int .i64 (R : Int), .int .i64 (C : Int), .slice ga gn gc] 29)) w.heap.size 29 #[.int .i64 (R : Int), .int .i64 (C : Int), .slice ga gn gc]) := Blk.new w 29 _
  have HO0 : Hid (((w.alloc (.cells #[.int .i64 (R : Int), .int .i64 (C : Int), .slice ga gn gc] 29)).alloc (.cells #[] 42)).ownsRow (w.heap.size + 1) 42 4 (.slice (some ⟨w.heap.size + 1, 0, none⟩) 0 0) 0 []) := by
    have := World.ownsRow_lit (base := w.heap.size + 1) (e := 42) (size := 4) (w.alloc (.cells #[.int .i64 (R : Int), .int .i64 (C : Int), .slice ga gn gc] 29)) #[] 0 (by simp) (by unfold maxLen; omega) (by simp)
    simp only [World.size_alloc] at this
    exact this
  have HB0 : Hid (Below (w.heap.size + 1) (w.alloc (.cells #[.int .i64 (R : Int), .int .i64 (C : Int), .slice ga gn gc] 29)) ((w.alloc (.cells #[.int .i64 (R : Int), .int .i64 (C : Int), .slice ga gn gc] 29)).alloc (.cells #[] 42))) := (Below.refl _ _).alloc (by simp) _
  have HBw : Hid (Below w.heap.size w (w.alloc (.cells #[.int .i64 (R : Int), .int .i64 (C : Int), .slice ga gn gc] 29))) := by unfold Hid; repeat' (first | (with_reducible exact Below.refl _ _) | (with_reducible assumption) | (with_reducible refine Below.alloc ?_ ?_ _) | (with_reducible refine Below.setCell ?_ ?_ _) | (with_reducible refine Below.drew ?_) | (with_reducible refine below_drewN ?_ _) | (with_reducible refine below_via (by with_reducible assumption) ?_ ?_) | go_size)
  obtain ⟨Wb, hWb⟩ : ∃ Wb : World, w.alloc (.cells #[.int .i64 (R : Int), .int .i64 (C : Int), .slice ga gn gc] 29) = Wb := ⟨_, rfl⟩
  rw [hWb] at HKG HO0 HB0 HBw
  have HWs : Hid (Wb.heap.size = w.heap.size + 1) := by unfold Hid; rw [← hWb]; simp
  have HWb := Lib.hid hWb
  clear hWb
  go_enter Try.func18, Try.ntmps18
  go_wp2_with fail
  rw [HWb.out]
  go_loopw [3, 4] (fun v i wr => ∃ r q : Nat, r ≤ R ∧ i = .int .i64 (r : Int) ∧ q ≤ 40000 ∧ Hid ((cand gs C R r).length = q) ∧ Hid (wr.ownsRow (w.heap.size + 1) 42 4 v q (finV (cand gs C R r))) ∧ Hid (Below (w.heap.size + 1) Wb wr)) (fun _ i _ => R - (intOf i).toNat)
  case atStart => exact ⟨0, 0, Nat.zero_le _, rfl, by omega, rfl, HO0.out, HB0.out⟩
  case round =>
    clear HO0 HB0
    obtain ⟨r, q, hr, rfl, hq4, HQ, HO, HB⟩ := hrel
    obtain ⟨wo, rfl⟩ : ∃ W : World, W = wr := ⟨_, rfl⟩
    have hzr : w.heap.size + 1 ≤ wo.heap.size := by have := HB.out.size; have := HWs.out; omega
    have HBwr : Hid (Below w.heap.size w wo) := HBw.out.trans (HB.out.mono (by omega))
    have hkr_ := HKG.out.below HB.out (by omega)
    have g0 : wo.cell? ⟨w.heap.size, 0, none⟩ = some (.int .i64 (R : Int)) := hkr_.cell 0
    have g1 : wo.cell? ⟨w.heap.size, 1, none⟩ = some (.int .i64 (C : Int)) := hkr_.cell 1
    have g2 : wo.cell? ⟨w.heap.size, 2, none⟩ = some (.slice ga gn gc) := hkr_.cell 2
    clear hkr_
    by_cases hlt : r < R
    · have hfit0 : r * C + C ≤ gn := by
        rw [HN.out]
        have : (r + 1) * C ≤ R * C := Nat.mul_le_mul_right _ hlt
        rw [Nat.add_mul, Nat.one_mul] at this
        exact this
      obtain ⟨b, off, rfl, hb, -⟩ := HH.out.2 (by omega)
      obtain ⟨m, hm⟩ : ∃ m, r * C = m := ⟨_, rfl⟩
      have hqm : q ≤ m := by have := cand_len gs C R r; have := HQ.out; omega
      rw [hm] at hfit0
      have hpI : (r : Int) * (C : Int) = (m : Int) := by rw [← hm]; simp
      have hpI2 : ((r : Int) + 1) * (C : Int) = (m : Int) + (C : Int) := by rw [Int.add_mul, hpI]; omega
      have ht2 : ((m : Int) + (C : Int)).toNat = m + C := by omega
      have hm0 : (m : Int) + (C : Int) ≤ (gc : Int) := by omega
      have hm4 : m ≤ 40000 := by omega
      have HLine : Hid (∀ W, Below w.heap.size w W → Rd W (some ⟨b, off + m, none⟩) C (lineL gs C r)) := fun W hW => by unfold lineL; rw [hm]; exact rd_part3 (HH.out.below hW) hfit0
      have HGs : Hid (∀ W, Below w.heap.size w W → Rd W (some ⟨b, off, none⟩) gn gs) := fun W hW => HH.out.below hW
      have hrI : (r : Int) < (R : Int) := by omega
      clear hm hb
      go_wp2_with fail
      refine (sRunsL _ C _ (lineL gs C r) wo (HLine.out wo HBwr.out) (by omega)).mono ?_
      rintro e w1 ⟨la, lc, rfl, hoL, hb1, hL⟩
      have hz1 := hb1.size
      have HCH := Lib.hid (runF_chain (lineL gs C r) C)
      have HRL := Lib.hid (runF_len (lineL gs C r) C)
      have HCd : Hid (cand gs C R (r + 1) = cand gs C R r ++ acr gs C R (r : Int) (runF (lineL gs C r) C) (runF (lineL gs C r) C).length) := cand_succ gs C R r
      obtain ⟨L, hLe⟩ : ∃ L, L = runF (lineL gs C r) C := ⟨_, rfl⟩
      rw [← hLe] at HCH HRL HCd hoL hL ⊢
      obtain ⟨m1, hme⟩ : ∃ m1, L.length = m1 := ⟨_, rfl⟩
      rw [hme] at HRL HCd hoL hL ⊢
      have HM := Lib.hid hme
      have hm1 : m1 ≤ C := HRL.out
      have HOL := Lib.hid hoL
      have HO1 := Lib.hid (ownN_below HO.out hb1)
      obtain ⟨w1', hw1'⟩ : ∃ W : World, W = w1 := ⟨_, rfl⟩
      obtain ⟨X, hX⟩ : ∃ X, cand gs C R r = X := ⟨_, rfl⟩
      rw [hX] at HQ HO HO1 HCd
      have hXl : X.length ≤ m := by rw [HQ.out]; exact hqm
      have HS1 : ∀ u : Value, (∀ k, u.ownBlock = some k → k < wo.heap.size) → Stand w1 w1 wo.heap.size w1.heap.size u := fun u hu => Stand.start hu
      have HSt := Lib.hid HS1
      have HOlt : Hid (∀ k, ∀ u : Value, wo.ownsRow (w.heap.size + 1) 42 4 u q (finV X) → u.ownBlock = some k → k < wo.heap.size) := fun k u hu e => (hu.lt k e).2
      have HB1 : Hid (Below (w.heap.size + 1) Wb w1) := HB.out.trans (hb1.mono hzr)
      clear hLe hme hoL hb1 hX HS1 hw1' g0 g1 g2
      go_wp2_with fail
      go_loopw [3, 6] (fun v i wq => ∃ i' q : Nat, i' ≤ m1 ∧ i = .int .i64 (i' : Int) ∧ q ≤ 40000 ∧ Hid ((X ++ acr gs C R (r : Int) L i').length = q) ∧ Hid (wq.ownsRow (w.heap.size + 1) 42 4 v q (finV (X ++ acr gs C R (r : Int) L i'))) ∧ Hid (Stand w1 wq wo.heap.size w1.heap.size v) ∧ Hid (Below (w.heap.size + 1) Wb wq)) (fun _ i _ => m1 - (intOf i).toNat)
      case atStart => exact ⟨0, q, Nat.zero_le _, rfl, hq4, by rw [acr, List.append_nil]; exact HQ.out, by rw [acr, List.append_nil]; exact HO1.out, HSt.out _ (fun k e => HOlt.out k _ HO.out e), HB1.out⟩
      case round =>
        clear HO1 HB1 HB HO HQ
        obtain ⟨i, q2, hi1, rfl, hq2, HQ, HO, HS, HB⟩ := hrel
        obtain ⟨wq, rfl⟩ : ∃ W : World, W = wr := ⟨_, rfl⟩
        have hzq : w.heap.size + 1 ≤ wq.heap.size := by have := HB.out.size; have := HWs.out; omega
        have HRLv : Hid (RdV wq la 3 m1 (runV L)) := HS.out.rdV HOL.out (Nat.le_refl _)
        by_cases hlt2 : i < m1
        · have hiI : (i : Int) < (m1 : Int) := by omega
          go_wp2_with fail
          refine (sSection la m1 lc i C L wq HRLv.out HM.out hlt2 HCH.out hC4 (by omega)).mono ?_
          rintro e w2 ⟨rfl, hb2⟩
          have hz2_ := hb2.size
          cases hs : secI L i
          · have HA := Lib.hid (acr_no (gs := gs) (C := C) (R := R) (r := (r : Int)) hs)
            have HO2 := Lib.hid (ownN_below HO.out hb2)
            have HS2 := Lib.hid (HS.out.below hb2)
            have HB2 : Hid (Below (w.heap.size + 1) Wb w2) := HB.out.trans (hb2.mono hzq)
            clear hb2 HO HS HB HRLv hs
            go_wp2_with fail
            go_roundw
            case rel => exact ⟨i + 1, q2, by omega, by go_num, hq2, by rw [HA.out]; exact HQ.out, by rw [HA.out]; exact HO2.out, HS2.out, HB2.out⟩
            case measure => simp [intOf]; omega
          · have hi5 := secI_bd hs
            rw [HM.out] at hi5
            have HA := Lib.hid (acr_yes (gs := gs) (C := C) (R := R) (r := (r : Int)) hs)
            have FB := five_bd HCH.out (show i + 5 ≤ L.length by rw [HM.out]; exact hi5)
            have MB := midC_bd HCH.out (show i + 5 ≤ L.length by rw [HM.out]; exact hi5)
            have BD2 := HCH.out.bd (j := i + 2) (by rw [HM.out]; omega)
            have R2 := Lib.hid (HRLv.out.below hb2)
            go_wp2_with fail
            refine (sWhole la m1 lc i C L w2 R2.out HM.out hi5 HCH.out hC4 (by omega)).mono ?_
            rintro e w3 ⟨rfl, hb3⟩
            have hz3_ := hb3.size
            have hb23 : Below wq.heap.size wq w3 := hb2.trans (hb3.mono hz2_)
            have R3 := Lib.hid (R2.out.below hb3)
            have HO3 := Lib.hid (ownN_below HO.out hb23)
            have HS3 := Lib.hid (HS.out.below hb23)
            have HB3 : Hid (Below (w.heap.size + 1) Wb w3) := HB.out.trans (hb23.mono hzq)
            have HOl : Hid (∀ k, ∀ u : Value, wq.ownsRow (w.heap.size + 1) 42 4 u q2 (finV (X ++ acr gs C R (r : Int) L i)) → u.ownBlock = some k → k < wq.heap.size) := fun k u hu e => (hu.lt k e).2
            have HDw : Hid (dwnD gs C R (r : Int) L i = dwn (runF (colL gs C R (midC L i).toNat) R) (r : Int) (stR L i) (fiveR L i) (runF (colL gs C R (midC L i).toNat) R).length) := rfl
            obtain ⟨cN, hcN⟩ := Int.eq_ofNat_of_zero_le MB.1
            have hcC : cN < C := by omega
            rw [hcN, Int.toNat_natCast] at HDw
            have hmid : stR L (i + 2) + lnR L (i + 2) / 2 = (cN : Int) := hcN
            obtain ⟨-, -, BDb, BDc, BDd⟩ := BD2
            obtain ⟨FBa, FBb, FBc, FBd⟩ := FB
            obtain ⟨lb, lo, rfl, hlb, hcl⟩ := R3.out.runAt (k := i) (by omega)
            obtain ⟨e0, e1, _⟩ := hcl (i + 2) (by omega)
            have hln1 := (HCH.out.bd (j := i + 2) (by rw [HM.out]; omega)).2.1
            generalize stR L (i + 2) = s2 at e0 hmid BDc BDd
            generalize lnR L (i + 2) = l2 at e1 hmid BDb BDd hln1
            obtain ⟨st, hst⟩ : ∃ st, stR L i = st := ⟨_, rfl⟩
            obtain ⟨fv, hfv⟩ : ∃ fv, fiveR L i = fv := ⟨_, rfl⟩
            rw [hst] at HDw FBa FBc
            rw [hfv] at HDw FBb FBd
            rw [hst, hfv]
            clear hst hfv hcN MB hcl hb2 hb3 R2 HRLv
            have i2a : (0 : Int) ≤ (i : Int) + 2 := by omega
            have i2b : (i : Int) + 2 < (m1 : Int) := by omega
            have i2c : ((i : Int) + 2).toNat = i + 2 := by omega
            have i2d : IntKind.i64.wrap ((i : Int) + 2) = (i : Int) + 2 := IntWalk.i64_in _ (by omega)
            have i2e : l2 / 2 ≤ l2 := by omega
            have i2f : 0 ≤ l2 / 2 := by omega
            have i2g : IntKind.i64.wrap (s2 + l2 / 2) = s2 + l2 / 2 := IntWalk.i64_in _ (by omega)
            have i2i : IntKind.i64.wrap (l2 / 2) = l2 / 2 := IntWalk.i64_in _ (by omega)
            have i2j : IntKind.i64.wrap (cN : Int) = (cN : Int) := IntWalk.i64_in _ (by omega)
            have i2h : l2.tdiv 2 = l2 / 2 := Int.tdiv_eq_ediv_of_nonneg (by omega)
            obtain ⟨v3, hv3⟩ : ∃ W : World, W = w3.alloc (.cells #[.int .i64 st, .int .i64 fv, .bool true] 51) := ⟨_, rfl⟩
            have hbv : Below w3.heap.size w3 v3 := by rw [hv3]; exact (Below.refl _ _).alloc (Nat.le_refl _) _
            have hzv : w3.heap.size < v3.heap.size := by rw [hv3]; simp
            have Q3 : Hid (Box3 v3 w3.heap.size (.int .i64 st) (.int .i64 fv) (.bool true)) := by rw [hv3]; exact Box3.new _ _ _ _ _
            have t0_ : v3.cell? ⟨lb, lo + (i + 2) * 3, none⟩ = some (.int .i64 s2) := (hbv.cell (p := ⟨_, _, none⟩) hlb).trans e0
            have t1_ : v3.cell? ⟨lb, lo + (i + 2) * 3 + 1, none⟩ = some (.int .i64 l2) := (hbv.cell (p := ⟨_, _, none⟩) hlb).trans e1
            have hlb3 : lb < v3.heap.size := by omega
            have HOv := Lib.hid (ownN_below HO3.out hbv)
            have HSv := Lib.hid (HS3.out.below hbv)
            have HBv : Hid (Below (w.heap.size + 1) Wb v3) := HB3.out.trans (hbv.mono (by omega))
            have HBwv : Hid (Below w.heap.size w v3) := HBw.out.trans (HBv.out.mono (by omega))
            have HB := HBv
            have hkr_ := HKG.out.below HB.out (by omega)
            have g0 : v3.cell? ⟨w.heap.size, 0, none⟩ = some (.int .i64 (R : Int)) := hkr_.cell 0
            have g1 : v3.cell? ⟨w.heap.size, 1, none⟩ = some (.int .i64 (C : Int)) := hkr_.cell 1
            have g2 : v3.cell? ⟨w.heap.size, 2, none⟩ = some (.slice (some ⟨b, off, none⟩) gn gc) := hkr_.cell 2
            clear hkr_

            have hw3 : w.heap.size < v3.heap.size := by omega
            clear e0 e1 hlb HO3 HS3 HB3 hbv
            go_wp2_with fail
            rw [← hv3]
            clear hv3
            (try go_wp2_with fail)
            have HCol : Hid (∀ W, Below v3.heap.size v3 W → Calls Try.prog 31 #[.agg #[.int .i64 (R : Int), .int .i64 (C : Int), .slice (some ⟨b, off, none⟩) gn gc], .int .i64 (cN : Int)] W fun e w' => ∃ ca cc, e = .returned (.slice ca R cc) ∧ Rd w' ca R (colL gs C R cN) ∧ Below W.heap.size W w') := fun W hW => (sColumn R C (some ⟨b, off, none⟩) gn gc cN gs W (HGs.out _ (HBwv.out.trans (hW.mono (by omega)))) HN.out hn4 hcC).mono fun e w' ⟨cv, he, ho, hb⟩ => by
              obtain ⟨ca, cc, rfl⟩ := ownN_shape ho
              exact ⟨ca, cc, he, own_rd ho, hb⟩
            have HRun : Hid (∀ (W : World) (ca : Option Addr) (cc : Nat), Rd W ca R (colL gs C R cN) → Below v3.heap.size v3 W → Calls Try.prog 28 #[.slice ca R cc] W fun e w' => ∃ da dc, e = .returned (.slice da (runF (colL gs C R cN) R).length dc) ∧ w'.ownsRow w3.heap.size 51 3 (.slice da (runF (colL gs C R cN) R).length dc) (runF (colL gs C R cN) R).length (runV (runF (colL gs C R cN) R)) ∧ Below W.heap.size W w') := fun W ca cc hr hW => (sRunsL ca R cc (colL gs C R cN) W hr hR4).mono fun e w' ⟨da, dc, he, ho, hb, _⟩ => ⟨da, dc, he, ownN_mono ho (by have := hW.size; omega), hb⟩
            have HSx : Hid (∀ w', Below v3.heap.size v3 w' → Below v3.heap.size v3 w' ∧ w.heap.size < w'.heap.size ∧ lb < w'.heap.size ∧ w'.cell? ⟨w.heap.size, 0, none⟩ = some (.int .i64 (R : Int)) ∧ w'.cell? ⟨w.heap.size, 1, none⟩ = some (.int .i64 (C : Int)) ∧ w'.cell? ⟨w.heap.size, 2, none⟩ = some (.slice (some ⟨b, off, none⟩) gn gc) ∧ w'.cell? ⟨lb, lo + (i + 2) * 3, none⟩ = some (.int .i64 s2) ∧ w'.cell? ⟨lb, lo + (i + 2) * 3 + 1, none⟩ = some (.int .i64 l2)) := fun w' h => ⟨h, Nat.lt_of_lt_of_le hw3 h.size, Nat.lt_of_lt_of_le hlb3 h.size, (h.cell (p := ⟨_, _, none⟩) hw3).trans g0, (h.cell (p := ⟨_, _, none⟩) hw3).trans g1, (h.cell (p := ⟨_, _, none⟩) hw3).trans g2, (h.cell (p := ⟨_, _, none⟩) hlb3).trans t0_, (h.cell (p := ⟨_, _, none⟩) hlb3).trans t1_⟩
            go_region_held3 (fun w' => Below v3.heap.size v3 w' ∧ w.heap.size < w'.heap.size ∧ lb < w'.heap.size ∧ w'.cell? ⟨w.heap.size, 0, none⟩ = some (.int .i64 (R : Int)) ∧ w'.cell? ⟨w.heap.size, 1, none⟩ = some (.int .i64 (C : Int)) ∧ w'.cell? ⟨w.heap.size, 2, none⟩ = some (.slice (some ⟨b, off, none⟩) gn gc) ∧ w'.cell? ⟨lb, lo + (i + 2) * 3, none⟩ = some (.int .i64 s2) ∧ w'.cell? ⟨lb, lo + (i + 2) * 3 + 1, none⟩ = some (.int .i64 l2)) (exact HSx.out _ (by repeat' (first | (with_reducible exact Below.refl _ _) | (with_reducible assumption) | (with_reducible refine Below.alloc ?_ ?_ _) | (with_reducible refine Below.setCell ?_ ?_ _) | (with_reducible refine Below.drew ?_) | (with_reducible refine below_drewN ?_ _) | (with_reducible refine below_via (by with_reducible assumption) ?_ ?_) | go_size))) (first | (go_at_call 31; go_fit (HCol.out _ (by repeat' (first | (with_reducible exact Below.refl _ _) | (with_reducible assumption) | (with_reducible refine Below.alloc ?_ ?_ _) | (with_reducible refine Below.setCell ?_ ?_ _) | (with_reducible refine Below.drew ?_) | (with_reducible refine below_drewN ?_ _) | (with_reducible refine below_via (by with_reducible assumption) ?_ ?_) | go_size))); rintro e w' ⟨ca, cc, rfl, hoc, hb⟩; obtain ⟨hc_, hf_⟩ := bcell hb; have hz_ := hb.size; (try simp at hz_)) | (go_at_call 28; go_fit (HRun.out _ ca cc (Rd.below hoc (by repeat' (first | (with_reducible exact Below.refl _ _) | (with_reducible assumption) | (with_reducible refine Below.alloc ?_ ?_ _) | (with_reducible refine Below.setCell ?_ ?_ _) | (with_reducible refine Below.drew ?_) | (with_reducible refine below_drewN ?_ _) | (with_reducible refine below_via (by with_reducible assumption) ?_ ?_) | go_size))) (by repeat' (first | (with_reducible exact Below.refl _ _) | (with_reducible assumption) | (with_reducible refine Below.alloc ?_ ?_ _) | (with_reducible refine Below.setCell ?_ ?_ _) | (with_reducible refine Below.drew ?_) | (with_reducible refine below_drewN ?_ _) | (with_reducible refine below_via (by with_reducible assumption) ?_ ?_) | go_size))); rintro e w' ⟨da, dc, rfl, hoD, hb⟩; obtain ⟨hc_, hf_⟩ := bcell hb; have hz_ := hb.size; (try simp at hz_)))
            all_goals
              obtain ⟨w5, rfl⟩ : ∃ W : World, W = w' := ⟨_, rfl⟩
              have hb5 : Below v3.heap.size v3 w5 := by repeat' (first | (with_reducible exact Below.refl _ _) | (with_reducible assumption) | (with_reducible refine Below.alloc ?_ ?_ _) | (with_reducible refine Below.setCell ?_ ?_ _) | (with_reducible refine Below.drew ?_) | (with_reducible refine below_drewN ?_ _) | (with_reducible refine below_via (by with_reducible assumption) ?_ ?_) | go_size)
              have hz5 := hb5.size
              have HOD : Hid (w5.ownsRow w3.heap.size 51 3 (.slice da (runF (colL gs C R cN) R).length dc) (runF (colL gs C R cN) R).length (runV (runF (colL gs C R cN) R))) := hoD
              have HCD := Lib.hid (runF_chain (colL gs C R cN) R)
              have HRD := Lib.hid (runF_len (colL gs C R cN) R)
              obtain ⟨D, hDe⟩ : ∃ D, runF (colL gs C R cN) R = D := ⟨_, rfl⟩
              rw [hDe] at HOD HCD HRD HDw ⊢
              obtain ⟨m3, hm3⟩ : ∃ m3, D.length = m3 := ⟨_, rfl⟩
              rw [hm3] at HOD HRD HDw ⊢
              have HM3 := Lib.hid hm3
              have hmR : m3 ≤ R := HRD.out
              have HO5 := Lib.hid (ownN_below HOv.out hb5)
              have HS5 := Lib.hid (HSv.out.below hb5)
              have HB5 : Hid (Below (w.heap.size + 1) Wb w5) := HBv.out.trans (hb5.mono (by omega))
              have Q5 := Lib.hid (Q3.out.keep hb5)
              have HT5 : Hid (∀ u : Value, wq.ownsRow (w.heap.size + 1) 42 4 u q2 (finV (X ++ acr gs C R (r : Int) L i)) → Stand w5 w5 w3.heap.size w5.heap.size u) := fun u hu => Stand.start (fun k e => by have := HOl.out k u hu e; omega)
              have HT5' := Lib.hid (HT5.out _ HO.out)
              have hcd : i2a = i2a := rfl
              clear hcd hb5 hm3 hDe hoD hoc hb hz_ hc_ hf_ HCol HRun g0 g1 g2 t0_ t1_ HSx HOv HSv HBv HB Q3 HT5 HO HS HOl i2a i2b i2c i2d i2e i2f i2g i2h i2i i2j hmid BDb BDc BDd hln1
              go_wp2_with fail
              go_loopw [3, 9] (fun v k wx => ∃ k' q : Nat, k' ≤ m3 ∧ k = .int .i64 (k' : Int) ∧ Hid ((X ++ acr gs C R (r : Int) L i ++ dwn D (r : Int) st fv k').length = q) ∧ Hid (wx.ownsRow (w.heap.size + 1) 42 4 v q (finV (X ++ acr gs C R (r : Int) L i ++ dwn D (r : Int) st fv k'))) ∧ Hid (Stand w1 wx wo.heap.size w1.heap.size v) ∧ Hid (Stand w5 wx w3.heap.size w5.heap.size v) ∧ Hid (Below (w.heap.size + 1) Wb wx)) (fun _ k _ => m3 - (intOf k).toNat)
              case atStart => exact ⟨0, q2, Nat.zero_le _, rfl, by rw [dwn, List.append_nil]; exact HQ.out, by rw [dwn, List.append_nil]; exact HO5.out, HS5.out, HT5'.out, HB5.out⟩
              case round =>
                clear HO5 HS5 HT5' HB5 HQ
                obtain ⟨k, q6, hk1, rfl, HQ, HO, HS, HT, HB⟩ := hrel
                obtain ⟨wx, rfl⟩ : ∃ W : World, W = wr := ⟨_, rfl⟩
                have hzx : w.heap.size + 1 ≤ wx.heap.size := by have := HB.out.size; have := HWs.out; omega
                have hq6 : q6 ≤ 40000 := by
                  have l1 := acr_len gs C R (r : Int) L i
                  have l2 := (dwn_len HCD.out (r : Int) st fv k).1
                  have l3 := HQ.out
                  simp only [List.length_append] at l3
                  omega
                have HRDv : Hid (RdV wx da 3 m3 (runV D)) := HT.out.rdV HOD.out (Nat.le_refl _)
                have HQx := Lib.hid (HT.out.box3 Q5.out (Nat.le_refl _) (Nat.le_refl _))
                by_cases hlt3 : k < m3
                · have hkI : (k : Int) < (m3 : Int) := by omega
                  have HSec : Hid (∀ (bv : Bool), secI D k = bv → ∀ W, Below wx.heap.size wx W → Calls Try.prog 29 #[.slice da m3 dc, .int .i64 (k : Int)] W fun e w' => e = .returned (.bool bv) ∧ Below W.heap.size W w') := fun bv hbv W hW => (sSection da m3 dc k R D W (HRDv.out.below hW) HM3.out hlt3 HCD.out hR4 (by omega)).mono fun e w' h => ⟨by rw [← hbv]; exact h.1, h.2⟩
                  cases hs3 : secI D k
                  · have HS0 := Lib.hid (HSec.out false hs3)
                    have HN := Lib.hid (dwn_no1 (r := (r : Int)) (st := st) (five := fv) hs3)
                    clear HSec hs3
                    go_wp2_with fail
                    refine wp_region_held_drew (S := fun w' => Below wx.heap.size wx w') (by kernel_rfl) (by repeat' (first | (with_reducible exact Below.refl _ _) | (with_reducible assumption) | (with_reducible refine Below.alloc ?_ ?_ _) | (with_reducible refine Below.setCell ?_ ?_ _) | (with_reducible refine Below.drew ?_) | (with_reducible refine below_drewN ?_ _) | (with_reducible refine below_via (by with_reducible assumption) ?_ ?_) | go_size)) (fun hHeld => ?_)
                    refine takeYes (i := 0) (d := 67) (v := .slice da m3 dc) rfl rfl (by kernel_rfl) (by kernel_rfl) (by kernel_rfl) (fun _ _ _ h => h) (fun w hSw => by go_simp) hHeld ?_
                    (try simp only [Act.put, List.setIfInBounds_toArray, List.set_cons_zero, List.set_cons_succ])
                    refine takeYes (i := 1) (d := 68) (v := .int .i64 (k : Int)) rfl rfl (by kernel_rfl) (by kernel_rfl) (by kernel_rfl) (fun _ _ _ h => h) (fun w hSw => by go_simp) hHeld ?_
                    (try simp only [Act.put, List.setIfInBounds_toArray, List.set_cons_zero, List.set_cons_succ])
                    refine wpAnyH_ready (rs := [2]) (by kernel_rfl) (by simp) ?_
                    refine AllReadyH.cons rfl (fun K hK => ?_) AllReadyH.nil
                    rw [if_pos (by rfl)]
                    (try simp only [List.getElem_toArray, List.getElem_cons_succ, List.getElem_cons_zero])
                    go_simp
                    go_at_call 29
                    go_fit (HS0.out _ (by repeat' (first | (with_reducible exact Below.refl _ _) | (with_reducible assumption) | (with_reducible refine Below.alloc ?_ ?_ _) | (with_reducible refine Below.setCell ?_ ?_ _) | (with_reducible refine Below.drew ?_) | (with_reducible refine below_drewN ?_ _) | (with_reducible refine below_via (by with_reducible assumption) ?_ ?_) | go_size)))
                    rintro e w' ⟨rfl, hb⟩
                    refine hK.out _ _ (by repeat' (first | (with_reducible exact Below.refl _ _) | (with_reducible assumption) | (with_reducible refine Below.alloc ?_ ?_ _) | (with_reducible refine Below.setCell ?_ ?_ _) | (with_reducible refine Below.drew ?_) | (with_reducible refine below_drewN ?_ _) | (with_reducible refine below_via (by with_reducible assumption) ?_ ?_) | go_size)) (fun hHeld => ?_)
                    clear hK K
                    (try simp only [Act.put, List.setIfInBounds_toArray, List.set_cons_zero, List.set_cons_succ])
                    refine takeYes (i := 3) (d := 70) (v := .bool false) rfl rfl (by kernel_rfl) (by kernel_rfl) (by kernel_rfl) (fun _ _ _ h => h) (fun w hSw => by go_simp) hHeld ?_
                    (try simp only [Act.put, List.setIfInBounds_toArray, List.set_cons_zero, List.set_cons_succ])
                    refine takeNo (i := 4) (d := 71) rfl (by kernel_rfl) (by kernel_rfl) (by kernel_rfl) (fun _ _ _ h => h) hHeld ?_
                    (try simp only [Act.put, List.setIfInBounds_toArray, List.set_cons_zero, List.set_cons_succ])
                    refine takeNo (i := 5) (d := 72) rfl (by kernel_rfl) (by kernel_rfl) (by kernel_rfl) (fun _ _ _ h => h) hHeld ?_
                    (try simp only [Act.put, List.setIfInBounds_toArray, List.set_cons_zero, List.set_cons_succ])
                    refine takeNo (i := 6) (d := 73) rfl (by kernel_rfl) (by kernel_rfl) (by kernel_rfl) (fun _ _ _ h => h) hHeld ?_
                    (try simp only [Act.put, List.setIfInBounds_toArray, List.set_cons_zero, List.set_cons_succ])
                    refine takeNo (i := 7) (d := 74) rfl (by kernel_rfl) (by kernel_rfl) (by kernel_rfl) (fun _ _ _ h => h) hHeld ?_
                    (try simp only [Act.put, List.setIfInBounds_toArray, List.set_cons_zero, List.set_cons_succ])
                    refine takeNo (i := 8) (d := 75) rfl (by kernel_rfl) (by kernel_rfl) (by kernel_rfl) (fun _ _ _ h => h) hHeld ?_
                    (try simp only [Act.put, List.setIfInBounds_toArray, List.set_cons_zero, List.set_cons_succ])
                    refine takeNo (i := 9) (d := 76) rfl (by kernel_rfl) (by kernel_rfl) (by kernel_rfl) (fun _ _ _ h => h) hHeld ?_
                    (try simp only [Act.put, List.setIfInBounds_toArray, List.set_cons_zero, List.set_cons_succ])
                    refine takeNo (i := 10) (d := 77) rfl (by kernel_rfl) (by kernel_rfl) (by kernel_rfl) (fun _ _ _ h => h) hHeld ?_
                    (try simp only [Act.put, List.setIfInBounds_toArray, List.set_cons_zero, List.set_cons_succ])
                    refine takeNo (i := 11) (d := 78) rfl (by kernel_rfl) (by kernel_rfl) (by kernel_rfl) (fun _ _ _ h => h) hHeld ?_
                    (try simp only [Act.put, List.setIfInBounds_toArray, List.set_cons_zero, List.set_cons_succ])
                    refine takeNo (i := 12) (d := 79) rfl (by kernel_rfl) (by kernel_rfl) (by kernel_rfl) (fun _ _ _ h => h) hHeld ?_
                    (try simp only [Act.put, List.setIfInBounds_toArray, List.set_cons_zero, List.set_cons_succ])
                    refine takeNo (i := 13) (d := 80) rfl (by kernel_rfl) (by kernel_rfl) (by kernel_rfl) (fun _ _ _ h => h) hHeld ?_
                    (try simp only [Act.put, List.setIfInBounds_toArray, List.set_cons_zero, List.set_cons_succ])
                    refine takeNo (i := 14) (d := 81) rfl (by kernel_rfl) (by kernel_rfl) (by kernel_rfl) (fun _ _ _ h => h) hHeld ?_
                    (try simp only [Act.put, List.setIfInBounds_toArray, List.set_cons_zero, List.set_cons_succ])
                    refine takeNo (i := 15) (d := 82) rfl (by kernel_rfl) (by kernel_rfl) (by kernel_rfl) (fun _ _ _ h => h) hHeld ?_
                    (try simp only [Act.put, List.setIfInBounds_toArray, List.set_cons_zero, List.set_cons_succ])
                    refine takeNo (i := 16) (d := 83) rfl (by kernel_rfl) (by kernel_rfl) (by kernel_rfl) (fun _ _ _ h => h) hHeld ?_
                    (try simp only [Act.put, List.setIfInBounds_toArray, List.set_cons_zero, List.set_cons_succ])
                    refine takeNo (i := 17) (d := 84) rfl (by kernel_rfl) (by kernel_rfl) (by kernel_rfl) (fun _ _ _ h => h) hHeld ?_
                    (try simp only [Act.put, List.setIfInBounds_toArray, List.set_cons_zero, List.set_cons_succ])
                    refine takeNo (i := 18) (d := 85) rfl (by kernel_rfl) (by kernel_rfl) (by kernel_rfl) (fun _ _ _ h => h) hHeld ?_
                    (try simp only [Act.put, List.setIfInBounds_toArray, List.set_cons_zero, List.set_cons_succ])
                    refine takeNo (i := 19) (d := 86) rfl (by kernel_rfl) (by kernel_rfl) (by kernel_rfl) (fun _ _ _ h => h) hHeld ?_
                    (try simp only [Act.put, List.setIfInBounds_toArray, List.set_cons_zero, List.set_cons_succ])
                    refine takeNo (i := 20) (d := 87) rfl (by kernel_rfl) (by kernel_rfl) (by kernel_rfl) (fun _ _ _ h => h) hHeld ?_
                    (try simp only [Act.put, List.setIfInBounds_toArray, List.set_cons_zero, List.set_cons_succ])
                    refine takeNo (i := 21) (d := 88) rfl (by kernel_rfl) (by kernel_rfl) (by kernel_rfl) (fun _ _ _ h => h) hHeld ?_
                    (try simp only [Act.put, List.setIfInBounds_toArray, List.set_cons_zero, List.set_cons_succ])
                    refine takeNo (i := 22) (d := 89) rfl (by kernel_rfl) (by kernel_rfl) (by kernel_rfl) (fun _ _ _ h => h) hHeld ?_
                    (try simp only [Act.put, List.setIfInBounds_toArray, List.set_cons_zero, List.set_cons_succ])
                    refine takeNo (i := 23) (d := 90) rfl (by kernel_rfl) (by kernel_rfl) (by kernel_rfl) (fun _ _ _ h => h) hHeld ?_
                    (try simp only [Act.put, List.setIfInBounds_toArray, List.set_cons_zero, List.set_cons_succ])
                    refine takeNo (i := 24) (d := 91) rfl (by kernel_rfl) (by kernel_rfl) (by kernel_rfl) (fun _ _ _ h => h) hHeld ?_
                    (try simp only [Act.put, List.setIfInBounds_toArray, List.set_cons_zero, List.set_cons_succ])
                    refine takeNo (i := 25) (d := 92) rfl (by kernel_rfl) (by kernel_rfl) (by kernel_rfl) (fun _ _ _ h => h) hHeld ?_
                    (try simp only [Act.put, List.setIfInBounds_toArray, List.set_cons_zero, List.set_cons_succ])
                    refine takeYes (i := 26) (d := 93) (v := .bool false) rfl rfl (by kernel_rfl) (by kernel_rfl) (by kernel_rfl) (fun _ _ _ h => h) (fun w hSw => by go_simp) hHeld ?_
                    (try simp only [Act.put, List.setIfInBounds_toArray, List.set_cons_zero, List.set_cons_succ])
                    refine wpAnyH_done (by kernel_rfl) ?_ _
                    all_goals
                      obtain ⟨w6, rfl⟩ : ∃ W : World, W = w' := ⟨_, rfl⟩
                      have hb6 : Below wx.heap.size wx w6 := by repeat' (first | (with_reducible exact Below.refl _ _) | (with_reducible assumption) | (with_reducible refine Below.alloc ?_ ?_ _) | (with_reducible refine Below.setCell ?_ ?_ _) | (with_reducible refine Below.drew ?_) | (with_reducible refine below_drewN ?_ _) | (with_reducible refine below_via (by with_reducible assumption) ?_ ?_) | go_size)
                      have HO6 := Lib.hid (ownN_below HO.out hb6)
                      have HS6 := Lib.hid (HS.out.below hb6)
                      have HT6 := Lib.hid (HT.out.below hb6)
                      have HB6 : Hid (Below (w.heap.size + 1) Wb w6) := HB.out.trans (hb6.mono hzx)
                      clear hb hz_ hc_ hf_ hb6 HO HS HT HB HS0 HRDv HQx
                      go_wp2_with fail
                      go_roundw
                      case rel => exact ⟨k + 1, q6, by omega, by go_num, by rw [HN.out]; exact HQ.out, by rw [HN.out]; exact HO6.out, HS6.out, HT6.out, HB6.out⟩
                      case measure => simp [intOf]; omega
                  · have HS0 := Lib.hid (HSec.out true hs3)
                    have hk5 := secI_bd hs3
                    rw [HM3.out] at hk5
                    have FB2 := five_bd HCD.out (show k + 5 ≤ D.length by rw [HM3.out]; exact hk5)
                    have BE := HCD.out.bd (j := k + 2) (by rw [HM3.out]; omega)
                    have HIn : Hid (inM D k (r : Int) = inB (r : Int) (stR D (k + 2)) (stR D (k + 2) + lnR D (k + 2) - 1)) := rfl
                    obtain ⟨db, do_, hda, hdb, hcl⟩ := HRDv.out.runAt hlt3
                    obtain ⟨e0, e1, _⟩ := hcl (k + 2) (by omega)
                    obtain ⟨-, BE1, BE2, BE3, BE4⟩ := BE
                    obtain ⟨FBa2, FBb2, FBc2, FBd2⟩ := FB2
                    generalize stR D (k + 2) = s3 at e0 HIn BE3 BE4
                    generalize lnR D (k + 2) = l3 at e1 HIn BE1 BE2 BE4
                    have HInC : Hid (∀ W, Calls Try.prog 27 #[.int .i64 (r : Int), .int .i64 s3, .int .i64 (s3 + l3 - 1)] W fun e w' => e = .returned (.bool (inM D k (r : Int))) ∧ W = w') := fun W => by rw [HIn.out]; exact sIn _ _ _ _
                    have i2a : (0 : Int) ≤ (k : Int) + 2 := by omega
                    have i2b : (k : Int) + 2 < (m3 : Int) := by omega
                    have i2c : ((k : Int) + 2).toNat = k + 2 := by omega
                    have i2d : IntKind.i64.wrap ((k : Int) + 2) = (k : Int) + 2 := IntWalk.i64_in _ (by omega)
                    have i2e : IntKind.i64.wrap (s3 + l3) = s3 + l3 := IntWalk.i64_in _ (by omega)
                    have i2f : IntKind.i64.wrap (s3 + l3 - 1) = s3 + l3 - 1 := IntWalk.i64_in _ (by omega)
                    have HSx : Hid (∀ w', Below wx.heap.size wx w' → Below wx.heap.size wx w' ∧ db < w'.heap.size ∧ w'.cell? ⟨db, do_ + (k + 2) * 3, none⟩ = some (.int .i64 s3) ∧ w'.cell? ⟨db, do_ + (k + 2) * 3 + 1, none⟩ = some (.int .i64 l3)) := fun w' h => ⟨h, Nat.lt_of_lt_of_le hdb h.size, (h.cell (p := ⟨_, _, none⟩) hdb).trans e0, (h.cell (p := ⟨_, _, none⟩) hdb).trans e1⟩
                    have HDa := Lib.hid hda
                    have hdaS : Hid (da = some ⟨db, do_, none⟩) := hda
                    clear HSec hcl hda e0 e1 HIn
                    rw [hdaS.out] at HS0
                    cases hm : inM D k (r : Int)
                    · have HN := Lib.hid (dwn_no2 (st := st) (five := fv) hm)
                      rw [hm] at HInC
                      clear hm hs3
                      go_wp2_with fail
                      rw [hdaS.out]
                      go_region_held3 (fun w' => Below wx.heap.size wx w' ∧ db < w'.heap.size ∧ w'.cell? ⟨db, do_ + (k + 2) * 3, none⟩ = some (.int .i64 s3) ∧ w'.cell? ⟨db, do_ + (k + 2) * 3 + 1, none⟩ = some (.int .i64 l3)) (exact HSx.out _ (by repeat' (first | (with_reducible exact Below.refl _ _) | (with_reducible assumption) | (with_reducible refine Below.alloc ?_ ?_ _) | (with_reducible refine Below.setCell ?_ ?_ _) | (with_reducible refine Below.drew ?_) | (with_reducible refine below_drewN ?_ _) | (with_reducible refine below_via (by with_reducible assumption) ?_ ?_) | go_size))) (first | (go_at_call 29; go_fit (HS0.out _ (by repeat' (first | (with_reducible exact Below.refl _ _) | (with_reducible assumption) | (with_reducible refine Below.alloc ?_ ?_ _) | (with_reducible refine Below.setCell ?_ ?_ _) | (with_reducible refine Below.drew ?_) | (with_reducible refine below_drewN ?_ _) | (with_reducible refine below_via (by with_reducible assumption) ?_ ?_) | go_size))); rintro e w' ⟨rfl, hb⟩; obtain ⟨hc_, hf_⟩ := bcell hb; have hz_ := hb.size; (try simp at hz_)) | (go_at_call 27; go_fit (HInC.out _); rintro e wz ⟨rfl, rfl⟩))
                      all_goals
                        obtain ⟨w6, rfl⟩ : ∃ W : World, W = w' := ⟨_, rfl⟩
                        have hb6 : Below wx.heap.size wx w6 := by repeat' (first | (with_reducible exact Below.refl _ _) | (with_reducible assumption) | (with_reducible refine Below.alloc ?_ ?_ _) | (with_reducible refine Below.setCell ?_ ?_ _) | (with_reducible refine Below.drew ?_) | (with_reducible refine below_drewN ?_ _) | (with_reducible refine below_via (by with_reducible assumption) ?_ ?_) | go_size)
                        have HO6 := Lib.hid (ownN_below HO.out hb6)
                        have HS6 := Lib.hid (HS.out.below hb6)
                        have HT6 := Lib.hid (HT.out.below hb6)
                        have HB6 : Hid (Below (w.heap.size + 1) Wb w6) := HB.out.trans (hb6.mono hzx)
                        clear hb hz_ hc_ hf_ hb6 HO HS HT HB HS0 HRDv HQx HSx HInC hdb
                        rw [← hdaS.out]
                        go_wp2_with fail
                        go_roundw
                        case rel => exact ⟨k + 1, q6, by omega, by go_num, by rw [HN.out]; exact HQ.out, by rw [HN.out]; exact HO6.out, HS6.out, HT6.out, HB6.out⟩
                        case measure => simp [intOf]; omega
                    · have HN := Lib.hid (dwn_yes (st := st) (five := fv) hs3 hm)
                      rw [hm] at HInC
                      have FI2 := secI_bd hs3
                      clear hm hs3
                      go_wp2_with fail
                      rw [hdaS.out]
                      go_region_held3 (fun w' => Below wx.heap.size wx w' ∧ db < w'.heap.size ∧ w'.cell? ⟨db, do_ + (k + 2) * 3, none⟩ = some (.int .i64 s3) ∧ w'.cell? ⟨db, do_ + (k + 2) * 3 + 1, none⟩ = some (.int .i64 l3)) (exact HSx.out _ (by repeat' (first | (with_reducible exact Below.refl _ _) | (with_reducible assumption) | (with_reducible refine Below.alloc ?_ ?_ _) | (with_reducible refine Below.setCell ?_ ?_ _) | (with_reducible refine Below.drew ?_) | (with_reducible refine below_drewN ?_ _) | (with_reducible refine below_via (by with_reducible assumption) ?_ ?_) | go_size))) (first | (go_at_call 29; go_fit (HS0.out _ (by repeat' (first | (with_reducible exact Below.refl _ _) | (with_reducible assumption) | (with_reducible refine Below.alloc ?_ ?_ _) | (with_reducible refine Below.setCell ?_ ?_ _) | (with_reducible refine Below.drew ?_) | (with_reducible refine below_drewN ?_ _) | (with_reducible refine below_via (by with_reducible assumption) ?_ ?_) | go_size))); rintro e w' ⟨rfl, hb⟩; obtain ⟨hc_, hf_⟩ := bcell hb; have hz_ := hb.size; (try simp at hz_)) | (go_at_call 27; go_fit (HInC.out _); rintro e wz ⟨rfl, rfl⟩))
                      all_goals
                        obtain ⟨w6, rfl⟩ : ∃ W : World, W = w' := ⟨_, rfl⟩
                        have hb6 : Below wx.heap.size wx w6 := by repeat' (first | (with_reducible exact Below.refl _ _) | (with_reducible assumption) | (with_reducible refine Below.alloc ?_ ?_ _) | (with_reducible refine Below.setCell ?_ ?_ _) | (with_reducible refine Below.drew ?_) | (with_reducible refine below_drewN ?_ _) | (with_reducible refine below_via (by with_reducible assumption) ?_ ?_) | go_size)
                        have hz6 := hb6.size
                        have HO6 := Lib.hid (ownN_below HO.out hb6)
                        have HS6 := Lib.hid (HS.out.below hb6)
                        have HT6 := Lib.hid (HT.out.below hb6)
                        have HR6 := Lib.hid (HRDv.out.below hb6)
                        have HQ6 := Lib.hid (HQx.out.keep hb6)
                        have HB6 : Hid (Below (w.heap.size + 1) Wb w6) := HB.out.trans (hb6.mono hzx)
                        clear hb hz_ hc_ hf_ hb6 HO HS HT HB HS0 HRDv HQx HSx HInC hdb i2a i2b i2c i2d i2e i2f BE1 BE2 BE3 BE4
                        rw [← hdaS.out]
                        go_wp2_with fail
                        refine (sWhole da m3 dc k R D w6 HR6.out HM3.out hk5 HCD.out hR4 (by omega)).mono ?_
                        rintro e w7 ⟨rfl, hb7⟩
                        have hz7 := hb7.size
                        have HF4 : Hid (mkF st fv D k = (2 * stR D k + fiveR D k, 2 * st + fv, fiveR D k, fv)) := rfl
                        obtain ⟨t2, ht2_⟩ : ∃ t, stR D k = t := ⟨_, rfl⟩
                        obtain ⟨f2, hf2_⟩ : ∃ t, fiveR D k = t := ⟨_, rfl⟩
                        rw [ht2_, hf2_] at HF4
                        rw [ht2_] at FBa2 FBc2
                        rw [hf2_] at FBb2 FBd2
                        rw [ht2_, hf2_]
                        clear ht2_ hf2_
                        have HO7 := Lib.hid (ownN_below HO6.out hb7)
                        have HS7 := Lib.hid (HS6.out.below hb7)
                        have HT7 := Lib.hid (HT6.out.below hb7)
                        have HQ7 := Lib.hid (HQ6.out.keep hb7)
                        have HB7 : Hid (Below (w.heap.size + 1) Wb w7) := HB6.out.trans (hb7.mono (by omega))
                        obtain ⟨v7, hv7⟩ : ∃ W : World, W = w7.alloc (.cells #[.int .i64 t2, .int .i64 f2, .bool true] 51) := ⟨_, rfl⟩
                        have hbv7 : Below w7.heap.size w7 v7 := by rw [hv7]; exact (Below.refl _ _).alloc (Nat.le_refl _) _
                        have Q8 : Hid (Box3 v7 w7.heap.size (.int .i64 t2) (.int .i64 f2) (.bool true)) := by rw [hv7]; exact Box3.new _ _ _ _ _
                        have hzv7 := hbv7.size
                        have HO8 := Lib.hid (ownN_below HO7.out hbv7)
                        have HS8 := Lib.hid (HS7.out.below hbv7)
                        have HT8 := Lib.hid (HT7.out.below hbv7)
                        have HB8 : Hid (Below (w.heap.size + 1) Wb v7) := HB7.out.trans (hbv7.mono (by omega))
                        obtain ⟨p0, p1, p2, -⟩ := Q8.out
                        obtain ⟨p3, p4, p5, -⟩ := (HQ7.out.keep hbv7)
                        clear HO6 HS6 HT6 HR6 HQ6 HB6 HO7 HS7 HT7 HQ7 HB7 hb7 hbv7 Q8
                        go_upto_region 17 with (fail)
                        rw [← hv7]
                        clear hv7
                        have hzv8 : w.heap.size + 1 ≤ v7.heap.size := by omega
                        go_wp2_with (at_builtin; refine wpList_append_own_at _ rfl _ _ 26 rfl (w.heap.size + 1) 42 i0 _ 4 32 Try.underlying26 hi hz0 hI1 hI2 rfl (by decide) _ _ _ rfl (HO8.out.alloc _) ⟨v7.heap.size, 0, none⟩ 1 1 [.int .i64 (2 * t2 + f2), .int .i64 (2 * st + fv), .int .i64 f2, .int .i64 fv] rfl rfl (World.news_of_block (heap_alloc_new v7 _)) (by simp [Value.oneCell']) (by unfold maxLen; omega) (by omega) (by simp; omega) ?_; intro v9 w9 hown9 hgrow9 _ hat9)
                        have HO9 : Hid (w9.ownsRow (w.heap.size + 1) 42 4 v9 (q6 + 1) (finV (X ++ acr gs C R (r : Int) L i ++ dwn D (r : Int) st fv (k + 1)))) := by
                          unfold Hid
                          rw [HN.out, HF4.out, ← List.append_assoc, finV_app]
                          exact hown9
                        have HQ9 : Hid ((X ++ acr gs C R (r : Int) L i ++ dwn D (r : Int) st fv (k + 1)).length = q6 + 1) := by
                          unfold Hid
                          rw [HN.out, ← List.append_assoc, List.length_append, HQ.out]
                          rfl
                        have HS9 := Lib.hid (HS8.out.app hgrow9 hat9)
                        have HT9 := Lib.hid (HT8.out.app hgrow9 hat9)
                        have HB9 : Hid (Below (w.heap.size + 1) Wb w9) := (HB8.out.alloc (by omega) _).grown hgrow9 (by simp; omega) (fun j e => (HO8.out.lt j e).1)
                        clear hown9 hgrow9 hat9 HN HF4
                        go_wp2_with fail
                        go_roundw
                        case rel => exact ⟨k + 1, q6 + 1, by omega, by go_num, HQ9.out, HO9.out, HS9.out, HT9.out, HB9.out⟩
                        case measure => simp [intOf]; omega
                · have hke : k = m3 := by omega
                  have hge : (m3 : Int) ≤ (k : Int) := by omega
                  have HF : Hid (X ++ acr gs C R (r : Int) L i ++ dwn D (r : Int) st fv k = X ++ acr gs C R (r : Int) L (i + 1)) := by unfold Hid; rw [hke, HA.out, HDw.out, List.append_assoc]
                  clear hke HRDv HQx
                  rw [HF.out] at HQ HO
                  go_wp2_with fail
                  go_roundw
                  case rel => exact ⟨i + 1, q6, by omega, by go_num, hq6, HQ.out, HO.out, HS.out, HB.out⟩
                  case measure => simp [intOf]; omega
        · have hie : i = m1 := by omega
          have hge : (m1 : Int) ≤ (i : Int) := by omega
          have HF : Hid (X ++ acr gs C R (r : Int) L i = cand gs C R (r + 1)) := by unfold Hid; rw [hie, HCd.out]
          clear hie HRLv
          rw [HF.out] at HQ HO
          go_wp2_with fail
          go_roundw
          case rel => exact ⟨r + 1, q2, by omega, by go_num, hq2, HQ.out, HO.out, HB.out⟩
          case measure => simp [intOf]; omega
    · have hre : r = R := by omega
      have hge : (R : Int) ≤ (r : Int) := by omega
      obtain ⟨av, cv, rfl⟩ := ownN_shape HO.out
      have HE := Lib.hid hre
      clear hre
      go_wp2
      go_returns
      have HO2 := HO.out
      have HQ2 := HQ.out
      rw [HE.out] at HO2 HQ2
      rw [← HQ2] at HO2 ⊢
      exact ⟨av, cv, rfl, ownN_mono HO2 (by omega), HBwr.out⟩
end Go.Proofs.Ytcpicgcdefnhaaa
