/-
  DERIVED. Stacked symbols: the level: plain laws; spec.l17Level.
-/
import Derived.Test.YtenelpollcabnaaStkR
import Derived.Deep.CutRange
import Derived.Deep.RegionWith
import Derived.BigQuiet
namespace Go.Proofs.Ytenelpollcabnaa
open Go.RowKit
set_option linter.unusedVariables false
def lvV (gs : List Int) (C co r : Nat) : Int := (gVal gs C r).getD (co + 1) 0
def lvI (gs : List Int) (C co ln : Nat) : Nat → List Int
  | 0 => []
  | r + 1 => if r % 3 = 2 ∧ inB (lvV gs C co r) 0 ((ln : Int) - 1) = true then lvI gs C co ln r ++ [lvV gs C co r] else lvI gs C co ln r
theorem lvI_yes {gs : List Int} {C co ln r : Nat} (h : r % 3 = 2) (h2 : inB (lvV gs C co r) 0 ((ln : Int) - 1) = true) : lvI gs C co ln (r + 1) = lvI gs C co ln r ++ [lvV gs C co r] := by rw [lvI, if_pos ⟨h, h2⟩]
theorem lvI_no {gs : List Int} {C co ln r : Nat} (h : ¬ (r % 3 = 2 ∧ inB (lvV gs C co r) 0 ((ln : Int) - 1) = true)) : lvI gs C co ln (r + 1) = lvI gs C co ln r := by rw [lvI, if_neg h]
theorem lvI_three {gs : List Int} {C co ln r : Nat} (h : r % 3 = 2) : lvI gs C co ln (r + 3) = lvI gs C co ln (r + 1) := by
  rw [show r + 3 = (r + 1 + 1) + 1 by omega, lvI_no (by omega), lvI_no (by omega)]
theorem lvI_end {gs : List Int} {C co ln r R : Nat} (h : r % 3 = 2) (h1 : R ≤ r) (h2 : r ≤ R + 2) : lvI gs C co ln r = lvI gs C co ln R := by
  have : r = R ∨ r = R + 1 ∨ r = R + 2 := by omega
  rcases this with rfl | rfl | rfl
  · rfl
  · rw [lvI_no (by omega)]
  · rw [show R + 2 = R + 1 + 1 by omega, lvI_no (by omega), lvI_no (by omega)]
theorem lvI_len (gs : List Int) (C co ln : Nat) : ∀ r, (lvI gs C co ln r).length ≤ r
  | 0 => by simp [lvI]
  | r + 1 => by
    have := lvI_len gs C co ln r
    rw [lvI]
    split
    · simp; omega
    · omega
theorem lvI_mem (gs : List Int) (C co ln : Nat) : ∀ r, ∀ x ∈ lvI gs C co ln r, x < (ln : Int)
  | 0, x, h => by simp [lvI] at h
  | r + 1, x, h => by
    rw [lvI] at h
    split at h
    · rename_i h2
      rcases List.mem_append.1 h with h3 | h3
      · exact lvI_mem gs C co ln r x h3
      · simp at h3
        subst h3
        have := inB_iff.1 h2.2
        omega
    · exact lvI_mem gs C co ln r x h
def cnt (vs : List Int) (k : Nat) : Int := ((vs.count (k : Int) : Nat) : Int)
theorem cnt_nn (vs : List Int) (k : Nat) : 0 ≤ cnt vs k := Int.natCast_nonneg _
theorem cnt_le (vs : List Int) (k : Nat) : cnt vs k ≤ (vs.length : Int) := by unfold cnt; have := List.count_le_length (a := (k : Int)) (l := vs); omega
theorem cnt_out {vs : List Int} {ln k : Nat} (h : ∀ x ∈ vs, x < (ln : Int)) (hk : ln ≤ k) : cnt vs k = 0 := by
  unfold cnt
  rw [List.count_eq_zero.2 (fun hm => by have := h _ hm; omega)]
  rfl
theorem cnt_app_same (vs : List Int) (k : Nat) : cnt (vs ++ [(k : Int)]) k = cnt vs k + 1 := by simp [cnt, List.count_append]
theorem cnt_app_other {vs : List Int} {k j : Nat} (h : j ≠ k) : cnt (vs ++ [(k : Int)]) j = cnt vs j := by
  have : ((k : Int) == (j : Int)) = false := by simp; omega
  simp [cnt, List.count_append, List.count_cons, this]
def cntL (m : Nat) (vs : List Int) : List Int := (List.range m).map (cnt vs)
theorem cntL_len (m : Nat) (vs : List Int) : (cntL m vs).length = m := by simp [cntL]
theorem cntL_get {m k : Nat} (vs : List Int) (h : k < m) : (cntL m vs).getD k 0 = cnt vs k := by
  simp [cntL, List.getD_eq_getElem?_getD, h]
theorem cntL_push {m k : Nat} (vs : List Int) (h : k < m) : (cntL m vs).set k (cnt vs k + 1) = cntL m (vs ++ [(k : Int)]) := by
  apply List.ext_getElem
  · simp [cntL]
  · intro i h1 h2
    simp [cntL] at h1
    rw [List.getElem_set]
    by_cases e : k = i
    · subst e
      simp [cntL, cnt_app_same]
    · rw [if_neg e]
      simp only [cntL, List.getElem_map, List.getElem_range]
      exact (cnt_app_other (Ne.symm e)).symm
theorem cntL_zero (m : Nat) : cntL m [] = List.replicate m 0 := by
  apply List.ext_getElem
  · simp [cntL]
  · intro i h1 h2
    simp [cntL, cnt]
def sBest (c : Nat → Int) : Nat → Int
  | 0 => -1
  | k + 1 => if 0 < c k ∧ (sBest c k < 0 ∨ c (sBest c k).toNat < c k) then (k : Int) else sBest c k
def iBest (c : Nat → Int) : Nat → Nat
  | 0 => 0
  | k + 1 => if c (iBest c k) < c k then k else iBest c k
theorem sBest_yes {c : Nat → Int} {k : Nat} (h : 0 < c k) (h2 : sBest c k < 0 ∨ c (sBest c k).toNat < c k) : sBest c (k + 1) = (k : Int) := by rw [sBest, if_pos ⟨h, h2⟩]
theorem sBest_no {c : Nat → Int} {k : Nat} (h : ¬ (0 < c k ∧ (sBest c k < 0 ∨ c (sBest c k).toNat < c k))) : sBest c (k + 1) = sBest c k := by rw [sBest, if_neg h]
theorem sBest_bd (c : Nat → Int) : ∀ k, -1 ≤ sBest c k ∧ sBest c k < (k : Int)
  | 0 => by simp [sBest]
  | k + 1 => by
    have := sBest_bd c k
    rw [sBest]
    split <;> omega
theorem iBest_yes {c : Nat → Int} {k : Nat} (h : c (iBest c k) < c k) : iBest c (k + 1) = k := by rw [iBest, if_pos h]
theorem iBest_no {c : Nat → Int} {k : Nat} (h : ¬ c (iBest c k) < c k) : iBest c (k + 1) = iBest c k := by rw [iBest, if_neg h]
theorem iBest_bd (c : Nat → Int) : ∀ k, iBest c (k + 1) ≤ k
  | 0 => by simp [iBest]
  | k + 1 => by
    have := iBest_bd c k
    rw [iBest]
    split <;> omega
theorem best_both {c : Nat → Int} (h : ∀ k, 0 ≤ c k) : ∀ k, (sBest c k = -1 ∧ iBest c k = 0 ∧ ∀ j, j < k → c j = 0) ∨ (sBest c k = (iBest c k : Int) ∧ 0 < c (iBest c k))
  | 0 => .inl ⟨rfl, rfl, fun j hj => absurd hj (by omega)⟩
  | k + 1 => by
    rcases best_both h k with ⟨h1, h2, h3⟩ | ⟨h1, h2⟩
    · by_cases hk : 0 < c k
      · right
        have h4 : iBest c (k + 1) = k := by
          rcases Nat.eq_zero_or_pos k with h0 | h0
          · subst h0; rw [iBest]; split <;> simp_all
          · exact iBest_yes (by rw [h2, h3 0 h0]; exact hk)
        rw [sBest_yes hk (.inl (by omega)), h4]
        exact ⟨rfl, hk⟩
      · left
        have hk0 : c k = 0 := by have := h k; omega
        refine ⟨by rw [sBest_no (by omega)]; exact h1, by rw [iBest_no (by rw [h2, hk0]; have := h 0; omega)]; exact h2, fun j hj => ?_⟩
        rcases Nat.lt_or_ge j k with h5 | h5
        · exact h3 j h5
        · obtain rfl : j = k := by omega
          exact hk0
    · right
      by_cases hk : c (iBest c k) < c k
      · rw [iBest_yes hk, sBest_yes (by omega) (.inr (by rw [h1]; exact hk))]
        exact ⟨rfl, by omega⟩
      · rw [iBest_no hk, sBest_no (by rw [h1]; simp; omega)]
        exact ⟨h1, h2⟩
theorem iBest_stop {c : Nat → Int} (h : ∀ k, 0 ≤ c k) {ln : Nat} (h0 : ∀ j, ln ≤ j → c j = 0) : ∀ d, iBest c (ln + d) = iBest c ln
  | 0 => rfl
  | d + 1 => by
    rw [← Nat.add_assoc, iBest_no (by rw [h0 (ln + d) (by omega)]; have := h (iBest c (ln + d)); omega)]
    exact iBest_stop h h0 d
/-- Both ways of telling the level. -/
theorem best_end {c : Nat → Int} (h : ∀ k, 0 ≤ c k) {ln : Nat} (h1 : 1 ≤ ln) (h4 : ln ≤ 4) (h0 : ∀ j, ln ≤ j → c j = 0) : (sBest c ln = -1 ∧ ¬ 0 < c (iBest c 4)) ∨ (sBest c ln = (iBest c 4 : Int) ∧ 0 < c (iBest c 4)) := by
  have e : iBest c 4 = iBest c ln := by
    have := iBest_stop h h0 (4 - ln)
    rwa [show ln + (4 - ln) = 4 by omega] at this
  rw [e]
  rcases best_both h ln with ⟨a1, a2, a3⟩ | ⟨a1, a2⟩
  · left; exact ⟨a1, by rw [a2, a3 0 h1]; omega⟩
  · right; exact ⟨a1, a2⟩
set_option maxRecDepth 20000 in
set_option maxHeartbeats 8000000 in
theorem sLevel (nm : ByteArray) (kd p pw po : Int) (sa : Option Addr) (sn sc co : Nat) (la : Option Addr) (ln lc : Nat) (R C gn gc : Nat) (ga : Option Addr) (gs : List Int) (w : World) (h : Rd w ga gn gs) (hn : gn ≤ 40000) (hc : gn ≤ gc) (hgn : gn = R * C) (hC : C = 15 + 11 * (co + 2)) (hco : co ≤ 8) (hl1 : 1 ≤ ln) (hl4 : ln ≤ 4) :
    Calls Try.prog 52 #[.agg #[.string nm, .int .i64 kd, .int .i64 p, .int .i64 pw, .int .i64 po, .slice sa sn sc, .int .i64 (co : Int), .slice la ln lc], .agg #[.int .i64 (R : Int), .int .i64 (C : Int), .slice ga gn gc]] w fun e w' => e = .returned (.int .i64 (sBest (cnt (lvI gs C co ln R)) ln)) ∧ Below w.heap.size w w' := by
  have hC1 : 1 ≤ C := by omega
  have hR4 : R ≤ 40000 := by have : R * 1 ≤ R * C := Nat.mul_le_mul_left _ hC1; omega
  have HK : Hid ((C - 15) / 11 = co + 2) := by unfold Hid; omega
  have hmk := make_ints ln (by omega)
  have HH := Lib.hid h
  have HG := Lib.hid hgn
  obtain ⟨c, hc⟩ : ∃ c, cnt (lvI gs C co ln R) = c := ⟨_, rfl⟩
  rw [hc]
  have HCe := Lib.hid hc
  clear h hgn hC hc
  go_enter Try.func52, Try.ntmps52
  go_wp2
  clear hmk
  obtain ⟨W, hW⟩ : ∃ W : World, ((w.alloc (.cells #[.string nm, .int .i64 kd, .int .i64 p, .int .i64 pw, .int .i64 po, .slice sa sn sc, .int .i64 (co : Int), .slice la ln lc] 34)).alloc (.cells #[.int .i64 (R : Int), .int .i64 (C : Int), .slice ga gn gc] 29)).alloc (.cells (vals (List.replicate ln 0)) 2) = W := ⟨_, rfl⟩
  have HKF : Hid (Blk W w.heap.size 34 #[.string nm, .int .i64 kd, .int .i64 p, .int .i64 pw, .int .i64 po, .slice sa sn sc, .int .i64 (co : Int), .slice la ln lc]) := by rw [← hW]; exact ((Blk.new w 34 _).alloc _).alloc _
  have HKG : Hid (Blk W (w.heap.size + 1) 29 #[.int .i64 (R : Int), .int .i64 (C : Int), .slice ga gn gc]) := by
    rw [← hW]
    have := (Blk.new (w.alloc (.cells #[.string nm, .int .i64 kd, .int .i64 p, .int .i64 pw, .int .i64 po, .slice sa sn sc, .int .i64 (co : Int), .slice la ln lc] 34)) 29 #[.int .i64 (R : Int), .int .i64 (C : Int), .slice ga gn gc]).alloc (.cells (vals (List.replicate ln 0)) 2)
    simp only [World.size_alloc] at this
    exact this
  have HL0 : Hid (Blk W (w.heap.size + 2) 2 (vals (cntL ln (lvI gs C co ln 2)))) := by
    have e : lvI gs C co ln 2 = [] := by rw [show (2 : Nat) = 1 + 1 by rfl, lvI_no (by omega), show (1 : Nat) = 0 + 1 by rfl, lvI_no (by omega)]; rfl
    unfold Hid
    rw [e, cntL_zero, ← hW]
    have := Blk.new ((w.alloc (.cells #[.string nm, .int .i64 kd, .int .i64 p, .int .i64 pw, .int .i64 po, .slice sa sn sc, .int .i64 (co : Int), .slice la ln lc] 34)).alloc (.cells #[.int .i64 (R : Int), .int .i64 (C : Int), .slice ga gn gc] 29)) 2 (vals (List.replicate ln 0))
    simp only [World.size_alloc] at this
    exact this
  have HBW : Hid (Below w.heap.size w W) := by rw [← hW]; unfold Hid; repeat' (first | (with_reducible exact Below.refl _ _) | (with_reducible assumption) | (with_reducible refine Below.alloc ?_ ?_ _) | (with_reducible refine Below.setCell ?_ ?_ _) | (with_reducible refine Below.drew ?_) | (with_reducible refine below_drewN ?_ _) | (with_reducible refine below_via (by with_reducible assumption) ?_ ?_) | go_size)
  have HWs : Hid (W.heap.size = w.heap.size + 3) := by unfold Hid; rw [← hW]; simp
  rw [hW]
  clear hW
  go_loopw [6] (fun i wr => ∃ r : Nat, r ≤ R + 2 ∧ r % 3 = 2 ∧ i = .int .i64 (r : Int) ∧ Hid (Blk wr (w.heap.size + 2) 2 (vals (cntL ln (lvI gs C co ln r)))) ∧ Hid (W.grownBy wr (some (w.heap.size + 2)))) (fun i _ => R + 3 - (intOf i).toNat)
  case atStart => exact ⟨2, by omega, rfl, rfl, HL0.out, World.grownBy.refl _ _⟩
  case round =>
    clear HL0
    obtain ⟨r, hr, hr3, rfl, HL, HGr⟩ := hrel
    obtain ⟨wo, rfl⟩ : ∃ wo : World, wo = wr := ⟨_, rfl⟩
    have hzo : w.heap.size + 2 < wo.heap.size := HL.out.lt
    have HBo : Hid (Below w.heap.size w wo) := HBW.out.grown HGr.out (by have := HWs.out; omega) (fun j e => by injection e with e; omega)
    have HKF2 : Hid (Blk wo w.heap.size 34 #[.string nm, .int .i64 kd, .int .i64 p, .int .i64 pw, .int .i64 po, .slice sa sn sc, .int .i64 (co : Int), .slice la ln lc]) := (HGr.out.block w.heap.size HKF.out.lt (by simp)).trans HKF.out
    have HKG2 : Hid (Blk wo (w.heap.size + 1) 29 #[.int .i64 (R : Int), .int .i64 (C : Int), .slice ga gn gc]) := (HGr.out.block (w.heap.size + 1) HKG.out.lt (by simp)).trans HKG.out
    have hzo0 : w.heap.size < wo.heap.size := by omega
    have hzo1 : w.heap.size + 1 < wo.heap.size := by omega
    have a0 : wo.cell? ⟨w.heap.size, 0, none⟩ = some (.string nm) := HKF2.out.cell 0
    have a1 : wo.cell? ⟨w.heap.size, 1, none⟩ = some (.int .i64 kd) := HKF2.out.cell 1
    have a2 : wo.cell? ⟨w.heap.size, 2, none⟩ = some (.int .i64 p) := HKF2.out.cell 2
    have a3 : wo.cell? ⟨w.heap.size, 3, none⟩ = some (.int .i64 pw) := HKF2.out.cell 3
    have a4 : wo.cell? ⟨w.heap.size, 4, none⟩ = some (.int .i64 po) := HKF2.out.cell 4
    have a5 : wo.cell? ⟨w.heap.size, 5, none⟩ = some (.slice sa sn sc) := HKF2.out.cell 5
    have a6 : wo.cell? ⟨w.heap.size, 6, none⟩ = some (.int .i64 (co : Int)) := HKF2.out.cell 6
    have a7 : wo.cell? ⟨w.heap.size, 7, none⟩ = some (.slice la ln lc) := HKF2.out.cell 7
    have b0 : wo.cell? ⟨w.heap.size + 1, 0, none⟩ = some (.int .i64 (R : Int)) := HKG2.out.cell 0
    have b1 : wo.cell? ⟨w.heap.size + 1, 1, none⟩ = some (.int .i64 (C : Int)) := HKG2.out.cell 1
    have b2 : wo.cell? ⟨w.heap.size + 1, 2, none⟩ = some (.slice ga gn gc) := HKG2.out.cell 2
    by_cases hlt : r < R
    · obtain ⟨v, hv⟩ : ∃ v, lvV gs C co r = v := ⟨_, rfl⟩
      have HV := Lib.hid hv
      have HVl : Hid ((gVal gs C r).length = co + 2) := by unfold Hid; rw [gVal_len, HK.out]
      obtain ⟨n2, hn2⟩ : ∃ n2, co + 2 = n2 := ⟨_, rfl⟩
      obtain ⟨n1, hn1⟩ : ∃ n1, co + 1 = n1 := ⟨_, rfl⟩
      have hx1 : (co : Int) + 1 = (n1 : Int) := by omega
      have hx2 : (n1 : Int) < (n2 : Int) := by omega
      have hx3 : (0 : Int) ≤ (n1 : Int) := by omega
      have hx4 : IntKind.i64.wrap (n1 : Int) = (n1 : Int) := by rw [IntKind.wrap_i64]; omega
      have hx5 : IntKind.i64.wrap ((co : Int) + 1) = (n1 : Int) := by rw [hx1]; exact hx4
      have HK2 : Hid ((C - 15) / 11 = n2) := HK.out.trans hn2
      have HN1 := Lib.hid hn1
      have hn20 : n1 < n2 := by omega
      clear hv hn2 hn1
      go_wp2_with fail
      go_cut [7] from 14 to 38 (fun x wx => x = .int .i64 v ∧ Hid (Below wo.heap.size wo wx))
      case first =>
        go_region_with ((go_at_call 77; refine (sValues R C gn gc r ga gs _ (HH.out.below (HBo.out.trans (Below.mono (show Below wo.heap.size wo _ by repeat' (first | (with_reducible exact Below.refl _ _) | (with_reducible assumption) | (with_reducible refine Below.alloc ?_ ?_ _) | (with_reducible refine Below.setCell ?_ ?_ _) | (with_reducible refine Below.drew ?_) | (with_reducible refine below_drewN ?_ _) | (with_reducible refine below_via (by with_reducible assumption) ?_ ?_) | go_size)) (by omega)))) hn hc HG.out hlt hC1).mono ?_; rintro e w' ⟨qa, qc, rfl, ho, hb⟩; rw [HK2.out] at ho ⊢; obtain ⟨bq, oq, rfl, _, hcq⟩ := (own_rdI ho).1.2 (by omega); have hcx : w'.cell? ⟨bq, oq + n1, none⟩ = some (.int .i64 v) := (by rw [hcq n1 (by omega), ← HV.out, ← HN1.out]; rfl); clear hcq; have p6 : w'.cell? ⟨w.heap.size, 6, none⟩ = some (.int .i64 (co : Int)) := (hb.cell (p := ⟨w.heap.size, 6, none⟩) hzo0).trans a6; have HBq := Lib.hid hb; clear hb ho))
        all_goals
          go_wp2_with fail
          go_meet
          case rel => exact ⟨rfl, (by have hb := HBq.out; unfold Hid; repeat' (first | (with_reducible exact Below.refl _ _) | (with_reducible assumption) | (with_reducible refine Below.alloc ?_ ?_ _) | (with_reducible refine Below.setCell ?_ ?_ _) | (with_reducible refine Below.drew ?_) | (with_reducible refine below_drewN ?_ _) | (with_reducible refine below_via (by with_reducible assumption) ?_ ?_) | go_size))⟩
      obtain ⟨rfl, hcb⟩ := hcut
      obtain ⟨w2, rfl⟩ : ∃ w2 : World, w2 = wc := ⟨_, rfl⟩
      have hb2 := hcb.out
      have HL2 := Lib.hid (HL.out.keep hb2)
      have HG2 : Hid (W.grownBy w2 (some (w.heap.size + 2))) := only_below HGr.out hb2
      clear hcb hb2 HL HGr HKF2 HKG2 a0 a1 a2 a3 a4 a5 a6 a7 b0 b1 b2 HBo
      cases hin : inB v 0 ((ln : Int) - 1)
      · have HN : Hid (lvI gs C co ln (r + 3) = lvI gs C co ln r) := by
          unfold Hid
          rw [lvI_three hr3, lvI_no (by rw [HV.out, hin]; simp)]
        go_wp2_with (go_at_call 35; refine (sIn _ _ _ _).mono ?_; rintro e w' ⟨rfl, rfl⟩)
        go_roundw
        case rel => exact ⟨r + 3, by omega, by omega, by go_num, by rw [HN.out]; exact HL2.out, HG2.out⟩
        case measure => simp [intOf]; omega
      · obtain ⟨v0, v1⟩ := inB_iff.1 hin
        obtain ⟨k, rfl⟩ := Int.eq_ofNat_of_zero_le v0
        have hk : k < ln := by omega
        have HN : Hid (lvI gs C co ln (r + 3) = lvI gs C co ln r ++ [(k : Int)]) := by
          unfold Hid
          rw [lvI_three hr3, lvI_yes hr3 (by rw [HV.out]; exact hin), HV.out]
        have hy : w2.cell? ⟨w.heap.size + 2, k, none⟩ = some (.int .i64 (cnt (lvI gs C co ln r) k)) := by
          rw [HL2.out.cell, vals_get _ _ (by rw [cntL_len]; exact hk), cntL_get _ hk]
        have hz : w2.frozen? ⟨w.heap.size + 2, k, none⟩ = false := HL2.out.frozen k
        have g1 := cnt_nn (lvI gs C co ln r) k
        have g2 := cnt_le (lvI gs C co ln r) k
        have g3 := lvI_len gs C co ln r
        obtain ⟨q, hq⟩ : ∃ q, cnt (lvI gs C co ln r) k = q := ⟨_, rfl⟩
        rw [hq] at hy g1 g2
        have g4 : q ≤ 40010 := by omega
        have hkI : (k : Int) < (ln : Int) := by omega
        have HS : Hid (Blk (w2.setCell ⟨w.heap.size + 2, k, none⟩ (.int .i64 (q + 1))) (w.heap.size + 2) 2 (vals (cntL ln (lvI gs C co ln (r + 3))))) := by
          have := HL2.out.set_ k (.int .i64 (q + 1))
          rw [vals_set, ← hq, cntL_push _ hk, ← HN.out, hq] at this
          exact this
        have HG3 : Hid (W.grownBy (w2.setCell ⟨w.heap.size + 2, k, none⟩ (.int .i64 (q + 1))) (some (w.heap.size + 2))) := only_setCell HG2.out _
        clear g2 g3 hq HL2 HG2
        go_wp2_with (go_at_call 35; refine (sIn _ _ _ _).mono ?_; rintro e w' ⟨rfl, rfl⟩)
        go_roundw
        case rel => exact ⟨r + 3, by omega, by omega, by go_num, HS.out, HG3.out⟩
        case measure => simp [intOf]; omega
    · have HE : Hid (lvI gs C co ln r = lvI gs C co ln R) := lvI_end hr3 (by omega) hr
      have hge : (R : Int) ≤ (r : Int) := by omega
      have HL3 : Hid (Blk wo (w.heap.size + 2) 2 (vals (cntL ln (lvI gs C co ln R)))) := by unfold Hid; rw [← HE.out]; exact HL.out
      have HCl : Hid (∀ k, k < ln → (cntL ln (lvI gs C co ln R)).getD k 0 = c k) := fun k hk => by rw [cntL_get _ hk, HCe.out]
      clear HL a0 a1 a2 a3 a4 a5 a6 a7 b1 b2 HKF2 HKG2
      go_wp2
      go_loopw [8, 9] (fun q i wr => ∃ k : Nat, k ≤ ln ∧ i = .int .i64 (k : Int) ∧ q = .int .i64 (sBest c k) ∧ Hid (Blk wr (w.heap.size + 2) 2 (vals (cntL ln (lvI gs C co ln R)))) ∧ Hid (Below w.heap.size w wr)) (fun _ i _ => ln - (intOf i).toNat)
      case atStart => exact ⟨0, Nat.zero_le _, rfl, rfl, HL3.out, HBo.out⟩
      case round =>
        clear HL3 HBo b0
        obtain ⟨k, hk, rfl, rfl, HL, HB⟩ := hrel
        by_cases hlk : k < ln
        · have hkI : (k : Int) < (ln : Int) := by omega
          have hx : wr.cell? ⟨w.heap.size + 2, k, none⟩ = some (.int .i64 (c k)) := by
            rw [HL.out.cell, vals_get _ _ (by rw [cntL_len]; exact hlk), HCl.out k hlk]
          obtain ⟨x, hxe⟩ : ∃ x, c k = x := ⟨_, rfl⟩
          rw [hxe] at hx
          obtain ⟨s1, s2⟩ := sBest_bd c k
          by_cases hpos : 0 < x
          · have dpos : decide (0 < x) = true := by simpa using hpos
            by_cases hneg : sBest c k < 0
            · have HE2 : Hid (sBest c (k + 1) = (k : Int)) := sBest_yes (by rw [hxe]; exact hpos) (.inl hneg)
              obtain ⟨s, hs⟩ : ∃ s, sBest c k = s := ⟨_, rfl⟩
              rw [hs] at hneg ⊢
              have dneg : decide (s < 0) = true := by simpa using hneg
              clear hs hxe s1 s2
              go_wp2_with fail
              go_quiet (fail)
              go_wp2
              go_roundw
              case rel => exact ⟨k + 1, by omega, by go_num, by rw [HE2.out], HL.out, below_drewN HB.out _⟩
              case measure => simp [intOf]; omega
            · obtain ⟨b, hb⟩ := Int.eq_ofNat_of_zero_le (show 0 ≤ sBest c k by omega)
              have hbl : b < ln := by omega
              have hbI : (b : Int) < (ln : Int) := by omega
              have hy : wr.cell? ⟨w.heap.size + 2, b, none⟩ = some (.int .i64 (c b)) := by
                rw [HL.out.cell, vals_get _ _ (by rw [cntL_len]; exact hbl), HCl.out b hbl]
              obtain ⟨y, hye⟩ : ∃ y, c b = y := ⟨_, rfl⟩
              rw [hye] at hy
              have dneg : decide ((b : Int) < 0) = false := by simp
              by_cases hcmp : y < x
              · have HE2 : Hid (sBest c (k + 1) = (k : Int)) := sBest_yes (by rw [hxe]; exact hpos) (.inr (by rw [hb, Int.toNat_natCast, hye, hxe]; exact hcmp))
                have dcmp : decide (y < x) = true := by simpa using hcmp
                rw [hb]
                clear hb hxe hye s1 s2 hneg
                go_wp2_with fail
                go_quiet (fail)
                go_wp2
                go_roundw
                case rel => exact ⟨k + 1, by omega, by go_num, by rw [HE2.out], HL.out, below_drewN HB.out _⟩
                case measure => simp [intOf]; omega
              · have HE2 : Hid (sBest c (k + 1) = (b : Int)) := by
                  unfold Hid
                  rw [sBest_no (by rw [hb, Int.toNat_natCast, hye, hxe]; omega), hb]
                have dcmp : decide (y < x) = false := by simpa using hcmp
                rw [hb]
                clear hb hxe hye s1 s2 hneg
                go_wp2_with fail
                go_quiet (fail)
                go_wp2
                go_roundw
                case rel => exact ⟨k + 1, by omega, by go_num, by rw [HE2.out], HL.out, below_drewN HB.out _⟩
                case measure => simp [intOf]; omega
          · have HE2 : Hid (sBest c (k + 1) = sBest c k) := sBest_no (by rw [hxe]; omega)
            obtain ⟨s, hs⟩ : ∃ s, sBest c k = s := ⟨_, rfl⟩
            rw [hs] at HE2 ⊢
            have dpos : decide (0 < x) = false := by simpa using hpos
            clear hs hxe s1 s2
            go_wp2_with fail
            go_quiet (fail)
            go_wp2
            go_roundw
            case rel => exact ⟨k + 1, by omega, by go_num, by rw [HE2.out], HL.out, below_drewN HB.out _⟩
            case measure => simp [intOf]; omega
        · have hke : k = ln := by omega
          have HKe := Lib.hid hke
          have hkI : (ln : Int) ≤ (k : Int) := by omega
          clear hke
          go_wp2
          go_returns
          exact ⟨ret_int (by rw [HKe.out]), HB.out⟩
end Go.Proofs.Ytenelpollcabnaa
