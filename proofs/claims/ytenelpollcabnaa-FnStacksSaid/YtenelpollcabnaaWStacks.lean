/-
  DERIVED. The walk of FnStacks.
-/
import Derived.Test.YtenelpollcabnaaGrdR
import Derived.Test.YtenelpollcabnaaGrdL
import Derived.Test.YtenelpollcabnaaDStG
import Derived.Test.YtenelpollcabnaaStkR
import Derived.Test.YtenelpollcabnaaFamQ
import Derived.Test.YtenelpollcabnaaLikQ
namespace Go.Proofs.Ytenelpollcabnaa
open Go.RowKit
set_option linter.unusedVariables false
theorem own_capsT {w : World} {base n c m : Nat} {t : TypeId} {a : Option Addr} {xs : List Value} (h : w.ownsRow base t m (.slice a n c) n xs) : n ≤ c ∧ c ≤ maxLen := by
  rcases h.2 with ⟨hv, h0⟩ | ⟨g, cap, cur, hv, hg, hh, h1, h2, _⟩
  · injection hv with _ _ e
    unfold maxLen
    omega
  · injection hv with _ _ e
    omega
/-- A drawn symbol whose grid is there. -/
def StkGood (f : FamR) (sz lv : Int) (en : Nat) (els : List Int) (R C : Int) (L : List Int) : Prop := ∃ co r l : Nat, f.col = (co : Int) ∧ sz = (r : Int) ∧ lv = (l : Int) ∧ stkB f.nm f.kd f.p f.q f.r f.sn f.zs (co : Int) f.ln f.ls = true ∧ hasB f.zs (r : Int) f.sn = true ∧ l < f.ln ∧ f.ln ≤ 4 ∧ en = r * co ∧ (∀ x ∈ els, 0 ≤ x ∧ x ≤ 31) ∧ 3 ≤ r ∧ r ≤ 24 ∧ 1 ≤ co ∧ co ≤ 8 ∧ R = (r : Int) ∧ C = ((15 + 11 * (co + 2) : Nat) : Int) ∧ L = gridTo els co r l r
theorem stk_case (f : FamR) (sz lv : Int) (ea : Option Addr) (en ec : Nat) (els : List Int) (hnm : f.nm.size ≤ 100) (hsn : f.sn ≤ 10) (hln : f.ln ≤ 10) (hen : en ≤ 301) (hec : en ≤ ec) : ∃ (R C : Int) (L : List Int) (code : Int),
    (∀ (W : World), Rd W f.sa f.sn f.zs → Rd W f.la f.ln f.ls → Rd W ea en els → Calls Try.prog 10 #[.agg #[.string f.nm, .int .i64 f.kd, .int .i64 f.p, .int .i64 f.q, .int .i64 f.r, .slice f.sa f.sn f.sc, .int .i64 f.col, .slice f.la f.ln f.lc], .int .i64 sz, .int .i64 lv, .slice ea en ec] W (ResG W R C L code)) ∧
    (∀ (W : World), Rd W f.sa f.sn f.zs → Rd W f.la f.ln f.ls → Rd W ea en els → Calls Try.prog 7 #[.agg #[.string f.nm, .int .i64 f.kd, .int .i64 f.p, .int .i64 f.q, .int .i64 f.r, .slice f.sa f.sn f.sc, .int .i64 f.col, .slice f.la f.ln f.lc], .int .i64 sz, .int .i64 lv, .slice ea en ec] W (ResG W R C L code)) ∧
    (code ≠ 0 ∨ (code = 0 ∧ StkGood f sz lv en els R C L)) := by
  cases hk : stkB f.nm f.kd f.p f.q f.r f.sn f.zs f.col f.ln f.ls
  · exact ⟨0, 0, [], 1, fun W h1 h2 h3 => iSG_fam f.nm f.kd f.p f.q f.r f.sa f.sn f.sc f.col f.la f.ln f.lc f.zs f.ls sz lv ea en ec els W (by unfold maxLen; omega) h1 (by omega) h2 (by omega) hk, fun W h1 h2 h3 => sSG_fam f.nm f.kd f.p f.q f.r f.sa f.sn f.sc f.col f.la f.ln f.lc f.zs f.ls sz lv ea en ec els W (by unfold maxLen; omega) h1 (by omega) h2 (by omega) hk, .inl (by omega)⟩
  cases hr : (hasB f.zs sz f.sn && inB lv 0 ((f.ln : Int) - 1))
  · exact ⟨0, 0, [], 2, fun W h1 h2 h3 => iSG_rng f.nm f.kd f.p f.q f.r f.sa f.sn f.sc f.col f.la f.ln f.lc f.zs f.ls sz lv ea en ec els W (by unfold maxLen; omega) h1 (by omega) h2 (by omega) hk hr, fun W h1 h2 h3 => sSG_rng f.nm f.kd f.p f.q f.r f.sa f.sn f.sc f.col f.la f.ln f.lc f.zs f.ls sz lv ea en ec els W (by unfold maxLen; omega) h1 (by omega) h2 (by omega) hk hr, .inl (by omega)⟩
  obtain ⟨h3, h4⟩ := Bool.and_eq_true_iff.1 hr
  by_cases hne : (en : Int) = sz * f.col
  case neg => exact ⟨0, 0, [], 3, fun W h1 h2 h3y => iSG_lim f.nm f.kd f.p f.q f.r f.sa f.sn f.sc f.col f.la f.ln f.lc f.zs f.ls sz lv ea en ec els W (by unfold maxLen; omega) h1 (by omega) h2 (by omega) hk h3 h4 (by omega) hne, fun W h1 h2 h3y => sSG_lim f.nm f.kd f.p f.q f.r f.sa f.sn f.sc f.col f.la f.ln f.lc f.zs f.ls sz lv ea en ec els W (by unfold maxLen; omega) h1 (by omega) h2 (by omega) hk h3 h4 (by omega) hne, .inl (by omega)⟩
  cases ha : els.all (fun x => inB x 0 31)
  · exact ⟨0, 0, [], 5, fun W h1 h2 h3y => iSG_sta f.nm f.kd f.p f.q f.r f.sa f.sn f.sc f.col f.la f.ln f.lc f.zs f.ls sz lv ea en ec els W (by unfold maxLen; omega) h1 (by omega) h2 (by omega) hk h3 h4 (by omega) hne h3y ha, fun W h1 h2 h3y => sSG_sta f.nm f.kd f.p f.q f.r f.sa f.sn f.sc f.col f.la f.ln f.lc f.zs f.ls sz lv ea en ec els W (by unfold maxLen; omega) h1 (by omega) h2 (by omega) hk h3 h4 (by omega) hne h3y ha, .inl (by omega)⟩
  obtain ⟨z1, z2⟩ := stk_size hk h3
  obtain ⟨-, c1, c8⟩ := stk_col hk
  obtain ⟨l0, l1⟩ := inB_iff.1 h4
  have hl4 := stk_lv hk
  obtain ⟨co, hco⟩ := Int.eq_ofNat_of_zero_le (show 0 ≤ f.col by omega)
  obtain ⟨r, rfl⟩ := Int.eq_ofNat_of_zero_le (show 0 ≤ sz by omega)
  obtain ⟨l, rfl⟩ := Int.eq_ofNat_of_zero_le l0
  rw [hco] at hk hne c1 c8
  have hne2 : en = r * co := by
    have h5 : ((r * co : Nat) : Int) = (en : Int) := by rw [hne]; simp
    omega
  rw [hco]
  refine ⟨(r : Int), ((15 + 11 * (co + 2) : Nat) : Int), gridTo els co r l r, 0, fun W h1 h2 h3y => iSG_ok f.nm f.kd f.p f.q f.r f.sa f.sn f.sc co f.la f.ln f.lc f.zs f.ls r l ea en ec els W (by unfold maxLen; omega) h1 (by omega) h2 (by omega) hk h3 h4 hne2 hec h3y ha, fun W h1 h2 h3y => sSG_ok f.nm f.kd f.p f.q f.r f.sa f.sn f.sc co f.la f.ln f.lc f.zs f.ls r l ea en ec els W (by unfold maxLen; omega) h1 (by omega) h2 (by omega) hk h3 h4 hne2 hec h3y ha, .inr ⟨rfl, co, r, l, hco, rfl, rfl, hk, h3, by omega, hl4.2, hne2, fun x hx => ?_, by omega, by omega, by omega, by omega, rfl, rfl, rfl⟩⟩
  rw [List.all_eq_true] at ha
  exact inB_iff.1 (ha x hx)
set_option maxRecDepth 100000 in
set_option maxHeartbeats 8000000 in
theorem walk_FnStacks (code_a : Option Addr) (code_n code_c : Nat) (code_z : List Int) (w : World) (h_code : Ints .u8 w code_a code_n code_c code_z) :
    Calls Try.prog 5 #[.slice code_a code_n code_c] w fun e w' => e = .returned (.bool true) ∧ Below w.heap.size w w' := by
  have hmx := h_code.max
  have HBY := Lib.hid h_code.bytes
  clear h_code
  by_cases hbig : 4096 < code_n
  · have tb : decide ((4096 : Int) < (code_n : Int)) = true := by simp; omega
    go_enter Try.func5, Try.ntmps5
    go_wp2_with fail
    refine (lBig _ _ _ _ hmx).mono ?_
    rintro e w' ⟨rfl, rfl⟩
    rw [tb]
    go_wp2
    go_returns
    exact ⟨rfl, by repeat' (first | (with_reducible exact Below.refl _ _) | (with_reducible assumption) | (with_reducible refine Below.alloc ?_ ?_ _) | (with_reducible refine Below.setCell ?_ ?_ _) | (with_reducible refine Below.drew ?_) | (with_reducible refine below_drewN ?_ _) | (with_reducible refine below_via (by with_reducible assumption) ?_ ?_) | go_size)⟩
  have tb : decide ((4096 : Int) < (code_n : Int)) = false := by simp; omega
  go_enter Try.func5, Try.ntmps5
  go_wp2_with fail
  refine (lBig _ _ _ _ hmx).mono ?_
  rintro e w' ⟨rfl, rfl⟩
  rw [tb]
  clear tb
  go_wp2_with fail
  refine (dStG _ _ _ _ HBY.out (by omega)).mono ?_
  rintro e w0 ⟨f, sz, lv, ea, en, ec, els, rfl, hnm, s1, hsn, s2, hln, he, hen, hec, hb⟩
  obtain ⟨R, C, L, code, hI, hS, hcase⟩ := stk_case f sz lv ea en ec els hnm hsn hln hen hec
  have HI := Lib.hid hI
  have HS := Lib.hid hS
  have HCs := Lib.hid hcase
  clear hI hS hcase HBY
  obtain ⟨w1, hw1⟩ : ∃ W : World, W = w0.alloc (.cells #[.string f.nm, .int .i64 f.kd, .int .i64 f.p, .int .i64 f.q, .int .i64 f.r, .slice f.sa f.sn f.sc, .int .i64 f.col, .slice f.la f.ln f.lc] 34) := ⟨_, rfl⟩
  have hba : Below w0.heap.size w0 w1 := by rw [hw1]; exact (Below.refl _ _).alloc (Nat.le_refl _) _
  obtain ⟨b, hb0⟩ : ∃ b, b = w0.heap.size := ⟨_, rfl⟩
  have F1 : Hid (RowL w1 b f.cells) := by rw [hw1, hb0]; exact RowL.new w0 34 f.cells
  have S11 := Lib.hid (s1.below hba)
  have S21 := Lib.hid (s2.below hba)
  have E1 := Lib.hid (he.below hba)
  have HB1 : Hid (Below w.heap.size w w1) := hb.trans (hba.mono hb.size)
  have hb1 : b < w1.heap.size := F1.out.1
  have hwb : w.heap.size ≤ b := by have := hb.size; omega
  clear hba s1 s2 he hb
  obtain ⟨hf_, hr_⟩ := F1.out
  have c0 := (hr_ 0 _ rfl).1
  have c1 := (hr_ 1 _ rfl).1
  have c2 := (hr_ 2 _ rfl).1
  have c3 := (hr_ 3 _ rfl).1
  have c4 := (hr_ 4 _ rfl).1
  have c5 := (hr_ 5 _ rfl).1
  have c6 := (hr_ 6 _ rfl).1
  have c7 := (hr_ 7 _ rfl).1
  clear hr_
  go_wp2_with fail
  rw [← hw1, ← hb0]
  clear hw1 hb0
  go_wp2_with fail
  refine (HI.out _ S11.out S21.out E1.out).mono ?_
  rintro e w2 ⟨ga, gc, rfl, ho, hb, hLn⟩
  have hz2 := hb.size
  have O2 := Lib.hid ho
  clear ho hf_ c0 c1 c2 c3 c4 c5 c6 c7
  have F2 := Lib.hid (F1.out.keep hb)
  have S12 := Lib.hid (S11.out.below hb)
  have S22 := Lib.hid (S21.out.below hb)
  have E2 := Lib.hid (E1.out.below hb)
  have HB2 : Hid (Below w.heap.size w w2) := HB1.out.trans (hb.mono (by have := HB1.out.size; omega))
  clear F1 S11 S21 E1 HB1 hb
  obtain ⟨hf_, hr_⟩ := F2.out
  have c0 := (hr_ 0 _ rfl).1
  have c1 := (hr_ 1 _ rfl).1
  have c2 := (hr_ 2 _ rfl).1
  have c3 := (hr_ 3 _ rfl).1
  have c4 := (hr_ 4 _ rfl).1
  have c5 := (hr_ 5 _ rfl).1
  have c6 := (hr_ 6 _ rfl).1
  have c7 := (hr_ 7 _ rfl).1
  clear hr_
  obtain ⟨w3, hw3⟩ : ∃ W : World, W = w2.alloc (.cells #[.int .i64 R, .int .i64 C, .slice ga L.length gc] 29) := ⟨_, rfl⟩
  have hb : Below w2.heap.size w2 w3 := by rw [hw3]; exact (Below.refl _ _).alloc (Nat.le_refl _) _
  have hz3 : w2.heap.size < w3.heap.size := by rw [hw3]; simp
  have Q3 : Hid (Box3 w3 w2.heap.size (.int .i64 R) (.int .i64 C) (.slice ga L.length gc)) := by rw [hw3]; exact Box3.new _ _ _ _ _
  have hb2 : b < w2.heap.size := F2.out.1
  have F3 := Lib.hid (F2.out.keep hb)
  have S13 := Lib.hid (S12.out.below hb)
  have S23 := Lib.hid (S22.out.below hb)
  have E3 := Lib.hid (E2.out.below hb)
  have O3 := Lib.hid (ownN_below O2.out hb)
  have HB3 : Hid (Below w.heap.size w w3) := HB2.out.trans (hb.mono (by have := HB2.out.size; omega))
  clear F2 S12 S22 E2 O2 HB2 hb
  go_wp2_with fail
  rw [← hw3]
  clear hw3 hf_ c0 c1 c2 c3 c4 c5 c6 c7
  obtain ⟨hf_, hr_⟩ := F3.out
  have c0 := (hr_ 0 _ rfl).1
  have c1 := (hr_ 1 _ rfl).1
  have c2 := (hr_ 2 _ rfl).1
  have c3 := (hr_ 3 _ rfl).1
  have c4 := (hr_ 4 _ rfl).1
  have c5 := (hr_ 5 _ rfl).1
  have c6 := (hr_ 6 _ rfl).1
  have c7 := (hr_ 7 _ rfl).1
  clear hr_
  (try go_wp2_with fail)
  refine (HS.out _ S13.out S23.out E3.out).mono ?_
  rintro e w4 ⟨ma, mc, rfl, ho, hb, _⟩
  have hz4 := hb.size
  have M4 := Lib.hid ho
  clear ho hf_ c0 c1 c2 c3 c4 c5 c6 c7
  have F4 := Lib.hid (F3.out.keep hb)
  have S14 := Lib.hid (S13.out.below hb)
  have S24 := Lib.hid (S23.out.below hb)
  have E4 := Lib.hid (E3.out.below hb)
  have O4 := Lib.hid (ownN_below O3.out hb)
  have Q4 := Lib.hid (Q3.out.keep hb)
  have HB4 : Hid (Below w.heap.size w w4) := HB3.out.trans (hb.mono (by have := HB3.out.size; omega))
  clear F3 S13 S23 E3 O3 Q3 HB3 hb
  obtain ⟨w5, hw5⟩ : ∃ W : World, W = w4.alloc (.cells #[.int .i64 R, .int .i64 C, .slice ma L.length mc] 29) := ⟨_, rfl⟩
  have hb : Below w4.heap.size w4 w5 := by rw [hw5]; exact (Below.refl _ _).alloc (Nat.le_refl _) _
  have hz5 : w4.heap.size < w5.heap.size := by rw [hw5]; simp
  have V5 : Hid (Box3 w5 w4.heap.size (.int .i64 R) (.int .i64 C) (.slice ma L.length mc)) := by rw [hw5]; exact Box3.new _ _ _ _ _
  obtain ⟨q_, q0, q1, q2⟩ := Q4.out
  have F5 := Lib.hid (F4.out.keep hb)
  have S15 := Lib.hid (S14.out.below hb)
  have S25 := Lib.hid (S24.out.below hb)
  have E5 := Lib.hid (E4.out.below hb)
  have O5 := Lib.hid (ownN_below O4.out hb)
  have Q5 := Lib.hid (Q4.out.keep hb)
  have M5 := Lib.hid (ownN_below M4.out hb)
  have HB5 : Hid (Below w.heap.size w w5) := HB4.out.trans (hb.mono (by have := HB4.out.size; omega))
  clear F4 S14 S24 E4 O4 Q4 M4 HB4 hb
  go_wp2_with fail
  rw [← hw5]
  clear hw5 q_ q0 q1 q2
  obtain ⟨q_, q0, q1, q2⟩ := Q5.out
  obtain ⟨v_, v0, v1, v2⟩ := V5.out
  (try go_wp2_with fail)
  refine (lLikeG R C _ _ _ _ _ _ L _ (own_rd O5.out) (own_rd M5.out) (by omega)).mono ?_
  rintro e w6 ⟨rfl, hb⟩
  have hz6 := hb.size
  clear q_ q0 q1 q2 v_ v0 v1 v2
  have F6 := Lib.hid (F5.out.keep hb)
  have S16 := Lib.hid (S15.out.below hb)
  have S26 := Lib.hid (S25.out.below hb)
  have E6 := Lib.hid (E5.out.below hb)
  have O6 := Lib.hid (ownN_below O5.out hb)
  have Q6 := Lib.hid (Q5.out.keep hb)
  have HB6 : Hid (Below w.heap.size w w6) := HB5.out.trans (hb.mono (by have := HB5.out.size; omega))
  clear F5 S15 S25 E5 O5 Q5 HB5 hb
  by_cases hc0 : code = 0
  rotate_left
  · have t0 : (code != 0) = true := by simp [hc0]
    clear hc0
    go_wp2_with fail
    go_returns
    exact ⟨rfl, HB6.out⟩
  subst hc0
  rcases HCs.out with h | ⟨_, co, r, l, hco, rfl, rfl, hk, hh, hl, hl4, hne, hbd, r3, r24, co1, co8, rfl, rfl, rfl⟩
  · exact absurd rfl h
  have HCo := Lib.hid hco
  have HL : Hid ((gridTo els co r l r).length = r * (15 + 11 * (co + 2))) := gridTo_len hbd (by omega) (by omega) (by omega) (by rw [E6.out.1, hne]) r (Nat.le_refl _)
  have HLm : Hid (r * (15 + 11 * (co + 2)) ≤ 3000) := by
    have h6 : r * (15 + 11 * (co + 2)) ≤ 24 * 125 := Nat.mul_le_mul (by omega) (by omega)
    exact h6
  have HFl : Hid (flatP (gridTo els co r l r) (15 + 11 * (co + 2)) r = els) := flatP_all hbd (by omega) (by omega) (by omega) (by rw [E6.out.1, hne])
  have HLv : Hid (lvO (gridTo els co r l r) (15 + 11 * (co + 2)) co f.ln r = ((l : Int), 0)) := lvO_grid hbd (by omega) (by omega) (by omega) (by rw [E6.out.1, hne]) hl r3
  have HGb : Hid (gridB (r : Int) ((15 + 11 * (co + 2) : Nat) : Int) (gridTo els co r l r).length (gridTo els co r l r) = true) := by
    have hb3 := grid_bd els co r l r
    unfold Hid gridB
    rw [HL.out, inB_yes (by omega) (by omega), inB_yes (by omega) (by omega)]
    have h7 : (r : Int) * ((15 + 11 * (co + 2) : Nat) : Int) = ((r * (15 + 11 * (co + 2)) : Nat) : Int) := by simp
    rw [h7]
    have := HLm.out
    simp only [Bool.true_and, Bool.and_eq_true, decide_eq_true_eq, List.all_eq_true]
    exact ⟨by omega, trivial, fun x hx => inB_yes (by have := hb3 x hx; omega) (by have := hb3 x hx; omega)⟩
  have HO : Hid (stkO f.nm f.kd f.p f.q f.r f.sn f.zs (co : Int) f.ln f.ls (r : Int) ((15 + 11 * (co + 2) : Nat) : Int) (gridTo els co r l r).length (gridTo els co r l r) = 0) := by
    unfold Hid stkO
    have hc : ((15 + 11 * (co + 2) : Nat) : Int) = 15 + 11 * ((co : Int) + 2) := by omega
    rw [hk, HGb.out, hh, Bool.and_self, if_pos rfl, if_pos rfl, if_pos hc]
  have HSy : Hid (symO f.nm f.kd f.p f.q f.r f.sn f.zs (co : Int) f.ln f.ls (r : Int) ((15 + 11 * (co + 2) : Nat) : Int) (gridTo els co r l r).length (gridTo els co r l r) = ((r : Int), 0)) := by
    unfold Hid symO
    have hkd := (stk_col hk).1
    have hcz : (((15 + 11 * (co + 2) : Nat) : Int) == colsZ f.kd (co : Int) (r : Int)) = true := by
      unfold colsZ
      rw [if_neg (by omega)]
      simp
    rw [stk_fam hk, HGb.out, hh, hcz]
    rfl
  have HBd := Lib.hid hbd
  have HBg : Hid (∀ x ∈ gridTo els co r l r, -1 ≤ x ∧ x ≤ 1) := fun x hx => by have := grid_bd els co r l r x hx; omega
  obtain ⟨N, hN⟩ : ∃ N, (gridTo els co r l r).length = N := ⟨_, rfl⟩
  have HN : Hid (N = r * (15 + 11 * (co + 2))) := by unfold Hid; rw [← hN]; exact HL.out
  have hN3 : N ≤ 3000 := by have := HN.out; have := HLm.out; omega
  obtain ⟨gs, hgs⟩ : ∃ gs, gridTo els co r l r = gs := ⟨_, rfl⟩
  obtain ⟨M, hM⟩ : ∃ M, 15 + 11 * (co + 2) = M := ⟨_, rfl⟩
  have hgc := own_capsT O6.out
  rw [hM] at HN HFl HLv HGb HO HSy
  rw [hgs] at hN HFl HLv HGb HO HSy HBg hgc
  rw [hN] at HO HSy HGb hgc
  have GR6 : Hid (Rd w6 ga N gs) := by have h8 := own_rd O6.out; rw [hgs, hN] at h8; exact h8
  have Q6' : Hid (Box3 w6 w2.heap.size (.int .i64 (r : Int)) (.int .i64 (M : Int)) (.slice ga N gc)) := by have h8 := Q6.out; rw [hgs, hN, hM] at h8; exact h8
  rw [hgs, hN, hM]
  have HM := Lib.hid hM
  have hl1 : 1 ≤ f.ln := by omega
  have HNe := Lib.hid hne
  have HFS : Hid (f.cells = [.string f.nm, .int .i64 f.kd, .int .i64 f.p, .int .i64 f.q, .int .i64 f.r, .slice f.sa f.sn f.sc, .int .i64 (co : Int), .slice f.la f.ln f.lc]) := by unfold Hid FamR.cells; rw [hco]
  have F6' : Hid (RowL w6 b [.string f.nm, .int .i64 f.kd, .int .i64 f.p, .int .i64 f.q, .int .i64 f.r, .slice f.sa f.sn f.sc, .int .i64 (co : Int), .slice f.la f.ln f.lc]) := by have h8 := F6.out; rw [HFS.out] at h8; exact h8
  clear hco hk hh hbd HL HLm hgs hM HCs O6 Q6 F6 hN hne
  obtain ⟨q_, q0, q1, q2⟩ := Q6'.out
  obtain ⟨hf_, hr_⟩ := F6'.out
  have c0 := (hr_ 0 _ rfl).1
  have c1 := (hr_ 1 _ rfl).1
  have c2 := (hr_ 2 _ rfl).1
  have c3 := (hr_ 3 _ rfl).1
  have c4 := (hr_ 4 _ rfl).1
  have c5 := (hr_ 5 _ rfl).1
  have c6 := (hr_ 6 _ rfl).1
  have c7 := (hr_ 7 _ rfl).1
  clear hr_
  go_wp2_with fail
  refine (iSE_ok f.nm f.kd f.p f.q f.r f.sa f.sn f.sc co f.la f.ln f.lc f.zs f.ls r M ga N gc gs w6 (by unfold maxLen; omega) S16.out (by omega) S26.out (by omega) GR6.out (by omega) hgc.1 hgc.2 HO.out HM.out.symm co8 (by omega) HN.out HBg.out).mono ?_
  rintro e w7 ⟨xv, xu, rfl, hd, hb, -⟩
  rw [HFl.out, elV_same (fun x hx => (HBd.out x hx).1), negs_none (fun x hx => (HBd.out x hx).1)] at hd
  obtain ⟨xa, xc, rfl⟩ := ownN_shape hd.rowV
  obtain ⟨ua, uc, rfl⟩ := ownN_shape hd.rowU
  have X7 : Hid (Rd w7 xa els.length els) := own_rd hd.rowV
  have hz7 := hb.size
  have F7' := Lib.hid (F6'.out.keep hb)
  have Q7' := Lib.hid (Q6'.out.keep hb)
  have S17 := Lib.hid (S16.out.below hb)
  have S27 := Lib.hid (S26.out.below hb)
  have E7 := Lib.hid (E6.out.below hb)
  have GR7 := Lib.hid (GR6.out.below hb)
  have HB7 : Hid (Below w.heap.size w w7) := HB6.out.trans (hb.mono (by have := HB6.out.size; omega))
  clear hd hb F6' Q6' S16 S26 E6 GR6 HB6 q_ q0 q1 q2 hf_ c0 c1 c2 c3 c4 c5 c6 c7 HFl
  obtain ⟨q_, q0, q1, q2⟩ := Q7'.out
  obtain ⟨hf_, hr_⟩ := F7'.out
  have c0 := (hr_ 0 _ rfl).1
  have c1 := (hr_ 1 _ rfl).1
  have c2 := (hr_ 2 _ rfl).1
  have c3 := (hr_ 3 _ rfl).1
  have c4 := (hr_ 4 _ rfl).1
  have c5 := (hr_ 5 _ rfl).1
  have c6 := (hr_ 6 _ rfl).1
  have c7 := (hr_ 7 _ rfl).1
  clear hr_
  go_wp2_with fail
  refine (iSL_ok f.nm f.kd f.p f.q f.r f.sa f.sn f.sc co f.la f.ln f.lc f.zs f.ls r M ga N gc gs w7 (by unfold maxLen; omega) S17.out (by omega) S27.out (by omega) GR7.out (by omega) hgc.1 hgc.2 HO.out HM.out.symm co8 (by omega) HN.out HBg.out (l : Int) 0 HLv.out hl1 hl4).mono ?_
  rintro e w8 ⟨rfl, hb⟩
  have hz8 := hb.size
  have F8' := Lib.hid (F7'.out.keep hb)
  have Q8' := Lib.hid (Q7'.out.keep hb)
  have S18 := Lib.hid (S17.out.below hb)
  have S28 := Lib.hid (S27.out.below hb)
  have E8 := Lib.hid (E7.out.below hb)
  have X8 := Lib.hid (X7.out.below hb)
  have GR8 := Lib.hid (GR7.out.below hb)
  have HB8 : Hid (Below w.heap.size w w8) := HB7.out.trans (hb.mono (by have := HB7.out.size; omega))
  clear hb F7' Q7' S17 S27 E7 X7 GR7 HB7 q_ q0 q1 q2 hf_ c0 c1 c2 c3 c4 c5 c6 c7 HLv
  obtain ⟨q_, q0, q1, q2⟩ := Q8'.out
  obtain ⟨hf_, hr_⟩ := F8'.out
  have c0 := (hr_ 0 _ rfl).1
  have c1 := (hr_ 1 _ rfl).1
  have c2 := (hr_ 2 _ rfl).1
  have c3 := (hr_ 3 _ rfl).1
  have c4 := (hr_ 4 _ rfl).1
  have c5 := (hr_ 5 _ rfl).1
  have c6 := (hr_ 6 _ rfl).1
  have c7 := (hr_ 7 _ rfl).1
  clear hr_
  go_wp2_with fail
  refine (iSymSize f.nm f.kd f.p f.q f.r f.sa f.sn f.sc (co : Int) f.la f.ln f.lc f.zs f.ls (r : Int) (M : Int) ga N gc gs w8 (by unfold maxLen; omega) S18.out (by omega) S28.out (by omega) GR8.out (by omega) (r : Int) 0 HSy.out).mono ?_
  rintro e w9 ⟨rfl, hb⟩
  have hz9 := hb.size
  have E9 := Lib.hid (E8.out.below hb)
  have X9 := Lib.hid (X8.out.below hb)
  have HB9 : Hid (Below w.heap.size w w9) := HB8.out.trans (hb.mono (by have := HB8.out.size; omega))
  clear hb E8 X8 HB8 q_ q0 q1 q2 hf_ c0 c1 c2 c3 c4 c5 c6 c7 HSy HO
  have hxl : els.length ≤ 1048576 := by have := E9.out.1; omega
  go_wp2_with fail
  refine (lLike _ _ _ _ _ _ els _ X9.out E9.out hxl).mono ?_
  rintro e w10 ⟨rfl, hb⟩
  have HB10 : Hid (Below w.heap.size w w10) := HB9.out.trans (hb.mono (by have := HB9.out.size; omega))
  clear hb
  go_wp2_with fail
  go_returns
  exact ⟨rfl, HB10.out⟩
end Go.Proofs.Ytenelpollcabnaa
