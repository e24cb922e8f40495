/-
  DERIVED. GrdS, GrdI.
-/
import Derived.Test.YtenelpollcabnaaPntS
import Derived.Test.YtenelpollcabnaaBin
import Derived.Test.YtenelpollcabnaaResQ
import Derived.Test.YtenelpollcabnaaPntI
import Derived.Deep.AppendLies
import Derived.Deep.RegionLaw
namespace Go.Proofs.Ytenelpollcabnaa
open Go.RowKit
set_option linter.unusedVariables false
def rv (els : List Int) (co R lv r : Nat) : List Int := ([(r : Int)] ++ (els.drop (r * co)).take co) ++ [([(R : Int), (co : Int), (lv : Int)] : List Int).getD (r % 3) 0]
theorem rv_len {els : List Int} {co R lv r : Nat} (h : r * co + co ≤ els.length) : (rv els co R lv r).length = co + 2 := by
  simp [rv]; omega
theorem rv_bd {els : List Int} {co R lv r : Nat} (h : ∀ x ∈ els, 0 ≤ x ∧ x ≤ 31) (h1 : r ≤ 31) (h2 : R ≤ 31) (h3 : co ≤ 31) (h4 : lv ≤ 31) : ∀ x ∈ rv els co R lv r, 0 ≤ x ∧ x ≤ 31 := fun x hx => by
  unfold rv at hx
  rcases List.mem_append.1 hx with hx | hx
  · rcases List.mem_append.1 hx with hx | hx
    · simp at hx; omega
    · exact h x (List.mem_of_mem_drop (List.mem_of_mem_take hx))
  · rw [List.mem_singleton] at hx
    have : r % 3 = 0 ∨ r % 3 = 1 ∨ r % 3 = 2 := by omega
    rcases this with e | e | e <;> rw [e] at hx <;> simp at hx <;> omega
def gridTo (els : List Int) (co R lv r : Nat) : List Int := (List.range r).flatMap fun i => rowC (i % 3) (rv els co R lv i)
theorem gridTo_succ (els : List Int) (co R lv r : Nat) : gridTo els co R lv (r + 1) = gridTo els co R lv r ++ rowC (r % 3) (rv els co R lv r) := by
  simp [gridTo, List.range_succ, List.flatMap_append]
theorem gridTo_len {els : List Int} {co R lv : Nat} (h : ∀ x ∈ els, 0 ≤ x ∧ x ≤ 31) (h2 : R ≤ 31) (h3 : co ≤ 31) (h4 : lv ≤ 31) (hl : els.length = R * co) : ∀ r, r ≤ R → (gridTo els co R lv r).length = r * (15 + 11 * (co + 2))
  | 0, _ => by simp [gridTo]
  | r + 1, hr => by
    have h5 : r * co + co ≤ els.length := by
      rw [hl]
      have : (r + 1) * co ≤ R * co := Nat.mul_le_mul_right _ hr
      rw [Nat.add_mul, Nat.one_mul] at this
      exact this
    rw [gridTo_succ, List.length_append, gridTo_len h h2 h3 h4 hl r (by omega), rowC_len (by omega) (rv_bd h (by omega) h2 h3 h4), rv_len h5, Nat.add_mul, Nat.one_mul]
theorem own_oneG (w : World) (x : Int) : (w.alloc (.cells #[.int .i64 x] 2)).ownsRow w.heap.size 2 1 (.slice (some ⟨w.heap.size, 0, none⟩) 1 1) 1 [.int .i64 x] :=
  World.ownsRow_lit (base := w.heap.size) (e := 2) (size := 1) w #[.int .i64 x] 1 (Nat.le_refl _) (by unfold maxLen; omega) (by simp)
theorem rd_part2 {w : World} {b off n m : Nat} {c : List Int} (h : Rd w (some ⟨b, off, none⟩) n c) {lo : Nat} (hl : lo + m ≤ n) : Rd w (some ⟨b, off + lo, none⟩) m ((c.drop lo).take m) := by
  have hlen := h.1
  refine ⟨by simp; omega, fun hm => ?_⟩
  obtain ⟨b', off', e, hlt, hc⟩ := h.2 (by omega)
  injection e with e
  injection e with e1 e2
  subst e1 e2
  refine ⟨b, off + lo, rfl, hlt, fun i hi => ?_⟩
  have := hc (lo + i) (by omega)
  rw [show off + lo + i = off + (lo + i) by omega, this]
  simp [List.getD_eq_getElem?_getD, hi]
theorem rd_newsG {w : World} {b off n : Nat} {zs : List Int} (h : Rd w (some ⟨b, off, none⟩) n zs) : ∀ j u, (zs.map (Value.int .i64))[j]? = some u → w.cell? ((⟨b, off, none⟩ : Addr).add j) = some u := by
  rcases Nat.eq_zero_or_pos n with h0 | h0
  · intro j u hj
    have := h.1
    rw [List.eq_nil_of_length_eq_zero (l := zs) (by omega)] at hj
    simp at hj
  · obtain ⟨b', off', e, hlt, hc⟩ := h.2 h0
    injection e with e
    injection e with e1 e2
    subst e1 e2
    exact newsAt h.1 hc
theorem news1G (w : World) (o : Obj) (v : Value) (t : TypeId) : ∀ j u, ([v] : List Value)[j]? = some u → ((w.alloc o).alloc (.cells #[v] t)).cell? ((⟨w.heap.size + 1, 0, none⟩ : Addr).add j) = some u := by
  have h := heap_alloc_new (w.alloc o) (.cells #[v] t)
  rw [World.size_alloc] at h
  exact World.news_of_block h
set_option maxRecDepth 20000 in
set_option maxHeartbeats 8000000 in
theorem sGrid (nm : ByteArray) (kd p pw po : Int) (sa : Option Addr) (sn sc co : Nat) (la : Option Addr) (ln lc : Nat) (R lv en ec : Nat) (ea : Option Addr) (els : List Int) (w : World) (h : Rd w ea en els) (hec : en ≤ ec) (hen : en = R * co) (hco1 : 1 ≤ co) (hco : co ≤ 8) (hR1 : 1 ≤ R) (hR : R ≤ 24) (hlv : lv ≤ 3) (hbd : ∀ x ∈ els, 0 ≤ x ∧ x ≤ 31) :
    Calls Try.prog 36 #[.agg #[.string nm, .int .i64 kd, .int .i64 p, .int .i64 pw, .int .i64 po, .slice sa sn sc, .int .i64 (co : Int), .slice la ln lc], .int .i64 (R : Int), .int .i64 (lv : Int), .slice ea en ec] w (OwnRast w (R : Int) ((15 + 11 * (co + 2) : Nat) : Int) (gridTo els co R lv R)) := by
  obtain ⟨i0, hi, hiz, hi1, hi2⟩ := info_parts infoInt
  have hel := h.1
  have HLen : Hid (∀ r, r ≤ R → (gridTo els co R lv r).length = r * (15 + 11 * (co + 2))) := gridTo_len hbd (by omega) (by omega) (by omega) (by rw [hel, hen])
  obtain ⟨M, hM⟩ : ∃ M, 15 + 11 * (co + 2) = M := ⟨_, rfl⟩
  have HM := Lib.hid hM
  have hM1 : 1 ≤ M := by omega
  have hM2 : M ≤ 125 := by omega
  rw [hM] at HLen
  have HE := Lib.hid h
  have HEn := Lib.hid hen
  have HBd := Lib.hid hbd
  have HFit : Hid (∀ r, r < R → r * co + co ≤ en) := fun r hr => by
    rw [hen]
    have : (r + 1) * co ≤ R * co := Nat.mul_le_mul_right _ hr
    rw [Nat.add_mul, Nat.one_mul] at this
    exact this
  have HFitM : Hid (∀ r, r ≤ R → r * M ≤ 3000) := fun r hr => by
    have h1 : r * M ≤ 24 * M := Nat.mul_le_mul_right _ (by omega)
    omega
  clear h hen hbd hel hM
  obtain ⟨Wb, hWb⟩ : ∃ Wb : World, (w.alloc (.cells #[.string nm, .int .i64 kd, .int .i64 p, .int .i64 pw, .int .i64 po, .slice sa sn sc, .int .i64 (co : Int), .slice la ln lc] 34)).alloc (.cells #[.int .i64 0, .int .i64 0, .slice none 0 0] 29) = Wb := ⟨_, rfl⟩
  have HKF : Hid (Blk Wb w.heap.size 34 #[.string nm, .int .i64 kd, .int .i64 p, .int .i64 pw, .int .i64 po, .slice sa sn sc, .int .i64 (co : Int), .slice la ln lc]) := by rw [← hWb]; exact (Blk.new w 34 _).alloc _
  have HKO : Hid (Out3 Wb (w.heap.size + 1)) := by
    rw [← hWb]
    have := Out3.new (w.alloc (.cells #[.string nm, .int .i64 kd, .int .i64 p, .int .i64 pw, .int .i64 po, .slice sa sn sc, .int .i64 (co : Int), .slice la ln lc] 34)) 29
    simp only [World.size_alloc] at this
    exact this
  have HBw : Hid (Below w.heap.size w Wb) := by rw [← hWb]; unfold Hid; repeat' (first | (with_reducible exact Below.refl _ _) | (with_reducible assumption) | (with_reducible refine Below.alloc ?_ ?_ _) | (with_reducible refine Below.setCell ?_ ?_ _) | (with_reducible refine Below.drew ?_) | (with_reducible refine below_drewN ?_ _) | (with_reducible refine below_via (by with_reducible assumption) ?_ ?_) | go_size)
  have HWs : Hid (Wb.heap.size = w.heap.size + 2) := by unfold Hid; rw [← hWb]; simp
  have HWb := Lib.hid hWb
  clear hWb
  go_enter Try.func36, Try.ntmps36
  go_wp2_with fail
  rw [HWb.out]
  have HO0 : Hid ((Wb.alloc (.cells #[] 2)).ownsRow (w.heap.size + 2) 2 1 (.slice (some ⟨w.heap.size + 2, 0, none⟩) 0 0) 0 []) := by
    have := World.ownsRow_lit (base := w.heap.size + 2) (e := 2) (size := 1) Wb #[] 0 (by rw [HWs.out]; exact Nat.le_refl _) (by unfold maxLen; omega) (by simp)
    rw [HWs.out] at this
    exact this
  have HB0 : Hid (Below (w.heap.size + 2) Wb (Wb.alloc (.cells #[] 2))) := (Below.refl _ _).alloc (by rw [HWs.out]; exact Nat.le_refl _) _
  go_loopw [9, 10] (fun v i wr => ∃ r n : Nat, r ≤ R ∧ n ≤ 3000 ∧ i = .int .i64 (r : Int) ∧ Hid (n = r * M) ∧ Hid (wr.ownsRow (w.heap.size + 2) 2 1 v n ((gridTo els co R lv r).map (Value.int .i64))) ∧ Hid (Below (w.heap.size + 2) Wb wr)) (fun _ i _ => R - (intOf i).toNat)
  case atStart => exact ⟨0, 0, Nat.zero_le _, by omega, rfl, by unfold Hid; omega, HO0.out, HB0.out⟩
  case round =>
    clear HO0 HB0
    obtain ⟨r, n, hr, hn3, rfl, HNr, HO, HB⟩ := hrel
    have hzr : w.heap.size + 2 ≤ wr.heap.size := by have := HB.out.size; have := HWs.out; omega
    have HBwr : Hid (Below w.heap.size w wr) := HBw.out.trans (HB.out.mono (by omega))
    have hcol : wr.cell? ⟨w.heap.size, 6, none⟩ = some (.int .i64 (co : Int)) := (HKF.out.below HB.out (by omega)).cell 6
    by_cases hlt : r < R
    · obtain ⟨b, off, rfl, hb, -⟩ := HE.out.2 (by have := HFit.out r hlt; omega)
      obtain ⟨m, hm⟩ : ∃ m, r * co = m := ⟨_, rfl⟩
      have hfit := HFit.out r hlt
      rw [hm] at hfit
      obtain ⟨q, hq⟩ : ∃ q, r % 3 = q := ⟨_, rfl⟩
      have hq3 : (r : Int) % 3 = (q : Int) := by omega
      have hqq : q ≤ 2 := by omega
      have hpI : (r : Int) * (co : Int) = (m : Int) := by rw [← hm]; simp
      have hpI2 : ((r : Int) + 1) * (co : Int) = (m : Int) + (co : Int) := by rw [Int.add_mul, hpI]; omega
      have ht2 : ((m : Int) + (co : Int)).toNat = m + co := by omega
      have hm0 : (m : Int) + (co : Int) ≤ (ec : Int) := by omega
      have hm4 : m ≤ 1000 := by
        have : r * co ≤ 24 * 8 := Nat.mul_le_mul (by omega) hco
        omega
      have hr24 : r ≤ 24 := by omega
      have HPart : Hid (∀ W, Below w.heap.size w W → Rd W (some ⟨b, off + m, none⟩) co ((els.drop m).take co)) := fun W hW => rd_part2 (HE.out.below hW) hfit
      have HPl : Hid (((els.drop m).take co).length = co) := (HPart.out w (Below.refl _ _)).1
      obtain ⟨z, hz⟩ : ∃ z, ([(R : Int), (co : Int), (lv : Int)] : List Int).getD q 0 = z := ⟨_, rfl⟩
      have HV : Hid (rv els co R lv r = ([(r : Int)] ++ (els.drop m).take co) ++ [z]) := by unfold Hid rv; rw [hm, hq, hz]
      have HVl : Hid ((rv els co R lv r).length = co + 2) := rv_len (by rw [hm]; have := HE.out.1; omega)
      have HVb : Hid (∀ x ∈ rv els co R lv r, 0 ≤ x ∧ x ≤ 31) := rv_bd HBd.out (by omega) (by omega) (by omega) (by omega)
      have hzq : (#[Value.int .i64 (R : Int), .int .i64 (co : Int), .int .i64 (lv : Int)] : Array Value)[q]? = some (.int .i64 z) := by
        rw [← hz]
        have : q = 0 ∨ q = 1 ∨ q = 2 := by omega
        rcases this with rfl | rfl | rfl <;> rfl
      have hq30 : (q : Int) < 3 := by omega
      have HQ := Lib.hid hq
      obtain ⟨part, hpart⟩ : ∃ part, (els.drop m).take co = part := ⟨_, rfl⟩
      rw [hpart] at HPart HPl HV
      have HOne : Hid (∀ u ∈ part.map (Value.int .i64), u.oneCell' = true) := one_ints part
      have HLm : Hid ((part.map (Value.int .i64)).length = co * 1) := by unfold Hid; rw [List.length_map, HPl.out, Nat.mul_one]
      have HNews : Hid (∀ j u, (part.map (Value.int .i64))[j]? = some u → (wr.alloc (.cells #[.int .i64 (r : Int)] 2)).cell? ((⟨b, off + m, none⟩ : Addr).add j) = some u) := rd_newsG (HPart.out _ (HBwr.out.alloc (by omega) _))
      obtain ⟨news, hnews⟩ : ∃ l, part.map (Value.int .i64) = l := ⟨_, rfl⟩
      rw [hnews] at HOne HLm HNews
      have HNw := Lib.hid hnews
      have hwr0 : w.heap.size < wr.heap.size := by omega
      clear hm hq hb hfit hz hpart hnews
      go_wp2_with (first | (at_builtin; refine wpList_append_own _ rfl _ _ 24 rfl wr.heap.size 2 i0 _ 1 8 Try.underlying24 hi hiz hi1 hi2 rfl (by decide) _ _ _ rfl (own_oneG wr _) ⟨b, off + m, none⟩ co _ news rfl HLm.out HNews.out HOne.out (by unfold maxLen; omega) (by omega) (by first | omega | (simp; done) | (simp; omega)) ?_; intro v2 w2 hown2 hgrow2 _; have HO2 : Hid (w2.ownsRow wr.heap.size 2 1 v2 (1 + co) (([(r : Int)] ++ part).map (Value.int .i64))) := (by unfold Hid; rw [List.map_append, HNw.out]; exact hown2); have hb2 : Below wr.heap.size wr w2 := (((Below.refl _ _).alloc (Nat.le_refl _) _).grown hgrow2 (by simp) (fun j e => Nat.le_of_eq (Option.some.inj e))); have hz2 := hb2.size; have HB2 : Hid (Below (w.heap.size + 2) Wb w2) := HB.out.trans (hb2.mono hzr); have HC2 : Hid (w2.ownsRow (w.heap.size + 2) 2 1 _ n ((gridTo els co R lv r).map (Value.int .i64))) := ownN_below HO.out hb2; have hcol2 : w2.cell? ⟨w.heap.size, 6, none⟩ = some (.int .i64 (co : Int)) := (HKF.out.below HB2.out (by omega)).cell 6; clear hown2 hgrow2 hb2) | (at_builtin; refine wpList_append_own _ rfl _ _ 24 rfl wr.heap.size 2 i0 _ 1 8 Try.underlying24 hi hiz hi1 hi2 rfl (by decide) _ _ _ rfl ((HO2.out.alloc _).alloc _) ⟨w2.heap.size + 1, 0, none⟩ 1 1 [.int .i64 z] rfl rfl (news1G w2 _ _ _) (by simp [Value.oneCell']) (by unfold maxLen; omega) (by omega) (by first | omega | (simp; done) | (simp; omega)) ?_; intro v3 w3 hown3 hgrow3 _; have HO3 : Hid (w3.ownsRow wr.heap.size 2 1 v3 (co + 2) ((rv els co R lv r).map (Value.int .i64))) := (by unfold Hid; rw [HV.out, List.map_append, show co + 2 = 1 + co + 1 by omega]; exact hown3); have hb3 : Below wr.heap.size w2 w3 := ((((Below.refl _ w2).alloc hz2 _).alloc (by simp; omega) _).grown hgrow3 (by simp; omega) (fun j e => (HO2.out.lt j e).1)); have hz3 := hb3.size; have HB3 : Hid (Below (w.heap.size + 2) Wb w3) := HB2.out.trans (hb3.mono hzr); have HC3 : Hid (w3.ownsRow (w.heap.size + 2) 2 1 _ n ((gridTo els co R lv r).map (Value.int .i64))) := ⟨HC2.out.1, by rcases HC2.out.2 with h | ⟨g, cap, cur, hv, hg, hh, r'⟩; exact .inl h; exact .inr ⟨g, cap, cur, hv, hg, by rw [hb3.block g (HO.out.lt g (by rw [hv]; rfl)).2]; exact hh, r'⟩⟩; clear hown3 hgrow3 hb3))
      obtain ⟨va, vc, rfl⟩ := ownN_shape HO3.out
      refine (sRowC q va (co + 2) vc (rv els co R lv r) _ hqq (own_rd HO3.out) (by omega) HVb.out).mono ?_
      rintro e w4 ⟨rv4, rfl, ho4, hb4⟩
      have hz4 := hb4.size
      rw [HM.out] at ho4
      have HB4 : Hid (Below (w.heap.size + 2) Wb w4) := HB3.out.trans (hb4.mono (by omega))
      have HO4 : Hid (w4.ownsRow (w.heap.size + 2) 2 1 _ n ((gridTo els co R lv r).map (Value.int .i64))) := ownN_below HC3.out hb4
      obtain ⟨g4, cap4, hv4, _, -⟩ := ho4.form (by omega)
      subst hv4
      have HR4 := Lib.hid (own_rd ho4)
      have HOne4 : Hid (∀ u ∈ (rowC q (rv els co R lv r)).map (Value.int .i64), u.oneCell' = true) := one_ints _
      have HLm4 : Hid (((rowC q (rv els co R lv r)).map (Value.int .i64)).length = M * 1) := by unfold Hid; rw [List.length_map, HR4.out.1, Nat.mul_one]
      have HNews4 := Lib.hid (rd_newsG HR4.out)
      have HG : Hid (gridTo els co R lv (r + 1) = gridTo els co R lv r ++ rowC q (rv els co R lv r)) := by unfold Hid; rw [gridTo_succ, HQ.out]
      obtain ⟨row, hrow⟩ : ∃ row, rowC q (rv els co R lv r) = row := ⟨_, rfl⟩
      rw [hrow] at HR4 HOne4 HLm4 HNews4 HG
      obtain ⟨news4, hnews4⟩ : ∃ l, row.map (Value.int .i64) = l := ⟨_, rfl⟩
      rw [hnews4] at HOne4 HLm4 HNews4
      have HNw4 := Lib.hid hnews4
      have hz40 : w.heap.size + 2 ≤ w4.heap.size := by omega
      clear ho4 hb4 hrow hnews4 HO3 HC3 HB3
      go_wp2_with (at_builtin; refine wpList_append_own _ rfl _ _ 24 rfl (w.heap.size + 2) 2 i0 _ 1 8 Try.underlying24 hi hiz hi1 hi2 rfl (by decide) _ _ _ rfl HO4.out ⟨g4, 0, none⟩ M _ news4 rfl HLm4.out HNews4.out HOne4.out (by unfold maxLen; omega) (by omega) (by first | omega | (simp; done) | (simp; omega)) ?_; intro v5 w5 hown5 hgrow5 _)
      have HO5 : Hid (w5.ownsRow (w.heap.size + 2) 2 1 v5 (n + M) ((gridTo els co R lv (r + 1)).map (Value.int .i64))) := by
        unfold Hid
        rw [HG.out, List.map_append, HNw4.out]
        exact hown5
      have HB5 : Hid (Below (w.heap.size + 2) Wb w5) := HB4.out.grown hgrow5 hz40 (fun j e => (HO4.out.lt j e).1)
      clear hown5 hgrow5
      have HN5 : Hid (n + M = (r + 1) * M) := by unfold Hid; rw [Nat.add_mul, Nat.one_mul, HNr.out]
      have hn5 : n + M ≤ 3000 := by rw [HN5.out]; exact HFitM.out (r + 1) hlt
      go_wp2
      go_roundw
      case rel => exact ⟨r + 1, n + M, by omega, hn5, by go_num, HN5, HO5, HB5⟩
      case measure => simp [intOf]; omega
    · have hre : r = R := by omega
      obtain ⟨av, cv, rfl⟩ := ownN_shape HO.out
      have HRe := Lib.hid hre
      have hge : (R : Int) ≤ (r : Int) := by omega
      have hnI : (n : Int) / (R : Int) = (M : Int) := by
        rw [HNr.out, hre, Int.natCast_mul, Int.mul_ediv_cancel_left _ (by omega)]
      have hn0 : (0 : Int) ≤ (n : Int) := by omega
      have hR0 : ¬ ((R : Int) = 0) := by omega
      have hR00 : (0 : Int) < (R : Int) := by omega
      have o1 := HKO.out
      obtain ⟨o2, o3, o4, o5, o6, o7, o8⟩ := o1
      have t2 : w.heap.size + 1 < wr.heap.size := by omega
      have t3 : wr.cell? ⟨w.heap.size + 1, 0, none⟩ = some (.int .i64 0) := (HB.out.cell (p := ⟨w.heap.size + 1, 0, none⟩) (by simp)).trans o3
      have t4 : wr.cell? ⟨w.heap.size + 1, 1, none⟩ = some (.int .i64 0) := (HB.out.cell (p := ⟨w.heap.size + 1, 1, none⟩) (by simp)).trans o4
      have t5 : wr.cell? ⟨w.heap.size + 1, 2, none⟩ = some (.slice none 0 0) := (HB.out.cell (p := ⟨w.heap.size + 1, 2, none⟩) (by simp)).trans o5
      have t6 : wr.frozen? ⟨w.heap.size + 1, 0, none⟩ = false := (HB.out.frozen (p := ⟨w.heap.size + 1, 0, none⟩) (by simp)).trans o6
      have t7 : wr.frozen? ⟨w.heap.size + 1, 1, none⟩ = false := (HB.out.frozen (p := ⟨w.heap.size + 1, 1, none⟩) (by simp)).trans o7
      have t8 : wr.frozen? ⟨w.heap.size + 1, 2, none⟩ = false := (HB.out.frozen (p := ⟨w.heap.size + 1, 2, none⟩) (by simp)).trans o8
      clear o2 o3 o4 o5 o6 o7 o8 hre hcol
      go_wp2
      refine bodyPost_ret (v := .agg #[.int .i64 (R : Int), .int .i64 (M : Int), .slice av n cv]) (by simp [results, Try.results36, go_sem, t3, t4, t5]) rfl ?_
      have HO2 := HO.out
      rw [HRe.out] at HO2
      have hL2 : (gridTo els co R lv R).length = n := by rw [HLen.out R (Nat.le_refl _), HNr.out, HRe.out]
      refine ⟨av, cv, by rw [hL2, HM.out], ?_, ((HBwr.out.setCell (by simp) _).setCell (by simp) _).setCell (by simp) _⟩
      rw [hL2]
      exact ownN_mono (ownN_far (ownN_far (ownN_far HO2 (by simp) _) (by simp) _) (by simp) _) (by omega)
end Go.Proofs.Ytenelpollcabnaa
namespace Go.Proofs.Ytenelpollcabnaa
open Go.RowKit
set_option linter.unusedVariables false
theorem news1H (w : World) (v : Value) (t : TypeId) : ∀ j u, ([v] : List Value)[j]? = some u → (w.alloc (.cells #[v] t)).cell? ((⟨w.heap.size, 0, none⟩ : Addr).add j) = some u := World.news_of_block (heap_alloc_new w _)
/-- The box G behind a call and an append to a row that lies beyond it. -/
theorem grid_mid {w3 wq w5 : World} {G n i : Nat} {v : Value} {xs : List Value} (ho : w3.ownsRow (G + 1) 2 1 v n xs) (hG : G < w3.heap.size) (hb : Below w3.heap.size w3 wq) (hg : wq.grownBy w5 v.ownBlock) :
    w5.cell? ⟨G, i, none⟩ = w3.cell? ⟨G, i, none⟩ ∧ w5.frozen? ⟨G, i, none⟩ = w3.frozen? ⟨G, i, none⟩ := by
  have h1 : w5.heap[G]? = wq.heap[G]? := hg.block G (by have := hb.size; omega) (fun e => by have := (ho.lt G e.symm).1; omega)
  have h2 : w5.heap[G]? = w3.heap[G]? := h1.trans (hb.block G hG)
  exact ⟨World.cell?_of_block (a := ⟨G, i, none⟩) h2, by simp [World.frozen?, h2]⟩
theorem grid_end {w1 w3 wq w5 : World} {G n k : Nat} {R C : Int} {v v5 : Value} {xs ys : List Value} (hB : Below G w1 w3) (hk : Blk w3 G 29 #[.int .i64 R, .int .i64 C, v]) (ho : w3.ownsRow (G + 1) 2 1 v n xs) (hb : Below w3.heap.size w3 wq) (hg : wq.grownBy w5 v.ownBlock) (ho5 : w5.ownsRow (G + 1) 2 1 v5 k ys) :
    Below G w1 (w5.setCell ⟨G, 2, none⟩ v5) ∧ Blk (w5.setCell ⟨G, 2, none⟩ v5) G 29 #[.int .i64 R, .int .i64 C, v5] ∧ (w5.setCell ⟨G, 2, none⟩ v5).ownsRow (G + 1) 2 1 v5 k ys := by
  have hG := hk.lt
  have h0 : G ≤ w3.heap.size := by omega
  have hB5 : Below G w1 w5 := (hB.trans (hb.mono h0)).grown hg (by have := hb.size; omega) (fun j e => by have := (ho.lt j e).1; omega)
  have h1 : w5.heap[G]? = wq.heap[G]? := hg.block G (by have := hb.size; omega) (fun e => by have := (ho.lt G e.symm).1; omega)
  have h2 : Blk w5 G 29 #[.int .i64 R, .int .i64 C, v] := (h1.trans (hb.block G hG)).trans hk
  exact ⟨hB5.setCell (by simp) _, h2.set_ 2 v5, ownN_far ho5 (by simp) _⟩
set_option maxRecDepth 20000 in
set_option maxHeartbeats 8000000 in
theorem iGrid (nm : ByteArray) (kd p pw po : Int) (sa : Option Addr) (sn sc co : Nat) (la : Option Addr) (ln lc : Nat) (R lv en ec : Nat) (ea : Option Addr) (els : List Int) (w : World) (h : Rd w ea en els) (hec : en ≤ ec) (hen : en = R * co) (hco1 : 1 ≤ co) (hco : co ≤ 8) (hR1 : 1 ≤ R) (hR : R ≤ 24) (hlv : lv ≤ 3) (hbd : ∀ x ∈ els, 0 ≤ x ∧ x ≤ 31) :
    Calls Try.prog 42 #[.agg #[.string nm, .int .i64 kd, .int .i64 p, .int .i64 pw, .int .i64 po, .slice sa sn sc, .int .i64 (co : Int), .slice la ln lc], .int .i64 (R : Int), .int .i64 (lv : Int), .slice ea en ec] w (OwnRast w (R : Int) ((15 + 11 * (co + 2) : Nat) : Int) (gridTo els co R lv R)) := by
  obtain ⟨i0, hi, hiz, hi1, hi2⟩ := info_parts infoInt
  have hel := h.1
  have HLen : Hid (∀ r, r ≤ R → (gridTo els co R lv r).length = r * (15 + 11 * (co + 2))) := gridTo_len hbd (by omega) (by omega) (by omega) (by rw [hel, hen])
  obtain ⟨M, hM⟩ : ∃ M, 15 + 11 * (co + 2) = M := ⟨_, rfl⟩
  have HM := Lib.hid hM
  have hM1 : 1 ≤ M := by omega
  have hM2 : M ≤ 125 := by omega
  rw [hM] at HLen
  have HE := Lib.hid h
  have HEn := Lib.hid hen
  have HBd := Lib.hid hbd
  have HFit : Hid (∀ r, r < R → r * co + co ≤ en) := fun r hr => by
    rw [hen]
    have : (r + 1) * co ≤ R * co := Nat.mul_le_mul_right _ hr
    rw [Nat.add_mul, Nat.one_mul] at this
    exact this
  have HFitM : Hid (∀ r, r ≤ R → r * M ≤ 3000) := fun r hr => by
    have h1 : r * M ≤ 24 * M := Nat.mul_le_mul_right _ (by omega)
    omega
  clear h hen hbd hel hM
  have hMI : 7 + 11 * ((co : Int) + 2) + 8 = (M : Int) := by have := HM.out; omega
  obtain ⟨Wb, hWb⟩ : ∃ Wb : World, (w.alloc (.cells #[.string nm, .int .i64 kd, .int .i64 p, .int .i64 pw, .int .i64 po, .slice sa sn sc, .int .i64 (co : Int), .slice la ln lc] 34)).alloc (.cells #[.int .i64 0, .int .i64 0, .slice none 0 0] 29) = Wb := ⟨_, rfl⟩
  have HKF : Hid (Blk Wb w.heap.size 34 #[.string nm, .int .i64 kd, .int .i64 p, .int .i64 pw, .int .i64 po, .slice sa sn sc, .int .i64 (co : Int), .slice la ln lc]) := by rw [← hWb]; exact (Blk.new w 34 _).alloc _
  have HKO : Hid (Out3 Wb (w.heap.size + 1)) := by
    rw [← hWb]
    have := Out3.new (w.alloc (.cells #[.string nm, .int .i64 kd, .int .i64 p, .int .i64 pw, .int .i64 po, .slice sa sn sc, .int .i64 (co : Int), .slice la ln lc] 34)) 29
    simp only [World.size_alloc] at this
    exact this
  have HBw : Hid (Below w.heap.size w Wb) := by rw [← hWb]; unfold Hid; repeat' (first | (with_reducible exact Below.refl _ _) | (with_reducible assumption) | (with_reducible refine Below.alloc ?_ ?_ _) | (with_reducible refine Below.setCell ?_ ?_ _) | (with_reducible refine Below.drew ?_) | (with_reducible refine below_drewN ?_ _) | (with_reducible refine below_via (by with_reducible assumption) ?_ ?_) | go_size)
  have HWs : Hid (Wb.heap.size = w.heap.size + 2) := by unfold Hid; rw [← hWb]; simp
  have HWb := Lib.hid hWb
  clear hWb
  go_enter Try.func42, Try.ntmps42
  go_wp2_with fail
  rw [HWb.out]
  refine (iAll Wb).mono ?_
  rintro e w1 ⟨aa, ac, rfl, hoA, hb1⟩
  have HA := Lib.hid hoA
  have HK1 := Lib.hid (HKF.out.keep hb1)
  have HO1 := Lib.hid (HKO.out.keep hb1)
  have HBw1 : Hid (Below w.heap.size w w1) := HBw.out.trans (hb1.mono (by have := HWs.out; omega))
  have hz1 : w.heap.size + 2 ≤ w1.heap.size := by have := hb1.size; have := HWs.out; omega
  have hcol1 : w1.cell? ⟨w.heap.size, 6, none⟩ = some (.int .i64 (co : Int)) := HK1.out.cell 6
  clear hoA hb1
  go_wp2_with (go_at_call 53; refine (iWidth ((co : Int) + 2) _ (by omega) (by omega)).mono ?_; rintro e w' ⟨rfl, rfl⟩; rw [hMI])
  obtain ⟨W2, hW2⟩ : ∃ W2 : World, w1.alloc (.cells #[.int .i64 (R : Int), .int .i64 (M : Int), .slice none 0 0] 29) = W2 := ⟨_, rfl⟩
  rw [hW2]
  obtain ⟨G, hG⟩ : ∃ G, G = w1.heap.size := ⟨_, rfl⟩
  rw [← hG]
  have HGe := Lib.hid hG
  have HG0 : Hid (Blk W2 G 29 #[.int .i64 (R : Int), .int .i64 (M : Int), .slice none 0 0]) := by rw [← hW2, hG]; exact Blk.new w1 29 _
  have HB0 : Hid (Below G w1 W2) := by rw [← hW2, hG]; exact (Below.refl _ _).alloc (Nat.le_refl _) _
  have hGz : w.heap.size + 2 ≤ G := by omega
  clear hW2 hG hcol1 hMI
  go_loopw [11] (fun i wr => ∃ (r n : Nat) (v : Value), r ≤ R ∧ n ≤ 3000 ∧ i = .int .i64 (r : Int) ∧ Hid (n = r * M) ∧ Hid (Blk wr G 29 #[.int .i64 (R : Int), .int .i64 (M : Int), v]) ∧ Hid (wr.ownsRow (G + 1) 2 1 v n ((gridTo els co R lv r).map (Value.int .i64))) ∧ Hid (Below G w1 wr)) (fun i _ => R - (intOf i).toNat)
  case atStart => exact ⟨0, 0, .slice none 0 0, Nat.zero_le _, by omega, rfl, by unfold Hid; omega, HG0, World.ownsRow_nil _ _ _ _, HB0⟩
  case round =>
    clear HG0 HB0
    obtain ⟨r, n, v, hr, hn3, rfl, HNr, HG, HO, HB⟩ := hrel
    have hGw : G < wr.heap.size := HG.out.lt
    have HBK : Hid (Below w1.heap.size w1 wr) := by have := HB.out; rw [HGe.out] at this; exact this
    have HBwr : Hid (Below w.heap.size w wr) := HBw1.out.trans (HB.out.mono (by omega))
    have hcol : wr.cell? ⟨w.heap.size, 6, none⟩ = some (.int .i64 (co : Int)) := (HK1.out.below HBK.out (by omega)).cell 6
    by_cases hlt : r < R
    · obtain ⟨b, off, rfl, hb, -⟩ := HE.out.2 (by have := HFit.out r hlt; omega)
      obtain ⟨m, hm⟩ : ∃ m, r * co = m := ⟨_, rfl⟩
      have hfit := HFit.out r hlt
      rw [hm] at hfit
      obtain ⟨q, hq⟩ : ∃ q, r % 3 = q := ⟨_, rfl⟩
      have hq3 : (r : Int) % 3 = (q : Int) := by omega
      have hqt : (r : Int).tmod 3 = (q : Int) := by rw [Int.tmod_eq_emod_of_nonneg (by omega)]; exact hq3
      have hqq : q ≤ 2 := by omega
      have hpI : (r : Int) * (co : Int) = (m : Int) := by rw [← hm]; simp
      have hpI2 : ((r : Int) + 1) * (co : Int) = (m : Int) + (co : Int) := by rw [Int.add_mul, hpI]; omega
      have ht2 : ((m : Int) + (co : Int)).toNat = m + co := by omega
      have hm0 : (m : Int) + (co : Int) ≤ (ec : Int) := by omega
      have hm4 : m ≤ 1000 := by
        have : r * co ≤ 24 * 8 := Nat.mul_le_mul (by omega) hco
        omega
      have hr24 : r ≤ 24 := by omega
      have HPart : Hid (∀ W, Below w.heap.size w W → Rd W (some ⟨b, off + m, none⟩) co ((els.drop m).take co)) := fun W hW => rd_part2 (HE.out.below hW) hfit
      have HPl : Hid (((els.drop m).take co).length = co) := (HPart.out w (Below.refl _ _)).1
      obtain ⟨z, hz⟩ : ∃ z, ([(R : Int), (co : Int), (lv : Int)] : List Int).getD q 0 = z := ⟨_, rfl⟩
      have HV : Hid (rv els co R lv r = ([(r : Int)] ++ (els.drop m).take co) ++ [z]) := by unfold Hid rv; rw [hm, hq, hz]
      have HVl : Hid ((rv els co R lv r).length = co + 2) := rv_len (by rw [hm]; have := HE.out.1; omega)
      have HVb : Hid (∀ x ∈ rv els co R lv r, 0 ≤ x ∧ x ≤ 31) := rv_bd HBd.out (by omega) (by omega) (by omega) (by omega)
      have i0_ : ∀ W : World, (Instr.index 94 (.agg #[.int .i64 (R : Int), .int .i64 (co : Int), .int .i64 (lv : Int)]) (.int .i64 0)).run Try.prog W = .ok (.int .i64 (R : Int)) W := fun _ => by kernel_rfl
      have i1_ : ∀ W : World, (Instr.index 94 (.agg #[.int .i64 (R : Int), .int .i64 (co : Int), .int .i64 (lv : Int)]) (.int .i64 1)).run Try.prog W = .ok (.int .i64 (co : Int)) W := fun _ => by kernel_rfl
      have i2_ : ∀ W : World, (Instr.index 94 (.agg #[.int .i64 (R : Int), .int .i64 (co : Int), .int .i64 (lv : Int)]) (.int .i64 2)).run Try.prog W = .ok (.int .i64 (lv : Int)) W := fun _ => by kernel_rfl
      have hidx : ∀ W : World, (Instr.index 94 (.agg #[.int .i64 (R : Int), .int .i64 (co : Int), .int .i64 (lv : Int)]) (.int .i64 (q : Int))).run Try.prog W = .ok (.int .i64 z) W := by
        intro W
        rw [← hz]
        have : q = 0 ∨ q = 1 ∨ q = 2 := by omega
        rcases this with e | e | e
        · rw [e]; exact i0_ W
        · rw [e]; exact i1_ W
        · rw [e]; exact i2_ W
      clear i0_ i1_ i2_
      have hq30 : (q : Int) < 3 := by omega
      have HQ := Lib.hid hq
      obtain ⟨part, hpart⟩ : ∃ part, (els.drop m).take co = part := ⟨_, rfl⟩
      rw [hpart] at HPart HPl HV
      have HOne : Hid (∀ u ∈ part.map (Value.int .i64), u.oneCell' = true) := one_ints part
      have HLm : Hid ((part.map (Value.int .i64)).length = co * 1) := by unfold Hid; rw [List.length_map, HPl.out, Nat.mul_one]
      have HNews : Hid (∀ j u, (part.map (Value.int .i64))[j]? = some u → (wr.alloc (.cells #[.int .i64 (r : Int)] 2)).cell? ((⟨b, off + m, none⟩ : Addr).add j) = some u) := rd_newsG (HPart.out _ (HBwr.out.alloc (by omega) _))
      obtain ⟨news, hnews⟩ : ∃ l, part.map (Value.int .i64) = l := ⟨_, rfl⟩
      rw [hnews] at HOne HLm HNews
      have HNw := Lib.hid hnews
      have hwr0 : w.heap.size < wr.heap.size := by omega
      clear hm hq hb hfit hz hpart hnews
      go_wp2_with (first | (at_builtin; refine wpList_append_own _ rfl _ _ 24 rfl wr.heap.size 2 i0 _ 1 8 Try.underlying24 hi hiz hi1 hi2 rfl (by decide) _ _ _ rfl (own_oneG wr _) ⟨b, off + m, none⟩ co _ news rfl HLm.out HNews.out HOne.out (by unfold maxLen; omega) (by omega) (by simp) ?_; intro v2 w2 hown2 hgrow2 _; have HO2 : Hid (w2.ownsRow wr.heap.size 2 1 v2 (1 + co) (([(r : Int)] ++ part).map (Value.int .i64))) := (by unfold Hid; rw [List.map_append, HNw.out]; exact hown2); have hb2 : Below wr.heap.size wr w2 := (((Below.refl _ _).alloc (Nat.le_refl _) _).grown hgrow2 (by simp) (fun j e => Nat.le_of_eq (Option.some.inj e))); have hz2 := hb2.size; have hcol2 : w2.cell? ⟨w.heap.size, 6, none⟩ = some (.int .i64 (co : Int)) := (hb2.cell (p := ⟨w.heap.size, 6, none⟩) (by simp; omega)).trans hcol; have HW2 := Lib.hid hb2; clear hown2 hgrow2 hb2) | (at_builtin; refine wpList_append_own _ rfl _ _ 24 rfl wr.heap.size 2 i0 _ 1 8 Try.underlying24 hi hiz hi1 hi2 rfl (by decide) _ _ _ rfl (HO2.out.alloc _) ⟨w2.heap.size, 0, none⟩ 1 1 [.int .i64 z] rfl rfl (news1H w2 _ _) (by simp [Value.oneCell']) (by unfold maxLen; omega) (by omega) (by simp; omega) ?_; intro v3 w3 hown3 hgrow3 _; have HO3 : Hid (w3.ownsRow wr.heap.size 2 1 v3 (co + 2) ((rv els co R lv r).map (Value.int .i64))) := (by unfold Hid; rw [HV.out, List.map_append, show co + 2 = 1 + co + 1 by omega]; exact hown3); have hb3 : Below wr.heap.size w2 w3 := (((Below.refl _ w2).alloc hz2 _).grown hgrow3 (by simp; omega) (fun j e => (HO2.out.lt j e).1)); have hz3 := hb3.size; have HW3 : Hid (Below wr.heap.size wr w3) := HW2.out.trans hb3; clear hown3 hgrow3 hb3))
      obtain ⟨va, vc, rfl⟩ := ownN_shape HO3.out
      have HG3 := Lib.hid (HG.out.below HW3.out hGw)
      have HOg3 := Lib.hid (ownN_below HO.out HW3.out)
      have HA3 := Lib.hid (ownN_below HA.out (HBK.out.trans (HW3.out.mono (by have := HBK.out.size; omega))))
      have HB3 : Hid (Below G w1 w3) := HB.out.trans (HW3.out.mono (by omega))
      have q2 : w3.cell? ⟨G, 2, none⟩ = some v := HG3.out.cell 2
      have f2 : w3.frozen? ⟨G, 2, none⟩ = false := HG3.out.frozen 2
      have hG3 : G < w3.heap.size := HG3.out.lt
      obtain ⟨va', vc', hv⟩ := ownN_shape HO.out
      have HVe := Lib.hid hv
      clear hv hcol hcol2
      go_region_law (first | (refine step_append_lies _ (by rfl) _ _ _ (by rfl) (G + 1) 2 i0 _ 1 8 Try.underlying24 hi hiz hi1 hi2 (by rfl) (by decide) _ n _ (by rfl) (ownN_below HOg3.out (by repeat' (first | (with_reducible exact Below.refl _ _) | (with_reducible assumption) | (with_reducible refine Below.alloc ?_ ?_ _) | (with_reducible refine Below.setCell ?_ ?_ _) | (with_reducible refine Below.drew ?_) | (with_reducible refine below_drewN ?_ _) | (with_reducible refine below_via (by with_reducible assumption) ?_ ?_) | go_size))) ⟨g4, 0, none⟩ M _ news4 (by rfl) HLm4.out (fun j u e => HNews4.out j u e) HOne4.out (by omega) (by unfold maxLen; omega) (by omega) (by go_size) _ rfl ?_; intro g5 cap5 w5 hown5 hgrow5 hat5 hlt5; have c5 : w5.cell? ⟨G, 2, none⟩ = some v := (grid_mid HOg3.out (by omega) hbq hgrow5).1.trans q2; have f5 : w5.frozen? ⟨G, 2, none⟩ = false := (grid_mid HOg3.out (by omega) hbq hgrow5).2.trans f2) | (go_simp; refine (iRowC aa ac Wb.heap.size q va (co + 2) vc (rv els co R lv r) _ (ownN_below HA3.out (by repeat' (first | (with_reducible exact Below.refl _ _) | (with_reducible assumption) | (with_reducible refine Below.alloc ?_ ?_ _) | (with_reducible refine Below.setCell ?_ ?_ _) | (with_reducible refine Below.drew ?_) | (with_reducible refine below_drewN ?_ _) | (with_reducible refine below_via (by with_reducible assumption) ?_ ?_) | go_size))) hqq ((own_rd HO3.out).below (by repeat' (first | (with_reducible exact Below.refl _ _) | (with_reducible assumption) | (with_reducible refine Below.alloc ?_ ?_ _) | (with_reducible refine Below.setCell ?_ ?_ _) | (with_reducible refine Below.drew ?_) | (with_reducible refine below_drewN ?_ _) | (with_reducible refine below_via (by with_reducible assumption) ?_ ?_) | go_size))) (by omega) HVb.out).mono ?_; rintro e wq ⟨v4, rfl, ho4, hbq0⟩; have hbq : Below w3.heap.size w3 wq := (show Below w3.heap.size w3 _ by repeat' (first | (with_reducible exact Below.refl _ _) | (with_reducible assumption) | (with_reducible refine Below.alloc ?_ ?_ _) | (with_reducible refine Below.setCell ?_ ?_ _) | (with_reducible refine Below.drew ?_) | (with_reducible refine below_drewN ?_ _) | (with_reducible refine below_via (by with_reducible assumption) ?_ ?_) | go_size)).trans (hbq0.mono (by first | exact Nat.le_refl _ | go_size)); rw [HM.out] at ho4; obtain ⟨g4, cap4, hv4, -, hlt4⟩ := ho4.form (by omega); subst hv4; have hzq := hbq.size; have HR4 := Lib.hid (own_rd ho4); have HLm4 : Hid (((rowC q (rv els co R lv r)).map (Value.int .i64)).length = M * 1) := (by unfold Hid; rw [List.length_map, HR4.out.1, Nat.mul_one]); have HOne4 : Hid (∀ u ∈ (rowC q (rv els co R lv r)).map (Value.int .i64), u.oneCell' = true) := one_ints _; have HNews4 := Lib.hid (rd_newsG HR4.out); obtain ⟨news4, hnews4⟩ : ∃ l, (rowC q (rv els co R lv r)).map (Value.int .i64) = l := ⟨_, rfl⟩; rw [hnews4] at HOne4 HLm4 HNews4; have HNw4 := Lib.hid hnews4; clear ho4 hbq0 hnews4; have qq2 : wq.cell? ⟨G, 2, none⟩ = some v := (hbq.cell (p := ⟨G, 2, none⟩) (by simp; omega)).trans q2; have ff2 : wq.frozen? ⟨G, 2, none⟩ = false := (hbq.frozen (p := ⟨G, 2, none⟩) (by simp; omega)).trans f2))
      all_goals
        have R5 := grid_end (v5 := .slice (some ⟨g5, 0, none⟩) (n + M) cap5) HB3.out HG3.out HOg3.out hbq hgrow5 hown5
        have HG5 : Hid (gridTo els co R lv (r + 1) = gridTo els co R lv r ++ rowC q (rv els co R lv r)) := by unfold Hid; rw [gridTo_succ, HQ.out]
        rw [← HNw4.out, ← List.map_append, ← HG5.out] at R5
        have HR5 := Lib.hid R5
        have HN5 : Hid (n + M = (r + 1) * M) := by unfold Hid; rw [Nat.add_mul, Nat.one_mul, HNr.out]
        have hn5 : n + M ≤ 3000 := by rw [HN5.out]; exact HFitM.out (r + 1) hlt
        clear R5 q2 f2 c5 f5 qq2 ff2 hgrow5 hown5 hat5 hlt5 hbq
        go_wp2
        go_roundw
        case rel => exact ⟨r + 1, n + M, _, by omega, hn5, by go_num, HN5, HR5.out.2.1, HR5.out.2.2, HR5.out.1⟩
        case measure => simp [intOf]; omega
    · have hre : r = R := by omega
      obtain ⟨av, cv, rfl⟩ := ownN_shape HO.out
      have HRe := Lib.hid hre
      have hge : (R : Int) ≤ (r : Int) := by omega
      obtain ⟨o2, o3, o4, o5, o6, o7, o8⟩ := HO1.out
      have t2 : w.heap.size + 1 < wr.heap.size := by omega
      have t3 : wr.cell? ⟨w.heap.size + 1, 0, none⟩ = some (.int .i64 0) := (HB.out.cell (p := ⟨w.heap.size + 1, 0, none⟩) (by simp; omega)).trans o3
      have t4 : wr.cell? ⟨w.heap.size + 1, 1, none⟩ = some (.int .i64 0) := (HB.out.cell (p := ⟨w.heap.size + 1, 1, none⟩) (by simp; omega)).trans o4
      have t5 : wr.cell? ⟨w.heap.size + 1, 2, none⟩ = some (.slice none 0 0) := (HB.out.cell (p := ⟨w.heap.size + 1, 2, none⟩) (by simp; omega)).trans o5
      have t6 : wr.frozen? ⟨w.heap.size + 1, 0, none⟩ = false := (HB.out.frozen (p := ⟨w.heap.size + 1, 0, none⟩) (by simp; omega)).trans o6
      have t7 : wr.frozen? ⟨w.heap.size + 1, 1, none⟩ = false := (HB.out.frozen (p := ⟨w.heap.size + 1, 1, none⟩) (by simp; omega)).trans o7
      have t8 : wr.frozen? ⟨w.heap.size + 1, 2, none⟩ = false := (HB.out.frozen (p := ⟨w.heap.size + 1, 2, none⟩) (by simp; omega)).trans o8
      have p0 : wr.cell? ⟨G, 0, none⟩ = some (.int .i64 (R : Int)) := HG.out.cell 0
      have p1 : wr.cell? ⟨G, 1, none⟩ = some (.int .i64 (M : Int)) := HG.out.cell 1
      have p2 : wr.cell? ⟨G, 2, none⟩ = some (.slice av n cv) := HG.out.cell 2
      clear o2 o3 o4 o5 o6 o7 o8 hre hcol
      go_wp2
      refine bodyPost_ret (v := .agg #[.int .i64 (R : Int), .int .i64 (M : Int), .slice av n cv]) (by simp [results, Try.results42, go_sem, t3, t4, t5]) rfl ?_
      have HO2 := HO.out
      rw [HRe.out] at HO2
      have hL2 : (gridTo els co R lv R).length = n := by rw [HLen.out R (Nat.le_refl _), HNr.out, HRe.out]
      refine ⟨av, cv, by rw [hL2, HM.out], ?_, ((HBwr.out.setCell (by simp) _).setCell (by simp) _).setCell (by simp) _⟩
      rw [hL2]
      exact ownN_mono (ownN_far (ownN_far (ownN_far HO2 (by simp; omega) _) (by simp; omega) _) (by simp; omega) _) (by omega)
end Go.Proofs.Ytenelpollcabnaa
