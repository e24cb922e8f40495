/-
  DERIVED. Rows' modules: plain laws; spec.l01Own, l17Paint, l17Row.
-/
import Derived.Test.YtenelpollcabnaaPatJ
import Derived.Test.YtenelpollcabnaaRast
import Derived.Laws.AppendOwnNone
namespace Go.Proofs.Ytenelpollcabnaa
open Go.RowKit
set_option linter.unusedVariables false
def bar (ws : List Int) (i : Nat) : List Int := List.replicate (ws.getD i 0).toNat (1 - ((i % 2 : Nat) : Int))
def paintTo (ws : List Int) (k : Nat) : List Int := (List.range k).flatMap (bar ws)
def paint (ws : List Int) : List Int := paintTo ws ws.length
theorem paintTo_zero (ws : List Int) : paintTo ws 0 = [] := rfl
theorem paintTo_succ (ws : List Int) (k : Nat) : paintTo ws (k + 1) = paintTo ws k ++ bar ws k := by
  simp [paintTo, List.range_succ, List.flatMap_append]
theorem bar_len (ws : List Int) (k : Nat) : (bar ws k).length = (ws.getD k 0).toNat := by simp [bar]
theorem paintTo_len {ws : List Int} {m : Nat} (h : ∀ x ∈ ws, x ≤ (m : Int)) : ∀ k, (paintTo ws k).length ≤ k * m
  | 0 => by simp [paintTo]
  | k + 1 => by
    have := paintTo_len h k
    have h1 : (ws.getD k 0).toNat ≤ m := by
      rw [List.getD_eq_getElem?_getD]
      rcases Nat.lt_or_ge k ws.length with h2 | h2
      · rw [List.getElem?_eq_getElem h2]
        have := h _ (List.getElem_mem h2)
        simp only [Option.getD_some]
        omega
      · rw [List.getElem?_eq_none h2]; simp
    rw [paintTo_succ, List.length_append, bar_len, Nat.add_mul, Nat.one_mul]
    omega
theorem rep_succ (j : Nat) (x : Int) : List.replicate (j + 1) x = List.replicate j x ++ [x] := List.replicate_succ'
def rowP (cl : Nat) (vs : List Int) : Nat → List Int
  | 0 => paint [4, 1, 1, 1]
  | k + 1 => rowP cl vs k ++ paint (PATS.getD (3 * (vs.getD k 0).toNat + cl) [])
def rowC (cl : Nat) (vs : List Int) : List Int := rowP cl vs vs.length ++ paint [1, 1, 1, 1, 4]
theorem pats_at {i : Nat} (h : i < 120) : PATS.getD i [] ∈ PATS := by
  rw [List.getD_eq_getElem?_getD, List.getElem?_eq_getElem (by rw [PATS_len]; exact h)]
  exact List.getElem_mem _
theorem pat_paint_len : ∀ i, i < 120 → (paint (PATS.getD i [])).length = 11 := by decide +kernel
theorem rowP_len (cl : Nat) (vs : List Int) (hc : cl ≤ 2) (h : ∀ x ∈ vs, 0 ≤ x ∧ x ≤ 31) : ∀ k, k ≤ vs.length → (rowP cl vs k).length = 7 + 11 * k
  | 0, _ => rfl
  | k + 1, hk => by
    have h1 := h _ (List.getElem_mem (l := vs) (n := k) (by omega))
    have e : vs.getD k 0 = vs[k] := by rw [List.getD_eq_getElem?_getD, List.getElem?_eq_getElem (by omega)]; rfl
    rw [rowP, List.length_append, rowP_len cl vs hc h k (by omega), pat_paint_len _ (by rw [e]; omega)]
    omega
theorem rowC_len {cl : Nat} {vs : List Int} (hc : cl ≤ 2) (h : ∀ x ∈ vs, 0 ≤ x ∧ x ≤ 31) : (rowC cl vs).length = 15 + 11 * vs.length := by
  rw [rowC, List.length_append, rowP_len cl vs hc h _ (Nat.le_refl _), show (paint [1, 1, 1, 1, 4]).length = 8 from rfl]
  omega
theorem ownN_out {w : World} {base n m : Nat} {t : TypeId} {a : Option Addr} {cp : Nat} {xs : List Value} (h : w.ownsRow base t m (.slice a n cp) n xs) : n = 0 → True := fun _ => trivial
theorem newsAt {w : World} {b off n : Nat} {zs : List Int} (hl : zs.length = n) (hc : ∀ i, i < n → w.cell? ⟨b, off + i, none⟩ = some (.int .i64 (zs.getD i 0))) : ∀ j u, (zs.map (Value.int .i64))[j]? = some u → w.cell? ((⟨b, off, none⟩ : Addr).add j) = some u := by
  intro j u hj
  obtain ⟨hlt, e⟩ := List.getElem?_eq_some_iff.1 hj
  have hlt' : j < n := by rw [List.length_map, hl] at hlt; exact hlt
  rw [List.getElem_map] at e
  rw [← e, Addr.add_lit, hc j hlt']
  simp [List.getD_eq_getElem?_getD, List.getElem?_eq_getElem (show j < zs.length by omega)]
theorem one_ints (zs : List Int) : ∀ u ∈ zs.map (Value.int .i64), u.oneCell' = true := by
  intro u hu
  obtain ⟨z, _, rfl⟩ := List.mem_map.1 hu
  rfl
set_option maxHeartbeats 2000000 in
theorem sOwn1 (a : Option Addr) (n cp : Nat) (zs : List Int) (w : World) (h : Rd w a n zs) (hn : n ≤ 1048576) (h1 : 1 ≤ n) :
    Calls Try.prog 99 #[.slice a n cp] w fun e w' => ∃ v, e = .returned v ∧ w'.ownsRow w.heap.size 2 1 v n (zs.map (Value.int .i64)) ∧ Below w.heap.size w w' := by
  obtain ⟨i0, hi0, hz0, hz1', hz2⟩ := info_parts infoInt
  obtain ⟨hl, hr⟩ := h
  obtain ⟨b, off, rfl, hb, hc⟩ := hr (by omega)
  have HO0 : Hid ((w.alloc (.cells #[] 2)).ownsRow w.heap.size 2 1 (.slice (some ⟨w.heap.size, 0, none⟩) 0 0) 0 []) :=
    World.ownsRow_lit (base := w.heap.size) (e := 2) (size := 1) w #[] 0 (by simp) (by unfold maxLen; omega) (by simp)
  have HNEW : Hid (∀ j u, (zs.map (Value.int .i64))[j]? = some u → (w.alloc (.cells #[] 2)).cell? ((⟨b, off, none⟩ : Addr).add j) = some u) :=
    newsAt hl (fun i hi => (((Below.refl w.heap.size w).alloc (Nat.le_refl _) _).cell (p := ⟨b, off + i, none⟩) hb).trans (hc i hi))
  have HLEN : Hid ((zs.map (Value.int .i64)).length = n * 1) := by unfold Hid; rw [List.length_map, hl, Nat.mul_one]
  have HONE : Hid (∀ u ∈ zs.map (Value.int .i64), u.oneCell' = true) := one_ints zs
  obtain ⟨news, hnews⟩ : ∃ l, zs.map (Value.int .i64) = l := ⟨_, rfl⟩
  rw [hnews] at HNEW HONE HLEN ⊢
  clear hnews hr hl hc
  go_enter Try.func99, Try.ntmps99
  go_wp2_with (at_builtin; refine wpList_append_own _ rfl _ _ 24 rfl w.heap.size 2 i0 (.int .i64 0) 1 8 Try.underlying24 hi0 hz0 hz1' hz2 rfl (by decide) _ _ _ rfl HO0.out ⟨b, off, none⟩ n cp news rfl HLEN.out HNEW.out HONE.out (by unfold maxLen; omega) (by omega) (by simp) ?_; intro v' w2 hown' hgrow _)
  rw [Nat.zero_add, List.nil_append] at hown'
  have HO := Lib.hid hown'
  have HB : Hid (Below w.heap.size w w2) := (((Below.refl w.heap.size w).alloc (Nat.le_refl _) _)).grown hgrow (by simp) (fun j e => (HO0.out.lt j e).1)
  clear hown' hgrow
  go_wp2
  go_returns
  exact ⟨_, rfl, HO.out, HB.out⟩
set_option maxHeartbeats 2000000 in
theorem sOwn0 (w : World) : Calls Try.prog 99 #[.slice none 0 0] w fun e w' => ∃ v, e = .returned v ∧ w'.ownsRow w.heap.size 2 1 v 0 [] ∧ Below w.heap.size w w' := by
  obtain ⟨i0, hi0, hz0, hz1', hz2⟩ := info_parts infoInt
  have HO0 : Hid ((w.alloc (.cells #[] 2)).ownsRow w.heap.size 2 1 (.slice (some ⟨w.heap.size, 0, none⟩) 0 0) 0 []) :=
    World.ownsRow_lit (base := w.heap.size) (e := 2) (size := 1) w #[] 0 (by simp) (by unfold maxLen; omega) (by simp)
  go_enter Try.func99, Try.ntmps99
  go_wp2_with (at_builtin; refine wpList_append_own_none _ rfl _ _ 24 rfl w.heap.size 2 i0 1 Try.underlying24 hi0 _ _ _ rfl HO0.out rfl ?_)
  go_returns
  exact ⟨_, rfl, HO0.out, by repeat' (first | (with_reducible exact Below.refl _ _) | (with_reducible assumption) | (with_reducible refine Below.alloc ?_ ?_ _) | (with_reducible refine Below.setCell ?_ ?_ _) | (with_reducible refine Below.drew ?_) | (with_reducible refine below_drewN ?_ _) | (with_reducible refine below_via (by with_reducible assumption) ?_ ?_) | go_size)⟩
set_option maxRecDepth 20000 in
set_option maxHeartbeats 4000000 in
theorem sPaint (ca : Option Addr) (cn cc : Nat) (cs : List Int) (wa : Option Addr) (wn wc : Nat) (ws : List Int) (w : World) (hO : Hid (∀ W : World, Below w.heap.size w W → Calls Try.prog 99 #[.slice ca cn cc] W fun e w' => ∃ v, e = .returned v ∧ w'.ownsRow W.heap.size 2 1 v cn (cs.map (Value.int .i64)) ∧ Below W.heap.size W w')) (hcs : cs.length = cn) (hcn : cn ≤ 100000) (hw : Rd w wa wn ws) (hwn : wn ≤ 10) (hbd : ∀ x ∈ ws, 0 ≤ x ∧ x ≤ 100) :
    Calls Try.prog 86 #[.slice ca cn cc, .slice wa wn wc] w fun e w' => ∃ v, e = .returned v ∧ w'.ownsRow w.heap.size 2 1 v (cs ++ paint ws).length ((cs ++ paint ws).map (Value.int .i64)) ∧ Below w.heap.size w w' := by
  obtain ⟨i0, hi, hiz, hi1, hi2⟩ := info_parts infoInt
  have HW := Lib.hid hw
  have HBd := Lib.hid hbd
  have HCs := Lib.hid hcs
  have HWl := Lib.hid hw.1
  have HPl : Hid (∀ k, (paintTo ws k).length ≤ k * 100) := paintTo_len (m := 100) (fun x hx => (hbd x hx).2)
  clear hw hbd hcs
  go_enter Try.func86, Try.ntmps86
  go_wp2_with fail
  refine (hO.out _ (Below.refl _ _)).mono ?_
  rintro e w1 ⟨v0, rfl, ho0, hb0⟩
  have HO0 := Lib.hid ho0
  have HB0 := Lib.hid hb0
  clear ho0 hb0 hO
  go_wp2
  go_loopw [5, 6] (fun v i wr => ∃ k n : Nat, k ≤ wn ∧ i = .int .i64 (k : Int) ∧ Hid ((cs ++ paintTo ws k).length = n) ∧ Hid (wr.ownsRow w.heap.size 2 1 v n ((cs ++ paintTo ws k).map (Value.int .i64))) ∧ Hid (Below w.heap.size w wr)) (fun _ i _ => wn - (intOf i).toNat)
  case atStart => exact ⟨0, cn, Nat.zero_le _, rfl, by rw [paintTo_zero, List.append_nil]; exact HCs.out, by rw [paintTo_zero, List.append_nil]; exact HO0.out, HB0.out⟩
  case round =>
    clear HO0 HB0
    obtain ⟨k, n, hk, rfl, HN, HO, HB⟩ := hrel
    have hnb : n ≤ 100000 + 100 * k := by have := HN.out; rw [List.length_append, HCs.out] at this; have := HPl.out k; omega
    by_cases hlt : k < wn
    · obtain ⟨b, off, rfl, hb, hcell⟩ := (HW.out).2 (by omega)
      have hcx := hcell k hlt
      obtain ⟨x, hx⟩ : ∃ x, ws.getD k 0 = x := ⟨_, rfl⟩
      have hxm := HBd.out _ (getD_mem (zs := ws) (i := k) (by rw [HWl.out]; exact hlt))
      rw [hx] at hcx hxm
      obtain ⟨m, rfl⟩ := Int.eq_ofNat_of_zero_le hxm.1
      have hm100 : m ≤ 100 := by omega
      obtain ⟨q, hq⟩ : ∃ q, k % 2 = q := ⟨_, rfl⟩
      have hq2 : (k : Int) % 2 = (q : Int) := by omega
      have hq1 : q ≤ 1 := by omega
      have HBar : Hid (bar ws k = List.replicate m (1 - (q : Int))) := by unfold Hid bar; rw [hx, hq]; rfl
      have HX : Hid (∀ W, Below w.heap.size w W → W.cell? ⟨b, off + k, none⟩ = some (.int .i64 (m : Int))) := fun W hW => (hW.cell (p := ⟨b, off + k, none⟩) hb).trans hcx
      clear hx hcx hcell hq hb hxm
      go_wp2
      go_loopw [5, 7] (fun v i wq => ∃ j n' : Nat, j ≤ m ∧ i = .int .i64 (j : Int) ∧ Hid (n' = n + j) ∧ Hid (wq.ownsRow w.heap.size 2 1 v n' ((cs ++ paintTo ws k ++ List.replicate j (1 - (q : Int))).map (Value.int .i64))) ∧ Hid (Below w.heap.size w wq)) (fun _ i _ => m - (intOf i).toNat)
      case atStart => exact ⟨0, n, Nat.zero_le _, rfl, rfl, by rw [List.replicate_zero, List.append_nil]; exact HO.out, HB.out⟩
      case round =>
        clear HO HB
        obtain ⟨j, n1, hj, rfl, HN1, HO, HB⟩ := hrel
        have hcx := HX.out _ HB.out
        have hsz := HB.out.size
        have hn1 : n1 ≤ 110000 := by have := HN1.out; omega
        by_cases hlj : j < m
        · have hjm : (j : Int) < (m : Int) := by omega
          go_wp2_with (at_builtin; refine wpList_append_own _ rfl _ _ 24 rfl w.heap.size 2 i0 _ 1 8 Try.underlying24 hi hiz hi1 hi2 rfl (by decide) _ _ _ rfl (HO.out.alloc _) ⟨wr.heap.size, 0, none⟩ 1 1 [.int .i64 (1 - (q : Int))] rfl rfl (World.news_of_block (heap_alloc_new wr _)) (by simp [Value.oneCell']) (by unfold maxLen; omega) (by omega) (by simp; omega) ?_; intro v' w3 hown' hgrow _)
          have HO3 : Hid (w3.ownsRow w.heap.size 2 1 v' (n1 + 1) ((cs ++ paintTo ws k ++ List.replicate (j + 1) (1 - (q : Int))).map (Value.int .i64))) := by
            unfold Hid
            rw [rep_succ, ← List.append_assoc, List.map_append]
            exact hown'
          have HB3 : Hid (Below w.heap.size w w3) := (HB.out.alloc hsz _).grown hgrow (by simp; omega) (fun j e => (HO.out.lt j e).1)
          clear hown' hgrow
          go_wp2
          go_roundw
          case rel => exact ⟨j + 1, n1 + 1, by omega, by go_num, by unfold Hid; have := HN1.out; omega, HO3, HB3⟩
          case measure => simp [intOf]; omega
        · have hje : j = m := by omega
          have HJ := Lib.hid hje
          have hjm : (m : Int) ≤ (j : Int) := by omega
          clear hje
          go_wp2
          have HE : Hid (cs ++ paintTo ws k ++ List.replicate j (1 - (q : Int)) = cs ++ paintTo ws (k + 1)) := by
            unfold Hid
            rw [paintTo_succ, HBar.out, HJ.out, List.append_assoc]
          have HNe : Hid ((cs ++ paintTo ws (k + 1)).length = n1) := by
            unfold Hid
            rw [← HE.out, List.length_append, HN.out, List.length_replicate, HN1.out]
          rw [HE.out] at HO
          go_roundw
          case rel => exact ⟨k + 1, n1, by omega, by go_num, HNe, HO, HB⟩
          case measure => simp [intOf]; omega
    · have hke : k = wn := by omega
      have HKe : Hid (paintTo ws k = paint ws) := by unfold Hid paint; rw [HWl.out, hke]
      have hge : (wn : Int) ≤ (k : Int) := by omega
      clear hke
      go_wp2
      go_returns
      rw [HKe.out] at HN HO
      exact ⟨_, rfl, by rw [HN.out]; exact HO.out, HB.out⟩
set_option maxRecDepth 20000 in
set_option maxHeartbeats 8000000 in
theorem sRowC (cl : Nat) (va : Option Addr) (vn vc : Nat) (vs : List Int) (w : World) (hc : cl ≤ 2) (hv : Rd w va vn vs) (hvn : vn ≤ 12) (hbd : ∀ x ∈ vs, 0 ≤ x ∧ x ≤ 31) :
    Calls Try.prog 63 #[.int .i64 (cl : Int), .slice va vn vc] w fun e w' => ∃ v, e = .returned v ∧ w'.ownsRow w.heap.size 2 1 v (15 + 11 * vn) ((rowC cl vs).map (Value.int .i64)) ∧ Below w.heap.size w w' := by
  have HV := Lib.hid hv
  have HBd := Lib.hid hbd
  have HVl := Lib.hid hv.1
  have HLen : Hid (∀ k, k ≤ vn → (rowP cl vs k).length = 7 + 11 * k) := fun k hk => rowP_len cl vs hc hbd k (by rw [hv.1]; exact hk)
  clear hv hbd
  go_enter Try.func63, Try.ntmps63
  go_wp2_with fail
  refine (sAll _).mono ?_
  rintro e w1 ⟨aa, ac, rfl, hR, hb1⟩
  have HR := Lib.hid hR
  have HB1 := Lib.hid hb1
  have hz1 := hb1.size
  clear hR hb1
  go_wp2_with fail
  refine (sPaint none 0 0 [] (some ⟨w1.heap.size, 0, none⟩) 4 4 [4, 1, 1, 1] _ (fun W _ => sOwn0 W) rfl (by omega) (by have := (Blk.new w1 2 (vals [4, 1, 1, 1])).rd (n := 4) rfl; exact this) (by omega) (by decide)).mono ?_
  rintro e w2 ⟨v2, rfl, ho2, hb2⟩
  have hq2 : Below w1.heap.size w1 w2 := ((Below.refl _ _).alloc (Nat.le_refl _) _).trans (hb2.mono (by simp))
  have HO2 : Hid (w2.ownsRow w.heap.size 2 1 v2 7 ((rowP cl vs 0).map (Value.int .i64))) := ownN_mono ho2 (by simp; omega)
  have HR2 : Hid (RRow w2 w.heap.size w1.heap.size aa 120 PATS) := HR.out.keep hq2
  have HB2 : Hid (Below w.heap.size w w2) := HB1.out.trans (hq2.mono hz1)
  have HZ2 : Hid (w1.heap.size ≤ w2.heap.size) := hq2.size
  have HX2 : Hid (∀ k, v2.ownBlock = some k → w1.heap.size ≤ k) := fun k e => by have := (ho2.lt k e).1; simp at this; omega
  clear ho2 hb2 hq2 HR
  go_wp2
  go_loopw [6, 7] (fun v i wr => ∃ k : Nat, k ≤ vn ∧ i = .int .i64 (k : Int) ∧ Hid (wr.ownsRow w1.heap.size 2 1 v (7 + 11 * k) ((rowP cl vs k).map (Value.int .i64))) ∧ Hid (Below w1.heap.size w2 wr)) (fun _ i _ => vn - (intOf i).toNat)
  case atStart => exact ⟨0, Nat.zero_le _, rfl, ⟨HO2.out.1, by rcases HO2.out.2 with h | ⟨g, cap, cur, hv, hg, r⟩; exact .inl h; exact .inr ⟨g, cap, cur, hv, HX2.out g (by rw [hv]; rfl), r⟩⟩, Below.refl _ _⟩
  case round =>
    clear HO2 HX2
    obtain ⟨k, hk, rfl, HO, HB⟩ := hrel
    have hzr : w1.heap.size ≤ wr.heap.size := Nat.le_trans HZ2.out HB.out.size
    have HBw : Hid (Below w.heap.size w wr) := HB2.out.trans (HB.out.mono hz1)
    by_cases hlt : k < vn
    · obtain ⟨b, off, rfl, hb, hcell⟩ := (HV.out.below HBw.out).2 (by omega)
      have hcx := hcell k hlt
      obtain ⟨x, hx⟩ : ∃ x, vs.getD k 0 = x := ⟨_, rfl⟩
      have hxm := HBd.out _ (getD_mem (zs := vs) (i := k) (by rw [HVl.out]; exact hlt))
      rw [hx] at hcx hxm
      obtain ⟨m, rfl⟩ := Int.eq_ofNat_of_zero_le hxm.1
      have hm31 : m ≤ 31 := by omega
      obtain ⟨i3, hi3⟩ : ∃ i3, 3 * m + cl = i3 := ⟨_, rfl⟩
      have hi120 : i3 < 120 := by omega
      have hiI : 3 * (m : Int) + (cl : Int) = (i3 : Int) := by omega
      have hiI2 : (i3 : Int) < 120 := by omega
      have HNx : Hid (rowP cl vs (k + 1) = rowP cl vs k ++ paint (PATS.getD i3 [])) := by unfold Hid; rw [rowP, hx, Int.toNat_natCast, hi3]
      obtain ⟨bp, op, a', cp, rfl, hbp, hpc, hpr⟩ := (HR2.out.keep HB.out).at hi120
      have hp8 : (PATS.getD i3 []).length = 8 := PATS_row _ (pats_at hi120)
      rw [hp8] at hpc hpr
      have HPr := Lib.hid hpr
      have HPb : Hid (∀ x ∈ PATS.getD i3 [], 0 ≤ x ∧ x ≤ 100) := fun x hx => by have := PATS_pos _ (pats_at hi120) x hx; omega
      obtain ⟨ov, oc, rfl⟩ := ownN_shape HO.out
      have hk12 : k ≤ 12 := by omega
      clear hx hcell hb hxm hi3 hpr hp8 hbp
      go_wp2_with fail
      refine (sPaint ov (7 + 11 * k) oc (rowP cl vs k) a' 8 cp (PATS.getD i3 []) _ (fun W hW => sOwn1 ov (7 + 11 * k) oc (rowP cl vs k) W ((own_rd HO.out).below hW) (by omega) (by omega)) (HLen.out k (by omega)) (by omega) HPr.out (by omega) HPb.out).mono ?_
      rintro e w3 ⟨v3, rfl, ho3, hb3⟩
      have HO3 : Hid (w3.ownsRow w1.heap.size 2 1 v3 (7 + 11 * (k + 1)) ((rowP cl vs (k + 1)).map (Value.int .i64))) := by
        unfold Hid
        rw [← HNx.out, HLen.out (k + 1) (by omega)] at ho3
        exact ownN_mono ho3 hzr
      have HB3 : Hid (Below w1.heap.size w2 w3) := HB.out.trans (hb3.mono hzr)
      clear ho3 hb3
      go_wp2
      go_roundw
      case rel => exact ⟨k + 1, by omega, by go_num, HO3, HB3⟩
      case measure => simp [intOf]; omega
    · have hke : k = vn := by omega
      obtain ⟨ov, oc, rfl⟩ := ownN_shape HO.out
      have HKe := Lib.hid hke
      have hge : (vn : Int) ≤ (k : Int) := by omega
      have hk12 : k ≤ 12 := by omega
      clear hke
      go_wp2_with fail
      have HRo : Hid (Below wr.heap.size wr (wr.alloc (.cells (vals [1, 1, 1, 1, 4]) 2))) := (Below.refl _ _).alloc (Nat.le_refl _) _
      refine (sPaint ov (7 + 11 * k) oc (rowP cl vs k) (some ⟨wr.heap.size, 0, none⟩) 5 5 [1, 1, 1, 1, 4] _ (fun W hW => sOwn1 ov (7 + 11 * k) oc (rowP cl vs k) W ((own_rd HO.out).below (HRo.out.trans (hW.mono (by simp)))) (by omega) (by omega)) (HLen.out k hk) (by omega) (by have := (Blk.new wr 2 (vals [1, 1, 1, 1, 4])).rd (n := 5) rfl; exact this) (by omega) (by decide)).mono ?_
      rintro e w3 ⟨v3, rfl, ho3, hb3⟩
      have HE : Hid (rowP cl vs k ++ paint [1, 1, 1, 1, 4] = rowC cl vs) := by unfold Hid rowC; rw [HKe.out, HVl.out]
      have HL3 : Hid ((rowC cl vs).length = 15 + 11 * vn) := by
        unfold Hid
        rw [rowC_len hc HBd.out, HVl.out]
      rw [HE.out, HL3.out] at ho3
      have HO3 : Hid (w3.ownsRow w.heap.size 2 1 v3 (15 + 11 * vn) ((rowC cl vs).map (Value.int .i64))) := ownN_mono ho3 (by simp; omega)
      have HB3 : Hid (Below w.heap.size w w3) := HBw.out.trans ((HRo.out.trans (hb3.mono (by simp))).mono (by omega))
      clear ho3 hb3
      go_wp2
      go_returns
      exact ⟨_, rfl, HO3.out, HB3.out⟩
end Go.Proofs.Ytenelpollcabnaa
