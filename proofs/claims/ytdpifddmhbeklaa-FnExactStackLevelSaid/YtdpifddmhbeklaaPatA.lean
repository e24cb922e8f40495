/-
  DERIVED. impl.shown.
-/
import Derived.Test.YtdpifddmhbeklaaPatN
import Derived.Test.YtdpifddmhbeklaaRast
import Derived.Deep.Cut
import Derived.Laws.CopyOwn
namespace Go.Proofs.Ytdpifddmhbeklaa
open Go.RowKit
set_option linter.unusedVariables false
def IdxR (v : Int) (zs : List Int) (w : World) (e : Ending) (w' : World) : Prop := ∃ r : Int, e = .returned (.int .i64 r) ∧ w = w' ∧ (decide (0 ≤ r) = decide (v ∈ zs))
set_option maxHeartbeats 2000000 in
theorem iIndexOf (a : Option Addr) (n cp : Nat) (zs : List Int) (v : Int) (w : World) (h : Rd w a n zs) (hn : n ≤ 1048576) :
    Calls Try.prog 137 #[.slice a n cp, .int .i64 v] w (IdxR v zs w) := by
  have HH := Lib.hid h
  have HL := Lib.hid h.1
  clear h
  go_enter Try.func137, Try.ntmps137
  go_wp2
  go_loop [8] (fun i => ∃ k : Nat, k ≤ n ∧ i = .int .i64 k ∧ Hid (∀ j, j < k → zs.getD j 0 ≠ v)) (fun i => n - (intOf i).toNat)
  case atStart => exact ⟨0, Nat.zero_le _, rfl, fun j hj => absurd hj (by omega)⟩
  case round =>
    obtain ⟨k, hk, rfl, HA⟩ := hrel
    by_cases hlt : k < n
    · obtain ⟨b, off, rfl, hb, hc⟩ := HH.out.2 (by omega)
      have hx := hc k hlt
      clear hc
      generalize hxv : zs.getD k 0 = x at hx
      have HX := Lib.hid hxv
      clear hxv
      have q0 : (0 : Int) ≤ (k : Int) := by omega
      have q1 : (k : Int) < (n : Int) := by omega
      by_cases he : v = x
      · have HM : Hid (v ∈ zs) := by
          unfold Hid
          rw [he, ← HX.out]
          exact getD_mem (by rw [HL.out]; exact hlt)
        have t : (v == x) = true := by simpa using he
        clear he
        go_wp2
        go_returns
        exact ⟨k, rfl, rfl, by rw [decide_eq_true HM.out]; simp⟩
      · have HA2 : Hid (∀ j, j < k + 1 → zs.getD j 0 ≠ v) := fun j hj => by
          rcases Nat.lt_or_ge j k with h1 | h1
          · exact HA.out j h1
          · obtain rfl : j = k := by omega
            rw [HX.out]; exact fun e => he e.symm
        have t : (v == x) = false := by simpa using he
        clear he
        go_wp2
        go_round
        case rel => exact ⟨k + 1, by omega, by go_num, HA2.out⟩
        case measure => simp [intOf]; omega
    · have HM : Hid (v ∉ zs) := fun hm => by
        obtain ⟨j, hj, hx⟩ := List.getElem_of_mem hm
        exact HA.out j (by have := HL.out; omega) (by simp [List.getD_eq_getElem?_getD, List.getElem?_eq_getElem hj, hx])
      go_wp2
      go_returns
      exact ⟨-1, rfl, rfl, by rw [decide_eq_false HM.out]; decide⟩
set_option maxHeartbeats 2000000 in
theorem pContains (a : Option Addr) (n cp : Nat) (zs : List Int) (v : Int) (w : World) (h : Rd w a n zs) (hn : n ≤ 1048576) :
    Calls Try.prog 121 #[.slice a n cp, .int .i64 v] w fun e w' => e = .returned (.bool (decide (v ∈ zs))) ∧ w = w' := by
  have HH := Lib.hid h
  clear h
  go_enter Try.func121, Try.ntmps121
  go_wp2_with fail
  refine (iIndexOf a n cp zs v _ HH.out hn).mono ?_
  rintro e w' ⟨r, rfl, rfl, hr⟩
  have HR := Lib.hid hr
  clear hr
  go_wp2
  go_returns
  exact ⟨ret_bool HR.out, rfl⟩
/-- What shown hands back. -/
def ShownR (w : World) (c : List Int) (e : Ending) (w' : World) : Prop :=
  ∃ (P : List Int) (b : Bool), e = .returned (.tuple #[.agg (vals P), .bool b]) ∧ Below w.heap.size w w' ∧ Wf8 P ∧ (b = true → okc c = true ∧ P = wid c c.length) ∧ (b = false → ¬ (okc c = true ∧ (wid c c.length).length = 8))
def zer8 : List Int := [0, 0, 0, 0, 0, 0, 0, 0]
theorem zer8_wf : Wf8 zer8 := ⟨rfl, fun y hy => by simp [zer8] at hy; omega⟩
theorem vals_one (zs : List Int) : (vals zs).all (·.oneCell') = true := by simp [vals, Value.oneCell']
theorem results_cell_tmp {P : Program} {fn : Func} {p t : Tmp} {ty : TypeId} (h : fn.results = #[.cell p ty, .tmp t]) (tmps : Array Value) (w : World) (g : Nat) (et : TypeId) (cs : Array Value) (fr : Nat × Nat) (d : TypeDesc)
    (hp : tmps.getD p undef = .pointer (some ⟨g, 0, none⟩)) (hg : w.heap[g]? = some (.cells cs et fr))
    (hu : P.underlying ty = some d) (hd : (match d with | .struct _ | .array _ _ => true | _ => false) = true) (hi : (P.info? ty).map (·.size) = some cs.size) :
    (results fn tmps).run P w = .ok (.tuple #[.agg cs, tmps.getD t undef]) w := by
  have hp' : tmps[p]?.getD undef = .pointer (some ⟨g, 0, none⟩) := by simpa using hp
  simp [results, h, hp', asAddr, run_loadVar_row w g et ty cs fr d hg hu hd hi]
set_option maxRecDepth 20000 in
set_option maxHeartbeats 8000000 in
theorem iShown (a : Option Addr) (m cp : Nat) (c : List Int) (w : World) (h : Rd w a (m + 1) c) (hn : m ≤ 900) (hb : ∀ x ∈ c, -1 ≤ x ∧ x ≤ 1) :
    Calls Try.prog 108 #[.slice a (m + 1) cp] w (ShownR w c) := by
  have hiS : (Try.prog.info? 132).map (·.size) = some 8 := by
    obtain ⟨i0, hi, hiz, hi1, hi2⟩ := info_parts infoWid
    rw [hi]; simp [hi1]
  have hz8 : (vals zer8).size = 8 := rfl
  obtain ⟨b, off, rfl, hbl, hc⟩ := h.2 (by omega)
  have HL : Hid (c.length = m + 1) := h.1
  have HBd : Hid (∀ j, j ≤ m → -1 ≤ c.getD j 0 ∧ c.getD j 0 ≤ 1) := fun j hj => hb _ (getD_mem (by rw [h.1]; omega))
  have HH := Lib.hid h
  have HC := Lib.hid hc
  have c0 := hc 0 (by omega)
  have cl := hc m (by omega)
  rw [Nat.add_zero] at c0
  have bd0 := HBd.out 0 (by omega)
  have bdl := HBd.out m (by omega)
  generalize hx0 : c.getD 0 0 = x0 at c0 bd0
  generalize hxl : c.getD m 0 = xl at cl bdl
  have HX0 := Lib.hid hx0
  have HXL := Lib.hid hxl
  obtain ⟨W0, hW0⟩ : ∃ W0 : World, (w.alloc (.cells #[.int .i64 0, .int .i64 0, .int .i64 0, .int .i64 0, .int .i64 0, .int .i64 0, .int .i64 0, .int .i64 0] 132)).alloc (.cells #[.int .i64 0, .int .i64 0, .int .i64 0, .int .i64 0, .int .i64 0, .int .i64 0, .int .i64 0, .int .i64 0] 132) = W0 := ⟨_, rfl⟩
  have HR0 : Hid (Blk W0 w.heap.size 132 (vals zer8)) := by
    rw [← hW0]
    exact (Blk.new w 132 #[.int .i64 0, .int .i64 0, .int .i64 0, .int .i64 0, .int .i64 0, .int .i64 0, .int .i64 0, .int .i64 0]).alloc _
  have HO0 : Hid (Blk W0 (w.heap.size + 1) 132 (vals zer8)) := by
    rw [← hW0]
    have := Blk.new (w.alloc (.cells #[.int .i64 0, .int .i64 0, .int .i64 0, .int .i64 0, .int .i64 0, .int .i64 0, .int .i64 0, .int .i64 0] 132)) 132 #[.int .i64 0, .int .i64 0, .int .i64 0, .int .i64 0, .int .i64 0, .int .i64 0, .int .i64 0, .int .i64 0]
    rw [World.size_alloc] at this
    exact this
  have HB0 : Hid (Below w.heap.size w W0) := by rw [← hW0]; unfold Hid; repeat' (first | (with_reducible exact Below.refl _ _) | (with_reducible assumption) | (with_reducible refine Below.alloc ?_ ?_ _) | (with_reducible refine Below.setCell ?_ ?_ _) | (with_reducible refine Below.drew ?_) | (with_reducible refine below_drewN ?_ _) | (with_reducible refine below_via (by with_reducible assumption) ?_ ?_) | go_size)
  have HW0 := Lib.hid hW0
  have d0 := (HB0.out.cell (p := ⟨b, off, none⟩) hbl).trans c0
  have dl := (HB0.out.cell (p := ⟨b, off + m, none⟩) hbl).trans cl
  have hidx : ((m + 1 : Nat) : Int) - 1 = (m : Int) := by omega
  have hidx2 : (m : Int) + 1 - 1 = (m : Int) := by omega
  have m0 : (0 : Int) ≤ (m : Int) := by omega
  have m1 : (m : Int) < ((m + 1 : Nat) : Int) := by omega
  clear h hc hb c0 cl hx0 hxl hW0
  go_enter Try.func108, Try.ntmps108
  go_wp2_with fail
  refine (pContains _ (m + 1) cp c (-1) _ (HH.out.below (by repeat' (first | (with_reducible exact Below.refl _ _) | (with_reducible assumption) | (with_reducible refine Below.alloc ?_ ?_ _) | (with_reducible refine Below.setCell ?_ ?_ _) | (with_reducible refine Below.drew ?_) | (with_reducible refine below_drewN ?_ _) | (with_reducible refine below_via (by with_reducible assumption) ?_ ?_) | go_size))) (by omega)).mono ?_
  rintro e w' ⟨rfl, rfl⟩
  rw [HW0.out]
  by_cases hm1 : (-1 : Int) ∈ c
  · rw [decide_eq_true hm1]
    have HP : Hid (¬ (okc c = true ∧ (wid c c.length).length = 8)) := fun h => by rw [okc_neg hm1 (by omega)] at h; cases h.1
    clear hm1
    go_wp2_with (first | (refine wpList_load_row rfl 132 (.tmp 4) rfl (w.heap.size + 1) rfl 132 (vals zer8) (0, 0) _ HO0.out Try.underlying132 rfl (by rw [hz8]; exact hiS) ?_) | (refine wpList_store_row rfl 132 (.tmp 2) (.tmp 26) rfl w.heap.size (vals zer8) rfl rfl 132 (vals zer8) HR0.out (by rw [hz8]; exact hiS) (hz8.trans (Eq.symm hz8)) (vals_one _) ?_))
    refine bodyPost_ret (v := .tuple #[.agg (vals zer8), .bool false]) ?_ rfl ?_
    · exact results_cell_tmp (fn := Try.f108) (p := 2) (t := 3) rfl _ _ w.heap.size 132 (vals zer8) (0, 0) _ rfl (setRow_heap _ _ _ _ _ _ HR0.out) Try.underlying132 rfl (by rw [hz8]; exact hiS)
    exact ⟨zer8, false, rfl, below_setRow HB0.out (Nat.le_refl _) _, zer8_wf, (fun h => by cases h), fun _ => HP.out⟩
  rw [decide_eq_false hm1]
  have HNN : Hid (∀ j, j ≤ m → c.getD j 0 = 0 ∨ c.getD j 0 = 1) := fun j hj => by
    have := HBd.out j hj
    have h2 : c.getD j 0 ≠ -1 := fun e => hm1 (by rw [← e]; exact getD_mem (by rw [HL.out]; omega))
    omega
  have HNA : Hid (∀ x ∈ c, 0 ≤ x) := fun x hx => by
    obtain ⟨j, hj, e⟩ := List.getElem_of_mem hx
    have := HNN.out j (by have := HL.out; omega)
    have e2 : c.getD j 0 = x := by simp [List.getD_eq_getElem?_getD, List.getElem?_eq_getElem hj, e]
    omega
  clear hm1
  by_cases h1 : x0 = 1
  case neg =>
    have t1 : (x0 != 1) = true := by simpa using h1
    have HP : Hid (¬ (okc c = true ∧ (wid c c.length).length = 8)) := fun h => by
      have : c.getD 0 0 = 0 := by have := HNN.out 0 (by omega); rw [HX0.out] at this ⊢; omega
      rw [okc_head this] at h; cases h.1
    clear h1
    go_wp2_with (first | (refine wpList_load_row rfl 132 (.tmp 4) rfl (w.heap.size + 1) rfl 132 (vals zer8) (0, 0) _ HO0.out Try.underlying132 rfl (by rw [hz8]; exact hiS) ?_) | (refine wpList_store_row rfl 132 (.tmp 2) (.tmp 26) rfl w.heap.size (vals zer8) rfl rfl 132 (vals zer8) HR0.out (by rw [hz8]; exact hiS) (hz8.trans (Eq.symm hz8)) (vals_one _) ?_))
    refine bodyPost_ret (v := .tuple #[.agg (vals zer8), .bool false]) ?_ rfl ?_
    · exact results_cell_tmp (fn := Try.f108) (p := 2) (t := 3) rfl _ _ w.heap.size 132 (vals zer8) (0, 0) _ rfl (setRow_heap _ _ _ _ _ _ HR0.out) Try.underlying132 rfl (by rw [hz8]; exact hiS)
    exact ⟨zer8, false, rfl, below_setRow HB0.out (Nat.le_refl _) _, zer8_wf, (fun h => by cases h), fun _ => HP.out⟩
  subst h1
  have t1 : ((1 : Int) != 1) = false := by decide
  by_cases h2 : xl = 0
  case neg =>
    have t2 : (xl != 0) = true := by simpa using h2
    have HP : Hid (¬ (okc c = true ∧ (wid c c.length).length = 8)) := fun h => by
      have e1 : c.getD m 0 = 1 := by have := HNN.out m (by omega); rw [HXL.out] at this ⊢; omega
      have e2 := (wid_odd HX0.out m HNN.out).1 e1
      have e3 := h.2
      rw [HL.out] at e3
      omega
    clear h2
    go_wp2_with (first | (refine wpList_load_row rfl 132 (.tmp 4) rfl (w.heap.size + 1) rfl 132 (vals zer8) (0, 0) _ HO0.out Try.underlying132 rfl (by rw [hz8]; exact hiS) ?_) | (refine wpList_store_row rfl 132 (.tmp 2) (.tmp 26) rfl w.heap.size (vals zer8) rfl rfl 132 (vals zer8) HR0.out (by rw [hz8]; exact hiS) (hz8.trans (Eq.symm hz8)) (vals_one _) ?_))
    refine bodyPost_ret (v := .tuple #[.agg (vals zer8), .bool false]) ?_ rfl ?_
    · exact results_cell_tmp (fn := Try.f108) (p := 2) (t := 3) rfl _ _ w.heap.size 132 (vals zer8) (0, 0) _ rfl (setRow_heap _ _ _ _ _ _ HR0.out) Try.underlying132 rfl (by rw [hz8]; exact hiS)
    exact ⟨zer8, false, rfl, below_setRow HB0.out (Nat.le_refl _) _, zer8_wf, (fun h => by cases h), fun _ => HP.out⟩
  subst h2
  have t2 : ((0 : Int) != 0) = false := by decide
  have HLn : Hid ((wid c c.length).length = (wid c (m + 1)).length) := by unfold Hid; rw [HL.out]
  have HOK : Hid (okc c = true) := okc_yes HNA.out (by rw [HX0.out]; decide)
  go_wp2
  clear d0 dl HX0 HXL bd0 bdl
  go_loopw [5, 29] (fun pv iv wr => ∃ k : Nat, k ≤ m + 1 ∧ iv = .int .i64 k ∧ pv = .int .i64 (((wid c k).length - 1 : Nat) : Int) ∧ Hid ((wid c k).length ≤ 8) ∧ Hid (Blk wr (w.heap.size + 1) 132 (vals (pad8 (wid c k)))) ∧ Hid (Blk wr w.heap.size 132 (vals zer8)) ∧ Hid (Below w.heap.size w wr)) (fun _ i _ => m + 1 - (intOf i).toNat)
  case atStart => exact ⟨0, Nat.zero_le _, rfl, rfl, by simp [Hid, wid], HO0.out, HR0.out, HB0.out⟩
  case round =>
    clear HO0 HR0 HB0
    obtain ⟨k, hk, rfl, rfl, H8, HO, HR, HB⟩ := hrel
    obtain ⟨p, hp⟩ : ∃ p, (wid c k).length - 1 = p := ⟨_, rfl⟩
    have HP := Lib.hid hp
    rw [hp]
    have hp8 : p < 8 := by have := H8.out; omega
    clear hp
    have hPz : (vals (pad8 (wid c k))).size = 8 := by rw [vals_size]; exact pad8_len H8.out
    have hsz := HO.out.lt
    by_cases hlt : k < m + 1
    · have hx := (HB.out.cell (p := ⟨b, off + k, none⟩) hbl).trans (HC.out k hlt)
      generalize hxv : c.getD k 0 = x at hx
      have HX := Lib.hid hxv
      clear hxv
      have q0 : (0 : Int) ≤ (k : Int) := by omega
      have q1 : (k : Int) < ((m + 1 : Nat) : Int) := by omega
      by_cases hk0 : k = 0
      · have HW : Hid (wid c (k + 1) = wid c k ++ [1]) := wid_new (fun h => by omega)
        have HW0 : Hid (wid c k = []) := by unfold Hid; rw [hk0]; rfl
        have HN2 := Lib.hid (pad8_new (W := wid c k) (by rw [HW0.out]; decide))
        have hpe : Hid ((wid c k).length = p) := by have := HP.out; rw [HW0.out] at this ⊢; exact this
        have dk : decide ((0 : Int) < (k : Int)) = false := by simp; omega
        have dk2 : decide (0 < k) = false := by simp; omega
        have hk9 : k ≤ 0 := by omega
        clear hk0
        have cO : wr.cell? ⟨w.heap.size + 1, p, none⟩ = some (.int .i64 0) := by
          rw [HO.out.cell, vals_get _ _ (by rw [pad8_len H8.out]; omega)]
          have h := HN2.out.1
          rw [hpe.out] at h
          rw [h]
        have fO := HO.out.frozen p
        have HO2 : Hid (Blk (wr.setCell ⟨w.heap.size + 1, p, none⟩ (.int .i64 (0 + 1))) (w.heap.size + 1) 132 (vals (pad8 (wid c (k + 1))))) := by
          have := HO.out.set_ p (.int .i64 (0 + 1))
          have h := HN2.out.2
          rw [hpe.out] at h
          rw [vals_set] at this
          rw [HW.out, ← h]
          exact this
        have HR2 : Hid (Blk (wr.setCell ⟨w.heap.size + 1, p, none⟩ (.int .i64 (0 + 1))) w.heap.size 132 (vals zer8)) := HR.out.far (by simp) _
        have HB2 : Hid (Below w.heap.size w (wr.setCell ⟨w.heap.size + 1, p, none⟩ (.int .i64 (0 + 1)))) := HB.out.setCell (by simp) _
        have HL2 : Hid ((wid c (k + 1)).length - 1 = p ∧ (wid c (k + 1)).length ≤ 8) := by
          unfold Hid
          rw [HW.out]
          rw [List.length_append, List.length_singleton, hpe.out]
          omega
        have qa : (0 : Int) ≤ (p : Int) := by omega
        have qb : (p : Int) < 8 := by omega
        have ne1 : b ≠ w.heap.size + 1 := by omega
        clear HO HR HB
        go_wp2
        go_roundw
        case rel => exact ⟨k + 1, by omega, by go_num, by rw [HL2.out.1], HL2.out.2, HO2, HR2, HB2⟩
        case measure => simp [intOf]; omega
      · have hk1 : 0 < k := by omega
        have hkm : k - 1 < m + 1 := by omega
        obtain ⟨j, hj⟩ : ∃ j, k = j + 1 := ⟨k - 1, by omega⟩
        have hy := (HB.out.cell (p := ⟨b, off + j, none⟩) hbl).trans (HC.out j (by omega))
        generalize hyv : c.getD j 0 = y at hy
        have HY : Hid (c.getD (k - 1) 0 = y) := by unfold Hid; rw [hj, Nat.add_sub_cancel]; exact hyv
        have dk : decide ((0 : Int) < (k : Int)) = true := by simp; omega
        have kj : (k : Int) - 1 = (j : Int) := by omega
        have j0 : (0 : Int) ≤ (j : Int) := by omega
        have j1 : (j : Int) < ((m + 1 : Nat) : Int) := by omega
        have hkI : (0 : Int) < (k : Int) := by omega
        have HLp : Hid (0 < (wid c k).length) := (wid_len c k).2 hk1
        have HJ := Lib.hid hj
        clear hyv hj
        by_cases hxy : x = y
        · have HW : Hid (wid c (k + 1) = incL (wid c k)) := wid_same hk1 (by rw [HX.out, HY.out]; exact hxy)
          have HN2 := Lib.hid (pad8_inc (W := wid c k) HLp.out)
          have hpe : Hid ((wid c k).length - 1 = p) := HP.out
          obtain ⟨z, hz⟩ : ∃ z, (wid c k).getD p 0 = z := ⟨_, rfl⟩
          have hzb : 1 ≤ z ∧ z ≤ (k : Int) := by
            rw [← hz, ← HP.out]
            exact wid_bd c k _ (by have := HLp.out; simp [List.getD_eq_getElem?_getD, List.getElem?_eq_getElem (show (wid c k).length - 1 < (wid c k).length by omega)])
          obtain ⟨zb1, zb2⟩ := hzb
          have HZ := Lib.hid hz
          have t : (x != y) = false := by simpa using hxy
          clear hz hxy
          have cO : wr.cell? ⟨w.heap.size + 1, p, none⟩ = some (.int .i64 z) := by
            rw [HO.out.cell, vals_get _ _ (by rw [pad8_len H8.out]; omega)]
            have h := (show (pad8 (wid c k)).getD p 0 = z from by have h := HN2.out.1; rw [HP.out] at h; exact h.trans HZ.out)
            rw [h]
          have fO := HO.out.frozen p
          have HO2 : Hid (Blk (wr.setCell ⟨w.heap.size + 1, p, none⟩ (.int .i64 (z + 1))) (w.heap.size + 1) 132 (vals (pad8 (wid c (k + 1))))) := by
            have := HO.out.set_ p (.int .i64 (z + 1))
            have h := (by have := HN2.out.2; rw [HP.out, HZ.out] at this; exact this)
            rw [vals_set] at this
            rw [HW.out, ← h]
            exact this
          have HR2 : Hid (Blk (wr.setCell ⟨w.heap.size + 1, p, none⟩ (.int .i64 (z + 1))) w.heap.size 132 (vals zer8)) := HR.out.far (by simp) _
          have HB2 : Hid (Below w.heap.size w (wr.setCell ⟨w.heap.size + 1, p, none⟩ (.int .i64 (z + 1)))) := HB.out.setCell (by simp) _
          have HL2 : Hid ((wid c (k + 1)).length - 1 = p ∧ (wid c (k + 1)).length ≤ 8) := by
            unfold Hid
            rw [HW.out]
            rw [incL_len]
            exact ⟨HP.out, H8.out⟩
          have qa : (0 : Int) ≤ (p : Int) := by omega
          have qb : (p : Int) < 8 := by omega
          have ne1 : b ≠ w.heap.size + 1 := by omega
          clear HO HR HB
          go_wp2
          go_roundw
          case rel => exact ⟨k + 1, by omega, by go_num, by rw [HL2.out.1], HL2.out.2, HO2, HR2, HB2⟩
          case measure => simp [intOf]; omega
        · have HW : Hid (wid c (k + 1) = wid c k ++ [1]) := wid_new (fun h => hxy (by rw [← HX.out, ← HY.out]; exact h.2))
          have t : (x != y) = true := by simpa using hxy
          clear hxy
          by_cases hp7 : p = 7
          · have HPb : Hid (¬ (okc c = true ∧ (wid c c.length).length = 8)) := fun h => by
              have h2 := h.2
              have h3 := wid_mono c (show k + 1 ≤ m + 1 by omega)
              rw [HLn.out] at h2
              rw [HW.out, List.length_append, List.length_singleton] at h3
              have := HP.out
              have := HLp.out
              omega
            have HPw : Hid (Wf8 (pad8 (wid c k))) := ⟨pad8_len H8.out, fun y hy => by
              rcases List.mem_append.1 hy with h | h
              · have := wid_bd c k y h; omega
              · have := List.eq_of_mem_replicate h; omega⟩
            have t8 : ((p : Int) + 1 == 8) = true := by simp; omega
            have hp7I : (p : Int) + 1 = 8 := by omega
            clear hp7
            go_wp2_with (first | (refine wpList_load_row rfl 132 (.tmp 4) rfl (w.heap.size + 1) rfl 132 (vals (pad8 (wid c k))) (0, 0) _ HO.out Try.underlying132 rfl (by rw [hPz]; exact hiS) ?_) | (refine wpList_store_row rfl 132 (.tmp 2) (.tmp 49) rfl w.heap.size (vals (pad8 (wid c k))) rfl rfl 132 (vals zer8) HR.out (by rw [hPz]; exact hiS) (hz8.trans (Eq.symm hPz)) (vals_one _) ?_))
            refine bodyPost_ret (v := .tuple #[.agg (vals (pad8 (wid c k))), .bool false]) ?_ rfl ?_
            · exact results_cell_tmp (fn := Try.f108) (p := 2) (t := 3) rfl _ _ w.heap.size 132 (vals (pad8 (wid c k))) (0, 0) _ rfl (setRow_heap _ _ _ _ _ _ HR.out) Try.underlying132 rfl (by rw [hPz]; exact hiS)
            exact ⟨pad8 (wid c k), false, rfl, below_setRow HB.out (Nat.le_refl _) _, HPw.out, (fun h => by cases h), fun _ => HPb.out⟩
          · have HN2 := Lib.hid (pad8_new (W := wid c k) (by have := HP.out; have := HLp.out; omega))
            have hpe : Hid ((wid c k).length = p + 1) := by have := HP.out; have := HLp.out; unfold Hid; omega
            have t8 : ((p : Int) + 1 == 8) = false := by simp; omega
            obtain ⟨q, hq⟩ : ∃ q, p + 1 = q := ⟨_, rfl⟩
            have HQQ := Lib.hid hq
            have hpq : (p : Int) + 1 = (q : Int) := by omega
            have hq8 : q < 8 := by omega
            clear hp7 hq
            have cO : wr.cell? ⟨w.heap.size + 1, q, none⟩ = some (.int .i64 0) := by
              rw [HO.out.cell, vals_get _ _ (by rw [pad8_len H8.out]; omega)]
              have h := (by have := HN2.out.1; rw [hpe.out, HQQ.out] at this; exact this)
              rw [h]
            have fO := HO.out.frozen q
            have HO2 : Hid (Blk (wr.setCell ⟨w.heap.size + 1, q, none⟩ (.int .i64 (0 + 1))) (w.heap.size + 1) 132 (vals (pad8 (wid c (k + 1))))) := by
              have := HO.out.set_ q (.int .i64 (0 + 1))
              have h := (by have := HN2.out.2; rw [hpe.out, HQQ.out] at this; exact this)
              rw [vals_set] at this
              rw [HW.out, ← h]
              exact this
            have HR2 : Hid (Blk (wr.setCell ⟨w.heap.size + 1, q, none⟩ (.int .i64 (0 + 1))) w.heap.size 132 (vals zer8)) := HR.out.far (by simp) _
            have HB2 : Hid (Below w.heap.size w (wr.setCell ⟨w.heap.size + 1, q, none⟩ (.int .i64 (0 + 1)))) := HB.out.setCell (by simp) _
            have HL2 : Hid ((wid c (k + 1)).length - 1 = q ∧ (wid c (k + 1)).length ≤ 8) := by
              unfold Hid
              rw [HW.out]
              rw [List.length_append, List.length_singleton, hpe.out]
              omega
            have qa : (0 : Int) ≤ (q : Int) := by omega
            have qb : (q : Int) < 8 := by omega
            have ne1 : b ≠ w.heap.size + 1 := by omega
            clear HO HR HB
            go_wp2
            go_roundw
            case rel => exact ⟨k + 1, by omega, by go_num, by rw [HL2.out.1], HL2.out.2, HO2, HR2, HB2⟩
            case measure => simp [intOf]; omega
    · have hke : Hid (k = m + 1) := (by omega : k = m + 1)
      have e9 : pad8 (wid c k) = pad8 (wid c c.length) := by rw [hke.out, HL.out]
      have HPw : Hid (Wf8 (pad8 (wid c k))) := ⟨pad8_len H8.out, fun y hy => by
        rcases List.mem_append.1 hy with h | h
        · have := wid_bd c k y h; omega
        · have := List.eq_of_mem_replicate h; omega⟩
      have hkI : ((m + 1 : Nat) : Int) ≤ (k : Int) := by omega
      have HLk : Hid ((wid c c.length).length = (wid c k).length) := by unfold Hid; rw [HLn.out, hke.out]
      have HLp : Hid (0 < (wid c k).length) := (wid_len c k).2 (by omega)
      by_cases hp7 : p = 7
      · have HPe : Hid (pad8 (wid c k) = wid c c.length) := by
          unfold Hid
          rw [e9]
          exact pad8_full (by rw [HLk.out]; have := HP.out; have := HLp.out; omega)
        have t7 : ((p : Int) == 7) = true := by simp; omega
        clear hp7 e9
        go_wp2_with (first | (refine wpList_load_row rfl 132 (.tmp 4) rfl (w.heap.size + 1) rfl 132 (vals (pad8 (wid c k))) (0, 0) _ HO.out Try.underlying132 rfl (by rw [hPz]; exact hiS) ?_) | (refine wpList_store_row rfl 132 (.tmp 2) (.tmp 56) rfl w.heap.size (vals (pad8 (wid c k))) rfl rfl 132 (vals zer8) HR.out (by rw [hPz]; exact hiS) (hz8.trans (Eq.symm hPz)) (vals_one _) ?_))
        refine bodyPost_ret (v := .tuple #[.agg (vals (pad8 (wid c k))), .bool true]) ?_ rfl ?_
        · exact results_cell_tmp (fn := Try.f108) (p := 2) (t := 3) rfl _ _ w.heap.size 132 (vals (pad8 (wid c k))) (0, 0) _ rfl (setRow_heap _ _ _ _ _ _ HR.out) Try.underlying132 rfl (by rw [hPz]; exact hiS)
        exact ⟨pad8 (wid c k), true, rfl, below_setRow HB.out (Nat.le_refl _) _, HPw.out, (fun _ => ⟨HOK.out, HPe.out⟩), fun h => by cases h⟩
      · have HPb : Hid (¬ (okc c = true ∧ (wid c c.length).length = 8)) := fun h => by
          have h2 := h.2
          rw [HLk.out] at h2
          have := HP.out
          omega
        have t7 : ((p : Int) == 7) = false := by simp; omega
        clear hp7 e9
        go_wp2_with (first | (refine wpList_load_row rfl 132 (.tmp 4) rfl (w.heap.size + 1) rfl 132 (vals (pad8 (wid c k))) (0, 0) _ HO.out Try.underlying132 rfl (by rw [hPz]; exact hiS) ?_) | (refine wpList_store_row rfl 132 (.tmp 2) (.tmp 56) rfl w.heap.size (vals (pad8 (wid c k))) rfl rfl 132 (vals zer8) HR.out (by rw [hPz]; exact hiS) (hz8.trans (Eq.symm hPz)) (vals_one _) ?_))
        refine bodyPost_ret (v := .tuple #[.agg (vals (pad8 (wid c k))), .bool false]) ?_ rfl ?_
        · exact results_cell_tmp (fn := Try.f108) (p := 2) (t := 3) rfl _ _ w.heap.size 132 (vals (pad8 (wid c k))) (0, 0) _ rfl (setRow_heap _ _ _ _ _ _ HR.out) Try.underlying132 rfl (by rw [hPz]; exact hiS)
        exact ⟨pad8 (wid c k), false, rfl, below_setRow HB.out (Nat.le_refl _) _, HPw.out, (fun h => by cases h), fun _ => HPb.out⟩
end Go.Proofs.Ytdpifddmhbeklaa
