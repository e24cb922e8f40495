/-
  DERIVED. MedianRaster: spec.l01Own and spec.l22Sorted.
-/
import Derived.Test.YtfiddbmjgncabaaMedP
import Derived.Test.YtfiddbmjgncabaaBas
import Derived.Test.YtfiddbmjgncabaaResQ
import Derived.Conc.MuLone
import Derived.BigQuiet
namespace Go.Proofs.Ytfiddbmjgncabaa
open Go.RowKit
set_option linter.unusedVariables false
theorem grownN {a b : World} {row : Option Nat} (h : a.grownBy b row) (q : Nat) : a.grownBy (b.drewN q) row := ⟨h.os, h.tape, h.output, h.size, h.block⟩
set_option maxHeartbeats 2000000 in
theorem sOwnL (a : Option Addr) (n cp : Nat) (zs : List Int) (w : World) (h : Rd w a n zs) (hn : n ≤ 1048576) (h1 : 1 ≤ n) :
    Calls Try.prog 120 #[.slice a n cp] w fun e w' => ∃ av cv, e = .returned (.slice av n cv) ∧ w'.ownsRow w.heap.size 2 1 (.slice av n cv) n (zs.map (Value.int .i64)) ∧ Below w.heap.size w w' := by
  obtain ⟨i0, hi0, hz0, hz1', hz2⟩ := info_parts infoInt
  obtain ⟨hl, hr⟩ := h
  obtain ⟨b, off, rfl, hb, hc⟩ := hr (by omega)
  have HL := Lib.hid hl
  have HC := Lib.hid hc
  clear hr hl hc
  have HO0 : Hid ((w.alloc (.cells #[] 2)).ownsRow w.heap.size 2 1 (.slice (some ⟨w.heap.size, 0, none⟩) 0 0) 0 []) :=
    World.ownsRow_lit (base := w.heap.size) (e := 2) (size := 1) w #[] 0 (by simp) (by unfold maxLen; omega) (by simp)
  have HNEW : Hid (∀ j u, (zs.map (Value.int .i64))[j]? = some u → (w.alloc (.cells #[] 2)).cell? ((⟨b, off, none⟩ : Addr).add j) = some u) := by
    intro j u hj
    obtain ⟨hlt, e⟩ := List.getElem?_eq_some_iff.1 hj
    have hlt' : j < n := by rw [List.length_map, HL.out] at hlt; exact hlt
    rw [List.getElem_map] at e
    rw [← e]
    rw [Addr.add_lit]
    refine (((Below.refl w.heap.size w).alloc (Nat.le_refl _) _).cell (p := ⟨b, off + j, none⟩) hb).trans ((HC.out j hlt').trans ?_)
    simp [List.getD_eq_getElem?_getD, List.getElem?_eq_getElem (show j < zs.length by rw [HL.out]; exact hlt')]
  have HONE : Hid (∀ u ∈ zs.map (Value.int .i64), u.oneCell' = true) := by
    intro u hu
    obtain ⟨z, _, rfl⟩ := List.mem_map.1 hu
    rfl
  have HLEN : Hid ((zs.map (Value.int .i64)).length = n * 1) := by unfold Hid; rw [List.length_map, HL.out, Nat.mul_one]
  obtain ⟨news, hnews⟩ : ∃ l, zs.map (Value.int .i64) = l := ⟨_, rfl⟩
  rw [hnews] at HNEW HONE HLEN
  have HNN := Lib.hid hnews
  clear hnews
  go_enter Try.func120, Try.ntmps120
  go_wp2_with (at_builtin; refine wpList_append_own _ rfl _ _ 22 rfl w.heap.size 2 i0 (.int .i64 0) 1 8 Try.underlying22 hi0 hz0 hz1' hz2 rfl (by decide) _ _ _ rfl HO0.out ⟨b, off, none⟩ n cp news rfl HLEN.out HNEW.out HONE.out (by unfold maxLen; omega) (by omega) (by simp) ?_; intro v' w2 hown' hgrow _)
  rw [Nat.zero_add, List.nil_append, ← HNN.out] at hown'
  obtain ⟨av, cv, rfl⟩ := own_shape hown'
  have HO := Lib.hid hown'
  have HB : Hid (Below w.heap.size w w2) := (((Below.refl w.heap.size w).alloc (Nat.le_refl _) _)).grown hgrow (by simp) (fun j e => (HO0.out.lt j e).1)
  clear hown' hgrow
  go_wp2
  go_returns
  exact ⟨av, cv, rfl, HO.out, HB.out⟩
set_option maxRecDepth 20000 in
set_option maxHeartbeats 4000000 in
theorem sSortL (a : Option Addr) (n cp : Nat) (zs : List Int) (w : World) (h : Rd w a n zs) (hn : n ≤ 1048576) (h1 : 1 ≤ n) :
    Calls Try.prog 86 #[.slice a n cp] w fun e w' => ∃ av cv, e = .returned (.slice av n cv) ∧ w'.ownsRow w.heap.size 2 1 (.slice av n cv) n ((sortZ zs).map (Value.int .i64)) ∧ Below w.heap.size w w' := by
  have HL := Lib.hid h.1
  have HH := Lib.hid h
  clear h
  go_enter Try.func86, Try.ntmps86
  go_wp2_with fail
  refine (sOwnL a n cp zs _ HH.out hn h1).mono ?_
  rintro e V ⟨av, cv, rfl, ho, hb⟩
  obtain ⟨g, hg, hgl, rfl⟩ : ∃ g, w.heap.size ≤ g ∧ g < V.heap.size ∧ av = some ⟨g, 0, none⟩ := by
    rcases ho.2 with hv | ⟨g, cap, cur, hv, hg, hh, r⟩
    · exfalso
      have := hv.1
      simp at this
      omega
    · refine ⟨g, hg, ?_, ?_⟩
      · rcases Nat.lt_or_ge g V.heap.size with h | h
        · exact h
        · rw [Array.getElem?_eq_none h] at hh; cases hh
      · injection hv
  have HB := Lib.hid hb
  have hzV := hb.size
  have HO1 : Hid (V.ownsRow w.heap.size 2 1 (.slice (some ⟨g, 0, none⟩) n cv) n ((srt zs 1).map (Value.int .i64))) := ho
  clear ho hb
  go_wp2
  go_loopw [4] (fun v wr => ∃ i : Nat, 1 ≤ i ∧ i ≤ n ∧ v = .int .i64 i ∧ Hid (wr.ownsRow w.heap.size 2 1 (.slice (some ⟨g, 0, none⟩) n cv) n ((srt zs i).map (Value.int .i64))) ∧ Hid (V.grownBy wr (some g))) (fun v _ => n - (intOf v).toNat)
  case atStart => exact ⟨1, Nat.le_refl _, h1, rfl, HO1, World.grownBy.refl V _⟩
  case round =>
    obtain ⟨i, hi1, hin, rfl, HO, HG⟩ := hrel
    by_cases hlt : i < n
    · obtain ⟨wo, rfl⟩ : ∃ wo : World, wo = wr := ⟨_, rfl⟩
      go_wp2
      go_loopw [5] (fun v wr => ∃ (k : Nat) (ys : List Int), k ≤ i ∧ v = .int .i64 k ∧ Hid (ys.length = n) ∧ Hid (bub k ys = srt zs (i + 1)) ∧ Hid (wr.ownsRow w.heap.size 2 1 (.slice (some ⟨g, 0, none⟩) n cv) n (ys.map (Value.int .i64))) ∧ Hid (V.grownBy wr (some g))) (fun v _ => (intOf v).toNat)
      case atStart => exact ⟨i, srt zs i, Nat.le_refl _, rfl, by unfold Hid; rw [srt_length, HL.out], rfl, HO, HG⟩
      case round =>
        clear HO HG
        obtain ⟨k, ys, hki, rfl, HY, HBu, HO, HG⟩ := hrel
        rcases k with _ | k
        · have HO2 : Hid (wr.ownsRow w.heap.size 2 1 (.slice (some ⟨g, 0, none⟩) n cv) n ((srt zs (i + 1)).map (Value.int .i64))) := by rw [← HBu.out]; exact HO.out
          clear HO HBu
          go_wp2_with fail
          go_quiet (fail)
          go_wp2
          go_roundw
          case rel => exact ⟨i + 1, by omega, by omega, by go_num, HO2, grownN HG.out _⟩
          case measure => simp [intOf]; omega
        · have c1 : wr.cell? ⟨g, k, none⟩ = some (.int .i64 (ys.getD k 0)) := by
            rw [HO.out.cellAt k (by omega)]
            have := HY.out
            simp [List.getElem?_map, List.getElem?_eq_getElem (show k < ys.length by omega), List.getD_eq_getElem?_getD]
          have c2 : wr.cell? ⟨g, k + 1, none⟩ = some (.int .i64 (ys.getD (k + 1) 0)) := by
            rw [HO.out.cellAt (k + 1) (by omega)]
            have := HY.out
            simp [List.getElem?_map, List.getElem?_eq_getElem (show k + 1 < ys.length by omega), List.getD_eq_getElem?_getD]
          have f1 : wr.frozen? ⟨g, k, none⟩ = false := HO.out.frozenAt k
          have f2 : wr.frozen? ⟨g, k + 1, none⟩ = false := HO.out.frozenAt (k + 1)
          have k0 : (0 : Int) ≤ (k : Int) := by omega
          have k1 : (k : Int) + 1 < (n : Int) := by omega
          have k2 : (k : Int) < (n : Int) := by omega
          by_cases hsw : ys.getD (k + 1) 0 < ys.getD k 0
          · have HB2 : Hid (bub k ((ys.set (k + 1) (ys.getD k 0)).set k (ys.getD (k + 1) 0)) = srt zs (i + 1)) := by rw [← HBu.out]; exact (bub_go hsw).symm
            have HY2 : Hid (((ys.set (k + 1) (ys.getD k 0)).set k (ys.getD (k + 1) 0)).length = n) := by unfold Hid; simp; exact HY.out
            have HO2 : Hid (((wr.setCell ⟨g, k + 1, none⟩ (.int .i64 (ys.getD k 0))).setCell ⟨g, k, none⟩ (.int .i64 (ys.getD (k + 1) 0))).ownsRow w.heap.size 2 1 (.slice (some ⟨g, 0, none⟩) n cv) n (((ys.set (k + 1) (ys.getD k 0)).set k (ys.getD (k + 1) 0)).map (Value.int .i64))) := by
              unfold Hid
              rw [List.map_set, List.map_set]
              exact ((HO.out.stored (k + 1) (.int .i64 (ys.getD k 0))).1.stored k (.int .i64 (ys.getD (k + 1) 0))).1
            have HG2 : Hid (∀ q : Nat, V.grownBy (((wr.drewN q).setCell ⟨g, k + 1, none⟩ (.int .i64 (ys.getD k 0))).setCell ⟨g, k, none⟩ (.int .i64 (ys.getD (k + 1) 0))) (some g)) := fun q => only_setCell (only_setCell (grownN HG.out q) _) _
            obtain ⟨L2, hL2⟩ : ∃ L, (ys.set (k + 1) (ys.getD k 0)).set k (ys.getD (k + 1) 0) = L := ⟨_, rfl⟩
            rw [hL2] at HB2 HY2 HO2
            obtain ⟨x1, hx1⟩ : ∃ x, ys.getD k 0 = x := ⟨_, rfl⟩
            obtain ⟨x2, hx2⟩ : ∃ x, ys.getD (k + 1) 0 = x := ⟨_, rfl⟩
            rw [hx1] at c1 HO2 HG2 hsw
            rw [hx2] at c2 HO2 HG2 hsw
            clear hL2 hx1 hx2 HO HG HBu HY
            go_wp2_with fail
            go_quiet (fail)
            go_wp2
            go_roundw
            case rel => exact ⟨k, L2, by omega, by go_num, HY2, HB2, HO2, HG2.out _⟩
            case measure => simp [intOf]
          · have HO2 : Hid (wr.ownsRow w.heap.size 2 1 (.slice (some ⟨g, 0, none⟩) n cv) n ((srt zs (i + 1)).map (Value.int .i64))) := by
              have h := HBu.out
              rw [bub_stop hsw] at h
              rw [← h]
              exact HO.out
            obtain ⟨x1, hx1⟩ : ∃ x, ys.getD k 0 = x := ⟨_, rfl⟩
            obtain ⟨x2, hx2⟩ : ∃ x, ys.getD (k + 1) 0 = x := ⟨_, rfl⟩
            rw [hx1] at c1 hsw
            rw [hx2] at c2 hsw
            clear hx1 hx2 HO HBu HY
            go_wp2_with fail
            go_quiet (fail)
            go_wp2
            go_roundw
            case rel => exact ⟨i + 1, by omega, by omega, by go_num, HO2, grownN HG.out _⟩
            case measure => simp [intOf]; omega
    · have hie : i = n := by omega
      have HO2 : Hid (wr.ownsRow w.heap.size 2 1 (.slice (some ⟨g, 0, none⟩) n cv) n ((sortZ zs).map (Value.int .i64))) := by
        have h := HO.out
        rw [hie, ← HL.out, srt_all, HL.out] at h
        exact h
      clear hie HO
      go_wp2
      go_returns
      exact ⟨some ⟨g, 0, none⟩, cv, rfl, HO2.out, below_only HB.out HG.out hzV hg⟩
end Go.Proofs.Ytfiddbmjgncabaa
