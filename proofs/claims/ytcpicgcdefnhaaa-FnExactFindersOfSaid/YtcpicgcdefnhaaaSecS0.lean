/-
  DERIVED. Sections: spec.
-/
import Derived.Test.YtcpicgcdefnhaaaSec0
import Derived.Test.YtcpicgcdefnhaaaSect2
import Derived.Test.YtcpicgcdefnhaaaRunsS
import Derived.Test.YtcpicgcdefnhaaaBas
import Derived.Conc.MuLone
import Derived.Maps.AppendAt
namespace Go.Proofs.Ytcpicgcdefnhaaa
open Go.RowKit
set_option linter.unusedVariables false
def five5 (L : List R3) (i j : Nat) : List Int := (List.range j).map fun q => lnR L (i + q)
theorem five5_succ (L : List R3) (i j : Nat) : five5 L i (j + 1) = five5 L i j ++ [lnR L (i + j)] := by simp [five5, List.range_succ]
theorem widths_five {L : List R3} {n i : Nat} (h : Chain L n) (hn : n ≤ 40000) (hi : i + 5 ≤ L.length) (hd : dkR L i = true) : widthsB (five5 L i 5) = secI L i := by
  have e : five5 L i 5 = [lnR L i, lnR L (i + 1), lnR L (i + 2), lnR L (i + 3), lnR L (i + 4)] := rfl
  have h0 := h.bd (j := i) (by omega)
  have h1 := h.bd (j := i + 1) (by omega)
  have h2 := h.bd (j := i + 2) (by omega)
  have h3 := h.bd (j := i + 3) (by omega)
  have h4 := h.bd (j := i + 4) (by omega)
  have g : ∀ x : Int, 1 ≤ x → x ≤ n → inB x 1 40000 = true := fun x a b => inB_yes a (by omega)
  rw [e]
  simp only [widthsB, secI, hd, g _ h0.2.1 h0.2.2.1, g _ h1.2.1 h1.2.2.1, g _ h2.2.1 h2.2.2.1, g _ h3.2.1 h3.2.2.1, g _ h4.2.1 h4.2.2.1, hi, decide_true, Bool.true_and]
set_option maxRecDepth 100000 in
set_option maxHeartbeats 4000000 in
theorem sSection (a : Option Addr) (m cp i n : Nat) (L : List R3) (w : World) (h : RdV w a 3 m (runV L)) (hm : L.length = m) (hi : i < m) (hch : Chain L n) (hn : n ≤ 40000) (hmn : m ≤ 40000) :
    Calls Try.prog 29 #[.slice a m cp, .int .i64 (i : Int)] w fun e w' => e = .returned (.bool (secI L i)) ∧ Below w.heap.size w w' := by
  obtain ⟨i0, hi1, hz0, hz1, hz2⟩ := info_parts infoInt
  obtain ⟨b, off, rfl, hb, hc⟩ := h.runAt hi
  have HC := Lib.hid hc
  have HM := Lib.hid hm
  have HCH := Lib.hid hch
  clear h hc hm hch
  have q0 : ¬ (i : Int) < 0 := by omega
  have q1 : decide ((i : Int) < 0) = false := by simp
  have q2 : (0 : Int) ≤ (i : Int) := Int.natCast_nonneg _
  have q3 : (i : Int) < (m : Int) := by omega
  by_cases h5 : m < i + 5
  · have HE := Lib.hid (secI_short (L := L) (i := i) (by rw [HM.out]; exact h5))
    have q4 : decide ((m : Int) < (i : Int) + 5) = true := by simp; omega
    go_enter Try.func29, Try.ntmps29
    go_wp2
    go_returns
    exact ⟨ret_bool HE.out.symm, by repeat' (first | (with_reducible exact Below.refl _ _) | (with_reducible assumption) | (with_reducible refine Below.alloc ?_ ?_ _) | (with_reducible refine Below.setCell ?_ ?_ _) | (with_reducible refine Below.drew ?_) | (with_reducible refine below_drewN ?_ _) | (with_reducible refine below_via (by with_reducible assumption) ?_ ?_) | go_size)⟩
  · have q4 : decide ((m : Int) < (i : Int) + 5) = false := by simp; omega
    have q5 : i + 5 ≤ m := by omega
    have c2 := (HC.out i hi).2.2
    have HDI : Hid (dkR L i = dkR L i) := rfl
    generalize hdv : dkR L i = d at c2
    have HD := Lib.hid hdv
    clear hdv HDI
    cases d
    · have HE := Lib.hid (secI_light HD.out)
      go_enter Try.func29, Try.ntmps29
      go_wp2
      go_returns
      exact ⟨ret_bool HE.out.symm, by repeat' (first | (with_reducible exact Below.refl _ _) | (with_reducible assumption) | (with_reducible refine Below.alloc ?_ ?_ _) | (with_reducible refine Below.setCell ?_ ?_ _) | (with_reducible refine Below.drew ?_) | (with_reducible refine below_drewN ?_ _) | (with_reducible refine below_via (by with_reducible assumption) ?_ ?_) | go_size)⟩
    · have HE := Lib.hid (widths_five HCH.out hn (by rw [HM.out]; exact q5) HD.out)
      have HO0 : Hid ((w.alloc (.cells #[] 2)).ownsRow w.heap.size 2 1 (.slice (some ⟨w.heap.size, 0, none⟩) 0 0) 0 []) := by
        have := World.ownsRow_lit (base := w.heap.size) (e := 2) (size := 1) w #[] 0 (by simp) (by unfold maxLen; omega) (by simp)
        simp at this
        exact this
      go_enter Try.func29, Try.ntmps29
      go_wp2
      clear q4 q1 c2
      go_loopw [5, 6] (fun v k wr => ∃ j : Nat, j ≤ 5 ∧ k = .int .i64 ((i + j : Nat) : Int) ∧ Hid (wr.ownsRow w.heap.size 2 1 v j ((five5 L i j).map (Value.int .i64))) ∧ Below w.heap.size w wr) (fun _ k _ => i + 5 - (intOf k).toNat)
      case atStart => exact ⟨0, by omega, rfl, HO0.out, by repeat' (first | (with_reducible exact Below.refl _ _) | (with_reducible assumption) | (with_reducible refine Below.alloc ?_ ?_ _) | (with_reducible refine Below.setCell ?_ ?_ _) | (with_reducible refine Below.drew ?_) | (with_reducible refine below_drewN ?_ _) | (with_reducible refine below_via (by with_reducible assumption) ?_ ?_) | go_size)⟩
      case round =>
        obtain ⟨j, hj, rfl, HO, hbel⟩ := hrel
        have hzz := hbel.size
        by_cases hlt : j < 5
        · have t1 : decide (((i + j : Nat) : Int) < (i : Int) + 5) = true := by simp; omega
          have x1 : wr.cell? ⟨b, off + (i + j) * 3 + 1, none⟩ = some (.int .i64 (lnR L (i + j))) := (hbel.cell (p := ⟨b, _, none⟩) hb).trans (HC.out (i + j) (by omega)).2.1
          have HV : Hid ((five5 L i (j + 1)).map (Value.int .i64) = (five5 L i j).map (Value.int .i64) ++ [.int .i64 (lnR L (i + j))]) := by rw [five5_succ, List.map_append]; exact rfl
          generalize lnR L (i + j) = x at x1 HV
          generalize hkv : i + j = k at *
          have k2 : (0 : Int) ≤ (k : Int) := Int.natCast_nonneg _
          have k3 : (k : Int) < (m : Int) := by omega
          have k4 : (k : Int) < (i : Int) + 5 := by omega
          go_wp2_with (at_builtin; refine wpList_append_own _ rfl _ _ 22 rfl w.heap.size 2 i0 (.int .i64 0) 1 8 Try.underlying22 hi1 hz0 hz1 hz2 rfl (by decide) _ _ _ rfl (HO.out.alloc _) ⟨wr.heap.size, 0, none⟩ 1 1 [.int .i64 x] rfl rfl (cell_one_new _ _ _) (by simp [Value.oneCell']) (by unfold maxLen; omega) (by omega) (by simp; omega) ?_; intro v' w2 hown' hgrow _)
          have HO2 : Hid (w2.ownsRow w.heap.size 2 1 v' (j + 1) ((five5 L i (j + 1)).map (Value.int .i64))) := by rw [HV.out]; exact hown'
          have HB : Hid (Below w.heap.size w w2) := (hbel.alloc (by omega) _).grown hgrow (by simp; omega) (fun q e => (HO.out.lt q e).1)
          clear hown' hgrow hbel
          go_wp2
          go_roundw
          case rel => exact ⟨j + 1, by omega, by rw [← Nat.add_assoc, hkv]; go_num, HO2, HB.out⟩
          case measure => simp [intOf]; omega
        · have hj5 : j = 5 := by omega
          have HJ := Lib.hid hj5
          have t1 : decide (((i + j : Nat) : Int) < (i : Int) + 5) = false := by simp; omega
          have t2 : ¬ ((i + j : Nat) : Int) < (i : Int) + 5 := by omega
          obtain ⟨av, cv, rfl⟩ := ownN_shape HO.out
          clear hj5
          generalize hkv : i + j = k at *
          go_wp2_with fail
          have ho := HO.out
          rw [HJ.out] at ho ⊢
          refine (sIsSection av 5 cv (five5 L i 5) _ (own_rd ho) (by omega)).mono ?_
          rintro e w3 ⟨rfl, hb3⟩
          have hz3 := hb3.size
          rw [HE.out]
          go_wp2
          go_returns
          exact ⟨rfl, by repeat' (first | (with_reducible exact Below.refl _ _) | (with_reducible assumption) | (with_reducible refine Below.alloc ?_ ?_ _) | (with_reducible refine Below.setCell ?_ ?_ _) | (with_reducible refine Below.drew ?_) | (with_reducible refine below_drewN ?_ _) | (with_reducible refine below_via (by with_reducible assumption) ?_ ?_) | go_size)⟩
end Go.Proofs.Ytcpicgcdefnhaaa
