/-
  DERIVED. The walk of FnSections.
-/
import Derived.Test.YtbcbdphnbfjhoaaDSec
import Derived.Test.YtbcbdphnbfjhoaaMod
import Derived.Test.YtbcbdphnbfjhoaaFinS
import Derived.Test.YtbcbdphnbfjhoaaSect2
import Derived.Conc.MuLone
import Derived.Maps.AppendAt
namespace Go.Proofs.Ytbcbdphnbfjhoaa
open Go.RowKit
set_option linter.unusedVariables false
theorem sec_scale {k x s : Int} (hk : k = 1 ∨ k = 3) : secOK k (2 * x) (2 * s) = secOK k x s := by
  unfold secOK distV
  rcases hk with rfl | rfl <;> (apply decide_eq_decide.2; omega)
theorem sec_two {a b c d e : Int} (h : widthsB [a, b, c, d, e] = true) (hc : c ≤ 1000) : widthsB [2 * a, 2 * b, 2 * c, 2 * d, 2 * e] = true ∧ 1 ≤ a + b + c + d + e ∧ a + b + c + d + e ≤ 40000 ∧ (1 ≤ a ∧ a ≤ 5000) ∧ (1 ≤ b ∧ b ≤ 5000) ∧ (1 ≤ c ∧ c ≤ 5000) ∧ (1 ≤ d ∧ d ≤ 5000) ∧ (1 ≤ e ∧ e ≤ 5000) := by
  simp only [widthsB, Bool.and_eq_true, inB_iff] at h
  obtain ⟨h1, h2, h3, h4, h5, hs⟩ := h
  have h3' := hs
  simp only [sectB, Bool.and_eq_true] at h3'
  have hC := h3'.2.2.1
  unfold secOK distV at hC
  have hC := of_decide_eq_true hC
  have hsum : a + b + c + d + e ≤ 4667 := by omega
  have g : ∀ x : Int, 1 ≤ x → x ≤ 4667 → inB (2 * x) 1 40000 = true := fun x p q => inB_yes (by omega) (by omega)
  have e2 : sectB (2 * a) (2 * b) (2 * c) (2 * d) (2 * e) = true := by
    rw [← hs]
    simp only [sectB]
    rw [show 2 * a + 2 * b + 2 * c + 2 * d + 2 * e = 2 * (a + b + c + d + e) by omega]
    rw [sec_scale (.inl rfl), sec_scale (.inl rfl), sec_scale (.inr rfl), sec_scale (.inl rfl), sec_scale (.inl rfl)]
  refine ⟨?_, by omega, by omega, by omega, by omega, by omega, by omega, by omega⟩
  simp only [widthsB, e2, g a (by omega) (by omega), g b (by omega) (by omega), g c (by omega) (by omega), g d (by omega) (by omega), g e (by omega) (by omega), Bool.and_true]
theorem widths5 {zs : List Int} (h : widthsB zs = true) : zs.length = 5 := by
  by_cases h5 : zs.length = 5
  · exact h5
  · rw [widthsB_len h5] at h; cases h
def sumTo (zs : List Int) : Nat → Int
  | 0 => 0
  | k + 1 => sumTo zs k + zs.getD k 0
def dblTo (zs : List Int) (k : Nat) : List Int := (zs.take k).map fun x => 2 * x
theorem dblTo_succ (zs : List Int) (k : Nat) (h : k < zs.length) : dblTo zs (k + 1) = dblTo zs k ++ [2 * zs.getD k 0] := by
  unfold dblTo
  rw [List.take_succ_eq_append_getElem h, List.map_append]
  simp [List.getD_eq_getElem?_getD, List.getElem?_eq_getElem h]
theorem sumTo_bd (zs : List Int) (h : ∀ x ∈ zs, 1 ≤ x ∧ x ≤ 5000) (k : Nat) (hk : k ≤ zs.length) : 0 ≤ sumTo zs k ∧ sumTo zs k ≤ 5000 * (k : Int) := by
  induction k with
  | zero => simp [sumTo]
  | succ k ih =>
    have := ih (by omega)
    have := h _ (getD_mem (zs := zs) (i := k) (by omega))
    simp only [sumTo]
    omega
set_option maxHeartbeats 1000000 in
theorem lBig (a : Option Addr) (n cp : Nat) (w : World) (hn : n ≤ maxLen) : Calls Try.prog 33 #[.slice a n cp] w fun e w' => e = .returned (.bool (decide ((4096 : Int) < (n : Int)))) ∧ w = w' := by
  unfold maxLen at hn
  go_enter Try.func33, Try.ntmps33
  go_wp2
  go_returns
  exact ⟨rfl, rfl⟩
set_option maxRecDepth 100000 in
set_option maxHeartbeats 8000000 in
theorem walk_FnSections (code_a : Option Addr) (code_n code_c : Nat) (code_z : List Int) (w : World) (h_code : Ints .u8 w code_a code_n code_c code_z) :
    Calls Try.prog 11 #[.slice code_a code_n code_c] w fun e w' => e = .returned (.bool true) ∧ Below w.heap.size w w' := by
  obtain ⟨i0, hi, iz0, iz1, iz2⟩ := info_parts infoInt
  have hmx := h_code.max
  have HBY := Lib.hid h_code.bytes
  clear h_code
  by_cases hbig : 4096 < code_n
  · have tb : decide ((4096 : Int) < (code_n : Int)) = true := by simp; omega
    go_enter Try.func11, Try.ntmps11
    go_wp2_with fail
    refine (lBig _ _ _ _ hmx).mono ?_
    rintro e w' ⟨rfl, rfl⟩
    rw [tb]
    go_wp2
    go_returns
    exact ⟨rfl, by repeat' (first | (with_reducible exact Below.refl _ _) | (with_reducible assumption) | (with_reducible refine Below.alloc ?_ ?_ _) | (with_reducible refine Below.setCell ?_ ?_ _) | (with_reducible refine Below.drew ?_) | (with_reducible refine below_drewN ?_ _) | (with_reducible refine below_via (by with_reducible assumption) ?_ ?_) | go_size)⟩
  have tb : decide ((4096 : Int) < (code_n : Int)) = false := by simp; omega
  go_enter Try.func11, Try.ntmps11
  go_wp2_with fail
  refine (lBig _ _ _ _ hmx).mono ?_
  rintro e w' ⟨rfl, rfl⟩
  rw [tb]
  go_wp2_with fail
  refine (dIsSection _ _ _ _ HBY.out (by omega)).mono ?_
  rintro e w1 ⟨aw, nw, cw, zs, rfl, hnw, hcw, hrd, hb1⟩
  have hz1 := hb1.size
  have HR := Lib.hid hrd
  clear hrd
  go_wp2_with fail
  refine (iIsSection aw nw cw zs _ HR.out (by omega)).mono ?_
  rintro e w2 ⟨rfl, hb2⟩
  have hz2 := hb2.size
  go_wp2_with fail
  refine (sIsSection aw nw cw zs _ (HR.out.below hb2) (by omega)).mono ?_
  rintro e w3 ⟨rfl, hb3⟩
  have hz3 := hb3.size
  have HR3 := Lib.hid ((HR.out.below hb2).below hb3)
  have hB3 : Below w.heap.size w w3 := by repeat' (first | (with_reducible exact Below.refl _ _) | (with_reducible assumption) | (with_reducible refine Below.alloc ?_ ?_ _) | (with_reducible refine Below.setCell ?_ ?_ _) | (with_reducible refine Below.drew ?_) | (with_reducible refine below_drewN ?_ _) | (with_reducible refine below_via (by with_reducible assumption) ?_ ?_) | go_size)
  clear hb1 hb2 hb3
  cases hwb : widthsB zs
  · go_wp2
    go_returns
    exact ⟨rfl, hB3⟩
  have h5 := widths5 hwb
  have hn5 : nw = 5 := by rw [← HR3.out.1]; exact h5
  subst hn5
  obtain ⟨x0, x1, x2, x3, x4, rfl⟩ := list5 h5
  obtain ⟨b, off, rfl, hb, hc⟩ := HR3.out.2 (by omega)
  have c0 := hc 0 (by omega)
  have c1 := hc 1 (by omega)
  have c2 := hc 2 (by omega)
  have c3 := hc 3 (by omega)
  have c4 := hc 4 (by omega)
  simp at c0 c1 c2 c3 c4
  have HC := Lib.hid hc
  have HW := Lib.hid hwb
  clear hc hwb h5
  by_cases hbig2 : 1000 < x2
  · go_wp2
    go_returns
    exact ⟨rfl, hB3⟩
  have hx2 : x2 ≤ 1000 := by omega
  obtain ⟨HT, s1, s2, ⟨p0, q0⟩, ⟨p1, q1⟩, ⟨p2, q2⟩, ⟨p3, q3⟩, ⟨p4, q4⟩⟩ := sec_two HW.out hx2
  have HT := Lib.hid HT
  have HM : Hid (∀ x ∈ [x0, x1, x2, x3, x4], 1 ≤ x ∧ x ≤ 5000) := by
    intro x hx
    simp only [List.mem_cons, List.not_mem_nil, or_false] at hx
    omega
  have HS : Hid (sumTo [x0, x1, x2, x3, x4] 5 = x0 + x1 + x2 + x3 + x4) := by unfold Hid; simp [sumTo]
  have HDB : Hid (dblTo [x0, x1, x2, x3, x4] 5 = [2 * x0, 2 * x1, 2 * x2, 2 * x3, 2 * x4]) := rfl
  obtain ⟨zs, hzs⟩ : ∃ zs, zs = [x0, x1, x2, x3, x4] := ⟨_, rfl⟩
  rw [← hzs] at HC HM HS HDB
  have hzl : zs.length = 5 := by rw [hzs]; rfl
  have HZL := Lib.hid hzl
  clear hzs hzl c0 c1 c3 c4
  go_wp2
  clear c2
  have HO0 : Hid ((w3.alloc (.cells #[] 2)).ownsRow w3.heap.size 2 1 (.slice (some ⟨w3.heap.size, 0, none⟩) 0 0) 0 []) := by
    have := World.ownsRow_lit (base := w3.heap.size) (e := 2) (size := 1) w3 #[] 0 (Nat.le_refl _) (by unfold maxLen; omega) (by simp)
    simp at this
    exact this
  go_loopw [5, 6, 7] (fun v s i wr => ∃ (k : Nat) (sv : Int), k ≤ 5 ∧ i = .int .i64 k ∧ s = .int .i64 sv ∧ Hid (sumTo zs k = sv) ∧ 0 ≤ sv ∧ sv ≤ 5000 * (k : Int) ∧ Hid (wr.ownsRow w3.heap.size 2 1 v k ((dblTo zs k).map (Value.int .i64))) ∧ Below w3.heap.size w3 wr) (fun _ _ i _ => 5 - (intOf i).toNat)
  case atStart => exact ⟨0, 0, by omega, rfl, rfl, rfl, by omega, by omega, HO0.out, by repeat' (first | (with_reducible exact Below.refl _ _) | (with_reducible assumption) | (with_reducible refine Below.alloc ?_ ?_ _) | (with_reducible refine Below.setCell ?_ ?_ _) | (with_reducible refine Below.drew ?_) | (with_reducible refine below_drewN ?_ _) | (with_reducible refine below_via (by with_reducible assumption) ?_ ?_) | go_size)⟩
  case round =>
    obtain ⟨k, sv, hk, rfl, rfl, HSV, sv0, sv1, HO, hbel⟩ := hrel
    have hzz := hbel.size
    by_cases hlt : k < 5
    · have hx : wr.cell? ⟨b, off + k, none⟩ = some (.int .i64 (zs.getD k 0)) := (hbel.cell (p := ⟨b, off + k, none⟩) hb).trans (HC.out k hlt)
      have hbx := HM.out _ (getD_mem (zs := zs) (i := k) (by rw [HZL.out]; exact hlt))
      have HSN : Hid (sumTo zs (k + 1) = sv + zs.getD k 0) := by rw [← HSV.out]; exact rfl
      have HDN : Hid (dblTo zs (k + 1) = dblTo zs k ++ [2 * zs.getD k 0]) := dblTo_succ zs k (by rw [HZL.out]; exact hlt)
      generalize zs.getD k 0 = x at hx hbx HSN HDN
      obtain ⟨bx0, bx1⟩ := hbx
      go_wp2_with (at_builtin; refine wpList_append_own _ rfl _ _ 22 rfl w3.heap.size 2 i0 (.int .i64 0) 1 8 Try.underlying22 hi iz0 iz1 iz2 rfl (by decide) _ _ _ rfl (HO.out.alloc _) ⟨wr.heap.size, 0, none⟩ 1 1 [.int .i64 (2 * x)] rfl rfl (cell_one_new _ _ _) (by simp [Value.oneCell']) (by unfold maxLen; omega) (by omega) (by simp; omega) ?_; intro v' w5 hown' hgrow _; have hx5 : w5.cell? ⟨b, off + k, none⟩ = some (.int .i64 x) := (World.cell?_of_block (a := ⟨b, off + k, none⟩) (hgrow.block b (by simp; omega) (fun e => by have := (HO.out.lt b e.symm).1; omega))).trans ((World.cell?_alloc_lt wr _ ⟨b, off + k, none⟩ (by show b < _; omega)).trans hx))
      have HO5 : Hid (w5.ownsRow w3.heap.size 2 1 v' (k + 1) ((dblTo zs (k + 1)).map (Value.int .i64))) := by rw [HDN.out, List.map_append]; exact hown'
      have HB5 : Hid (Below w3.heap.size w3 w5) := (hbel.alloc (by omega) _).grown hgrow (by simp; omega) (fun q e => (HO.out.lt q e).1)
      clear hown' hgrow hbel hx
      go_wp2
      go_roundw
      case rel => exact ⟨k + 1, sv + x, by omega, by go_num, rfl, HSN.out, by omega, by omega, HO5, HB5.out⟩
      case measure => simp [intOf]; omega
    · have hk5 : k = 5 := by omega
      subst hk5
      have hsv : sv = x0 + x1 + x2 + x3 + x4 := by rw [← HSV.out]; exact HS.out
      obtain ⟨av, cv, rfl⟩ := ownN_shape HO.out
      have HSV2 := Lib.hid hsv
      have sv2 : 1 ≤ sv := by omega
      have sv3 : sv ≤ 40000 := by omega
      clear hsv sv0 sv1
      have HMO : Hid (modOut [(0, 0, sv, sv)] 1 = (0 + sv + sv, 14 * ((1 : Nat) : Int), 0)) := by
        have g : inB sv 1 40000 = true := inB_yes sv2 sv3
        refine modOut_ok (by decide) (modB_yes (fun j hj => ?_))
        have : j = 0 := by omega
        subst this
        exact modK_yes (x := sv) (y := sv) rfl rfl g g
      go_wp2_with fail
      refine (iModuleSize _ 1 1 [(0, 0, sv, sv)] _ (Blk.rdV (t := 66) (vs := finV [(0, 0, sv, sv)]) (Blk.new _ _ _) rfl) (by omega) _ _ _ HMO.out).mono ?_
      rintro e w6 ⟨rfl, hb6⟩
      have hz6 := hb6.size
      simp at hz6
      have hO6 := ownN_below HO.out (by repeat' (first | (with_reducible exact Below.refl _ _) | (with_reducible assumption) | (with_reducible refine Below.alloc ?_ ?_ _) | (with_reducible refine Below.setCell ?_ ?_ _) | (with_reducible refine Below.drew ?_) | (with_reducible refine below_drewN ?_ _) | (with_reducible refine below_via (by with_reducible assumption) ?_ ?_) | go_size) : Below wr.heap.size wr w6)
      have HO6 := Lib.hid hO6
      clear hO6
      have hB6 : Below w.heap.size w w6 := (hB3.trans (hbel.mono (by omega))).trans (by repeat' (first | (with_reducible exact Below.refl _ _) | (with_reducible assumption) | (with_reducible refine Below.alloc ?_ ?_ _) | (with_reducible refine Below.setCell ?_ ?_ _) | (with_reducible refine Below.drew ?_) | (with_reducible refine below_drewN ?_ _) | (with_reducible refine below_via (by with_reducible assumption) ?_ ?_) | go_size))
      have t1 : 0 + sv + sv = 2 * sv := by omega
      rw [t1]
      clear t1
      go_wp2_with fail
      refine (iIsSection av 5 cv (dblTo zs 5) _ (own_rd HO6.out) (by omega)).mono ?_
      rintro e w7 ⟨rfl, hb7⟩
      have hz7 := hb7.size
      have e7 : widthsB (dblTo zs 5) = true := by rw [HDB.out]; exact HT.out
      rw [e7]
      go_wp2
      go_returns
      exact ⟨rfl, by repeat' (first | (with_reducible exact Below.refl _ _) | (with_reducible assumption) | (with_reducible refine Below.alloc ?_ ?_ _) | (with_reducible refine Below.setCell ?_ ?_ _) | (with_reducible refine Below.drew ?_) | (with_reducible refine below_drewN ?_ _) | (with_reducible refine below_via (by with_reducible assumption) ?_ ?_) | go_size)⟩
end Go.Proofs.Ytbcbdphnbfjhoaa
