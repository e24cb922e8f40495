/-
  DERIVED. BurstBound: spec.
-/
import Derived.Test.YtdpifddmhbeklaaBurP
namespace Go.Proofs.Ytdpifddmhbeklaa
open Go.RowKit
set_option linter.unusedVariables false
def fst' (L : List (Int × Int)) (i : Nat) : Int := (L.getD i (0, 0)).1
theorem rrow_plz {W : World} {B Z n k : Nat} {a : Option Addr} {L : List (Int × Int)} (h : RRow W B Z a n (L.map pl)) (hk : k < n) : ∃ b off b' off' cp, a = some ⟨b, off, none⟩ ∧ b < Z ∧ W.cell? ⟨b, off + k, none⟩ = some (.slice (some ⟨b', off', none⟩) 2 cp) ∧ b' < Z ∧ W.cell? ⟨b', off', none⟩ = some (.int .i64 (L.getD k (0, 0)).1) ∧ W.cell? ⟨b', off' + 1, none⟩ = some (.int .i64 (L.getD k (0, 0)).2) := by
  have hkl : k < L.length := by have := h.1; rw [List.length_map] at this; omega
  obtain ⟨b, off, e, hb1, hb2, hc⟩ := h.2.2 (by omega)
  obtain ⟨x, hx, hx2⟩ := hc k hk
  have e1 : (L.map Go.Proofs.Ytdpifddmhbeklaa.pl).getD k [] = Go.Proofs.Ytdpifddmhbeklaa.pl (L.getD k (0, 0)) := by
    simp [List.getD_eq_getElem?_getD, List.getElem?_eq_getElem hkl]
  rw [e1] at hx2
  obtain ⟨a', cp, rfl, hr⟩ := hx2
  obtain ⟨b', off', e2, hb', _, hc'⟩ := hr (by simp [Go.Proofs.Ytdpifddmhbeklaa.pl])
  subst e2
  exact ⟨b, off, b', off', cp, e, hb2, hx, hb'.2, hc' 0 (by simp [Go.Proofs.Ytdpifddmhbeklaa.pl]), hc' 1 (by simp [Go.Proofs.Ytdpifddmhbeklaa.pl])⟩
set_option maxRecDepth 20000 in
set_option maxHeartbeats 4000000 in
theorem sMost (a : Option Addr) (n cp B Z s k : Nat) (L : List (Int × Int)) (w : World) (hR : RRow w B Z a n (L.map pl)) (hn : n ≤ 1048576) (hs : s + k ≤ n) (hf : ∀ i, i < n → 0 ≤ fst' L i ∧ fst' L i < 16) :
    Calls Try.prog 66 #[.slice a n cp, .int .i64 (s : Int), .int .i64 ((s + k : Nat) : Int)] w fun e w' => e = .returned (.int .i64 (wmost (fst' L) s k : Int)) ∧ Below w.heap.size w w' := by
  have hmk : ∀ w : World, (Instr.makeSlice 36 (.int .i64 16) (.int .i64 16)).run Try.prog w = .ok (.slice (some ⟨w.heap.size, 0, none⟩) 16 16) (w.alloc (.cells (vals (cntL (fst' L) s 0)) 2)) := fun w => by
    rw [cntL_zero]
    exact make_ints 16 (by omega) w
  have HR := Lib.hid hR
  have HF := Lib.hid hf
  clear hR hf
  go_enter Try.func66, Try.ntmps66
  go_wp2
  go_loopw [8, 9] (fun q i wr => ∃ j : Nat, j ≤ k ∧ i = .int .i64 ((s + j : Nat) : Int) ∧ q = .int .i64 (wmost (fst' L) s j : Int) ∧ Hid (Blk wr w.heap.size 2 (vals (cntL (fst' L) s j))) ∧ Below w.heap.size w wr) (fun _ i _ => s + k - (intOf i).toNat)
  case atStart => exact ⟨0, Nat.zero_le _, by simp, by simp [wmost], Blk.new _ _ _, by repeat' (first | (with_reducible exact Below.refl _ _) | (with_reducible assumption) | (with_reducible refine Below.alloc ?_ ?_ _) | (with_reducible refine Below.setCell ?_ ?_ _) | (with_reducible refine Below.drew ?_) | (with_reducible refine below_drewN ?_ _) | (with_reducible refine below_via (by with_reducible assumption) ?_ ?_) | go_size)⟩
  case round =>
    obtain ⟨j, hj, rfl, rfl, HB, hbel⟩ := hrel
    obtain ⟨i, hi⟩ : ∃ i : Nat, s + j = i := ⟨_, rfl⟩
    have HI := Lib.hid hi
    rw [hi]
    by_cases hlt : j < k
    · have hik : i < s + k := by omega
      have hin : i < n := by omega
      have hZ := HR.out.2.1
      obtain ⟨b1, off, b2, off2, cp2, rfl, hb1, hc1, hb2, hx, hy⟩ := rrow_plz (HR.out.keep (hbel.mono hZ)) hin
      obtain ⟨v, hv⟩ : ∃ v : Nat, fst' L i = (v : Int) := ⟨(fst' L i).toNat, by have := (HF.out i hin).1; omega⟩
      have hv16 : v < 16 := by have := (HF.out i hin).2; omega
      have HV := Lib.hid hv
      have hx2 : wr.cell? ⟨b2, off2, none⟩ = some (.int .i64 (v : Int)) := by rw [hx, ← hv]; rfl
      have hcv : wr.cell? ⟨w.heap.size, v, none⟩ = some (.int .i64 (wcnt (fst' L) (v : Int) s j : Int)) := by
        rw [HB.out.cell, vals_get _ _ (by rw [cntL_len]; exact hv16), cntL_get _ _ _ _ hv16]
      have hfv : wr.frozen? ⟨w.heap.size, v, none⟩ = false := HB.out.frozen v
      have hcl := wcnt_le (fst' L) (v : Int) s j
      have hml := wmost_le (fst' L) s j
      have HW : Hid (wmost (fst' L) s (j + 1) = max (wmost (fst' L) s j) (wcnt (fst' L) (v : Int) s j + 1)) := by
        unfold Hid
        show max _ (wcnt (fst' L) (fst' L (s + j)) s (j + 1)) = _
        rw [HI.out, HV.out, wcnt_succ, HI.out, if_pos HV.out]
      have HB2 : Hid (Blk (wr.setCell ⟨w.heap.size, v, none⟩ (.int .i64 ((wcnt (fst' L) (v : Int) s j : Int) + 1))) w.heap.size 2 (vals (cntL (fst' L) s (j + 1)))) := by
        have := HB.out.set_ v (.int .i64 ((wcnt (fst' L) (v : Int) s j : Int) + 1))
        rw [vals_set, cntL_grow hv16 (by rw [HI.out]; exact HV.out)] at this
        exact this
      have HBel : Hid (Below w.heap.size w (wr.setCell ⟨w.heap.size, v, none⟩ (.int .i64 ((wcnt (fst' L) (v : Int) s j : Int) + 1)))) := hbel.setCell (Nat.le_refl _) _
      generalize wcnt (fst' L) (v : Int) s j = m1 at hcv hcl HW HB2 HBel
      generalize wmost (fst' L) s j = m0 at hml HW
      have q0 : (0 : Int) ≤ (i : Int) := Int.natCast_nonneg _
      have q1 : (i : Int) < (n : Int) := by omega
      have q2 : (0 : Int) ≤ (v : Int) := Int.natCast_nonneg _
      have q3 : (v : Int) < 16 := by omega
      have ne1 : b1 ≠ w.heap.size := by omega
      have ne2 : b2 ≠ w.heap.size := by omega
      have ne3 : w.heap.size ≠ b1 := by omega
      have ne4 : w.heap.size ≠ b2 := by omega
      have hm2 : m1 ≤ i := by omega
      have hm3 : m0 ≤ i := by omega
      have hik2 : (i : Int) < (s : Int) + (k : Int) := by omega
      clear hx hy hv hi HB hbel
      go_wp2
      all_goals
        go_roundw
        case rel => exact ⟨j + 1, by omega, by rw [← Nat.add_assoc, HI.out]; go_num, by rw [HW.out]; first | (congr 1; omega) | (congr 2; omega), HB2, HBel.out⟩
        case measure => simp [intOf]; have := HI.out; omega
    · have HK : Hid (j = k) := (by omega : j = k)
      have hik2 : (s : Int) + (k : Int) ≤ (i : Int) := by omega
      clear hi
      go_wp2
      go_returns
      exact ⟨ret_int (by rw [HK.out]), hbel⟩
end Go.Proofs.Ytdpifddmhbeklaa
