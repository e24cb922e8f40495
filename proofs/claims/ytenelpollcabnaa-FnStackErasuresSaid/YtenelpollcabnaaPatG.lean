/-
  DERIVED. impl.ReadRow over any slice.
-/
import Derived.Test.YtenelpollcabnaaPatF
namespace Go.Proofs.Ytenelpollcabnaa
open Go.RowKit
set_option linter.unusedVariables false
set_option maxRecDepth 20000 in
set_option maxHeartbeats 8000000 in
theorem iRR_gen (a : Option Addr) (n cp : Nat) (c : List Int) (cl : Int) (w : World) (h : Rd w a n c) (hn : n ≤ 1048576) (hcp : n ≤ cp) (hcpm : cp ≤ maxLen) (hx : c.all (fun x => inB x (-1) 1) = true) (hl : limB n = true) (hcl : inB cl 0 2 = true) :
    Calls Try.prog 27 #[.slice a n cp, .int .i64 cl] w (ResI w (rowF c cl ((n - 15) / 11)) 0) := by
  have HH := Lib.hid h
  have HL := Lib.hid h.1
  have HCp := Lib.hid hcp
  have HCp2 := Lib.hid hcpm
  clear hcp hcpm
  have HAll : Hid (∀ x ∈ c, inB x (-1) 1 = true) := fun x h2 => by rw [List.all_eq_true] at hx; exact hx x h2
  have HLm := Lib.hid (limB_iff.1 hl)
  have HCl := Lib.hid hcl
  clear hl
  obtain ⟨cl0, cl2⟩ := inB_iff.1 hcl
  have HBd : Hid (∀ x ∈ c, -1 ≤ x ∧ x ≤ 1) := fun x hx => inB_iff.1 (HAll.out x hx)
  have hK9 : (n - 15) / 11 ≤ 100000 := by omega
  clear h hx hcl
  go_enter Try.func27, Try.ntmps27
  go_wp2
  go_loop [11] (fun i => ∃ k : Nat, k ≤ n ∧ i = .int .i64 k ∧ Hid (∀ j, j < k → inB (c.getD j 0) (-1) 1 = true)) (fun i => n - (intOf i).toNat)
  case atStart => exact ⟨0, Nat.zero_le _, rfl, fun j hj => absurd hj (by omega)⟩
  case round =>
    obtain ⟨k, hk, rfl, HA⟩ := hrel
    by_cases hlt : k < n
    · obtain ⟨b, off, rfl, hbl, hc⟩ := HH.out.2 (by omega)
      have hx := hc k hlt
      clear hc
      obtain ⟨x, hxv⟩ : ∃ x, c.getD k 0 = x := ⟨_, rfl⟩
      rw [hxv] at hx
      have HX := Lib.hid hxv
      have k0 : (0 : Int) ≤ (k : Int) := by omega
      have k1 : (k : Int) < (n : Int) := by omega
      clear hxv
      have hg : inB x (-1) 1 = true := by rw [← HX.out]; exact HAll.out _ (getD_mem (by rw [HL.out]; exact hlt))
      have HA2 : Hid (∀ j, j < k + 1 → inB (c.getD j 0) (-1) 1 = true) := fun j hj => by
        rcases Nat.lt_or_ge j k with h4 | h4
        · exact HA.out j h4
        · obtain rfl : j = k := by omega
          rw [HX.out]; exact hg
      go_wp2_with (go_at_call 41; refine (iIn _ _ _ _).mono ?_; rintro e w' ⟨rfl, rfl⟩)
      go_round
      case rel => exact ⟨k + 1, by omega, by go_num, HA2⟩
      case measure => simp [intOf]; omega
    · have hnk : (n : Int) ≤ (k : Int) := by omega
      have hge : (0 : Int) ≤ (n : Int) - 7 - 8 := by have := HLm.out; omega
      obtain ⟨q, hq⟩ : ∃ q : Int, ((n : Int) - 7 - 8) / 11 = q := ⟨_, rfl⟩
      have q1 : 1 ≤ q := by have := HLm.out; omega
      have q2 : q ≤ 12 := by have := HLm.out; omega
      have hi : inB q 1 12 = true := inB_yes q1 q2
      have tw : ((7 + 11 * q + 8) != (n : Int)) = false := by have := HLm.out; simp; omega
      go_wp2_with (first | (go_at_call 41; refine (iIn _ _ _ _).mono ?_; rintro e w' ⟨rfl, rfl⟩; (first | rw [hi] | rw [HCl.out])) | (go_at_call 53; refine (iWidth _ _ (by omega) (by omega)).mono ?_; rintro e w' ⟨rfl, rfl⟩))
      refine (iIdx _).mono ?_
      rintro e w1 ⟨mb, rfl, hm, hmb, hb1⟩
      have HM := Lib.hid hm
      have HB1 := Lib.hid hb1
      have hz1 := hb1.size
      clear hm hb1
      go_wp2_with fail
      refine (iReadRow mb a n cp c cl _ (HH.out.below HB1.out) hn HCp.out HCp2.out HBd.out cl0 cl2 HM.out).mono ?_
      rintro e w2 ⟨av, cv, rfl, ho, hb2⟩
      have HO := Lib.hid (ownN_mono ho hz1)
      have HB : Hid (Below w.heap.size w w2) := HB1.out.trans (hb2.mono hz1)
      clear ho hb2
      go_wp2
      go_returns
      refine ⟨av, cv, by rw [rowF_len]; rfl, by rw [rowF_len]; exact HO.out, HB.out, by rw [rowF_len]; omega⟩
end Go.Proofs.Ytenelpollcabnaa
