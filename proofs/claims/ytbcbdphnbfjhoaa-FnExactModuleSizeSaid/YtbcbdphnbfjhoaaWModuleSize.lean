/-
  DERIVED. The walk of FnExactModuleSize.
-/
import Derived.Test.YtbcbdphnbfjhoaaMod
import Derived.Test.YtbcbdphnbfjhoaaFinA
namespace Go.Proofs.Ytbcbdphnbfjhoaa
open Go.RowKit
set_option linter.unusedVariables false
set_option maxHeartbeats 4000000 in
theorem walk_FnExactModuleSize (aList_a : Option Addr) (aList_n aList_c : Nat) (aList_z : List F4) (w : World) (h_aList : Finders w aList_a aList_n aList_c aList_z) :
    Calls Try.prog 10 #[.slice aList_a aList_n aList_c] w fun e w' => e = .returned (.bool true) ∧ Below w.heap.size w w' := by
  obtain ⟨hc1, hc2, hc3, hrd⟩ := h_aList
  have hm : aList_n ≤ maxLen := Nat.le_trans hc1 hc2
  have HR := Lib.hid hrd
  have HL := Lib.hid hc3
  clear hc1 hc2 hc3 hrd
  rcases Int.lt_or_le (1048576 : Int) aList_n with hbig | hsm
  · have HS := szV_no hbig
    go_enter Try.func10, Try.ntmps10
    go_wp2_with (go_at_call 43; refine (szFins _ _ _ _ _ (by omega) (by omega) hm).mono ?_; rintro e w' ⟨rfl, rfl⟩; rw [HS])
    go_returns
    exact ⟨rfl, by repeat' (first | (with_reducible exact Below.refl _ _) | (with_reducible assumption) | (with_reducible refine Below.alloc ?_ ?_ _) | (with_reducible refine Below.setCell ?_ ?_ _) | (with_reducible refine Below.drew ?_) | (with_reducible refine below_drewN ?_ _) | (with_reducible refine below_via (by with_reducible assumption) ?_ ?_) | go_size)⟩
  · have HS := szV_yes hsm
    have hn : aList_n ≤ 1048576 := by omega
    obtain ⟨x1, x2, x3, hd⟩ : ∃ x1 x2 x3, modOut aList_z aList_n = (x1, x2, x3) := ⟨_, _, _, rfl⟩
    have HD := Lib.hid hd
    clear hd
    go_enter Try.func10, Try.ntmps10
    go_wp2_with fail
    refine (szFins _ _ _ _ _ (by omega) (by omega) hm).mono ?_
    rintro e w' ⟨rfl, rfl⟩
    rw [HS]
    clear HS
    go_wp2_with fail
    refine (toFins aList_a aList_n aList_c aList_z _ (HR.out.below (by repeat' (first | (with_reducible exact Below.refl _ _) | (with_reducible assumption) | (with_reducible refine Below.alloc ?_ ?_ _) | (with_reducible refine Below.setCell ?_ ?_ _) | (with_reducible refine Below.drew ?_) | (with_reducible refine below_drewN ?_ _) | (with_reducible refine below_via (by with_reducible assumption) ?_ ?_) | go_size))) hn).mono ?_
    rintro e w2 ⟨g2, rfl, hg2, hk2, hb2⟩
    have hz2 := hb2.size
    have HLN : Hid ((finV aList_z).length = aList_n * 4) := by have := HL.out; unfold Hid; rw [finV_length]; omega
    go_wp2_with fail
    refine (sModuleSize _ aList_n aList_n aList_z _ (hk2.rdV HLN.out) hn x1 x2 x3 HD.out).mono ?_
    rintro e w3 ⟨rfl, hb3⟩
    have hz3 := hb3.size
    go_wp2_with fail
    refine (toFins aList_a aList_n aList_c aList_z _ (HR.out.below (by repeat' (first | (with_reducible exact Below.refl _ _) | (with_reducible assumption) | (with_reducible refine Below.alloc ?_ ?_ _) | (with_reducible refine Below.setCell ?_ ?_ _) | (with_reducible refine Below.drew ?_) | (with_reducible refine below_drewN ?_ _) | (with_reducible refine below_via (by with_reducible assumption) ?_ ?_) | go_size))) hn).mono ?_
    rintro e w4 ⟨g4, rfl, hg4, hk4, hb4⟩
    have hz4 := hb4.size
    go_wp2_with fail
    refine (iModuleSize _ aList_n aList_n aList_z _ (hk4.rdV HLN.out) hn x1 x2 x3 HD.out).mono ?_
    rintro e w5 ⟨rfl, hb5⟩
    have hz5 := hb5.size
    go_wp2_with fail
    refine (toFins aList_a aList_n aList_c aList_z _ (HR.out.below (by repeat' (first | (with_reducible exact Below.refl _ _) | (with_reducible assumption) | (with_reducible refine Below.alloc ?_ ?_ _) | (with_reducible refine Below.setCell ?_ ?_ _) | (with_reducible refine Below.drew ?_) | (with_reducible refine below_drewN ?_ _) | (with_reducible refine below_via (by with_reducible assumption) ?_ ?_) | go_size))) hn).mono ?_
    rintro e w6 ⟨g6, rfl, hg6, hk6, hb6⟩
    have hz6 := hb6.size
    go_wp2_with fail
    refine (eqFinT _ _ aList_n aList_n aList_n aList_z _ ((hk4.keep (by repeat' (first | (with_reducible exact Below.refl _ _) | (with_reducible assumption) | (with_reducible refine Below.alloc ?_ ?_ _) | (with_reducible refine Below.setCell ?_ ?_ _) | (with_reducible refine Below.drew ?_) | (with_reducible refine below_drewN ?_ _) | (with_reducible refine below_via (by with_reducible assumption) ?_ ?_) | go_size))).rdV HLN.out) (hk6.rdV HLN.out) hn).mono ?_
    rintro e w7 ⟨rfl, hb7⟩
    have hz7 := hb7.size
    go_wp2
    go_returns
    exact ⟨rfl, by repeat' (first | (with_reducible exact Below.refl _ _) | (with_reducible assumption) | (with_reducible refine Below.alloc ?_ ?_ _) | (with_reducible refine Below.setCell ?_ ?_ _) | (with_reducible refine Below.drew ?_) | (with_reducible refine below_drewN ?_ _) | (with_reducible refine below_via (by with_reducible assumption) ?_ ?_) | go_size)⟩
end Go.Proofs.Ytbcbdphnbfjhoaa
