/-
  DERIVED. StackLevel of both sides.
-/
import Derived.Test.YtdpifddmhbeklaaStkM
namespace Go.Proofs.Ytdpifddmhbeklaa
open Go.RowKit
set_option linter.unusedVariables false
theorem stk_lv {nm : ByteArray} {kd p pw po : Int} {sn : Nat} {zs : List Int} {col : Int} {ln : Nat} {ls : List Int} (h : stkB nm kd p pw po sn zs col ln ls = true) : 1 ≤ ln ∧ ln ≤ 4 := by
  have h2 := stk_fam h
  unfold famB at h2
  simp only [Bool.and_eq_true] at h2
  have := inB_iff.1 h2.1.2.1
  omega
/-- The two results of StackLevel, where the code is 0. -/
def lvO (gs : List Int) (C co ln R : Nat) : Int × Int := if sBest (cnt (lvI gs C co ln R)) ln < 0 then (0, 7) else (sBest (cnt (lvI gs C co ln R)) ln, 0)
theorem lv_ends (gs : List Int) {C co ln R : Nat} (h1 : 1 ≤ ln) (h4 : ln ≤ 4) : (sBest (cnt (lvI gs C co ln R)) ln = -1 ∧ ¬ 0 < cnt (lvI gs C co ln R) (iBest (cnt (lvI gs C co ln R)) 4)) ∨ (sBest (cnt (lvI gs C co ln R)) ln = (iBest (cnt (lvI gs C co ln R)) 4 : Int) ∧ 0 < cnt (lvI gs C co ln R) (iBest (cnt (lvI gs C co ln R)) 4)) :=
  best_end (cnt_nn _) h1 h4 (fun j hj => cnt_out (lvI_mem gs C co ln R) hj)
set_option maxRecDepth 20000 in
set_option maxHeartbeats 4000000 in
theorem sSL_no (nm : ByteArray) (kd p pw po : Int) (sa : Option Addr) (sn sc : Nat) (col : Int) (la : Option Addr) (ln lc : Nat) (zs ls : List Int) (r c : Int) (ga : Option Addr) (gn gc : Nat) (gs : List Int) (w : World) (hnm : nm.size ≤ maxLen) (hs : Rd w sa sn zs) (hsn : sn ≤ 1048576) (hl : Rd w la ln ls) (hln : ln ≤ 1048576) (hg : Rd w ga gn gs) (hgn : gn ≤ 1048576) (o : Int) (ho : stkO nm kd p pw po sn zs col ln ls r c gn gs = o) (hne : o ≠ 0) : Calls Try.prog 47 #[.agg #[.string nm, .int .i64 kd, .int .i64 p, .int .i64 pw, .int .i64 po, .slice sa sn sc, .int .i64 col, .slice la ln lc], .agg #[.int .i64 r, .int .i64 c, .slice ga gn gc]] w fun e w' => e = .returned (.tuple #[.int .i64 0, .int .i64 o]) ∧ Below w.heap.size w w' := by
  have HS := Lib.hid hs
  have HL := Lib.hid hl
  have HG := Lib.hid hg
  have HO := Lib.hid ho
  have hno : (o != 0) = true := by simp [hne]
  clear hs hl hg ho hne
  go_enter Try.func47, Try.ntmps47
  go_wp2_with (go_at_call 91; refine (sCode nm kd p pw po sa sn sc col la ln lc zs ls r c ga gn gc gs _ hnm (HS.out.below (by repeat' (first | (with_reducible exact Below.refl _ _) | (with_reducible assumption) | (with_reducible refine Below.alloc ?_ ?_ _) | (with_reducible refine Below.setCell ?_ ?_ _) | (with_reducible refine Below.drew ?_) | (with_reducible refine below_drewN ?_ _) | (with_reducible refine below_via (by with_reducible assumption) ?_ ?_) | go_size))) hsn (HL.out.below (by repeat' (first | (with_reducible exact Below.refl _ _) | (with_reducible assumption) | (with_reducible refine Below.alloc ?_ ?_ _) | (with_reducible refine Below.setCell ?_ ?_ _) | (with_reducible refine Below.drew ?_) | (with_reducible refine below_drewN ?_ _) | (with_reducible refine below_via (by with_reducible assumption) ?_ ?_) | go_size))) hln (HG.out.below (by repeat' (first | (with_reducible exact Below.refl _ _) | (with_reducible assumption) | (with_reducible refine Below.alloc ?_ ?_ _) | (with_reducible refine Below.setCell ?_ ?_ _) | (with_reducible refine Below.drew ?_) | (with_reducible refine below_drewN ?_ _) | (with_reducible refine below_via (by with_reducible assumption) ?_ ?_) | go_size))) hgn).mono ?_; rintro e w' ⟨rfl, hb⟩; rw [HO.out]; obtain ⟨hc, hf⟩ := bcell hb; have hz := hb.size; (try simp at hz); have hz0 : w.heap.size < w'.heap.size := (by omega); have hz1 : w.heap.size + 1 < w'.heap.size := (by omega))
  go_returns
  exact ⟨rfl, by repeat' (first | (with_reducible exact Below.refl _ _) | (with_reducible assumption) | (with_reducible refine Below.alloc ?_ ?_ _) | (with_reducible refine Below.setCell ?_ ?_ _) | (with_reducible refine Below.drew ?_) | (with_reducible refine below_drewN ?_ _) | (with_reducible refine below_via (by with_reducible assumption) ?_ ?_) | go_size)⟩
set_option maxRecDepth 20000 in
set_option maxHeartbeats 4000000 in
theorem sSL_ok (nm : ByteArray) (kd p pw po : Int) (sa : Option Addr) (sn sc : Nat) (co : Nat) (la : Option Addr) (ln lc : Nat) (zs ls : List Int) (R C : Nat) (ga : Option Addr) (gn gc : Nat) (gs : List Int) (w : World) (hnm : nm.size ≤ maxLen) (hs : Rd w sa sn zs) (hsn : sn ≤ 1048576) (hl : Rd w la ln ls) (hln : ln ≤ 1048576) (hg : Rd w ga gn gs) (hgn : gn ≤ 1048576) (hcp : gn ≤ gc) (hcp2 : gc ≤ maxLen) (ho : stkO nm kd p pw po sn zs (co : Int) ln ls (R : Int) (C : Int) gn gs = 0) (hC : C = 15 + 11 * (co + 2)) (hco : co ≤ 8) (hn4 : gn ≤ 40000) (hnr : gn = R * C) (hbd : ∀ x ∈ gs, -1 ≤ x ∧ x ≤ 1) (o1 o2 : Int) (hd : lvO gs C co ln R = (o1, o2)) (hl1 : 1 ≤ ln) (hl4 : ln ≤ 4) : Calls Try.prog 47 #[.agg #[.string nm, .int .i64 kd, .int .i64 p, .int .i64 pw, .int .i64 po, .slice sa sn sc, .int .i64 (co : Int), .slice la ln lc], .agg #[.int .i64 (R : Int), .int .i64 (C : Int), .slice ga gn gc]] w fun e w' => e = .returned (.tuple #[.int .i64 o1, .int .i64 o2]) ∧ Below w.heap.size w w' := by
  have HS := Lib.hid hs
  have HL := Lib.hid hl
  have HG := Lib.hid hg
  have HO := Lib.hid ho
  have HC := Lib.hid hC
  have HN := Lib.hid hnr
  have HBd := Lib.hid hbd
  have HD := Lib.hid hd
  clear hs hl hg ho hC hnr hbd hd
  go_enter Try.func47, Try.ntmps47
  go_wp2_with (go_at_call 91; refine (sCode nm kd p pw po sa sn sc (co : Int) la ln lc zs ls (R : Int) (C : Int) ga gn gc gs _ hnm (HS.out.below (by repeat' (first | (with_reducible exact Below.refl _ _) | (with_reducible assumption) | (with_reducible refine Below.alloc ?_ ?_ _) | (with_reducible refine Below.setCell ?_ ?_ _) | (with_reducible refine Below.drew ?_) | (with_reducible refine below_drewN ?_ _) | (with_reducible refine below_via (by with_reducible assumption) ?_ ?_) | go_size))) hsn (HL.out.below (by repeat' (first | (with_reducible exact Below.refl _ _) | (with_reducible assumption) | (with_reducible refine Below.alloc ?_ ?_ _) | (with_reducible refine Below.setCell ?_ ?_ _) | (with_reducible refine Below.drew ?_) | (with_reducible refine below_drewN ?_ _) | (with_reducible refine below_via (by with_reducible assumption) ?_ ?_) | go_size))) hln (HG.out.below (by repeat' (first | (with_reducible exact Below.refl _ _) | (with_reducible assumption) | (with_reducible refine Below.alloc ?_ ?_ _) | (with_reducible refine Below.setCell ?_ ?_ _) | (with_reducible refine Below.drew ?_) | (with_reducible refine below_drewN ?_ _) | (with_reducible refine below_via (by with_reducible assumption) ?_ ?_) | go_size))) hgn).mono ?_; rintro e w' ⟨rfl, hb⟩; rw [HO.out]; obtain ⟨hc, hf⟩ := bcell hb; have hz := hb.size; (try simp at hz); have hz0 : w.heap.size < w'.heap.size := (by omega); have hz1 : w.heap.size + 1 < w'.heap.size := (by omega))
  have HB : Hid (Below w.heap.size w w') := by unfold Hid; repeat' (first | (with_reducible exact Below.refl _ _) | (with_reducible assumption) | (with_reducible refine Below.alloc ?_ ?_ _) | (with_reducible refine Below.setCell ?_ ?_ _) | (with_reducible refine Below.drew ?_) | (with_reducible refine below_drewN ?_ _) | (with_reducible refine below_via (by with_reducible assumption) ?_ ?_) | go_size)
  refine (sLevel nm kd p pw po sa sn sc co la ln lc R C gn gc ga gs _ (HG.out.below (by repeat' (first | (with_reducible exact Below.refl _ _) | (with_reducible assumption) | (with_reducible refine Below.alloc ?_ ?_ _) | (with_reducible refine Below.setCell ?_ ?_ _) | (with_reducible refine Below.drew ?_) | (with_reducible refine below_drewN ?_ _) | (with_reducible refine below_via (by with_reducible assumption) ?_ ?_) | go_size))) hn4 hcp HN.out HC.out hco hl1 hl4).mono ?_
  rintro e w2 ⟨rfl, hb2⟩
  obtain ⟨s, hs⟩ : ∃ s, sBest (cnt (lvI gs C co ln R)) ln = s := ⟨_, rfl⟩
  have HB2 : Hid (Below w.heap.size w w2) := HB.out.trans (hb2.mono (by omega))
  clear hb2 HB
  by_cases hneg : s < 0
  · have HE : Hid ((0, 7) = lvO gs C co ln R) := by unfold Hid lvO; rw [hs, if_pos hneg]
    rw [hs]
    clear hs
    go_wp2
    go_returns
    exact ⟨ret2_of (HE.out.trans HD.out), HB2.out⟩
  · have HE : Hid ((s, 0) = lvO gs C co ln R) := by unfold Hid lvO; rw [hs, if_neg hneg]
    rw [hs]
    clear hs
    go_wp2
    go_returns
    exact ⟨ret2_of (HE.out.trans HD.out), HB2.out⟩
set_option maxRecDepth 20000 in
set_option maxHeartbeats 4000000 in
theorem iSL_no (nm : ByteArray) (kd p pw po : Int) (sa : Option Addr) (sn sc : Nat) (col : Int) (la : Option Addr) (ln lc : Nat) (zs ls : List Int) (r c : Int) (ga : Option Addr) (gn gc : Nat) (gs : List Int) (w : World) (hnm : nm.size ≤ maxLen) (hs : Rd w sa sn zs) (hsn : sn ≤ 1048576) (hl : Rd w la ln ls) (hln : ln ≤ 1048576) (hg : Rd w ga gn gs) (hgn : gn ≤ 1048576) (o : Int) (ho : stkO nm kd p pw po sn zs col ln ls r c gn gs = o) (hne : o ≠ 0) : Calls Try.prog 48 #[.agg #[.string nm, .int .i64 kd, .int .i64 p, .int .i64 pw, .int .i64 po, .slice sa sn sc, .int .i64 col, .slice la ln lc], .agg #[.int .i64 r, .int .i64 c, .slice ga gn gc]] w fun e w' => e = .returned (.tuple #[.int .i64 0, .int .i64 o]) ∧ Below w.heap.size w w' := by
  have HS := Lib.hid hs
  have HL := Lib.hid hl
  have HG := Lib.hid hg
  have HO := Lib.hid ho
  have hno : (o != 0) = true := by simp [hne]
  clear hs hl hg ho hne
  go_enter Try.func48, Try.ntmps48
  go_wp2_with (go_at_call 93; refine (iCode nm kd p pw po sa sn sc col la ln lc zs ls r c ga gn gc gs _ hnm (HS.out.below (by repeat' (first | (with_reducible exact Below.refl _ _) | (with_reducible assumption) | (with_reducible refine Below.alloc ?_ ?_ _) | (with_reducible refine Below.setCell ?_ ?_ _) | (with_reducible refine Below.drew ?_) | (with_reducible refine below_drewN ?_ _) | (with_reducible refine below_via (by with_reducible assumption) ?_ ?_) | go_size))) hsn (HL.out.below (by repeat' (first | (with_reducible exact Below.refl _ _) | (with_reducible assumption) | (with_reducible refine Below.alloc ?_ ?_ _) | (with_reducible refine Below.setCell ?_ ?_ _) | (with_reducible refine Below.drew ?_) | (with_reducible refine below_drewN ?_ _) | (with_reducible refine below_via (by with_reducible assumption) ?_ ?_) | go_size))) hln (HG.out.below (by repeat' (first | (with_reducible exact Below.refl _ _) | (with_reducible assumption) | (with_reducible refine Below.alloc ?_ ?_ _) | (with_reducible refine Below.setCell ?_ ?_ _) | (with_reducible refine Below.drew ?_) | (with_reducible refine below_drewN ?_ _) | (with_reducible refine below_via (by with_reducible assumption) ?_ ?_) | go_size))) hgn).mono ?_; rintro e w' ⟨rfl, hb⟩; rw [HO.out]; obtain ⟨hc, hf⟩ := bcell hb; have hz := hb.size; (try simp at hz); have hz0 : w.heap.size < w'.heap.size := (by omega); have hz1 : w.heap.size + 1 < w'.heap.size := (by omega))
  go_returns
  exact ⟨rfl, by repeat' (first | (with_reducible exact Below.refl _ _) | (with_reducible assumption) | (with_reducible refine Below.alloc ?_ ?_ _) | (with_reducible refine Below.setCell ?_ ?_ _) | (with_reducible refine Below.drew ?_) | (with_reducible refine below_drewN ?_ _) | (with_reducible refine below_via (by with_reducible assumption) ?_ ?_) | go_size)⟩
set_option maxRecDepth 20000 in
set_option maxHeartbeats 4000000 in
theorem iSL_ok (nm : ByteArray) (kd p pw po : Int) (sa : Option Addr) (sn sc : Nat) (co : Nat) (la : Option Addr) (ln lc : Nat) (zs ls : List Int) (R C : Nat) (ga : Option Addr) (gn gc : Nat) (gs : List Int) (w : World) (hnm : nm.size ≤ maxLen) (hs : Rd w sa sn zs) (hsn : sn ≤ 1048576) (hl : Rd w la ln ls) (hln : ln ≤ 1048576) (hg : Rd w ga gn gs) (hgn : gn ≤ 1048576) (hcp : gn ≤ gc) (hcp2 : gc ≤ maxLen) (ho : stkO nm kd p pw po sn zs (co : Int) ln ls (R : Int) (C : Int) gn gs = 0) (hC : C = 15 + 11 * (co + 2)) (hco : co ≤ 8) (hn4 : gn ≤ 40000) (hnr : gn = R * C) (hbd : ∀ x ∈ gs, -1 ≤ x ∧ x ≤ 1) (o1 o2 : Int) (hd : lvO gs C co ln R = (o1, o2)) (hl1 : 1 ≤ ln) (hl4 : ln ≤ 4) : Calls Try.prog 48 #[.agg #[.string nm, .int .i64 kd, .int .i64 p, .int .i64 pw, .int .i64 po, .slice sa sn sc, .int .i64 (co : Int), .slice la ln lc], .agg #[.int .i64 (R : Int), .int .i64 (C : Int), .slice ga gn gc]] w fun e w' => e = .returned (.tuple #[.int .i64 o1, .int .i64 o2]) ∧ Below w.heap.size w w' := by
  have HS := Lib.hid hs
  have HL := Lib.hid hl
  have HG := Lib.hid hg
  have HO := Lib.hid ho
  have HC := Lib.hid hC
  have HN := Lib.hid hnr
  have HBd := Lib.hid hbd
  have HD := Lib.hid hd
  clear hs hl hg ho hC hnr hbd hd
  go_enter Try.func48, Try.ntmps48
  go_wp2_with (go_at_call 93; refine (iCode nm kd p pw po sa sn sc (co : Int) la ln lc zs ls (R : Int) (C : Int) ga gn gc gs _ hnm (HS.out.below (by repeat' (first | (with_reducible exact Below.refl _ _) | (with_reducible assumption) | (with_reducible refine Below.alloc ?_ ?_ _) | (with_reducible refine Below.setCell ?_ ?_ _) | (with_reducible refine Below.drew ?_) | (with_reducible refine below_drewN ?_ _) | (with_reducible refine below_via (by with_reducible assumption) ?_ ?_) | go_size))) hsn (HL.out.below (by repeat' (first | (with_reducible exact Below.refl _ _) | (with_reducible assumption) | (with_reducible refine Below.alloc ?_ ?_ _) | (with_reducible refine Below.setCell ?_ ?_ _) | (with_reducible refine Below.drew ?_) | (with_reducible refine below_drewN ?_ _) | (with_reducible refine below_via (by with_reducible assumption) ?_ ?_) | go_size))) hln (HG.out.below (by repeat' (first | (with_reducible exact Below.refl _ _) | (with_reducible assumption) | (with_reducible refine Below.alloc ?_ ?_ _) | (with_reducible refine Below.setCell ?_ ?_ _) | (with_reducible refine Below.drew ?_) | (with_reducible refine below_drewN ?_ _) | (with_reducible refine below_via (by with_reducible assumption) ?_ ?_) | go_size))) hgn).mono ?_; rintro e w' ⟨rfl, hb⟩; rw [HO.out]; obtain ⟨hc, hf⟩ := bcell hb; have hz := hb.size; (try simp at hz); have hz0 : w.heap.size < w'.heap.size := (by omega); have hz1 : w.heap.size + 1 < w'.heap.size := (by omega))
  have HB : Hid (Below w.heap.size w w') := by unfold Hid; repeat' (first | (with_reducible exact Below.refl _ _) | (with_reducible assumption) | (with_reducible refine Below.alloc ?_ ?_ _) | (with_reducible refine Below.setCell ?_ ?_ _) | (with_reducible refine Below.drew ?_) | (with_reducible refine below_drewN ?_ _) | (with_reducible refine below_via (by with_reducible assumption) ?_ ?_) | go_size)
  refine (iLevel nm kd p pw po sa sn sc co la ln lc R C gn gc ga gs _ (HG.out.below (by repeat' (first | (with_reducible exact Below.refl _ _) | (with_reducible assumption) | (with_reducible refine Below.alloc ?_ ?_ _) | (with_reducible refine Below.setCell ?_ ?_ _) | (with_reducible refine Below.drew ?_) | (with_reducible refine below_drewN ?_ _) | (with_reducible refine below_via (by with_reducible assumption) ?_ ?_) | go_size))) hn4 hcp hcp2 HN.out HC.out hco hl1 hl4 HBd.out).mono ?_
  rintro e w2 ⟨rfl, hb2⟩
  have HB2 : Hid (Below w.heap.size w w2) := HB.out.trans (hb2.mono (by omega))
  clear hb2 HB
  rcases lv_ends gs (C := C) (co := co) (R := R) hl1 hl4 with ⟨e1, e2⟩ | ⟨e1, e2⟩
  · have HE : Hid ((0, 7) = lvO gs C co ln R) := by unfold Hid lvO; rw [e1, if_pos (by omega)]
    rw [decide_eq_false e2]
    clear e1 e2
    obtain ⟨s, hs⟩ : ∃ s, iBest (cnt (lvI gs C co ln R)) 4 = s := ⟨_, rfl⟩
    rw [hs]
    clear hs
    go_wp2
    go_returns
    exact ⟨ret2_of (HE.out.trans HD.out), HB2.out⟩
  · have HE : Hid (((iBest (cnt (lvI gs C co ln R)) 4 : Int), 0) = lvO gs C co ln R) := by unfold Hid lvO; rw [e1, if_neg (by omega)]
    rw [decide_eq_true e2]
    clear e1 e2
    obtain ⟨s, hs⟩ : ∃ s, iBest (cnt (lvI gs C co ln R)) 4 = s := ⟨_, rfl⟩
    rw [hs] at HE ⊢
    clear hs
    go_wp2
    go_returns
    exact ⟨ret2_of (HE.out.trans HD.out), HB2.out⟩
end Go.Proofs.Ytdpifddmhbeklaa
