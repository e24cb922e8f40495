/-
  DERIVED. StackElements of both sides.
-/
import Derived.Test.YtenelpollcabnaaStkE
import Derived.Test.YtenelpollcabnaaStkC
namespace Go.Proofs.Ytenelpollcabnaa
open Go.RowKit
set_option linter.unusedVariables false
/-- Two slices of numbers of the call's own, and a code. -/
def ResE (w : World) (X : List Int) (code : Int) (e : Ending) (w' : World) : Prop :=
  ∃ v u, e = .returned (.tuple #[v, u, .int .i64 code]) ∧ Duo w' w' w.heap.size 0 0 v X.length ((elV X).map (Value.int .i64)) u (negs X).length ((negs X).map (Value.int .i64)) ∧ Below w.heap.size w w' ∧ X.length ≤ 40000
theorem Duo.nil (W : World) (B : Nat) : Duo W W B 0 0 (.slice none 0 0) 0 [] (.slice none 0 0) 0 [] :=
  ⟨World.ownsRow_nil _ _ _ _, World.ownsRow_nil _ _ _ _, fun b hb => by simp [Value.ownBlock] at hb, fun _ _ => .inr (Nat.zero_le _), fun _ _ => .inr (Nat.zero_le _), fun _ _ _ => rfl, Nat.zero_le _⟩
set_option maxRecDepth 20000 in
set_option maxHeartbeats 4000000 in
theorem sSE_no (nm : ByteArray) (kd p pw po : Int) (sa : Option Addr) (sn sc : Nat) (col : Int) (la : Option Addr) (ln lc : Nat) (zs ls : List Int) (r c : Int) (ga : Option Addr) (gn gc : Nat) (gs : List Int) (w : World) (hnm : nm.size ≤ maxLen) (hs : Rd w sa sn zs) (hsn : sn ≤ 1048576) (hl : Rd w la ln ls) (hln : ln ≤ 1048576) (hg : Rd w ga gn gs) (hgn : gn ≤ 1048576) (o : Int) (ho : stkO nm kd p pw po sn zs col ln ls r c gn gs = o) (hne : o ≠ 0) : Calls Try.prog 21 #[.agg #[.string nm, .int .i64 kd, .int .i64 p, .int .i64 pw, .int .i64 po, .slice sa sn sc, .int .i64 col, .slice la ln lc], .agg #[.int .i64 r, .int .i64 c, .slice ga gn gc]] w (ResE w [] o) := by
  have HS := Lib.hid hs
  have HL := Lib.hid hl
  have HG := Lib.hid hg
  have HO := Lib.hid ho
  have hno : (o != 0) = true := by simp [hne]
  clear hs hl hg ho hne
  go_enter Try.func21, Try.ntmps21
  go_wp2_with (go_at_call 49; refine (sCode nm kd p pw po sa sn sc col la ln lc zs ls r c ga gn gc gs _ hnm (HS.out.below (by repeat' (first | (with_reducible exact Below.refl _ _) | (with_reducible assumption) | (with_reducible refine Below.alloc ?_ ?_ _) | (with_reducible refine Below.setCell ?_ ?_ _) | (with_reducible refine Below.drew ?_) | (with_reducible refine below_drewN ?_ _) | (with_reducible refine below_via (by with_reducible assumption) ?_ ?_) | go_size))) hsn (HL.out.below (by repeat' (first | (with_reducible exact Below.refl _ _) | (with_reducible assumption) | (with_reducible refine Below.alloc ?_ ?_ _) | (with_reducible refine Below.setCell ?_ ?_ _) | (with_reducible refine Below.drew ?_) | (with_reducible refine below_drewN ?_ _) | (with_reducible refine below_via (by with_reducible assumption) ?_ ?_) | go_size))) hln (HG.out.below (by repeat' (first | (with_reducible exact Below.refl _ _) | (with_reducible assumption) | (with_reducible refine Below.alloc ?_ ?_ _) | (with_reducible refine Below.setCell ?_ ?_ _) | (with_reducible refine Below.drew ?_) | (with_reducible refine below_drewN ?_ _) | (with_reducible refine below_via (by with_reducible assumption) ?_ ?_) | go_size))) hgn).mono ?_; rintro e w' ⟨rfl, hb⟩; rw [HO.out]; obtain ⟨hc, hf⟩ := bcell hb; have hz := hb.size; (try simp at hz); have hz0 : w.heap.size < w'.heap.size := (by omega); have hz1 : w.heap.size + 1 < w'.heap.size := (by omega))
  go_returns
  exact ⟨_, _, rfl, Duo.nil _ _, by repeat' (first | (with_reducible exact Below.refl _ _) | (with_reducible assumption) | (with_reducible refine Below.alloc ?_ ?_ _) | (with_reducible refine Below.setCell ?_ ?_ _) | (with_reducible refine Below.drew ?_) | (with_reducible refine below_drewN ?_ _) | (with_reducible refine below_via (by with_reducible assumption) ?_ ?_) | go_size), by simp⟩
set_option maxRecDepth 20000 in
set_option maxHeartbeats 4000000 in
theorem sSE_ok (nm : ByteArray) (kd p pw po : Int) (sa : Option Addr) (sn sc : Nat) (co : Nat) (la : Option Addr) (ln lc : Nat) (zs ls : List Int) (R C : Nat) (ga : Option Addr) (gn gc : Nat) (gs : List Int) (w : World) (hnm : nm.size ≤ maxLen) (hs : Rd w sa sn zs) (hsn : sn ≤ 1048576) (hl : Rd w la ln ls) (hln : ln ≤ 1048576) (hg : Rd w ga gn gs) (hgn : gn ≤ 1048576) (hcp : gn ≤ gc) (hcp2 : gc ≤ maxLen) (ho : stkO nm kd p pw po sn zs (co : Int) ln ls (R : Int) (C : Int) gn gs = 0) (hC : C = 15 + 11 * (co + 2)) (hco : co ≤ 8) (hn4 : gn ≤ 40000) (hnr : gn = R * C) (hbd : ∀ x ∈ gs, -1 ≤ x ∧ x ≤ 1) : Calls Try.prog 21 #[.agg #[.string nm, .int .i64 kd, .int .i64 p, .int .i64 pw, .int .i64 po, .slice sa sn sc, .int .i64 (co : Int), .slice la ln lc], .agg #[.int .i64 (R : Int), .int .i64 (C : Int), .slice ga gn gc]] w (ResE w (flatP gs C R) 0) := by
  have HS := Lib.hid hs
  have HL := Lib.hid hl
  have HG := Lib.hid hg
  have HO := Lib.hid ho
  have HC := Lib.hid hC
  have HN := Lib.hid hnr
  have HBd := Lib.hid hbd
  have HLn : Hid ((flatP gs C R).length ≤ 40000) := by
    unfold Hid
    rw [flatP_len, show (C - 15) / 11 - 2 = co by omega]
    have : R * co ≤ R * C := Nat.mul_le_mul_left _ (by omega)
    omega
  clear hs hl hg ho hC hnr hbd
  go_enter Try.func21, Try.ntmps21
  go_wp2_with (go_at_call 49; refine (sCode nm kd p pw po sa sn sc (co : Int) la ln lc zs ls (R : Int) (C : Int) ga gn gc gs _ hnm (HS.out.below (by repeat' (first | (with_reducible exact Below.refl _ _) | (with_reducible assumption) | (with_reducible refine Below.alloc ?_ ?_ _) | (with_reducible refine Below.setCell ?_ ?_ _) | (with_reducible refine Below.drew ?_) | (with_reducible refine below_drewN ?_ _) | (with_reducible refine below_via (by with_reducible assumption) ?_ ?_) | go_size))) hsn (HL.out.below (by repeat' (first | (with_reducible exact Below.refl _ _) | (with_reducible assumption) | (with_reducible refine Below.alloc ?_ ?_ _) | (with_reducible refine Below.setCell ?_ ?_ _) | (with_reducible refine Below.drew ?_) | (with_reducible refine below_drewN ?_ _) | (with_reducible refine below_via (by with_reducible assumption) ?_ ?_) | go_size))) hln (HG.out.below (by repeat' (first | (with_reducible exact Below.refl _ _) | (with_reducible assumption) | (with_reducible refine Below.alloc ?_ ?_ _) | (with_reducible refine Below.setCell ?_ ?_ _) | (with_reducible refine Below.drew ?_) | (with_reducible refine below_drewN ?_ _) | (with_reducible refine below_via (by with_reducible assumption) ?_ ?_) | go_size))) hgn).mono ?_; rintro e w' ⟨rfl, hb⟩; rw [HO.out]; obtain ⟨hc, hf⟩ := bcell hb; have hz := hb.size; (try simp at hz); have hz0 : w.heap.size < w'.heap.size := (by omega); have hz1 : w.heap.size + 1 < w'.heap.size := (by omega))
  have HB : Hid (Below w.heap.size w w') := by unfold Hid; repeat' (first | (with_reducible exact Below.refl _ _) | (with_reducible assumption) | (with_reducible refine Below.alloc ?_ ?_ _) | (with_reducible refine Below.setCell ?_ ?_ _) | (with_reducible refine Below.drew ?_) | (with_reducible refine below_drewN ?_ _) | (with_reducible refine below_via (by with_reducible assumption) ?_ ?_) | go_size)
  refine (sElements nm kd p pw po sa sn sc co la ln lc R C gn gc ga gs _ (HG.out.below (by repeat' (first | (with_reducible exact Below.refl _ _) | (with_reducible assumption) | (with_reducible refine Below.alloc ?_ ?_ _) | (with_reducible refine Below.setCell ?_ ?_ _) | (with_reducible refine Below.drew ?_) | (with_reducible refine below_drewN ?_ _) | (with_reducible refine below_via (by with_reducible assumption) ?_ ?_) | go_size))) hn4 hcp HN.out HC.out hco).mono ?_
  rintro e w2 ⟨v, u, rfl, hd, hb2⟩
  have HD := Lib.hid hd
  have HB2 : Hid (Below w.heap.size w w2) := HB.out.trans (hb2.mono (by omega))
  clear hd hb2 HB
  go_wp2
  go_returns
  exact ⟨v, u, rfl, HD.out.plain (by omega), HB2.out, HLn.out⟩
set_option maxRecDepth 20000 in
set_option maxHeartbeats 4000000 in
theorem iSE_no (nm : ByteArray) (kd p pw po : Int) (sa : Option Addr) (sn sc : Nat) (col : Int) (la : Option Addr) (ln lc : Nat) (zs ls : List Int) (r c : Int) (ga : Option Addr) (gn gc : Nat) (gs : List Int) (w : World) (hnm : nm.size ≤ maxLen) (hs : Rd w sa sn zs) (hsn : sn ≤ 1048576) (hl : Rd w la ln ls) (hln : ln ≤ 1048576) (hg : Rd w ga gn gs) (hgn : gn ≤ 1048576) (o : Int) (ho : stkO nm kd p pw po sn zs col ln ls r c gn gs = o) (hne : o ≠ 0) : Calls Try.prog 20 #[.agg #[.string nm, .int .i64 kd, .int .i64 p, .int .i64 pw, .int .i64 po, .slice sa sn sc, .int .i64 col, .slice la ln lc], .agg #[.int .i64 r, .int .i64 c, .slice ga gn gc]] w (ResE w [] o) := by
  have HS := Lib.hid hs
  have HL := Lib.hid hl
  have HG := Lib.hid hg
  have HO := Lib.hid ho
  have hno : (o != 0) = true := by simp [hne]
  clear hs hl hg ho hne
  go_enter Try.func20, Try.ntmps20
  go_wp2_with (go_at_call 47; refine (iCode nm kd p pw po sa sn sc col la ln lc zs ls r c ga gn gc gs _ hnm (HS.out.below (by repeat' (first | (with_reducible exact Below.refl _ _) | (with_reducible assumption) | (with_reducible refine Below.alloc ?_ ?_ _) | (with_reducible refine Below.setCell ?_ ?_ _) | (with_reducible refine Below.drew ?_) | (with_reducible refine below_drewN ?_ _) | (with_reducible refine below_via (by with_reducible assumption) ?_ ?_) | go_size))) hsn (HL.out.below (by repeat' (first | (with_reducible exact Below.refl _ _) | (with_reducible assumption) | (with_reducible refine Below.alloc ?_ ?_ _) | (with_reducible refine Below.setCell ?_ ?_ _) | (with_reducible refine Below.drew ?_) | (with_reducible refine below_drewN ?_ _) | (with_reducible refine below_via (by with_reducible assumption) ?_ ?_) | go_size))) hln (HG.out.below (by repeat' (first | (with_reducible exact Below.refl _ _) | (with_reducible assumption) | (with_reducible refine Below.alloc ?_ ?_ _) | (with_reducible refine Below.setCell ?_ ?_ _) | (with_reducible refine Below.drew ?_) | (with_reducible refine below_drewN ?_ _) | (with_reducible refine below_via (by with_reducible assumption) ?_ ?_) | go_size))) hgn).mono ?_; rintro e w' ⟨rfl, hb⟩; rw [HO.out]; obtain ⟨hc, hf⟩ := bcell hb; have hz := hb.size; (try simp at hz); have hz0 : w.heap.size < w'.heap.size := (by omega); have hz1 : w.heap.size + 1 < w'.heap.size := (by omega))
  go_returns
  exact ⟨_, _, rfl, Duo.nil _ _, by repeat' (first | (with_reducible exact Below.refl _ _) | (with_reducible assumption) | (with_reducible refine Below.alloc ?_ ?_ _) | (with_reducible refine Below.setCell ?_ ?_ _) | (with_reducible refine Below.drew ?_) | (with_reducible refine below_drewN ?_ _) | (with_reducible refine below_via (by with_reducible assumption) ?_ ?_) | go_size), by simp⟩
set_option maxRecDepth 20000 in
set_option maxHeartbeats 4000000 in
theorem iSE_ok (nm : ByteArray) (kd p pw po : Int) (sa : Option Addr) (sn sc : Nat) (co : Nat) (la : Option Addr) (ln lc : Nat) (zs ls : List Int) (R C : Nat) (ga : Option Addr) (gn gc : Nat) (gs : List Int) (w : World) (hnm : nm.size ≤ maxLen) (hs : Rd w sa sn zs) (hsn : sn ≤ 1048576) (hl : Rd w la ln ls) (hln : ln ≤ 1048576) (hg : Rd w ga gn gs) (hgn : gn ≤ 1048576) (hcp : gn ≤ gc) (hcp2 : gc ≤ maxLen) (ho : stkO nm kd p pw po sn zs (co : Int) ln ls (R : Int) (C : Int) gn gs = 0) (hC : C = 15 + 11 * (co + 2)) (hco : co ≤ 8) (hn4 : gn ≤ 40000) (hnr : gn = R * C) (hbd : ∀ x ∈ gs, -1 ≤ x ∧ x ≤ 1) : Calls Try.prog 20 #[.agg #[.string nm, .int .i64 kd, .int .i64 p, .int .i64 pw, .int .i64 po, .slice sa sn sc, .int .i64 (co : Int), .slice la ln lc], .agg #[.int .i64 (R : Int), .int .i64 (C : Int), .slice ga gn gc]] w (ResE w (flatP gs C R) 0) := by
  have HS := Lib.hid hs
  have HL := Lib.hid hl
  have HG := Lib.hid hg
  have HO := Lib.hid ho
  have HC := Lib.hid hC
  have HN := Lib.hid hnr
  have HBd := Lib.hid hbd
  have HLn : Hid ((flatP gs C R).length ≤ 40000) := by
    unfold Hid
    rw [flatP_len, show (C - 15) / 11 - 2 = co by omega]
    have : R * co ≤ R * C := Nat.mul_le_mul_left _ (by omega)
    omega
  clear hs hl hg ho hC hnr hbd
  go_enter Try.func20, Try.ntmps20
  go_wp2_with (go_at_call 47; refine (iCode nm kd p pw po sa sn sc (co : Int) la ln lc zs ls (R : Int) (C : Int) ga gn gc gs _ hnm (HS.out.below (by repeat' (first | (with_reducible exact Below.refl _ _) | (with_reducible assumption) | (with_reducible refine Below.alloc ?_ ?_ _) | (with_reducible refine Below.setCell ?_ ?_ _) | (with_reducible refine Below.drew ?_) | (with_reducible refine below_drewN ?_ _) | (with_reducible refine below_via (by with_reducible assumption) ?_ ?_) | go_size))) hsn (HL.out.below (by repeat' (first | (with_reducible exact Below.refl _ _) | (with_reducible assumption) | (with_reducible refine Below.alloc ?_ ?_ _) | (with_reducible refine Below.setCell ?_ ?_ _) | (with_reducible refine Below.drew ?_) | (with_reducible refine below_drewN ?_ _) | (with_reducible refine below_via (by with_reducible assumption) ?_ ?_) | go_size))) hln (HG.out.below (by repeat' (first | (with_reducible exact Below.refl _ _) | (with_reducible assumption) | (with_reducible refine Below.alloc ?_ ?_ _) | (with_reducible refine Below.setCell ?_ ?_ _) | (with_reducible refine Below.drew ?_) | (with_reducible refine below_drewN ?_ _) | (with_reducible refine below_via (by with_reducible assumption) ?_ ?_) | go_size))) hgn).mono ?_; rintro e w' ⟨rfl, hb⟩; rw [HO.out]; obtain ⟨hc, hf⟩ := bcell hb; have hz := hb.size; (try simp at hz); have hz0 : w.heap.size < w'.heap.size := (by omega); have hz1 : w.heap.size + 1 < w'.heap.size := (by omega))
  have HB : Hid (Below w.heap.size w w') := by unfold Hid; repeat' (first | (with_reducible exact Below.refl _ _) | (with_reducible assumption) | (with_reducible refine Below.alloc ?_ ?_ _) | (with_reducible refine Below.setCell ?_ ?_ _) | (with_reducible refine Below.drew ?_) | (with_reducible refine below_drewN ?_ _) | (with_reducible refine below_via (by with_reducible assumption) ?_ ?_) | go_size)
  refine (iElements co R C gn gc ga gs _ (HG.out.below (by repeat' (first | (with_reducible exact Below.refl _ _) | (with_reducible assumption) | (with_reducible refine Below.alloc ?_ ?_ _) | (with_reducible refine Below.setCell ?_ ?_ _) | (with_reducible refine Below.drew ?_) | (with_reducible refine below_drewN ?_ _) | (with_reducible refine below_via (by with_reducible assumption) ?_ ?_) | go_size))) hn4 hcp hcp2 HN.out HC.out hco HBd.out).mono ?_
  rintro e w2 ⟨v, u, rfl, hd, hb2⟩
  have HD := Lib.hid hd
  have HB2 : Hid (Below w.heap.size w w2) := HB.out.trans (hb2.mono (by omega))
  clear hd hb2 HB
  go_wp2
  go_returns
  exact ⟨v, u, rfl, HD.out.plain (by omega), HB2.out, HLn.out⟩
end Go.Proofs.Ytenelpollcabnaa
