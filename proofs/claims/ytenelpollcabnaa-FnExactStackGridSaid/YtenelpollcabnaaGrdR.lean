/-
  DERIVED. StackGrid of both sides.
-/
import Derived.Test.YtenelpollcabnaaGrdQ
import Derived.Test.YtenelpollcabnaaStkC
import Derived.Test.YtenelpollcabnaaLev
namespace Go.Proofs.Ytenelpollcabnaa
open Go.RowKit
set_option linter.unusedVariables false
theorem stk_size {nm : ByteArray} {kd p pw po : Int} {sn : Nat} {zs : List Int} {col : Int} {ln : Nat} {ls : List Int} {r : Int} (h : stkB nm kd p pw po sn zs col ln ls = true) (hh : hasB zs r sn = true) : 3 ≤ r ∧ r ≤ 24 := by
  have hk := (stk_col h).1
  have h1 := stk_fam h
  unfold famB at h1
  simp only [Bool.and_eq_true, Bool.or_eq_true, beq_iff_eq] at h1
  have hr : riseB zs 3 24 sn = true := by
    rcases h1.2 with h2 | h2
    · have := h2.1.1.1.1; omega
    · exact h2.2
  have hn : ¬ HasNo zs r sn := by
    unfold hasB at hh
    simpa using hh
  exact Classical.byContradiction fun hc => hn fun k hk2 e => hc (by have := inB_iff.1 (riseB_at hr hk2); rw [e] at this; exact this)
theorem prod_bd {a b : Int} (h1 : 3 ≤ a) (h2 : a ≤ 24) (h3 : 1 ≤ b) (h4 : b ≤ 8) : 3 ≤ a * b ∧ a * b ≤ 192 := by
  have e1 : 3 * 1 ≤ a * b := Int.mul_le_mul h1 h3 (by omega) (by omega)
  have e2 : a * b ≤ 24 * 8 := Int.mul_le_mul h2 h4 (by omega) (by omega)
  omega
theorem out3_of {w w' : World} {o : Obj} {t : TypeId} (h : Below (w.heap.size + 2) ((w.alloc o).alloc (.cells #[.int .i64 0, .int .i64 0, .slice none 0 0] t)) w') : Out3 w' (w.heap.size + 1) := by
  have h1 := Out3.new (w.alloc o) t
  simp only [World.size_alloc] at h1
  obtain ⟨a0, a1, a2, a3, a4, a5, a6⟩ := h1
  exact ⟨Nat.lt_of_lt_of_le (by simp) h.size, (h.cell (p := ⟨w.heap.size + 1, 0, none⟩) (by simp)).trans a1, (h.cell (p := ⟨w.heap.size + 1, 1, none⟩) (by simp)).trans a2, (h.cell (p := ⟨w.heap.size + 1, 2, none⟩) (by simp)).trans a3, (h.frozen (p := ⟨w.heap.size + 1, 0, none⟩) (by simp)).trans a4, (h.frozen (p := ⟨w.heap.size + 1, 1, none⟩) (by simp)).trans a5, (h.frozen (p := ⟨w.heap.size + 1, 2, none⟩) (by simp)).trans a6⟩
theorem fam_of_stk {nm : ByteArray} {kd p pw po : Int} {sn : Nat} {zs : List Int} {col : Int} {ln : Nat} {ls : List Int} (h : stkB nm kd p pw po sn zs col ln ls = true) : famB nm kd p pw po sn zs col ln ls = true ∧ (kd != 2) = false := by
  refine ⟨stk_fam h, ?_⟩
  have := (stk_col h).1
  subst this
  rfl
set_option maxRecDepth 20000 in
set_option maxHeartbeats 8000000 in
theorem sSG_fam (nm : ByteArray) (kd p pw po : Int) (sa : Option Addr) (sn sc : Nat) (col : Int) (la : Option Addr) (ln lc : Nat) (zs ls : List Int) (sz lv : Int) (ea : Option Addr) (en ec : Nat) (els : List Int) (w : World) (hnm : nm.size ≤ maxLen) (hs : Rd w sa sn zs) (hsn : sn ≤ 1048576) (hl : Rd w la ln ls) (hln : ln ≤ 1048576) (h1 : stkB nm kd p pw po sn zs col ln ls = false) : Calls Try.prog 7 #[.agg #[.string nm, .int .i64 kd, .int .i64 p, .int .i64 pw, .int .i64 po, .slice sa sn sc, .int .i64 col, .slice la ln lc], .int .i64 sz, .int .i64 lv, .slice ea en ec] w (ResG w 0 0 [] 1) := by
  have HS := Lib.hid hs
  have HL := Lib.hid hl
  clear hs hl
  go_enter Try.func7, Try.ntmps7
  go_wp2_with (first | (go_at_call 33; refine (sIs nm kd p pw po sa sn sc col la ln lc zs ls _ hnm (HS.out.below (by repeat' (first | (with_reducible exact Below.refl _ _) | (with_reducible assumption) | (with_reducible refine Below.alloc ?_ ?_ _) | (with_reducible refine Below.setCell ?_ ?_ _) | (with_reducible refine Below.drew ?_) | (with_reducible refine below_drewN ?_ _) | (with_reducible refine below_via (by with_reducible assumption) ?_ ?_) | go_size))) hsn (HL.out.below (by repeat' (first | (with_reducible exact Below.refl _ _) | (with_reducible assumption) | (with_reducible refine Below.alloc ?_ ?_ _) | (with_reducible refine Below.setCell ?_ ?_ _) | (with_reducible refine Below.drew ?_) | (with_reducible refine below_drewN ?_ _) | (with_reducible refine below_via (by with_reducible assumption) ?_ ?_) | go_size))) hln).mono ?_; rintro e w' ⟨rfl, hb⟩; rw [h1]; obtain ⟨hc, hf⟩ := bcell hb; have hz := hb.size; (try simp at hz); have hz0 : w.heap.size < w'.heap.size := (by omega); have hz1 : w.heap.size + 1 < w'.heap.size := (by omega)) | (go_at_call 34; refine (sHas sa sn sc zs sz _ (HS.out.below (by repeat' (first | (with_reducible exact Below.refl _ _) | (with_reducible assumption) | (with_reducible refine Below.alloc ?_ ?_ _) | (with_reducible refine Below.setCell ?_ ?_ _) | (with_reducible refine Below.drew ?_) | (with_reducible refine below_drewN ?_ _) | (with_reducible refine below_via (by with_reducible assumption) ?_ ?_) | go_size))) hsn).mono ?_; rintro e w' ⟨rfl, rfl⟩; rw [h3]) | (go_at_call 35; with_reducible show Calls _ _ #[.int .i64 lv, .int .i64 0, .int .i64 ((ln : Int) - 1)] _ _; refine (sIn _ _ _ _).mono ?_; rintro e w' ⟨rfl, rfl⟩; rw [h4]))
  first
  | (go_returns; exact ⟨none, 0, rfl, World.ownsRow_nil _ _ _ _, by repeat' (first | (with_reducible exact Below.refl _ _) | (with_reducible assumption) | (with_reducible refine Below.alloc ?_ ?_ _) | (with_reducible refine Below.setCell ?_ ?_ _) | (with_reducible refine Below.drew ?_) | (with_reducible refine below_drewN ?_ _) | (with_reducible refine below_via (by with_reducible assumption) ?_ ?_) | go_size), by simp⟩; done)
  | (have HB0 : Below (w.heap.size + 2) ((w.alloc (.cells #[.string nm, .int .i64 kd, .int .i64 p, .int .i64 pw, .int .i64 po, .slice sa sn sc, .int .i64 col, .slice la ln lc] 34)).alloc (.cells #[.int .i64 0, .int .i64 0, .slice none 0 0] 29)) w' := by repeat' (first | (with_reducible exact Below.refl _ _) | (with_reducible assumption) | (with_reducible refine Below.alloc ?_ ?_ _) | (with_reducible refine Below.setCell ?_ ?_ _) | (with_reducible refine Below.drew ?_) | (with_reducible refine below_drewN ?_ _) | (with_reducible refine below_via (by with_reducible assumption) ?_ ?_) | go_size)
     obtain ⟨_, q0, q1, q2, _, _, _⟩ := out3_of HB0
     have HBx : Below w.heap.size w w' := by repeat' (first | (with_reducible exact Below.refl _ _) | (with_reducible assumption) | (with_reducible refine Below.alloc ?_ ?_ _) | (with_reducible refine Below.setCell ?_ ?_ _) | (with_reducible refine Below.drew ?_) | (with_reducible refine below_drewN ?_ _) | (with_reducible refine below_via (by with_reducible assumption) ?_ ?_) | go_size)
     clear HB0 hc hf
     refine bodyPost_ret (v := .tuple #[.agg #[.int .i64 0, .int .i64 0, .slice none 0 0], .int .i64 1]) (by simp [results, Try.results7, go_sem, q0, q1, q2]) rfl ?_
     exact ⟨none, 0, rfl, World.ownsRow_nil _ _ _ _, ((HBx.setCell (by simp) _).setCell (by simp) _).setCell (by simp) _, by simp⟩)
set_option maxRecDepth 20000 in
set_option maxHeartbeats 8000000 in
theorem sSG_rng (nm : ByteArray) (kd p pw po : Int) (sa : Option Addr) (sn sc : Nat) (col : Int) (la : Option Addr) (ln lc : Nat) (zs ls : List Int) (sz lv : Int) (ea : Option Addr) (en ec : Nat) (els : List Int) (w : World) (hnm : nm.size ≤ maxLen) (hs : Rd w sa sn zs) (hsn : sn ≤ 1048576) (hl : Rd w la ln ls) (hln : ln ≤ 1048576) (hk : stkB nm kd p pw po sn zs col ln ls = true) (hr : (hasB zs sz sn && inB lv 0 ((ln : Int) - 1)) = false) : Calls Try.prog 7 #[.agg #[.string nm, .int .i64 kd, .int .i64 p, .int .i64 pw, .int .i64 po, .slice sa sn sc, .int .i64 col, .slice la ln lc], .int .i64 sz, .int .i64 lv, .slice ea en ec] w (ResG w 0 0 [] 2) := by
  have HS := Lib.hid hs
  have HL := Lib.hid hl
  clear hs hl
  have h1 := hk
  clear hk
  cases h3 : hasB zs sz sn
  · go_enter Try.func7, Try.ntmps7
    go_wp2_with (first | (go_at_call 33; refine (sIs nm kd p pw po sa sn sc col la ln lc zs ls _ hnm (HS.out.below (by repeat' (first | (with_reducible exact Below.refl _ _) | (with_reducible assumption) | (with_reducible refine Below.alloc ?_ ?_ _) | (with_reducible refine Below.setCell ?_ ?_ _) | (with_reducible refine Below.drew ?_) | (with_reducible refine below_drewN ?_ _) | (with_reducible refine below_via (by with_reducible assumption) ?_ ?_) | go_size))) hsn (HL.out.below (by repeat' (first | (with_reducible exact Below.refl _ _) | (with_reducible assumption) | (with_reducible refine Below.alloc ?_ ?_ _) | (with_reducible refine Below.setCell ?_ ?_ _) | (with_reducible refine Below.drew ?_) | (with_reducible refine below_drewN ?_ _) | (with_reducible refine below_via (by with_reducible assumption) ?_ ?_) | go_size))) hln).mono ?_; rintro e w' ⟨rfl, hb⟩; rw [h1]; obtain ⟨hc, hf⟩ := bcell hb; have hz := hb.size; (try simp at hz); have hz0 : w.heap.size < w'.heap.size := (by omega); have hz1 : w.heap.size + 1 < w'.heap.size := (by omega)) | (go_at_call 34; refine (sHas sa sn sc zs sz _ (HS.out.below (by repeat' (first | (with_reducible exact Below.refl _ _) | (with_reducible assumption) | (with_reducible refine Below.alloc ?_ ?_ _) | (with_reducible refine Below.setCell ?_ ?_ _) | (with_reducible refine Below.drew ?_) | (with_reducible refine below_drewN ?_ _) | (with_reducible refine below_via (by with_reducible assumption) ?_ ?_) | go_size))) hsn).mono ?_; rintro e w' ⟨rfl, rfl⟩; rw [h3]) | (go_at_call 35; with_reducible show Calls _ _ #[.int .i64 lv, .int .i64 0, .int .i64 ((ln : Int) - 1)] _ _; refine (sIn _ _ _ _).mono ?_; rintro e w' ⟨rfl, rfl⟩; rw [h4]))
    first
    | (go_returns; exact ⟨none, 0, rfl, World.ownsRow_nil _ _ _ _, by repeat' (first | (with_reducible exact Below.refl _ _) | (with_reducible assumption) | (with_reducible refine Below.alloc ?_ ?_ _) | (with_reducible refine Below.setCell ?_ ?_ _) | (with_reducible refine Below.drew ?_) | (with_reducible refine below_drewN ?_ _) | (with_reducible refine below_via (by with_reducible assumption) ?_ ?_) | go_size), by simp⟩; done)
    | (have HB0 : Below (w.heap.size + 2) ((w.alloc (.cells #[.string nm, .int .i64 kd, .int .i64 p, .int .i64 pw, .int .i64 po, .slice sa sn sc, .int .i64 col, .slice la ln lc] 34)).alloc (.cells #[.int .i64 0, .int .i64 0, .slice none 0 0] 29)) w' := by repeat' (first | (with_reducible exact Below.refl _ _) | (with_reducible assumption) | (with_reducible refine Below.alloc ?_ ?_ _) | (with_reducible refine Below.setCell ?_ ?_ _) | (with_reducible refine Below.drew ?_) | (with_reducible refine below_drewN ?_ _) | (with_reducible refine below_via (by with_reducible assumption) ?_ ?_) | go_size)
       obtain ⟨_, q0, q1, q2, _, _, _⟩ := out3_of HB0
       have HBx : Below w.heap.size w w' := by repeat' (first | (with_reducible exact Below.refl _ _) | (with_reducible assumption) | (with_reducible refine Below.alloc ?_ ?_ _) | (with_reducible refine Below.setCell ?_ ?_ _) | (with_reducible refine Below.drew ?_) | (with_reducible refine below_drewN ?_ _) | (with_reducible refine below_via (by with_reducible assumption) ?_ ?_) | go_size)
       clear HB0 hc hf
       refine bodyPost_ret (v := .tuple #[.agg #[.int .i64 0, .int .i64 0, .slice none 0 0], .int .i64 2]) (by simp [results, Try.results7, go_sem, q0, q1, q2]) rfl ?_
       exact ⟨none, 0, rfl, World.ownsRow_nil _ _ _ _, ((HBx.setCell (by simp) _).setCell (by simp) _).setCell (by simp) _, by simp⟩)
  · have h4 : inB lv 0 ((ln : Int) - 1) = false := by rw [h3, Bool.true_and] at hr; exact hr
    clear hr
    go_enter Try.func7, Try.ntmps7
    go_wp2_with (first | (go_at_call 33; refine (sIs nm kd p pw po sa sn sc col la ln lc zs ls _ hnm (HS.out.below (by repeat' (first | (with_reducible exact Below.refl _ _) | (with_reducible assumption) | (with_reducible refine Below.alloc ?_ ?_ _) | (with_reducible refine Below.setCell ?_ ?_ _) | (with_reducible refine Below.drew ?_) | (with_reducible refine below_drewN ?_ _) | (with_reducible refine below_via (by with_reducible assumption) ?_ ?_) | go_size))) hsn (HL.out.below (by repeat' (first | (with_reducible exact Below.refl _ _) | (with_reducible assumption) | (with_reducible refine Below.alloc ?_ ?_ _) | (with_reducible refine Below.setCell ?_ ?_ _) | (with_reducible refine Below.drew ?_) | (with_reducible refine below_drewN ?_ _) | (with_reducible refine below_via (by with_reducible assumption) ?_ ?_) | go_size))) hln).mono ?_; rintro e w' ⟨rfl, hb⟩; rw [h1]; obtain ⟨hc, hf⟩ := bcell hb; have hz := hb.size; (try simp at hz); have hz0 : w.heap.size < w'.heap.size := (by omega); have hz1 : w.heap.size + 1 < w'.heap.size := (by omega)) | (go_at_call 34; refine (sHas sa sn sc zs sz _ (HS.out.below (by repeat' (first | (with_reducible exact Below.refl _ _) | (with_reducible assumption) | (with_reducible refine Below.alloc ?_ ?_ _) | (with_reducible refine Below.setCell ?_ ?_ _) | (with_reducible refine Below.drew ?_) | (with_reducible refine below_drewN ?_ _) | (with_reducible refine below_via (by with_reducible assumption) ?_ ?_) | go_size))) hsn).mono ?_; rintro e w' ⟨rfl, rfl⟩; rw [h3]) | (go_at_call 35; with_reducible show Calls _ _ #[.int .i64 lv, .int .i64 0, .int .i64 ((ln : Int) - 1)] _ _; refine (sIn _ _ _ _).mono ?_; rintro e w' ⟨rfl, rfl⟩; rw [h4]))
    first
    | (go_returns; exact ⟨none, 0, rfl, World.ownsRow_nil _ _ _ _, by repeat' (first | (with_reducible exact Below.refl _ _) | (with_reducible assumption) | (with_reducible refine Below.alloc ?_ ?_ _) | (with_reducible refine Below.setCell ?_ ?_ _) | (with_reducible refine Below.drew ?_) | (with_reducible refine below_drewN ?_ _) | (with_reducible refine below_via (by with_reducible assumption) ?_ ?_) | go_size), by simp⟩; done)
    | (have HB0 : Below (w.heap.size + 2) ((w.alloc (.cells #[.string nm, .int .i64 kd, .int .i64 p, .int .i64 pw, .int .i64 po, .slice sa sn sc, .int .i64 col, .slice la ln lc] 34)).alloc (.cells #[.int .i64 0, .int .i64 0, .slice none 0 0] 29)) w' := by repeat' (first | (with_reducible exact Below.refl _ _) | (with_reducible assumption) | (with_reducible refine Below.alloc ?_ ?_ _) | (with_reducible refine Below.setCell ?_ ?_ _) | (with_reducible refine Below.drew ?_) | (with_reducible refine below_drewN ?_ _) | (with_reducible refine below_via (by with_reducible assumption) ?_ ?_) | go_size)
       obtain ⟨_, q0, q1, q2, _, _, _⟩ := out3_of HB0
       have HBx : Below w.heap.size w w' := by repeat' (first | (with_reducible exact Below.refl _ _) | (with_reducible assumption) | (with_reducible refine Below.alloc ?_ ?_ _) | (with_reducible refine Below.setCell ?_ ?_ _) | (with_reducible refine Below.drew ?_) | (with_reducible refine below_drewN ?_ _) | (with_reducible refine below_via (by with_reducible assumption) ?_ ?_) | go_size)
       clear HB0 hc hf
       refine bodyPost_ret (v := .tuple #[.agg #[.int .i64 0, .int .i64 0, .slice none 0 0], .int .i64 2]) (by simp [results, Try.results7, go_sem, q0, q1, q2]) rfl ?_
       exact ⟨none, 0, rfl, World.ownsRow_nil _ _ _ _, ((HBx.setCell (by simp) _).setCell (by simp) _).setCell (by simp) _, by simp⟩)
set_option maxRecDepth 20000 in
set_option maxHeartbeats 8000000 in
theorem sSG_lim (nm : ByteArray) (kd p pw po : Int) (sa : Option Addr) (sn sc : Nat) (col : Int) (la : Option Addr) (ln lc : Nat) (zs ls : List Int) (sz lv : Int) (ea : Option Addr) (en ec : Nat) (els : List Int) (w : World) (hnm : nm.size ≤ maxLen) (hs : Rd w sa sn zs) (hsn : sn ≤ 1048576) (hl : Rd w la ln ls) (hln : ln ≤ 1048576) (hk : stkB nm kd p pw po sn zs col ln ls = true) (h3 : hasB zs sz sn = true) (h4 : inB lv 0 ((ln : Int) - 1) = true) (hen : en ≤ 1048576) (hne : (en : Int) ≠ sz * col) : Calls Try.prog 7 #[.agg #[.string nm, .int .i64 kd, .int .i64 p, .int .i64 pw, .int .i64 po, .slice sa sn sc, .int .i64 col, .slice la ln lc], .int .i64 sz, .int .i64 lv, .slice ea en ec] w (ResG w 0 0 [] 3) := by
  have HS := Lib.hid hs
  have HL := Lib.hid hl
  clear hs hl
  obtain ⟨m1, m2⟩ := prod_bd (stk_size hk h3).1 (stk_size hk h3).2 (stk_col hk).2.1 (stk_col hk).2.2
  obtain ⟨z1, z2⟩ := stk_size hk h3
  obtain ⟨-, c1, c8⟩ := stk_col hk
  have h1 := hk
  clear hk
  have h5 : ((en : Int) != sz * col) = true := by simp [hne]
  clear hne
  go_enter Try.func7, Try.ntmps7
  go_wp2_with (first | (go_at_call 33; refine (sIs nm kd p pw po sa sn sc col la ln lc zs ls _ hnm (HS.out.below (by repeat' (first | (with_reducible exact Below.refl _ _) | (with_reducible assumption) | (with_reducible refine Below.alloc ?_ ?_ _) | (with_reducible refine Below.setCell ?_ ?_ _) | (with_reducible refine Below.drew ?_) | (with_reducible refine below_drewN ?_ _) | (with_reducible refine below_via (by with_reducible assumption) ?_ ?_) | go_size))) hsn (HL.out.below (by repeat' (first | (with_reducible exact Below.refl _ _) | (with_reducible assumption) | (with_reducible refine Below.alloc ?_ ?_ _) | (with_reducible refine Below.setCell ?_ ?_ _) | (with_reducible refine Below.drew ?_) | (with_reducible refine below_drewN ?_ _) | (with_reducible refine below_via (by with_reducible assumption) ?_ ?_) | go_size))) hln).mono ?_; rintro e w' ⟨rfl, hb⟩; rw [h1]; obtain ⟨hc, hf⟩ := bcell hb; have hz := hb.size; (try simp at hz); have hz0 : w.heap.size < w'.heap.size := (by omega); have hz1 : w.heap.size + 1 < w'.heap.size := (by omega)) | (go_at_call 34; refine (sHas sa sn sc zs sz _ (HS.out.below (by repeat' (first | (with_reducible exact Below.refl _ _) | (with_reducible assumption) | (with_reducible refine Below.alloc ?_ ?_ _) | (with_reducible refine Below.setCell ?_ ?_ _) | (with_reducible refine Below.drew ?_) | (with_reducible refine below_drewN ?_ _) | (with_reducible refine below_via (by with_reducible assumption) ?_ ?_) | go_size))) hsn).mono ?_; rintro e w' ⟨rfl, rfl⟩; rw [h3]) | (go_at_call 35; with_reducible show Calls _ _ #[.int .i64 lv, .int .i64 0, .int .i64 ((ln : Int) - 1)] _ _; refine (sIn _ _ _ _).mono ?_; rintro e w' ⟨rfl, rfl⟩; rw [h4]))
  first
  | (go_returns; exact ⟨none, 0, rfl, World.ownsRow_nil _ _ _ _, by repeat' (first | (with_reducible exact Below.refl _ _) | (with_reducible assumption) | (with_reducible refine Below.alloc ?_ ?_ _) | (with_reducible refine Below.setCell ?_ ?_ _) | (with_reducible refine Below.drew ?_) | (with_reducible refine below_drewN ?_ _) | (with_reducible refine below_via (by with_reducible assumption) ?_ ?_) | go_size), by simp⟩; done)
  | (have HB0 : Below (w.heap.size + 2) ((w.alloc (.cells #[.string nm, .int .i64 kd, .int .i64 p, .int .i64 pw, .int .i64 po, .slice sa sn sc, .int .i64 col, .slice la ln lc] 34)).alloc (.cells #[.int .i64 0, .int .i64 0, .slice none 0 0] 29)) w' := by repeat' (first | (with_reducible exact Below.refl _ _) | (with_reducible assumption) | (with_reducible refine Below.alloc ?_ ?_ _) | (with_reducible refine Below.setCell ?_ ?_ _) | (with_reducible refine Below.drew ?_) | (with_reducible refine below_drewN ?_ _) | (with_reducible refine below_via (by with_reducible assumption) ?_ ?_) | go_size)
     obtain ⟨_, q0, q1, q2, _, _, _⟩ := out3_of HB0
     have HBx : Below w.heap.size w w' := by repeat' (first | (with_reducible exact Below.refl _ _) | (with_reducible assumption) | (with_reducible refine Below.alloc ?_ ?_ _) | (with_reducible refine Below.setCell ?_ ?_ _) | (with_reducible refine Below.drew ?_) | (with_reducible refine below_drewN ?_ _) | (with_reducible refine below_via (by with_reducible assumption) ?_ ?_) | go_size)
     clear HB0 hc hf
     refine bodyPost_ret (v := .tuple #[.agg #[.int .i64 0, .int .i64 0, .slice none 0 0], .int .i64 3]) (by simp [results, Try.results7, go_sem, q0, q1, q2]) rfl ?_
     exact ⟨none, 0, rfl, World.ownsRow_nil _ _ _ _, ((HBx.setCell (by simp) _).setCell (by simp) _).setCell (by simp) _, by simp⟩)
set_option maxRecDepth 20000 in
set_option maxHeartbeats 8000000 in
theorem sSG_sta (nm : ByteArray) (kd p pw po : Int) (sa : Option Addr) (sn sc : Nat) (col : Int) (la : Option Addr) (ln lc : Nat) (zs ls : List Int) (sz lv : Int) (ea : Option Addr) (en ec : Nat) (els : List Int) (w : World) (hnm : nm.size ≤ maxLen) (hs : Rd w sa sn zs) (hsn : sn ≤ 1048576) (hl : Rd w la ln ls) (hln : ln ≤ 1048576) (hk : stkB nm kd p pw po sn zs col ln ls = true) (h3 : hasB zs sz sn = true) (h4 : inB lv 0 ((ln : Int) - 1) = true) (hen : en ≤ 1048576) (hne : (en : Int) = sz * col) (he : Rd w ea en els) (ha : els.all (fun x => inB x 0 31) = false) : Calls Try.prog 7 #[.agg #[.string nm, .int .i64 kd, .int .i64 p, .int .i64 pw, .int .i64 po, .slice sa sn sc, .int .i64 col, .slice la ln lc], .int .i64 sz, .int .i64 lv, .slice ea en ec] w (ResG w 0 0 [] 5) := by
  have HS := Lib.hid hs
  have HL := Lib.hid hl
  clear hs hl
  obtain ⟨m1, m2⟩ := prod_bd (stk_size hk h3).1 (stk_size hk h3).2 (stk_col hk).2.1 (stk_col hk).2.2
  obtain ⟨z1, z2⟩ := stk_size hk h3
  obtain ⟨-, c1, c8⟩ := stk_col hk
  have h1 := hk
  clear hk
  have h5 : ((en : Int) != sz * col) = false := by simp [hne]
  have HE : Hid (∀ W, Below w.heap.size w W → Rd W ea en els) := fun W hW => he.below hW
  have HEl := Lib.hid he.1
  have HAll := Lib.hid ha
  clear hne he ha
  go_enter Try.func7, Try.ntmps7
  go_wp2_with (first | (go_at_call 33; refine (sIs nm kd p pw po sa sn sc col la ln lc zs ls _ hnm (HS.out.below (by repeat' (first | (with_reducible exact Below.refl _ _) | (with_reducible assumption) | (with_reducible refine Below.alloc ?_ ?_ _) | (with_reducible refine Below.setCell ?_ ?_ _) | (with_reducible refine Below.drew ?_) | (with_reducible refine below_drewN ?_ _) | (with_reducible refine below_via (by with_reducible assumption) ?_ ?_) | go_size))) hsn (HL.out.below (by repeat' (first | (with_reducible exact Below.refl _ _) | (with_reducible assumption) | (with_reducible refine Below.alloc ?_ ?_ _) | (with_reducible refine Below.setCell ?_ ?_ _) | (with_reducible refine Below.drew ?_) | (with_reducible refine below_drewN ?_ _) | (with_reducible refine below_via (by with_reducible assumption) ?_ ?_) | go_size))) hln).mono ?_; rintro e w' ⟨rfl, hb⟩; rw [h1]; obtain ⟨hc, hf⟩ := bcell hb; have hz := hb.size; (try simp at hz); have hz0 : w.heap.size < w'.heap.size := (by omega); have hz1 : w.heap.size + 1 < w'.heap.size := (by omega)) | (go_at_call 34; refine (sHas sa sn sc zs sz _ (HS.out.below (by repeat' (first | (with_reducible exact Below.refl _ _) | (with_reducible assumption) | (with_reducible refine Below.alloc ?_ ?_ _) | (with_reducible refine Below.setCell ?_ ?_ _) | (with_reducible refine Below.drew ?_) | (with_reducible refine below_drewN ?_ _) | (with_reducible refine below_via (by with_reducible assumption) ?_ ?_) | go_size))) hsn).mono ?_; rintro e w' ⟨rfl, rfl⟩; rw [h3]) | (go_at_call 35; with_reducible show Calls _ _ #[.int .i64 lv, .int .i64 0, .int .i64 ((ln : Int) - 1)] _ _; refine (sIn _ _ _ _).mono ?_; rintro e w' ⟨rfl, rfl⟩; rw [h4]))
  have HB : Hid (Below w.heap.size w w') := by unfold Hid; repeat' (first | (with_reducible exact Below.refl _ _) | (with_reducible assumption) | (with_reducible refine Below.alloc ?_ ?_ _) | (with_reducible refine Below.setCell ?_ ?_ _) | (with_reducible refine Below.drew ?_) | (with_reducible refine below_drewN ?_ _) | (with_reducible refine below_via (by with_reducible assumption) ?_ ?_) | go_size)
  go_loop [10] (fun i => ∃ k : Nat, k ≤ en ∧ i = .int .i64 k ∧ Hid (∀ j, j < k → inB (els.getD j 0) 0 31 = true)) (fun i => en - (intOf i).toNat)
  case atStart => exact ⟨0, Nat.zero_le _, rfl, fun j hj => absurd hj (by omega)⟩
  case round =>
    obtain ⟨k, hk, rfl, HA⟩ := hrel
    by_cases hlt : k < en
    · obtain ⟨b, off, rfl, hbl, hcx⟩ := (HE.out w' HB.out).2 (by omega)
      have hx := hcx k hlt
      clear hcx
      obtain ⟨x, hxv⟩ : ∃ x, els.getD k 0 = x := ⟨_, rfl⟩
      rw [hxv] at hx
      have HX := Lib.hid hxv
      have k0 : (0 : Int) ≤ (k : Int) := by omega
      have k1 : (k : Int) < (en : Int) := by omega
      clear hxv
      cases hg : inB x 0 31
      · go_wp2_with (go_at_call 35; refine (sIn _ _ _ _).mono ?_; rintro e w' ⟨rfl, rfl⟩)
        first
        | (go_returns; exact ⟨none, 0, rfl, World.ownsRow_nil _ _ _ _, by repeat' (first | (with_reducible exact Below.refl _ _) | (with_reducible assumption) | (with_reducible refine Below.alloc ?_ ?_ _) | (with_reducible refine Below.setCell ?_ ?_ _) | (with_reducible refine Below.drew ?_) | (with_reducible refine below_drewN ?_ _) | (with_reducible refine below_via (by with_reducible assumption) ?_ ?_) | go_size), by simp⟩; done)
        | (have HB0 : Below (w.heap.size + 2) ((w.alloc (.cells #[.string nm, .int .i64 kd, .int .i64 p, .int .i64 pw, .int .i64 po, .slice sa sn sc, .int .i64 col, .slice la ln lc] 34)).alloc (.cells #[.int .i64 0, .int .i64 0, .slice none 0 0] 29)) w' := by repeat' (first | (with_reducible exact Below.refl _ _) | (with_reducible assumption) | (with_reducible refine Below.alloc ?_ ?_ _) | (with_reducible refine Below.setCell ?_ ?_ _) | (with_reducible refine Below.drew ?_) | (with_reducible refine below_drewN ?_ _) | (with_reducible refine below_via (by with_reducible assumption) ?_ ?_) | go_size)
           obtain ⟨_, q0, q1, q2, _, _, _⟩ := out3_of HB0
           have HBx : Below w.heap.size w w' := by repeat' (first | (with_reducible exact Below.refl _ _) | (with_reducible assumption) | (with_reducible refine Below.alloc ?_ ?_ _) | (with_reducible refine Below.setCell ?_ ?_ _) | (with_reducible refine Below.drew ?_) | (with_reducible refine below_drewN ?_ _) | (with_reducible refine below_via (by with_reducible assumption) ?_ ?_) | go_size)
           clear HB0 hc hf
           refine bodyPost_ret (v := .tuple #[.agg #[.int .i64 0, .int .i64 0, .slice none 0 0], .int .i64 5]) (by simp [results, Try.results7, go_sem, q0, q1, q2]) rfl ?_
           exact ⟨none, 0, rfl, World.ownsRow_nil _ _ _ _, ((HBx.setCell (by simp) _).setCell (by simp) _).setCell (by simp) _, by simp⟩)
      · have HA2 : Hid (∀ j, j < k + 1 → inB (els.getD j 0) 0 31 = true) := fun j hj => by
          rcases Nat.lt_or_ge j k with h4 | h4
          · exact HA.out j h4
          · obtain rfl : j = k := by omega
            rw [HX.out]; exact hg
        go_wp2_with (go_at_call 35; refine (sIn _ _ _ _).mono ?_; rintro e w' ⟨rfl, rfl⟩)
        go_round
        case rel => exact ⟨k + 1, by omega, by go_num, HA2⟩
        case measure => simp [intOf]; omega
    · exact absurd (all_yes (zs := els) (fun i hi => HA.out i (by have := HEl.out; omega))) (by rw [HAll.out]; decide)
set_option maxRecDepth 20000 in
set_option maxHeartbeats 8000000 in
theorem sSG_ok (nm : ByteArray) (kd p pw po : Int) (sa : Option Addr) (sn sc : Nat) (co : Nat) (la : Option Addr) (ln lc : Nat) (zs ls : List Int) (R lv : Nat) (ea : Option Addr) (en ec : Nat) (els : List Int) (w : World) (hnm : nm.size ≤ maxLen) (hs : Rd w sa sn zs) (hsn : sn ≤ 1048576) (hl : Rd w la ln ls) (hln : ln ≤ 1048576) (hk : stkB nm kd p pw po sn zs (co : Int) ln ls = true) (h3 : hasB zs (R : Int) sn = true) (h4 : inB (lv : Int) 0 ((ln : Int) - 1) = true) (hne : en = R * co) (hec : en ≤ ec) (he : Rd w ea en els) (ha : els.all (fun x => inB x 0 31) = true) : Calls Try.prog 7 #[.agg #[.string nm, .int .i64 kd, .int .i64 p, .int .i64 pw, .int .i64 po, .slice sa sn sc, .int .i64 (co : Int), .slice la ln lc], .int .i64 (R : Int), .int .i64 (lv : Int), .slice ea en ec] w (ResG w (R : Int) ((15 + 11 * (co + 2) : Nat) : Int) (gridTo els co R lv R) 0) := by
  have HS := Lib.hid hs
  have HL := Lib.hid hl
  clear hs hl
  obtain ⟨m1, m2⟩ := prod_bd (stk_size hk h3).1 (stk_size hk h3).2 (stk_col hk).2.1 (stk_col hk).2.2
  obtain ⟨z1, z2⟩ := stk_size hk h3
  obtain ⟨-, c1, c8⟩ := stk_col hk
  obtain ⟨l1, l4⟩ := stk_lv hk
  have hlv := inB_iff.1 h4
  have h1 := hk
  clear hk
  have h5 : ((en : Int) != (R : Int) * (co : Int)) = false := by rw [hne]; simp
  have HE : Hid (∀ W, Below w.heap.size w W → Rd W ea en els) := fun W hW => he.below hW
  have HEl := Lib.hid he.1
  have HAll : Hid (∀ x ∈ els, inB x 0 31 = true) := fun x h2 => by rw [List.all_eq_true] at ha; exact ha x h2
  have HBd : Hid (∀ x ∈ els, 0 ≤ x ∧ x ≤ 31) := fun x h2 => inB_iff.1 (HAll.out x h2)
  have HLn : Hid ((gridTo els co R lv R).length = R * (15 + 11 * (co + 2))) := gridTo_len HBd.out (by omega) (by omega) (by omega) (by rw [he.1, hne]) R (Nat.le_refl _)
  have HLm : Hid (R * (15 + 11 * (co + 2)) ≤ 3000) := by
    have h6 : R * (15 + 11 * (co + 2)) ≤ 24 * 125 := Nat.mul_le_mul (by omega) (by omega)
    exact h6
  have HEn := Lib.hid hne
  have g1 : en ≤ 192 := by
    have : ((R * co : Nat) : Int) ≤ 192 := by simpa using m2
    omega
  have g2 : R ≤ 24 := by omega
  have g3 : co ≤ 8 := by omega
  have g4 : lv ≤ 3 := by omega
  have g5 : 1 ≤ R := by omega
  have g6 : 1 ≤ co := by omega
  clear hne he ha hlv
  go_enter Try.func7, Try.ntmps7
  go_wp2_with (first | (go_at_call 33; refine (sIs nm kd p pw po sa sn sc (co : Int) la ln lc zs ls _ hnm (HS.out.below (by repeat' (first | (with_reducible exact Below.refl _ _) | (with_reducible assumption) | (with_reducible refine Below.alloc ?_ ?_ _) | (with_reducible refine Below.setCell ?_ ?_ _) | (with_reducible refine Below.drew ?_) | (with_reducible refine below_drewN ?_ _) | (with_reducible refine below_via (by with_reducible assumption) ?_ ?_) | go_size))) hsn (HL.out.below (by repeat' (first | (with_reducible exact Below.refl _ _) | (with_reducible assumption) | (with_reducible refine Below.alloc ?_ ?_ _) | (with_reducible refine Below.setCell ?_ ?_ _) | (with_reducible refine Below.drew ?_) | (with_reducible refine below_drewN ?_ _) | (with_reducible refine below_via (by with_reducible assumption) ?_ ?_) | go_size))) hln).mono ?_; rintro e w' ⟨rfl, hb⟩; rw [h1]; obtain ⟨hc, hf⟩ := bcell hb; have hz := hb.size; (try simp at hz); have hz0 : w.heap.size < w'.heap.size := (by omega); have hz1 : w.heap.size + 1 < w'.heap.size := (by omega)) | (go_at_call 34; refine (sHas sa sn sc zs (R : Int) _ (HS.out.below (by repeat' (first | (with_reducible exact Below.refl _ _) | (with_reducible assumption) | (with_reducible refine Below.alloc ?_ ?_ _) | (with_reducible refine Below.setCell ?_ ?_ _) | (with_reducible refine Below.drew ?_) | (with_reducible refine below_drewN ?_ _) | (with_reducible refine below_via (by with_reducible assumption) ?_ ?_) | go_size))) hsn).mono ?_; rintro e w' ⟨rfl, rfl⟩; rw [h3]) | (go_at_call 35; with_reducible show Calls _ _ #[.int .i64 (lv : Int), .int .i64 0, .int .i64 ((ln : Int) - 1)] _ _; refine (sIn _ _ _ _).mono ?_; rintro e w' ⟨rfl, rfl⟩; rw [h4]))
  have HB : Hid (Below w.heap.size w w') := by unfold Hid; repeat' (first | (with_reducible exact Below.refl _ _) | (with_reducible assumption) | (with_reducible refine Below.alloc ?_ ?_ _) | (with_reducible refine Below.setCell ?_ ?_ _) | (with_reducible refine Below.drew ?_) | (with_reducible refine below_drewN ?_ _) | (with_reducible refine below_via (by with_reducible assumption) ?_ ?_) | go_size)
  have HB0 : Below (w.heap.size + 2) ((w.alloc (.cells #[.string nm, .int .i64 kd, .int .i64 p, .int .i64 pw, .int .i64 po, .slice sa sn sc, .int .i64 (co : Int), .slice la ln lc] 34)).alloc (.cells #[.int .i64 0, .int .i64 0, .slice none 0 0] 29)) w' := by repeat' (first | (with_reducible exact Below.refl _ _) | (with_reducible assumption) | (with_reducible refine Below.alloc ?_ ?_ _) | (with_reducible refine Below.setCell ?_ ?_ _) | (with_reducible refine Below.drew ?_) | (with_reducible refine below_drewN ?_ _) | (with_reducible refine below_via (by with_reducible assumption) ?_ ?_) | go_size)
  have O3 := Lib.hid (out3_of HB0)
  clear HB0
  go_loop [10] (fun i => ∃ k : Nat, k ≤ en ∧ i = .int .i64 k ∧ Hid (∀ j, j < k → inB (els.getD j 0) 0 31 = true)) (fun i => en - (intOf i).toNat)
  case atStart => exact ⟨0, Nat.zero_le _, rfl, fun j hj => absurd hj (by omega)⟩
  case round =>
    obtain ⟨k, hk, rfl, HA⟩ := hrel
    by_cases hlt : k < en
    · obtain ⟨b, off, rfl, hbl, hcx⟩ := (HE.out w' HB.out).2 (by omega)
      have hx := hcx k hlt
      clear hcx
      obtain ⟨x, hxv⟩ : ∃ x, els.getD k 0 = x := ⟨_, rfl⟩
      rw [hxv] at hx
      have HX := Lib.hid hxv
      have k0 : (0 : Int) ≤ (k : Int) := by omega
      have k1 : (k : Int) < (en : Int) := by omega
      clear hxv
      have hg : inB x 0 31 = true := by rw [← HX.out]; exact HAll.out _ (getD_mem (by rw [HEl.out]; exact hlt))
      have HA2 : Hid (∀ j, j < k + 1 → inB (els.getD j 0) 0 31 = true) := fun j hj => by
        rcases Nat.lt_or_ge j k with h4 | h4
        · exact HA.out j h4
        · obtain rfl : j = k := by omega
          rw [HX.out]; exact hg
      go_wp2_with (go_at_call 35; refine (sIn _ _ _ _).mono ?_; rintro e w' ⟨rfl, rfl⟩)
      go_round
      case rel => exact ⟨k + 1, by omega, by go_num, HA2⟩
      case measure => simp [intOf]; omega
    · have hnk : (en : Int) ≤ (k : Int) := by omega
      go_wp2_with fail
      refine (sGrid nm kd p pw po sa sn sc co la ln lc R lv en ec ea els w' (HE.out w' HB.out) hec HEn.out g6 g3 g5 g2 g4 HBd.out).mono ?_
      rintro e w2 ⟨av, cv, rfl, ho, hb2⟩
      obtain ⟨hc2, hf2⟩ := bcell hb2
      have hz2 := hb2.size
      have HO := Lib.hid ho
      have HB2 : Hid (Below w.heap.size w w2) := HB.out.trans (hb2.mono (by omega))
      have q0 := (hc2 (w.heap.size + 1) 0 hz1).trans O3.out.2.1
      have q1 := (hc2 (w.heap.size + 1) 1 hz1).trans O3.out.2.2.1
      have q2 := (hc2 (w.heap.size + 1) 2 hz1).trans O3.out.2.2.2.1
      clear ho hb2
      go_wp2
      refine bodyPost_ret (v := .tuple #[.agg #[.int .i64 (R : Int), .int .i64 ((15 + 11 * (co + 2) : Nat) : Int), .slice av (gridTo els co R lv R).length cv], .int .i64 0]) (by simp [results, Try.results7, go_sem, q0, q1, q2]) rfl ?_
      refine ⟨av, cv, rfl, ?_, ((HB2.out.setCell (by simp) _).setCell (by simp) _).setCell (by simp) _, by rw [HLn.out]; have := HLm.out; omega⟩
      exact ownN_mono (ownN_far (ownN_far (ownN_far HO.out (by simp; omega) _) (by simp; omega) _) (by simp; omega) _) (by omega)
set_option maxRecDepth 20000 in
set_option maxHeartbeats 8000000 in
theorem iSG_fam (nm : ByteArray) (kd p pw po : Int) (sa : Option Addr) (sn sc : Nat) (col : Int) (la : Option Addr) (ln lc : Nat) (zs ls : List Int) (sz lv : Int) (ea : Option Addr) (en ec : Nat) (els : List Int) (w : World) (hnm : nm.size ≤ maxLen) (hs : Rd w sa sn zs) (hsn : sn ≤ 1048576) (hl : Rd w la ln ls) (hln : ln ≤ 1048576) (h1 : stkB nm kd p pw po sn zs col ln ls = false) : Calls Try.prog 10 #[.agg #[.string nm, .int .i64 kd, .int .i64 p, .int .i64 pw, .int .i64 po, .slice sa sn sc, .int .i64 col, .slice la ln lc], .int .i64 sz, .int .i64 lv, .slice ea en ec] w (ResG w 0 0 [] 1) := by
  have HS := Lib.hid hs
  have HL := Lib.hid hl
  clear hs hl
  cases h0 : (kd != 2)
  · have hk : kd = 2 := by simpa using h0
    have h2 : famB nm kd p pw po sn zs col ln ls = false := by
      cases h5 : famB nm kd p pw po sn zs col ln ls with
      | false => rfl
      | true =>
        unfold stkB at h1
        rw [h5, hk] at h1
        exact absurd h1 (by decide)
    clear h1 hk
    have h1 := h2
    clear h2
    go_enter Try.func10, Try.ntmps10
    go_wp2_with (first | (go_at_call 38; refine (iIsFamily nm kd p pw po sa sn sc zs col la ln lc ls _ hnm (HS.out.below (by repeat' (first | (with_reducible exact Below.refl _ _) | (with_reducible assumption) | (with_reducible refine Below.alloc ?_ ?_ _) | (with_reducible refine Below.setCell ?_ ?_ _) | (with_reducible refine Below.drew ?_) | (with_reducible refine below_drewN ?_ _) | (with_reducible refine below_via (by with_reducible assumption) ?_ ?_) | go_size))) hsn (HL.out.below (by repeat' (first | (with_reducible exact Below.refl _ _) | (with_reducible assumption) | (with_reducible refine Below.alloc ?_ ?_ _) | (with_reducible refine Below.setCell ?_ ?_ _) | (with_reducible refine Below.drew ?_) | (with_reducible refine below_drewN ?_ _) | (with_reducible refine below_via (by with_reducible assumption) ?_ ?_) | go_size))) hln).mono ?_; rintro e w' ⟨rfl, hb⟩; rw [h1]; obtain ⟨hc, hf⟩ := bcell hb; have hz := hb.size; (try simp at hz); have hz0 : w.heap.size < w'.heap.size := (by omega); have hz1 : w.heap.size + 1 < w'.heap.size := (by omega)) | (go_at_call 39; refine (iHasSize nm kd p pw po sa sn sc col la ln lc zs sz _ (HS.out.below (by repeat' (first | (with_reducible exact Below.refl _ _) | (with_reducible assumption) | (with_reducible refine Below.alloc ?_ ?_ _) | (with_reducible refine Below.setCell ?_ ?_ _) | (with_reducible refine Below.drew ?_) | (with_reducible refine below_drewN ?_ _) | (with_reducible refine below_via (by with_reducible assumption) ?_ ?_) | go_size))) hsn).mono ?_; rintro e w' ⟨rfl, hb⟩; rw [h3]; obtain ⟨hc, hf⟩ := bcell hb; have hz := hb.size; (try simp at hz); have hz0 : w.heap.size < w'.heap.size := (by omega); have hz1 : w.heap.size + 1 < w'.heap.size := (by omega)) | (go_at_call 40; refine (iHasLevel nm kd p pw po sa sn sc col la ln lc lv _ hln).mono ?_; rintro e w' ⟨rfl, hb⟩; rw [h4]; obtain ⟨hc, hf⟩ := bcell hb; have hz := hb.size; (try simp at hz); have hz0 : w.heap.size < w'.heap.size := (by omega); have hz1 : w.heap.size + 1 < w'.heap.size := (by omega)))
    first
    | (go_returns; exact ⟨none, 0, rfl, World.ownsRow_nil _ _ _ _, by repeat' (first | (with_reducible exact Below.refl _ _) | (with_reducible assumption) | (with_reducible refine Below.alloc ?_ ?_ _) | (with_reducible refine Below.setCell ?_ ?_ _) | (with_reducible refine Below.drew ?_) | (with_reducible refine below_drewN ?_ _) | (with_reducible refine below_via (by with_reducible assumption) ?_ ?_) | go_size), by simp⟩; done)
    | (have HB0 : Below (w.heap.size + 2) ((w.alloc (.cells #[.string nm, .int .i64 kd, .int .i64 p, .int .i64 pw, .int .i64 po, .slice sa sn sc, .int .i64 col, .slice la ln lc] 34)).alloc (.cells #[.int .i64 0, .int .i64 0, .slice none 0 0] 29)) w' := by repeat' (first | (with_reducible exact Below.refl _ _) | (with_reducible assumption) | (with_reducible refine Below.alloc ?_ ?_ _) | (with_reducible refine Below.setCell ?_ ?_ _) | (with_reducible refine Below.drew ?_) | (with_reducible refine below_drewN ?_ _) | (with_reducible refine below_via (by with_reducible assumption) ?_ ?_) | go_size)
       obtain ⟨_, q0, q1, q2, _, _, _⟩ := out3_of HB0
       have HBx : Below w.heap.size w w' := by repeat' (first | (with_reducible exact Below.refl _ _) | (with_reducible assumption) | (with_reducible refine Below.alloc ?_ ?_ _) | (with_reducible refine Below.setCell ?_ ?_ _) | (with_reducible refine Below.drew ?_) | (with_reducible refine below_drewN ?_ _) | (with_reducible refine below_via (by with_reducible assumption) ?_ ?_) | go_size)
       clear HB0 hc hf
       refine bodyPost_ret (v := .tuple #[.agg #[.int .i64 0, .int .i64 0, .slice none 0 0], .int .i64 1]) (by simp [results, Try.results10, go_sem, q0, q1, q2]) rfl ?_
       exact ⟨none, 0, rfl, World.ownsRow_nil _ _ _ _, ((HBx.setCell (by simp) _).setCell (by simp) _).setCell (by simp) _, by simp⟩)
  · go_enter Try.func10, Try.ntmps10
    go_wp2_with (first | (go_at_call 38; refine (iIsFamily nm kd p pw po sa sn sc zs col la ln lc ls _ hnm (HS.out.below (by repeat' (first | (with_reducible exact Below.refl _ _) | (with_reducible assumption) | (with_reducible refine Below.alloc ?_ ?_ _) | (with_reducible refine Below.setCell ?_ ?_ _) | (with_reducible refine Below.drew ?_) | (with_reducible refine below_drewN ?_ _) | (with_reducible refine below_via (by with_reducible assumption) ?_ ?_) | go_size))) hsn (HL.out.below (by repeat' (first | (with_reducible exact Below.refl _ _) | (with_reducible assumption) | (with_reducible refine Below.alloc ?_ ?_ _) | (with_reducible refine Below.setCell ?_ ?_ _) | (with_reducible refine Below.drew ?_) | (with_reducible refine below_drewN ?_ _) | (with_reducible refine below_via (by with_reducible assumption) ?_ ?_) | go_size))) hln).mono ?_; rintro e w' ⟨rfl, hb⟩; rw [h1]; obtain ⟨hc, hf⟩ := bcell hb; have hz := hb.size; (try simp at hz); have hz0 : w.heap.size < w'.heap.size := (by omega); have hz1 : w.heap.size + 1 < w'.heap.size := (by omega)) | (go_at_call 39; refine (iHasSize nm kd p pw po sa sn sc col la ln lc zs sz _ (HS.out.below (by repeat' (first | (with_reducible exact Below.refl _ _) | (with_reducible assumption) | (with_reducible refine Below.alloc ?_ ?_ _) | (with_reducible refine Below.setCell ?_ ?_ _) | (with_reducible refine Below.drew ?_) | (with_reducible refine below_drewN ?_ _) | (with_reducible refine below_via (by with_reducible assumption) ?_ ?_) | go_size))) hsn).mono ?_; rintro e w' ⟨rfl, hb⟩; rw [h3]; obtain ⟨hc, hf⟩ := bcell hb; have hz := hb.size; (try simp at hz); have hz0 : w.heap.size < w'.heap.size := (by omega); have hz1 : w.heap.size + 1 < w'.heap.size := (by omega)) | (go_at_call 40; refine (iHasLevel nm kd p pw po sa sn sc col la ln lc lv _ hln).mono ?_; rintro e w' ⟨rfl, hb⟩; rw [h4]; obtain ⟨hc, hf⟩ := bcell hb; have hz := hb.size; (try simp at hz); have hz0 : w.heap.size < w'.heap.size := (by omega); have hz1 : w.heap.size + 1 < w'.heap.size := (by omega)))
    first
    | (go_returns; exact ⟨none, 0, rfl, World.ownsRow_nil _ _ _ _, by repeat' (first | (with_reducible exact Below.refl _ _) | (with_reducible assumption) | (with_reducible refine Below.alloc ?_ ?_ _) | (with_reducible refine Below.setCell ?_ ?_ _) | (with_reducible refine Below.drew ?_) | (with_reducible refine below_drewN ?_ _) | (with_reducible refine below_via (by with_reducible assumption) ?_ ?_) | go_size), by simp⟩; done)
    | (have HB0 : Below (w.heap.size + 2) ((w.alloc (.cells #[.string nm, .int .i64 kd, .int .i64 p, .int .i64 pw, .int .i64 po, .slice sa sn sc, .int .i64 col, .slice la ln lc] 34)).alloc (.cells #[.int .i64 0, .int .i64 0, .slice none 0 0] 29)) w' := by repeat' (first | (with_reducible exact Below.refl _ _) | (with_reducible assumption) | (with_reducible refine Below.alloc ?_ ?_ _) | (with_reducible refine Below.setCell ?_ ?_ _) | (with_reducible refine Below.drew ?_) | (with_reducible refine below_drewN ?_ _) | (with_reducible refine below_via (by with_reducible assumption) ?_ ?_) | go_size)
       obtain ⟨_, q0, q1, q2, _, _, _⟩ := out3_of HB0
       have HBx : Below w.heap.size w w' := by repeat' (first | (with_reducible exact Below.refl _ _) | (with_reducible assumption) | (with_reducible refine Below.alloc ?_ ?_ _) | (with_reducible refine Below.setCell ?_ ?_ _) | (with_reducible refine Below.drew ?_) | (with_reducible refine below_drewN ?_ _) | (with_reducible refine below_via (by with_reducible assumption) ?_ ?_) | go_size)
       clear HB0 hc hf
       refine bodyPost_ret (v := .tuple #[.agg #[.int .i64 0, .int .i64 0, .slice none 0 0], .int .i64 1]) (by simp [results, Try.results10, go_sem, q0, q1, q2]) rfl ?_
       exact ⟨none, 0, rfl, World.ownsRow_nil _ _ _ _, ((HBx.setCell (by simp) _).setCell (by simp) _).setCell (by simp) _, by simp⟩)
set_option maxRecDepth 20000 in
set_option maxHeartbeats 8000000 in
theorem iSG_rng (nm : ByteArray) (kd p pw po : Int) (sa : Option Addr) (sn sc : Nat) (col : Int) (la : Option Addr) (ln lc : Nat) (zs ls : List Int) (sz lv : Int) (ea : Option Addr) (en ec : Nat) (els : List Int) (w : World) (hnm : nm.size ≤ maxLen) (hs : Rd w sa sn zs) (hsn : sn ≤ 1048576) (hl : Rd w la ln ls) (hln : ln ≤ 1048576) (hk : stkB nm kd p pw po sn zs col ln ls = true) (hr : (hasB zs sz sn && inB lv 0 ((ln : Int) - 1)) = false) : Calls Try.prog 10 #[.agg #[.string nm, .int .i64 kd, .int .i64 p, .int .i64 pw, .int .i64 po, .slice sa sn sc, .int .i64 col, .slice la ln lc], .int .i64 sz, .int .i64 lv, .slice ea en ec] w (ResG w 0 0 [] 2) := by
  have HS := Lib.hid hs
  have HL := Lib.hid hl
  clear hs hl
  obtain ⟨h1, h0⟩ := fam_of_stk hk
  clear hk
  cases h3 : hasB zs sz sn
  · go_enter Try.func10, Try.ntmps10
    go_wp2_with (first | (go_at_call 38; refine (iIsFamily nm kd p pw po sa sn sc zs col la ln lc ls _ hnm (HS.out.below (by repeat' (first | (with_reducible exact Below.refl _ _) | (with_reducible assumption) | (with_reducible refine Below.alloc ?_ ?_ _) | (with_reducible refine Below.setCell ?_ ?_ _) | (with_reducible refine Below.drew ?_) | (with_reducible refine below_drewN ?_ _) | (with_reducible refine below_via (by with_reducible assumption) ?_ ?_) | go_size))) hsn (HL.out.below (by repeat' (first | (with_reducible exact Below.refl _ _) | (with_reducible assumption) | (with_reducible refine Below.alloc ?_ ?_ _) | (with_reducible refine Below.setCell ?_ ?_ _) | (with_reducible refine Below.drew ?_) | (with_reducible refine below_drewN ?_ _) | (with_reducible refine below_via (by with_reducible assumption) ?_ ?_) | go_size))) hln).mono ?_; rintro e w' ⟨rfl, hb⟩; rw [h1]; obtain ⟨hc, hf⟩ := bcell hb; have hz := hb.size; (try simp at hz); have hz0 : w.heap.size < w'.heap.size := (by omega); have hz1 : w.heap.size + 1 < w'.heap.size := (by omega)) | (go_at_call 39; refine (iHasSize nm kd p pw po sa sn sc col la ln lc zs sz _ (HS.out.below (by repeat' (first | (with_reducible exact Below.refl _ _) | (with_reducible assumption) | (with_reducible refine Below.alloc ?_ ?_ _) | (with_reducible refine Below.setCell ?_ ?_ _) | (with_reducible refine Below.drew ?_) | (with_reducible refine below_drewN ?_ _) | (with_reducible refine below_via (by with_reducible assumption) ?_ ?_) | go_size))) hsn).mono ?_; rintro e w' ⟨rfl, hb⟩; rw [h3]; obtain ⟨hc, hf⟩ := bcell hb; have hz := hb.size; (try simp at hz); have hz0 : w.heap.size < w'.heap.size := (by omega); have hz1 : w.heap.size + 1 < w'.heap.size := (by omega)) | (go_at_call 40; refine (iHasLevel nm kd p pw po sa sn sc col la ln lc lv _ hln).mono ?_; rintro e w' ⟨rfl, hb⟩; rw [h4]; obtain ⟨hc, hf⟩ := bcell hb; have hz := hb.size; (try simp at hz); have hz0 : w.heap.size < w'.heap.size := (by omega); have hz1 : w.heap.size + 1 < w'.heap.size := (by omega)))
    first
    | (go_returns; exact ⟨none, 0, rfl, World.ownsRow_nil _ _ _ _, by repeat' (first | (with_reducible exact Below.refl _ _) | (with_reducible assumption) | (with_reducible refine Below.alloc ?_ ?_ _) | (with_reducible refine Below.setCell ?_ ?_ _) | (with_reducible refine Below.drew ?_) | (with_reducible refine below_drewN ?_ _) | (with_reducible refine below_via (by with_reducible assumption) ?_ ?_) | go_size), by simp⟩; done)
    | (have HB0 : Below (w.heap.size + 2) ((w.alloc (.cells #[.string nm, .int .i64 kd, .int .i64 p, .int .i64 pw, .int .i64 po, .slice sa sn sc, .int .i64 col, .slice la ln lc] 34)).alloc (.cells #[.int .i64 0, .int .i64 0, .slice none 0 0] 29)) w' := by repeat' (first | (with_reducible exact Below.refl _ _) | (with_reducible assumption) | (with_reducible refine Below.alloc ?_ ?_ _) | (with_reducible refine Below.setCell ?_ ?_ _) | (with_reducible refine Below.drew ?_) | (with_reducible refine below_drewN ?_ _) | (with_reducible refine below_via (by with_reducible assumption) ?_ ?_) | go_size)
       obtain ⟨_, q0, q1, q2, _, _, _⟩ := out3_of HB0
       have HBx : Below w.heap.size w w' := by repeat' (first | (with_reducible exact Below.refl _ _) | (with_reducible assumption) | (with_reducible refine Below.alloc ?_ ?_ _) | (with_reducible refine Below.setCell ?_ ?_ _) | (with_reducible refine Below.drew ?_) | (with_reducible refine below_drewN ?_ _) | (with_reducible refine below_via (by with_reducible assumption) ?_ ?_) | go_size)
       clear HB0 hc hf
       refine bodyPost_ret (v := .tuple #[.agg #[.int .i64 0, .int .i64 0, .slice none 0 0], .int .i64 2]) (by simp [results, Try.results10, go_sem, q0, q1, q2]) rfl ?_
       exact ⟨none, 0, rfl, World.ownsRow_nil _ _ _ _, ((HBx.setCell (by simp) _).setCell (by simp) _).setCell (by simp) _, by simp⟩)
  · have h4 : inB lv 0 ((ln : Int) - 1) = false := by rw [h3, Bool.true_and] at hr; exact hr
    clear hr
    go_enter Try.func10, Try.ntmps10
    go_wp2_with (first | (go_at_call 38; refine (iIsFamily nm kd p pw po sa sn sc zs col la ln lc ls _ hnm (HS.out.below (by repeat' (first | (with_reducible exact Below.refl _ _) | (with_reducible assumption) | (with_reducible refine Below.alloc ?_ ?_ _) | (with_reducible refine Below.setCell ?_ ?_ _) | (with_reducible refine Below.drew ?_) | (with_reducible refine below_drewN ?_ _) | (with_reducible refine below_via (by with_reducible assumption) ?_ ?_) | go_size))) hsn (HL.out.below (by repeat' (first | (with_reducible exact Below.refl _ _) | (with_reducible assumption) | (with_reducible refine Below.alloc ?_ ?_ _) | (with_reducible refine Below.setCell ?_ ?_ _) | (with_reducible refine Below.drew ?_) | (with_reducible refine below_drewN ?_ _) | (with_reducible refine below_via (by with_reducible assumption) ?_ ?_) | go_size))) hln).mono ?_; rintro e w' ⟨rfl, hb⟩; rw [h1]; obtain ⟨hc, hf⟩ := bcell hb; have hz := hb.size; (try simp at hz); have hz0 : w.heap.size < w'.heap.size := (by omega); have hz1 : w.heap.size + 1 < w'.heap.size := (by omega)) | (go_at_call 39; refine (iHasSize nm kd p pw po sa sn sc col la ln lc zs sz _ (HS.out.below (by repeat' (first | (with_reducible exact Below.refl _ _) | (with_reducible assumption) | (with_reducible refine Below.alloc ?_ ?_ _) | (with_reducible refine Below.setCell ?_ ?_ _) | (with_reducible refine Below.drew ?_) | (with_reducible refine below_drewN ?_ _) | (with_reducible refine below_via (by with_reducible assumption) ?_ ?_) | go_size))) hsn).mono ?_; rintro e w' ⟨rfl, hb⟩; rw [h3]; obtain ⟨hc, hf⟩ := bcell hb; have hz := hb.size; (try simp at hz); have hz0 : w.heap.size < w'.heap.size := (by omega); have hz1 : w.heap.size + 1 < w'.heap.size := (by omega)) | (go_at_call 40; refine (iHasLevel nm kd p pw po sa sn sc col la ln lc lv _ hln).mono ?_; rintro e w' ⟨rfl, hb⟩; rw [h4]; obtain ⟨hc, hf⟩ := bcell hb; have hz := hb.size; (try simp at hz); have hz0 : w.heap.size < w'.heap.size := (by omega); have hz1 : w.heap.size + 1 < w'.heap.size := (by omega)))
    first
    | (go_returns; exact ⟨none, 0, rfl, World.ownsRow_nil _ _ _ _, by repeat' (first | (with_reducible exact Below.refl _ _) | (with_reducible assumption) | (with_reducible refine Below.alloc ?_ ?_ _) | (with_reducible refine Below.setCell ?_ ?_ _) | (with_reducible refine Below.drew ?_) | (with_reducible refine below_drewN ?_ _) | (with_reducible refine below_via (by with_reducible assumption) ?_ ?_) | go_size), by simp⟩; done)
    | (have HB0 : Below (w.heap.size + 2) ((w.alloc (.cells #[.string nm, .int .i64 kd, .int .i64 p, .int .i64 pw, .int .i64 po, .slice sa sn sc, .int .i64 col, .slice la ln lc] 34)).alloc (.cells #[.int .i64 0, .int .i64 0, .slice none 0 0] 29)) w' := by repeat' (first | (with_reducible exact Below.refl _ _) | (with_reducible assumption) | (with_reducible refine Below.alloc ?_ ?_ _) | (with_reducible refine Below.setCell ?_ ?_ _) | (with_reducible refine Below.drew ?_) | (with_reducible refine below_drewN ?_ _) | (with_reducible refine below_via (by with_reducible assumption) ?_ ?_) | go_size)
       obtain ⟨_, q0, q1, q2, _, _, _⟩ := out3_of HB0
       have HBx : Below w.heap.size w w' := by repeat' (first | (with_reducible exact Below.refl _ _) | (with_reducible assumption) | (with_reducible refine Below.alloc ?_ ?_ _) | (with_reducible refine Below.setCell ?_ ?_ _) | (with_reducible refine Below.drew ?_) | (with_reducible refine below_drewN ?_ _) | (with_reducible refine below_via (by with_reducible assumption) ?_ ?_) | go_size)
       clear HB0 hc hf
       refine bodyPost_ret (v := .tuple #[.agg #[.int .i64 0, .int .i64 0, .slice none 0 0], .int .i64 2]) (by simp [results, Try.results10, go_sem, q0, q1, q2]) rfl ?_
       exact ⟨none, 0, rfl, World.ownsRow_nil _ _ _ _, ((HBx.setCell (by simp) _).setCell (by simp) _).setCell (by simp) _, by simp⟩)
set_option maxRecDepth 20000 in
set_option maxHeartbeats 8000000 in
theorem iSG_lim (nm : ByteArray) (kd p pw po : Int) (sa : Option Addr) (sn sc : Nat) (col : Int) (la : Option Addr) (ln lc : Nat) (zs ls : List Int) (sz lv : Int) (ea : Option Addr) (en ec : Nat) (els : List Int) (w : World) (hnm : nm.size ≤ maxLen) (hs : Rd w sa sn zs) (hsn : sn ≤ 1048576) (hl : Rd w la ln ls) (hln : ln ≤ 1048576) (hk : stkB nm kd p pw po sn zs col ln ls = true) (h3 : hasB zs sz sn = true) (h4 : inB lv 0 ((ln : Int) - 1) = true) (hen : en ≤ 1048576) (hne : (en : Int) ≠ sz * col) : Calls Try.prog 10 #[.agg #[.string nm, .int .i64 kd, .int .i64 p, .int .i64 pw, .int .i64 po, .slice sa sn sc, .int .i64 col, .slice la ln lc], .int .i64 sz, .int .i64 lv, .slice ea en ec] w (ResG w 0 0 [] 3) := by
  have HS := Lib.hid hs
  have HL := Lib.hid hl
  clear hs hl
  obtain ⟨m1, m2⟩ := prod_bd (stk_size hk h3).1 (stk_size hk h3).2 (stk_col hk).2.1 (stk_col hk).2.2
  obtain ⟨z1, z2⟩ := stk_size hk h3
  obtain ⟨-, c1, c8⟩ := stk_col hk
  obtain ⟨h1, h0⟩ := fam_of_stk hk
  clear hk
  have h5 : ((en : Int) != sz * col) = true := by simp [hne]
  clear hne
  go_enter Try.func10, Try.ntmps10
  go_wp2_with (first | (go_at_call 38; refine (iIsFamily nm kd p pw po sa sn sc zs col la ln lc ls _ hnm (HS.out.below (by repeat' (first | (with_reducible exact Below.refl _ _) | (with_reducible assumption) | (with_reducible refine Below.alloc ?_ ?_ _) | (with_reducible refine Below.setCell ?_ ?_ _) | (with_reducible refine Below.drew ?_) | (with_reducible refine below_drewN ?_ _) | (with_reducible refine below_via (by with_reducible assumption) ?_ ?_) | go_size))) hsn (HL.out.below (by repeat' (first | (with_reducible exact Below.refl _ _) | (with_reducible assumption) | (with_reducible refine Below.alloc ?_ ?_ _) | (with_reducible refine Below.setCell ?_ ?_ _) | (with_reducible refine Below.drew ?_) | (with_reducible refine below_drewN ?_ _) | (with_reducible refine below_via (by with_reducible assumption) ?_ ?_) | go_size))) hln).mono ?_; rintro e w' ⟨rfl, hb⟩; rw [h1]; obtain ⟨hc, hf⟩ := bcell hb; have hz := hb.size; (try simp at hz); have hz0 : w.heap.size < w'.heap.size := (by omega); have hz1 : w.heap.size + 1 < w'.heap.size := (by omega)) | (go_at_call 39; refine (iHasSize nm kd p pw po sa sn sc col la ln lc zs sz _ (HS.out.below (by repeat' (first | (with_reducible exact Below.refl _ _) | (with_reducible assumption) | (with_reducible refine Below.alloc ?_ ?_ _) | (with_reducible refine Below.setCell ?_ ?_ _) | (with_reducible refine Below.drew ?_) | (with_reducible refine below_drewN ?_ _) | (with_reducible refine below_via (by with_reducible assumption) ?_ ?_) | go_size))) hsn).mono ?_; rintro e w' ⟨rfl, hb⟩; rw [h3]; obtain ⟨hc, hf⟩ := bcell hb; have hz := hb.size; (try simp at hz); have hz0 : w.heap.size < w'.heap.size := (by omega); have hz1 : w.heap.size + 1 < w'.heap.size := (by omega)) | (go_at_call 40; refine (iHasLevel nm kd p pw po sa sn sc col la ln lc lv _ hln).mono ?_; rintro e w' ⟨rfl, hb⟩; rw [h4]; obtain ⟨hc, hf⟩ := bcell hb; have hz := hb.size; (try simp at hz); have hz0 : w.heap.size < w'.heap.size := (by omega); have hz1 : w.heap.size + 1 < w'.heap.size := (by omega)))
  first
  | (go_returns; exact ⟨none, 0, rfl, World.ownsRow_nil _ _ _ _, by repeat' (first | (with_reducible exact Below.refl _ _) | (with_reducible assumption) | (with_reducible refine Below.alloc ?_ ?_ _) | (with_reducible refine Below.setCell ?_ ?_ _) | (with_reducible refine Below.drew ?_) | (with_reducible refine below_drewN ?_ _) | (with_reducible refine below_via (by with_reducible assumption) ?_ ?_) | go_size), by simp⟩; done)
  | (have HB0 : Below (w.heap.size + 2) ((w.alloc (.cells #[.string nm, .int .i64 kd, .int .i64 p, .int .i64 pw, .int .i64 po, .slice sa sn sc, .int .i64 col, .slice la ln lc] 34)).alloc (.cells #[.int .i64 0, .int .i64 0, .slice none 0 0] 29)) w' := by repeat' (first | (with_reducible exact Below.refl _ _) | (with_reducible assumption) | (with_reducible refine Below.alloc ?_ ?_ _) | (with_reducible refine Below.setCell ?_ ?_ _) | (with_reducible refine Below.drew ?_) | (with_reducible refine below_drewN ?_ _) | (with_reducible refine below_via (by with_reducible assumption) ?_ ?_) | go_size)
     obtain ⟨_, q0, q1, q2, _, _, _⟩ := out3_of HB0
     have HBx : Below w.heap.size w w' := by repeat' (first | (with_reducible exact Below.refl _ _) | (with_reducible assumption) | (with_reducible refine Below.alloc ?_ ?_ _) | (with_reducible refine Below.setCell ?_ ?_ _) | (with_reducible refine Below.drew ?_) | (with_reducible refine below_drewN ?_ _) | (with_reducible refine below_via (by with_reducible assumption) ?_ ?_) | go_size)
     clear HB0 hc hf
     refine bodyPost_ret (v := .tuple #[.agg #[.int .i64 0, .int .i64 0, .slice none 0 0], .int .i64 3]) (by simp [results, Try.results10, go_sem, q0, q1, q2]) rfl ?_
     exact ⟨none, 0, rfl, World.ownsRow_nil _ _ _ _, ((HBx.setCell (by simp) _).setCell (by simp) _).setCell (by simp) _, by simp⟩)
set_option maxRecDepth 20000 in
set_option maxHeartbeats 8000000 in
theorem iSG_sta (nm : ByteArray) (kd p pw po : Int) (sa : Option Addr) (sn sc : Nat) (col : Int) (la : Option Addr) (ln lc : Nat) (zs ls : List Int) (sz lv : Int) (ea : Option Addr) (en ec : Nat) (els : List Int) (w : World) (hnm : nm.size ≤ maxLen) (hs : Rd w sa sn zs) (hsn : sn ≤ 1048576) (hl : Rd w la ln ls) (hln : ln ≤ 1048576) (hk : stkB nm kd p pw po sn zs col ln ls = true) (h3 : hasB zs sz sn = true) (h4 : inB lv 0 ((ln : Int) - 1) = true) (hen : en ≤ 1048576) (hne : (en : Int) = sz * col) (he : Rd w ea en els) (ha : els.all (fun x => inB x 0 31) = false) : Calls Try.prog 10 #[.agg #[.string nm, .int .i64 kd, .int .i64 p, .int .i64 pw, .int .i64 po, .slice sa sn sc, .int .i64 col, .slice la ln lc], .int .i64 sz, .int .i64 lv, .slice ea en ec] w (ResG w 0 0 [] 5) := by
  have HS := Lib.hid hs
  have HL := Lib.hid hl
  clear hs hl
  obtain ⟨m1, m2⟩ := prod_bd (stk_size hk h3).1 (stk_size hk h3).2 (stk_col hk).2.1 (stk_col hk).2.2
  obtain ⟨z1, z2⟩ := stk_size hk h3
  obtain ⟨-, c1, c8⟩ := stk_col hk
  obtain ⟨h1, h0⟩ := fam_of_stk hk
  clear hk
  have h5 : ((en : Int) != sz * col) = false := by simp [hne]
  have HE : Hid (∀ W, Below w.heap.size w W → Rd W ea en els) := fun W hW => he.below hW
  have HEl := Lib.hid he.1
  have HAll := Lib.hid ha
  clear hne he ha
  go_enter Try.func10, Try.ntmps10
  go_wp2_with (first | (go_at_call 38; refine (iIsFamily nm kd p pw po sa sn sc zs col la ln lc ls _ hnm (HS.out.below (by repeat' (first | (with_reducible exact Below.refl _ _) | (with_reducible assumption) | (with_reducible refine Below.alloc ?_ ?_ _) | (with_reducible refine Below.setCell ?_ ?_ _) | (with_reducible refine Below.drew ?_) | (with_reducible refine below_drewN ?_ _) | (with_reducible refine below_via (by with_reducible assumption) ?_ ?_) | go_size))) hsn (HL.out.below (by repeat' (first | (with_reducible exact Below.refl _ _) | (with_reducible assumption) | (with_reducible refine Below.alloc ?_ ?_ _) | (with_reducible refine Below.setCell ?_ ?_ _) | (with_reducible refine Below.drew ?_) | (with_reducible refine below_drewN ?_ _) | (with_reducible refine below_via (by with_reducible assumption) ?_ ?_) | go_size))) hln).mono ?_; rintro e w' ⟨rfl, hb⟩; rw [h1]; obtain ⟨hc, hf⟩ := bcell hb; have hz := hb.size; (try simp at hz); have hz0 : w.heap.size < w'.heap.size := (by omega); have hz1 : w.heap.size + 1 < w'.heap.size := (by omega)) | (go_at_call 39; refine (iHasSize nm kd p pw po sa sn sc col la ln lc zs sz _ (HS.out.below (by repeat' (first | (with_reducible exact Below.refl _ _) | (with_reducible assumption) | (with_reducible refine Below.alloc ?_ ?_ _) | (with_reducible refine Below.setCell ?_ ?_ _) | (with_reducible refine Below.drew ?_) | (with_reducible refine below_drewN ?_ _) | (with_reducible refine below_via (by with_reducible assumption) ?_ ?_) | go_size))) hsn).mono ?_; rintro e w' ⟨rfl, hb⟩; rw [h3]; obtain ⟨hc, hf⟩ := bcell hb; have hz := hb.size; (try simp at hz); have hz0 : w.heap.size < w'.heap.size := (by omega); have hz1 : w.heap.size + 1 < w'.heap.size := (by omega)) | (go_at_call 40; refine (iHasLevel nm kd p pw po sa sn sc col la ln lc lv _ hln).mono ?_; rintro e w' ⟨rfl, hb⟩; rw [h4]; obtain ⟨hc, hf⟩ := bcell hb; have hz := hb.size; (try simp at hz); have hz0 : w.heap.size < w'.heap.size := (by omega); have hz1 : w.heap.size + 1 < w'.heap.size := (by omega)))
  have HB : Hid (Below w.heap.size w w') := by unfold Hid; repeat' (first | (with_reducible exact Below.refl _ _) | (with_reducible assumption) | (with_reducible refine Below.alloc ?_ ?_ _) | (with_reducible refine Below.setCell ?_ ?_ _) | (with_reducible refine Below.drew ?_) | (with_reducible refine below_drewN ?_ _) | (with_reducible refine below_via (by with_reducible assumption) ?_ ?_) | go_size)
  go_loop [42] (fun i => ∃ k : Nat, k ≤ en ∧ i = .int .i64 k ∧ Hid (∀ j, j < k → inB (els.getD j 0) 0 31 = true)) (fun i => en - (intOf i).toNat)
  case atStart => exact ⟨0, Nat.zero_le _, rfl, fun j hj => absurd hj (by omega)⟩
  case round =>
    obtain ⟨k, hk, rfl, HA⟩ := hrel
    by_cases hlt : k < en
    · obtain ⟨b, off, rfl, hbl, hcx⟩ := (HE.out w' HB.out).2 (by omega)
      have hx := hcx k hlt
      clear hcx
      obtain ⟨x, hxv⟩ : ∃ x, els.getD k 0 = x := ⟨_, rfl⟩
      rw [hxv] at hx
      have HX := Lib.hid hxv
      have k0 : (0 : Int) ≤ (k : Int) := by omega
      have k1 : (k : Int) < (en : Int) := by omega
      clear hxv
      cases hg : inB x 0 31
      · go_wp2_with (go_at_call 41; refine (iIn _ _ _ _).mono ?_; rintro e w' ⟨rfl, rfl⟩)
        first
        | (go_returns; exact ⟨none, 0, rfl, World.ownsRow_nil _ _ _ _, by repeat' (first | (with_reducible exact Below.refl _ _) | (with_reducible assumption) | (with_reducible refine Below.alloc ?_ ?_ _) | (with_reducible refine Below.setCell ?_ ?_ _) | (with_reducible refine Below.drew ?_) | (with_reducible refine below_drewN ?_ _) | (with_reducible refine below_via (by with_reducible assumption) ?_ ?_) | go_size), by simp⟩; done)
        | (have HB0 : Below (w.heap.size + 2) ((w.alloc (.cells #[.string nm, .int .i64 kd, .int .i64 p, .int .i64 pw, .int .i64 po, .slice sa sn sc, .int .i64 col, .slice la ln lc] 34)).alloc (.cells #[.int .i64 0, .int .i64 0, .slice none 0 0] 29)) w' := by repeat' (first | (with_reducible exact Below.refl _ _) | (with_reducible assumption) | (with_reducible refine Below.alloc ?_ ?_ _) | (with_reducible refine Below.setCell ?_ ?_ _) | (with_reducible refine Below.drew ?_) | (with_reducible refine below_drewN ?_ _) | (with_reducible refine below_via (by with_reducible assumption) ?_ ?_) | go_size)
           obtain ⟨_, q0, q1, q2, _, _, _⟩ := out3_of HB0
           have HBx : Below w.heap.size w w' := by repeat' (first | (with_reducible exact Below.refl _ _) | (with_reducible assumption) | (with_reducible refine Below.alloc ?_ ?_ _) | (with_reducible refine Below.setCell ?_ ?_ _) | (with_reducible refine Below.drew ?_) | (with_reducible refine below_drewN ?_ _) | (with_reducible refine below_via (by with_reducible assumption) ?_ ?_) | go_size)
           clear HB0 hc hf
           refine bodyPost_ret (v := .tuple #[.agg #[.int .i64 0, .int .i64 0, .slice none 0 0], .int .i64 5]) (by simp [results, Try.results10, go_sem, q0, q1, q2]) rfl ?_
           exact ⟨none, 0, rfl, World.ownsRow_nil _ _ _ _, ((HBx.setCell (by simp) _).setCell (by simp) _).setCell (by simp) _, by simp⟩)
      · have HA2 : Hid (∀ j, j < k + 1 → inB (els.getD j 0) 0 31 = true) := fun j hj => by
          rcases Nat.lt_or_ge j k with h4 | h4
          · exact HA.out j h4
          · obtain rfl : j = k := by omega
            rw [HX.out]; exact hg
        go_wp2_with (go_at_call 41; refine (iIn _ _ _ _).mono ?_; rintro e w' ⟨rfl, rfl⟩)
        go_round
        case rel => exact ⟨k + 1, by omega, by go_num, HA2⟩
        case measure => simp [intOf]; omega
    · exact absurd (all_yes (zs := els) (fun i hi => HA.out i (by have := HEl.out; omega))) (by rw [HAll.out]; decide)
set_option maxRecDepth 20000 in
set_option maxHeartbeats 8000000 in
theorem iSG_ok (nm : ByteArray) (kd p pw po : Int) (sa : Option Addr) (sn sc : Nat) (co : Nat) (la : Option Addr) (ln lc : Nat) (zs ls : List Int) (R lv : Nat) (ea : Option Addr) (en ec : Nat) (els : List Int) (w : World) (hnm : nm.size ≤ maxLen) (hs : Rd w sa sn zs) (hsn : sn ≤ 1048576) (hl : Rd w la ln ls) (hln : ln ≤ 1048576) (hk : stkB nm kd p pw po sn zs (co : Int) ln ls = true) (h3 : hasB zs (R : Int) sn = true) (h4 : inB (lv : Int) 0 ((ln : Int) - 1) = true) (hne : en = R * co) (hec : en ≤ ec) (he : Rd w ea en els) (ha : els.all (fun x => inB x 0 31) = true) : Calls Try.prog 10 #[.agg #[.string nm, .int .i64 kd, .int .i64 p, .int .i64 pw, .int .i64 po, .slice sa sn sc, .int .i64 (co : Int), .slice la ln lc], .int .i64 (R : Int), .int .i64 (lv : Int), .slice ea en ec] w (ResG w (R : Int) ((15 + 11 * (co + 2) : Nat) : Int) (gridTo els co R lv R) 0) := by
  have HS := Lib.hid hs
  have HL := Lib.hid hl
  clear hs hl
  obtain ⟨m1, m2⟩ := prod_bd (stk_size hk h3).1 (stk_size hk h3).2 (stk_col hk).2.1 (stk_col hk).2.2
  obtain ⟨z1, z2⟩ := stk_size hk h3
  obtain ⟨-, c1, c8⟩ := stk_col hk
  obtain ⟨l1, l4⟩ := stk_lv hk
  have hlv := inB_iff.1 h4
  obtain ⟨h1, h0⟩ := fam_of_stk hk
  clear hk
  have h5 : ((en : Int) != (R : Int) * (co : Int)) = false := by rw [hne]; simp
  have HE : Hid (∀ W, Below w.heap.size w W → Rd W ea en els) := fun W hW => he.below hW
  have HEl := Lib.hid he.1
  have HAll : Hid (∀ x ∈ els, inB x 0 31 = true) := fun x h2 => by rw [List.all_eq_true] at ha; exact ha x h2
  have HBd : Hid (∀ x ∈ els, 0 ≤ x ∧ x ≤ 31) := fun x h2 => inB_iff.1 (HAll.out x h2)
  have HLn : Hid ((gridTo els co R lv R).length = R * (15 + 11 * (co + 2))) := gridTo_len HBd.out (by omega) (by omega) (by omega) (by rw [he.1, hne]) R (Nat.le_refl _)
  have HLm : Hid (R * (15 + 11 * (co + 2)) ≤ 3000) := by
    have h6 : R * (15 + 11 * (co + 2)) ≤ 24 * 125 := Nat.mul_le_mul (by omega) (by omega)
    exact h6
  have HEn := Lib.hid hne
  have g1 : en ≤ 192 := by
    have : ((R * co : Nat) : Int) ≤ 192 := by simpa using m2
    omega
  have g2 : R ≤ 24 := by omega
  have g3 : co ≤ 8 := by omega
  have g4 : lv ≤ 3 := by omega
  have g5 : 1 ≤ R := by omega
  have g6 : 1 ≤ co := by omega
  clear hne he ha hlv
  go_enter Try.func10, Try.ntmps10
  go_wp2_with (first | (go_at_call 38; refine (iIsFamily nm kd p pw po sa sn sc zs (co : Int) la ln lc ls _ hnm (HS.out.below (by repeat' (first | (with_reducible exact Below.refl _ _) | (with_reducible assumption) | (with_reducible refine Below.alloc ?_ ?_ _) | (with_reducible refine Below.setCell ?_ ?_ _) | (with_reducible refine Below.drew ?_) | (with_reducible refine below_drewN ?_ _) | (with_reducible refine below_via (by with_reducible assumption) ?_ ?_) | go_size))) hsn (HL.out.below (by repeat' (first | (with_reducible exact Below.refl _ _) | (with_reducible assumption) | (with_reducible refine Below.alloc ?_ ?_ _) | (with_reducible refine Below.setCell ?_ ?_ _) | (with_reducible refine Below.drew ?_) | (with_reducible refine below_drewN ?_ _) | (with_reducible refine below_via (by with_reducible assumption) ?_ ?_) | go_size))) hln).mono ?_; rintro e w' ⟨rfl, hb⟩; rw [h1]; obtain ⟨hc, hf⟩ := bcell hb; have hz := hb.size; (try simp at hz); have hz0 : w.heap.size < w'.heap.size := (by omega); have hz1 : w.heap.size + 1 < w'.heap.size := (by omega)) | (go_at_call 39; refine (iHasSize nm kd p pw po sa sn sc (co : Int) la ln lc zs (R : Int) _ (HS.out.below (by repeat' (first | (with_reducible exact Below.refl _ _) | (with_reducible assumption) | (with_reducible refine Below.alloc ?_ ?_ _) | (with_reducible refine Below.setCell ?_ ?_ _) | (with_reducible refine Below.drew ?_) | (with_reducible refine below_drewN ?_ _) | (with_reducible refine below_via (by with_reducible assumption) ?_ ?_) | go_size))) hsn).mono ?_; rintro e w' ⟨rfl, hb⟩; rw [h3]; obtain ⟨hc, hf⟩ := bcell hb; have hz := hb.size; (try simp at hz); have hz0 : w.heap.size < w'.heap.size := (by omega); have hz1 : w.heap.size + 1 < w'.heap.size := (by omega)) | (go_at_call 40; refine (iHasLevel nm kd p pw po sa sn sc (co : Int) la ln lc (lv : Int) _ hln).mono ?_; rintro e w' ⟨rfl, hb⟩; rw [h4]; obtain ⟨hc, hf⟩ := bcell hb; have hz := hb.size; (try simp at hz); have hz0 : w.heap.size < w'.heap.size := (by omega); have hz1 : w.heap.size + 1 < w'.heap.size := (by omega)))
  have HB : Hid (Below w.heap.size w w') := by unfold Hid; repeat' (first | (with_reducible exact Below.refl _ _) | (with_reducible assumption) | (with_reducible refine Below.alloc ?_ ?_ _) | (with_reducible refine Below.setCell ?_ ?_ _) | (with_reducible refine Below.drew ?_) | (with_reducible refine below_drewN ?_ _) | (with_reducible refine below_via (by with_reducible assumption) ?_ ?_) | go_size)
  have HB0 : Below (w.heap.size + 2) ((w.alloc (.cells #[.string nm, .int .i64 kd, .int .i64 p, .int .i64 pw, .int .i64 po, .slice sa sn sc, .int .i64 (co : Int), .slice la ln lc] 34)).alloc (.cells #[.int .i64 0, .int .i64 0, .slice none 0 0] 29)) w' := by repeat' (first | (with_reducible exact Below.refl _ _) | (with_reducible assumption) | (with_reducible refine Below.alloc ?_ ?_ _) | (with_reducible refine Below.setCell ?_ ?_ _) | (with_reducible refine Below.drew ?_) | (with_reducible refine below_drewN ?_ _) | (with_reducible refine below_via (by with_reducible assumption) ?_ ?_) | go_size)
  have O3 := Lib.hid (out3_of HB0)
  clear HB0
  go_loop [42] (fun i => ∃ k : Nat, k ≤ en ∧ i = .int .i64 k ∧ Hid (∀ j, j < k → inB (els.getD j 0) 0 31 = true)) (fun i => en - (intOf i).toNat)
  case atStart => exact ⟨0, Nat.zero_le _, rfl, fun j hj => absurd hj (by omega)⟩
  case round =>
    obtain ⟨k, hk, rfl, HA⟩ := hrel
    by_cases hlt : k < en
    · obtain ⟨b, off, rfl, hbl, hcx⟩ := (HE.out w' HB.out).2 (by omega)
      have hx := hcx k hlt
      clear hcx
      obtain ⟨x, hxv⟩ : ∃ x, els.getD k 0 = x := ⟨_, rfl⟩
      rw [hxv] at hx
      have HX := Lib.hid hxv
      have k0 : (0 : Int) ≤ (k : Int) := by omega
      have k1 : (k : Int) < (en : Int) := by omega
      clear hxv
      have hg : inB x 0 31 = true := by rw [← HX.out]; exact HAll.out _ (getD_mem (by rw [HEl.out]; exact hlt))
      have HA2 : Hid (∀ j, j < k + 1 → inB (els.getD j 0) 0 31 = true) := fun j hj => by
        rcases Nat.lt_or_ge j k with h4 | h4
        · exact HA.out j h4
        · obtain rfl : j = k := by omega
          rw [HX.out]; exact hg
      go_wp2_with (go_at_call 41; refine (iIn _ _ _ _).mono ?_; rintro e w' ⟨rfl, rfl⟩)
      go_round
      case rel => exact ⟨k + 1, by omega, by go_num, HA2⟩
      case measure => simp [intOf]; omega
    · have hnk : (en : Int) ≤ (k : Int) := by omega
      go_wp2_with fail
      refine (iGrid nm kd p pw po sa sn sc co la ln lc R lv en ec ea els w' (HE.out w' HB.out) hec HEn.out g6 g3 g5 g2 g4 HBd.out).mono ?_
      rintro e w2 ⟨av, cv, rfl, ho, hb2⟩
      obtain ⟨hc2, hf2⟩ := bcell hb2
      have hz2 := hb2.size
      have HO := Lib.hid ho
      have HB2 : Hid (Below w.heap.size w w2) := HB.out.trans (hb2.mono (by omega))
      have q0 := (hc2 (w.heap.size + 1) 0 hz1).trans O3.out.2.1
      have q1 := (hc2 (w.heap.size + 1) 1 hz1).trans O3.out.2.2.1
      have q2 := (hc2 (w.heap.size + 1) 2 hz1).trans O3.out.2.2.2.1
      clear ho hb2
      go_wp2
      refine bodyPost_ret (v := .tuple #[.agg #[.int .i64 (R : Int), .int .i64 ((15 + 11 * (co + 2) : Nat) : Int), .slice av (gridTo els co R lv R).length cv], .int .i64 0]) (by simp [results, Try.results10, go_sem, q0, q1, q2]) rfl ?_
      refine ⟨av, cv, rfl, ?_, ((HB2.out.setCell (by simp) _).setCell (by simp) _).setCell (by simp) _, by rw [HLn.out]; have := HLm.out; omega⟩
      exact ownN_mono (ownN_far (ownN_far (ownN_far HO.out (by simp; omega) _) (by simp; omega) _) (by simp; omega) _) (by omega)
end Go.Proofs.Ytenelpollcabnaa
