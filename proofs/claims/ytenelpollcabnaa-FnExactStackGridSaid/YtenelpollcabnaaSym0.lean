/-
  DERIVED. SymbolSize: kinds and columns.
-/
import Derived.Test.YtenelpollcabnaaFamS
import Derived.Test.YtenelpollcabnaaGrid
import Derived.Test.YtenelpollcabnaaRegI
namespace Go.Proofs.Ytenelpollcabnaa
open Go.RowKit
set_option linter.unusedVariables false
def colsZ (kd col r : Int) : Int := if kd = 1 then r else 15 + 11 * (col + 2)
set_option maxRecDepth 20000 in
set_option maxHeartbeats 4000000 in
theorem iKind2 (nm : ByteArray) (kd p pw po : Int) (sa : Option Addr) (sn sc : Nat) (col : Int) (la : Option Addr) (ln lc : Nat) (w : World) (h : kd = 2) : Calls Try.prog 80 #[.agg #[.string nm, .int .i64 kd, .int .i64 p, .int .i64 pw, .int .i64 po, .slice sa sn sc, .int .i64 col, .slice la ln lc]] w fun e w' => e = .returned (.iface 127 (.agg #[.string nm, .int .i64 kd, .int .i64 p, .int .i64 pw, .int .i64 po, .slice sa sn sc, .int .i64 col, .slice la ln lc])) ∧ Below w.heap.size w w' := by
  have h1 : (kd == 2) = true := by simp [h]
  clear h
  go_enter Try.func80, Try.ntmps80
  go_wp2
  go_returns
  exact ⟨rfl, by repeat' (first | (with_reducible exact Below.refl _ _) | (with_reducible assumption) | (with_reducible refine Below.alloc ?_ ?_ _) | (with_reducible refine Below.setCell ?_ ?_ _) | (with_reducible refine Below.drew ?_) | (with_reducible refine below_drewN ?_ _) | (with_reducible refine below_via (by with_reducible assumption) ?_ ?_) | go_size)⟩
set_option maxRecDepth 20000 in
set_option maxHeartbeats 4000000 in
theorem iKind1 (nm : ByteArray) (kd p pw po : Int) (sa : Option Addr) (sn sc : Nat) (col : Int) (la : Option Addr) (ln lc : Nat) (w : World) (h : kd ≠ 2) : Calls Try.prog 80 #[.agg #[.string nm, .int .i64 kd, .int .i64 p, .int .i64 pw, .int .i64 po, .slice sa sn sc, .int .i64 col, .slice la ln lc]] w fun e w' => e = .returned (.iface 128 (.agg #[.string nm, .int .i64 kd, .int .i64 p, .int .i64 pw, .int .i64 po, .slice sa sn sc, .int .i64 col, .slice la ln lc])) ∧ Below w.heap.size w w' := by
  have h1 : (kd == 2) = false := by simp [h]
  clear h
  go_enter Try.func80, Try.ntmps80
  go_wp2
  go_returns
  exact ⟨rfl, by repeat' (first | (with_reducible exact Below.refl _ _) | (with_reducible assumption) | (with_reducible refine Below.alloc ?_ ?_ _) | (with_reducible refine Below.setCell ?_ ?_ _) | (with_reducible refine Below.drew ?_) | (with_reducible refine below_drewN ?_ _) | (with_reducible refine below_via (by with_reducible assumption) ?_ ?_) | go_size)⟩
set_option maxRecDepth 20000 in
set_option maxHeartbeats 4000000 in
theorem iColsS (nm : ByteArray) (kd p pw po : Int) (sa : Option Addr) (sn sc : Nat) (col : Int) (la : Option Addr) (ln lc : Nat) (r : Int) (w : World) (c1 : 1 ≤ col) (c2 : col ≤ 8) : Calls Try.prog 127 #[.agg #[.string nm, .int .i64 kd, .int .i64 p, .int .i64 pw, .int .i64 po, .slice sa sn sc, .int .i64 col, .slice la ln lc], .int .i64 r] w fun e w' => e = .returned (.int .i64 (15 + 11 * (col + 2))) ∧ Below w.heap.size w w' := by
  have HE : Hid (7 + 11 * (col + 2) + 8 = 15 + 11 * (col + 2)) := by unfold Hid; omega
  go_enter Try.func127, Try.ntmps127
  go_wp2_with (go_at_call 53; refine (iRowW (col + 2) _ (by omega) (by omega)).mono ?_; rintro e w' ⟨rfl, rfl⟩)
  go_returns
  exact ⟨ret_int HE.out, by repeat' (first | (with_reducible exact Below.refl _ _) | (with_reducible assumption) | (with_reducible refine Below.alloc ?_ ?_ _) | (with_reducible refine Below.setCell ?_ ?_ _) | (with_reducible refine Below.drew ?_) | (with_reducible refine below_drewN ?_ _) | (with_reducible refine below_via (by with_reducible assumption) ?_ ?_) | go_size)⟩
set_option maxRecDepth 20000 in
set_option maxHeartbeats 4000000 in
theorem iColsM (nm : ByteArray) (kd p pw po : Int) (sa : Option Addr) (sn sc : Nat) (col : Int) (la : Option Addr) (ln lc : Nat) (r : Int) (w : World) : Calls Try.prog 128 #[.agg #[.string nm, .int .i64 kd, .int .i64 p, .int .i64 pw, .int .i64 po, .slice sa sn sc, .int .i64 col, .slice la ln lc], .int .i64 r] w fun e w' => e = .returned (.int .i64 r) ∧ Below w.heap.size w w' := by
  go_enter Try.func128, Try.ntmps128
  go_wp2
  go_returns
  exact ⟨rfl, by repeat' (first | (with_reducible exact Below.refl _ _) | (with_reducible assumption) | (with_reducible refine Below.alloc ?_ ?_ _) | (with_reducible refine Below.setCell ?_ ?_ _) | (with_reducible refine Below.drew ?_) | (with_reducible refine below_drewN ?_ _) | (with_reducible refine below_via (by with_reducible assumption) ?_ ?_) | go_size)⟩
set_option maxRecDepth 20000 in
set_option maxHeartbeats 4000000 in
theorem iHasSize (nm : ByteArray) (kd p pw po : Int) (sa : Option Addr) (sn sc : Nat) (col : Int) (la : Option Addr) (ln lc : Nat) (zs : List Int) (r : Int) (w : World) (h : Rd w sa sn zs) (hn : sn ≤ 1048576) : Calls Try.prog 39 #[.agg #[.string nm, .int .i64 kd, .int .i64 p, .int .i64 pw, .int .i64 po, .slice sa sn sc, .int .i64 col, .slice la ln lc], .int .i64 r] w fun e w' => e = .returned (.bool (hasB zs r sn)) ∧ Below w.heap.size w w' := by
  have HH := Lib.hid h
  clear h
  go_enter Try.func39, Try.ntmps39
  go_wp2_with (go_at_call 69; refine (iContains sa sn sc zs r _ (HH.out.below (by repeat' (first | (with_reducible exact Below.refl _ _) | (with_reducible assumption) | (with_reducible refine Below.alloc ?_ ?_ _) | (with_reducible refine Below.setCell ?_ ?_ _) | (with_reducible refine Below.drew ?_) | (with_reducible refine below_drewN ?_ _) | (with_reducible refine below_via (by with_reducible assumption) ?_ ?_) | go_size))) hn).mono ?_; rintro e w' ⟨rfl, rfl⟩)
  go_returns
  exact ⟨rfl, by repeat' (first | (with_reducible exact Below.refl _ _) | (with_reducible assumption) | (with_reducible refine Below.alloc ?_ ?_ _) | (with_reducible refine Below.setCell ?_ ?_ _) | (with_reducible refine Below.drew ?_) | (with_reducible refine below_drewN ?_ _) | (with_reducible refine below_via (by with_reducible assumption) ?_ ?_) | go_size)⟩
theorem held_fg (nm : ByteArray) (kd p pw po : Int) (sa : Option Addr) (sn sc : Nat) (col : Int) (la : Option Addr) (ln lc : Nat) (r c : Int) (ga : Option Addr) (gn gc : Nat) (w : World) : ∀ w', Below (w.heap.size + 2) ((w.alloc (.cells #[.string nm, .int .i64 kd, .int .i64 p, .int .i64 pw, .int .i64 po, .slice sa sn sc, .int .i64 col, .slice la ln lc] 34)).alloc (.cells #[.int .i64 r, .int .i64 c, .slice ga gn gc] 29)) w' → Below (w.heap.size + 2) ((w.alloc (.cells #[.string nm, .int .i64 kd, .int .i64 p, .int .i64 pw, .int .i64 po, .slice sa sn sc, .int .i64 col, .slice la ln lc] 34)).alloc (.cells #[.int .i64 r, .int .i64 c, .slice ga gn gc] 29)) w' ∧ w.heap.size < w'.heap.size ∧ w.heap.size + 1 < w'.heap.size ∧ w'.cell? ⟨w.heap.size, 0, none⟩ = some (.string nm) ∧ w'.cell? ⟨w.heap.size, 1, none⟩ = some (.int .i64 kd) ∧ w'.cell? ⟨w.heap.size, 2, none⟩ = some (.int .i64 p) ∧ w'.cell? ⟨w.heap.size, 3, none⟩ = some (.int .i64 pw) ∧ w'.cell? ⟨w.heap.size, 4, none⟩ = some (.int .i64 po) ∧ w'.cell? ⟨w.heap.size, 5, none⟩ = some (.slice sa sn sc) ∧ w'.cell? ⟨w.heap.size, 6, none⟩ = some (.int .i64 col) ∧ w'.cell? ⟨w.heap.size, 7, none⟩ = some (.slice la ln lc) ∧ w'.cell? ⟨w.heap.size + 1, 0, none⟩ = some (.int .i64 r) ∧ w'.cell? ⟨w.heap.size + 1, 1, none⟩ = some (.int .i64 c) ∧ w'.cell? ⟨w.heap.size + 1, 2, none⟩ = some (.slice ga gn gc) := by
  intro w' h
  have hs := h.size
  simp at hs
  refine ⟨h, by omega, by omega, ?_, ?_, ?_, ?_, ?_, ?_, ?_, ?_, ?_, ?_, ?_⟩ <;> (refine (h.cell (p := ⟨_, _, none⟩) (by simp)).trans ?_; simp [go_sem])
set_option maxRecDepth 20000 in
set_option maxHeartbeats 4000000 in
theorem iSymNo (nm : ByteArray) (kd p pw po : Int) (sa : Option Addr) (sn sc : Nat) (col : Int) (la : Option Addr) (ln lc : Nat) (zs : List Int) (r c : Int) (ga : Option Addr) (gn gc : Nat) (w : World) (h : Rd w sa sn zs) (hn : sn ≤ 1048576) (hh : hasB zs r sn = false) :
    Calls Try.prog 61 #[.agg #[.string nm, .int .i64 kd, .int .i64 p, .int .i64 pw, .int .i64 po, .slice sa sn sc, .int .i64 col, .slice la ln lc], .agg #[.int .i64 r, .int .i64 c, .slice ga gn gc]] w fun e w' => e = .returned (.bool false) ∧ Below w.heap.size w w' := by
  have HH := Lib.hid h
  have HF := Lib.hid (held_fg nm kd p pw po sa sn sc col la ln lc r c ga gn gc w)
  clear h
  go_enter Try.func61, Try.ntmps61
  go_wp2_with fail
  obtain ⟨W, hW⟩ : ∃ W : World, W = ((w.alloc (.cells #[.string nm, .int .i64 kd, .int .i64 p, .int .i64 pw, .int .i64 po, .slice sa sn sc, .int .i64 col, .slice la ln lc] 34)).alloc (.cells #[.int .i64 r, .int .i64 c, .slice ga gn gc] 29)) := ⟨_, rfl⟩
  have HBW : Hid (Below w.heap.size w W) := by rw [hW]; unfold Hid; repeat' (first | (with_reducible exact Below.refl _ _) | (with_reducible assumption) | (with_reducible refine Below.alloc ?_ ?_ _) | (with_reducible refine Below.setCell ?_ ?_ _) | (with_reducible refine Below.drew ?_) | (with_reducible refine below_drewN ?_ _) | (with_reducible refine below_via (by with_reducible assumption) ?_ ?_) | go_size)
  have HZW : Hid (W.heap.size = w.heap.size + 2) := by unfold Hid; rw [hW]; simp
  have HCW := HF.out W (by rw [hW]; exact Below.refl _ _)
  rw [← hW]
  clear hW HF
  obtain ⟨-, y0, y1, y2, y3, y4, y5, y6, y7, y8, y9, y10, y11, y12⟩ := HCW
  have HY := Lib.hid (And.intro y0 (And.intro y1 (And.intro y2 (And.intro y3 (And.intro y4 (And.intro y5 (And.intro y6 (And.intro y7 (And.intro y8 (And.intro y9 (And.intro y10 (And.intro y11 y12))))))))))))
  clear y0 y1 y2 y3 y4 y5 y6 y7 y8 y9 y10 y11 y12
  refine wp_region_inv (fun dd ac wz => ∃ (u4 u5 u6 u7 u8 u9 u10 u11 u12 u13 u14 u15 u16 u17 u18 : Value), ac = ({ tmps := #[.agg #[.string nm, .int .i64 kd, .int .i64 p, .int .i64 pw, .int .i64 po, .slice sa sn sc, .int .i64 col, .slice la ln lc], .agg #[.int .i64 r, .int .i64 c, .slice ga gn gc], .pointer (some ⟨w.heap.size, 0, none⟩), .pointer (some ⟨w.heap.size + 1, 0, none⟩), u4, u5, u6, u7, u8, u9, u10, u11, u12, u13, u14, u15, u16, u17, u18], defers := [] } : Act) ∧ Below W.heap.size W wz ∧ (dd 0 = true → u5 = .agg #[.string nm, .int .i64 kd, .int .i64 p, .int .i64 pw, .int .i64 po, .slice sa sn sc, .int .i64 col, .slice la ln lc]) ∧ (dd 1 = true → u6 = .pointer (some ⟨w.heap.size + 1, 0, none⟩)) ∧ (dd 2 = true → u7 = .int .i64 r) ∧ (dd 3 = true → u8 = .bool false) ∧ (dd 4 = true → u9 = .bool false) ∧ (dd 13 = true → u18 = .bool false) ∧ (dd 14 = true → u4 = .bool false)) (by kernel_rfl) (by kernel_rfl) ?_ ?_ ?_
  · exact ⟨_, _, _, _, _, _, _, _, _, _, _, _, _, _, _, rfl, (Below.refl _ _).drew, (fun h => by cases h), (fun h => by cases h), (fun h => by cases h), (fun h => by cases h), (fun h => by cases h), (fun h => by cases h), (fun h => by cases h)⟩
  · refine Steps.cons (fun dd ac wz hI hdd hdep K hK' => ?_) ?_
    · obtain ⟨u4, u5, u6, u7, u8, u9, u10, u11, u12, u13, u14, u15, u16, u17, u18, rfl, hB, f0, f1, f2, f3, f4, f13, f14⟩ := hI
      obtain ⟨y0, y1, y2, y3, y4, y5, y6, y7, y8, y9, y10, y11, y12⟩ := HY.out
      have hcc : ∀ b i, b < W.heap.size → wz.cell? ⟨b, i, none⟩ = W.cell? ⟨b, i, none⟩ := fun b i hb => hB.cell (p := ⟨b, i, none⟩) hb
      have hzz := HZW.out
      have hl0 : w.heap.size < W.heap.size := by omega
      have hl1 : w.heap.size + 1 < W.heap.size := by omega
      go_simp
      refine hK' _ _ ⟨_, _, _, _, _, _, _, _, _, _, _, _, _, _, _, rfl, hB, (fun _ => rfl), f1, f2, f3, f4, f13, f14⟩
    refine Steps.cons (fun dd ac wz hI hdd hdep K hK' => ?_) ?_
    · obtain ⟨u4, u5, u6, u7, u8, u9, u10, u11, u12, u13, u14, u15, u16, u17, u18, rfl, hB, f0, f1, f2, f3, f4, f13, f14⟩ := hI
      go_simp
      refine hK' _ _ ⟨_, _, _, _, _, _, _, _, _, _, _, _, _, _, _, rfl, hB, f0, (fun _ => rfl), f2, f3, f4, f13, f14⟩
    refine Steps.cons (fun dd ac wz hI hdd hdep K hK' => ?_) ?_
    · obtain ⟨u4, u5, u6, u7, u8, u9, u10, u11, u12, u13, u14, u15, u16, u17, u18, rfl, hB, f0, f1, f2, f3, f4, f13, f14⟩ := hI
      have q1 := f1 (hdep 1 rfl)
      subst q1
      obtain ⟨y0, y1, y2, y3, y4, y5, y6, y7, y8, y9, y10, y11, y12⟩ := HY.out
      have hcc : ∀ b i, b < W.heap.size → wz.cell? ⟨b, i, none⟩ = W.cell? ⟨b, i, none⟩ := fun b i hb => hB.cell (p := ⟨b, i, none⟩) hb
      have hzz := HZW.out
      have hl0 : w.heap.size < W.heap.size := by omega
      have hl1 : w.heap.size + 1 < W.heap.size := by omega
      go_simp
      refine hK' _ _ ⟨_, _, _, _, _, _, _, _, _, _, _, _, _, _, _, rfl, hB, f0, f1, (fun _ => rfl), f3, f4, f13, f14⟩
    refine Steps.cons (fun dd ac wz hI hdd hdep K hK' => ?_) ?_
    · obtain ⟨u4, u5, u6, u7, u8, u9, u10, u11, u12, u13, u14, u15, u16, u17, u18, rfl, hB, f0, f1, f2, f3, f4, f13, f14⟩ := hI
      have q0 := f0 (hdep 0 rfl)
      subst q0
      have q2 := f2 (hdep 2 rfl)
      subst q2
      go_simp
      refine (iHasSize nm kd p pw po sa sn sc col la ln lc zs r wz (HH.out.below (HBW.out.trans (hB.mono HBW.out.size))) hn).mono ?_
      rintro e w1' ⟨rfl, hbx⟩
      rw [hh]
      refine hK' _ _ ⟨_, _, _, _, _, _, _, _, _, _, _, _, _, _, _, rfl, (hB.trans (hbx.mono hB.size)), f0, f1, f2, (fun _ => rfl), f4, f13, f14⟩
    refine Steps.cons (fun dd ac wz hI hdd hdep K hK' => ?_) ?_
    · obtain ⟨u4, u5, u6, u7, u8, u9, u10, u11, u12, u13, u14, u15, u16, u17, u18, rfl, hB, f0, f1, f2, f3, f4, f13, f14⟩ := hI
      have q3 := f3 (hdep 3 rfl)
      subst q3
      go_simp
      refine hK' _ _ ⟨_, _, _, _, _, _, _, _, _, _, _, _, _, _, _, rfl, hB, f0, f1, f2, f3, (fun _ => rfl), f13, f14⟩
    refine Steps.cons (fun dd ac wz hI hdd hdep K hK' => ?_) ?_
    · obtain ⟨u4, u5, u6, u7, u8, u9, u10, u11, u12, u13, u14, u15, u16, u17, u18, rfl, hB, f0, f1, f2, f3, f4, f13, f14⟩ := hI
      have q4 := f4 (hdep 4 rfl)
      subst q4
      go_simp
      refine hK' _ _ ⟨_, _, _, _, _, _, _, _, _, _, _, _, _, _, _, rfl, hB, f0, f1, f2, f3, f4, f13, f14⟩
    refine Steps.cons (fun dd ac wz hI hdd hdep K hK' => ?_) ?_
    · obtain ⟨u4, u5, u6, u7, u8, u9, u10, u11, u12, u13, u14, u15, u16, u17, u18, rfl, hB, f0, f1, f2, f3, f4, f13, f14⟩ := hI
      have q4 := f4 (hdep 4 rfl)
      subst q4
      go_simp
      refine hK' _ _ ⟨_, _, _, _, _, _, _, _, _, _, _, _, _, _, _, rfl, hB, f0, f1, f2, f3, f4, f13, f14⟩
    refine Steps.cons (fun dd ac wz hI hdd hdep K hK' => ?_) ?_
    · obtain ⟨u4, u5, u6, u7, u8, u9, u10, u11, u12, u13, u14, u15, u16, u17, u18, rfl, hB, f0, f1, f2, f3, f4, f13, f14⟩ := hI
      have q4 := f4 (hdep 4 rfl)
      subst q4
      go_simp
      refine hK' _ _ ⟨_, _, _, _, _, _, _, _, _, _, _, _, _, _, _, rfl, hB, f0, f1, f2, f3, f4, f13, f14⟩
    refine Steps.cons (fun dd ac wz hI hdd hdep K hK' => ?_) ?_
    · obtain ⟨u4, u5, u6, u7, u8, u9, u10, u11, u12, u13, u14, u15, u16, u17, u18, rfl, hB, f0, f1, f2, f3, f4, f13, f14⟩ := hI
      have q4 := f4 (hdep 4 rfl)
      subst q4
      go_simp
      refine hK' _ _ ⟨_, _, _, _, _, _, _, _, _, _, _, _, _, _, _, rfl, hB, f0, f1, f2, f3, f4, f13, f14⟩
    refine Steps.cons (fun dd ac wz hI hdd hdep K hK' => ?_) ?_
    · obtain ⟨u4, u5, u6, u7, u8, u9, u10, u11, u12, u13, u14, u15, u16, u17, u18, rfl, hB, f0, f1, f2, f3, f4, f13, f14⟩ := hI
      have q4 := f4 (hdep 4 rfl)
      subst q4
      go_simp
      refine hK' _ _ ⟨_, _, _, _, _, _, _, _, _, _, _, _, _, _, _, rfl, hB, f0, f1, f2, f3, f4, f13, f14⟩
    refine Steps.cons (fun dd ac wz hI hdd hdep K hK' => ?_) ?_
    · obtain ⟨u4, u5, u6, u7, u8, u9, u10, u11, u12, u13, u14, u15, u16, u17, u18, rfl, hB, f0, f1, f2, f3, f4, f13, f14⟩ := hI
      have q4 := f4 (hdep 4 rfl)
      subst q4
      go_simp
      refine hK' _ _ ⟨_, _, _, _, _, _, _, _, _, _, _, _, _, _, _, rfl, hB, f0, f1, f2, f3, f4, f13, f14⟩
    refine Steps.cons (fun dd ac wz hI hdd hdep K hK' => ?_) ?_
    · obtain ⟨u4, u5, u6, u7, u8, u9, u10, u11, u12, u13, u14, u15, u16, u17, u18, rfl, hB, f0, f1, f2, f3, f4, f13, f14⟩ := hI
      have q4 := f4 (hdep 4 rfl)
      subst q4
      go_simp
      refine hK' _ _ ⟨_, _, _, _, _, _, _, _, _, _, _, _, _, _, _, rfl, hB, f0, f1, f2, f3, f4, f13, f14⟩
    refine Steps.cons (fun dd ac wz hI hdd hdep K hK' => ?_) ?_
    · obtain ⟨u4, u5, u6, u7, u8, u9, u10, u11, u12, u13, u14, u15, u16, u17, u18, rfl, hB, f0, f1, f2, f3, f4, f13, f14⟩ := hI
      have q4 := f4 (hdep 4 rfl)
      subst q4
      go_simp
      refine hK' _ _ ⟨_, _, _, _, _, _, _, _, _, _, _, _, _, _, _, rfl, hB, f0, f1, f2, f3, f4, f13, f14⟩
    refine Steps.cons (fun dd ac wz hI hdd hdep K hK' => ?_) ?_
    · obtain ⟨u4, u5, u6, u7, u8, u9, u10, u11, u12, u13, u14, u15, u16, u17, u18, rfl, hB, f0, f1, f2, f3, f4, f13, f14⟩ := hI
      have q4 := f4 (hdep 4 rfl)
      subst q4
      go_simp
      refine hK' _ _ ⟨_, _, _, _, _, _, _, _, _, _, _, _, _, _, _, rfl, hB, f0, f1, f2, f3, f4, (fun _ => rfl), f14⟩
    refine Steps.cons (fun dd ac wz hI hdd hdep K hK' => ?_) ?_
    · obtain ⟨u4, u5, u6, u7, u8, u9, u10, u11, u12, u13, u14, u15, u16, u17, u18, rfl, hB, f0, f1, f2, f3, f4, f13, f14⟩ := hI
      have q13 := f13 (hdep 13 rfl)
      subst q13
      go_simp
      refine hK' _ _ ⟨_, _, _, _, _, _, _, _, _, _, _, _, _, _, _, rfl, hB, f0, f1, f2, f3, f4, f13, (fun _ => rfl)⟩
    exact Steps.nil
  · intro dd ac wz hI hall
    obtain ⟨u4, u5, u6, u7, u8, u9, u10, u11, u12, u13, u14, u15, u16, u17, u18, rfl, hB, f0, f1, f2, f3, f4, f13, f14⟩ := hI
    have q14 := f14 (hall 14 (by decide))
    subst q14
    have HBz : Hid (Below w.heap.size w wz) := HBW.out.trans (hB.mono HBW.out.size)
    clear hB f0 f1 f2 f3 f4 f13 f14 hall
    go_wp2
    go_returns
    exact ⟨rfl, HBz.out⟩
set_option maxRecDepth 20000 in
set_option maxHeartbeats 4000000 in
theorem iSymYes2 (nm : ByteArray) (kd p pw po : Int) (sa : Option Addr) (sn sc : Nat) (col : Int) (la : Option Addr) (ln lc : Nat) (zs : List Int) (r c : Int) (ga : Option Addr) (gn gc : Nat) (w : World) (h : Rd w sa sn zs) (hn : sn ≤ 1048576) (hh : hasB zs r sn = true) (hk : kd = 2) (c1 : 1 ≤ col) (c2 : col ≤ 8) :
    Calls Try.prog 61 #[.agg #[.string nm, .int .i64 kd, .int .i64 p, .int .i64 pw, .int .i64 po, .slice sa sn sc, .int .i64 col, .slice la ln lc], .agg #[.int .i64 r, .int .i64 c, .slice ga gn gc]] w fun e w' => e = .returned (.bool (c == 15 + 11 * (col + 2))) ∧ Below w.heap.size w w' := by
  have HH := Lib.hid h
  have HF := Lib.hid (held_fg nm kd p pw po sa sn sc col la ln lc r c ga gn gc w)
  have HK := Lib.hid hk
  clear h hk
  go_enter Try.func61, Try.ntmps61
  go_wp2_with fail
  go_region_held3 (fun w' => Below (w.heap.size + 2) ((w.alloc (.cells #[.string nm, .int .i64 kd, .int .i64 p, .int .i64 pw, .int .i64 po, .slice sa sn sc, .int .i64 col, .slice la ln lc] 34)).alloc (.cells #[.int .i64 r, .int .i64 c, .slice ga gn gc] 29)) w' ∧ w.heap.size < w'.heap.size ∧ w.heap.size + 1 < w'.heap.size ∧ w'.cell? ⟨w.heap.size, 0, none⟩ = some (.string nm) ∧ w'.cell? ⟨w.heap.size, 1, none⟩ = some (.int .i64 kd) ∧ w'.cell? ⟨w.heap.size, 2, none⟩ = some (.int .i64 p) ∧ w'.cell? ⟨w.heap.size, 3, none⟩ = some (.int .i64 pw) ∧ w'.cell? ⟨w.heap.size, 4, none⟩ = some (.int .i64 po) ∧ w'.cell? ⟨w.heap.size, 5, none⟩ = some (.slice sa sn sc) ∧ w'.cell? ⟨w.heap.size, 6, none⟩ = some (.int .i64 col) ∧ w'.cell? ⟨w.heap.size, 7, none⟩ = some (.slice la ln lc) ∧ w'.cell? ⟨w.heap.size + 1, 0, none⟩ = some (.int .i64 r) ∧ w'.cell? ⟨w.heap.size + 1, 1, none⟩ = some (.int .i64 c) ∧ w'.cell? ⟨w.heap.size + 1, 2, none⟩ = some (.slice ga gn gc)) (exact HF.out _ (by repeat' (first | (with_reducible exact Below.refl _ _) | (with_reducible assumption) | (with_reducible refine Below.alloc ?_ ?_ _) | (with_reducible refine Below.setCell ?_ ?_ _) | (with_reducible refine Below.drew ?_) | (with_reducible refine below_drewN ?_ _) | (with_reducible refine below_via (by with_reducible assumption) ?_ ?_) | go_size))) ((first | (go_at_call 39; refine (iHasSize nm kd p pw po sa sn sc col la ln lc zs r _ (HH.out.below (by repeat' (first | (with_reducible exact Below.refl _ _) | (with_reducible assumption) | (with_reducible refine Below.alloc ?_ ?_ _) | (with_reducible refine Below.setCell ?_ ?_ _) | (with_reducible refine Below.drew ?_) | (with_reducible refine below_drewN ?_ _) | (with_reducible refine below_via (by with_reducible assumption) ?_ ?_) | go_size))) hn).mono ?_; rintro e w' ⟨rfl, hb⟩; rw [hh]; obtain ⟨hc, hf⟩ := bcell hb; have hz := hb.size; (try simp at hz); have hz0 : w.heap.size < w'.heap.size := (by omega); have hz1 : w.heap.size + 1 < w'.heap.size := (by omega)) | (go_at_call 80; refine (iKind2 nm kd p pw po sa sn sc col la ln lc _ HK.out).mono ?_; rintro e w' ⟨rfl, hb⟩; obtain ⟨hc, hf⟩ := bcell hb; have hz := hb.size; (try simp at hz); have hz0 : w.heap.size < w'.heap.size := (by omega); have hz1 : w.heap.size + 1 < w'.heap.size := (by omega)) | (go_at_call 127; refine (iColsS nm kd p pw po sa sn sc col la ln lc r _ c1 c2).mono ?_; rintro e w' ⟨rfl, hb⟩; obtain ⟨hc, hf⟩ := bcell hb; have hz := hb.size; (try simp at hz); have hz0 : w.heap.size < w'.heap.size := (by omega); have hz1 : w.heap.size + 1 < w'.heap.size := (by omega))))
  all_goals
    go_wp2
    go_returns
    exact ⟨rfl, by repeat' (first | (with_reducible exact Below.refl _ _) | (with_reducible assumption) | (with_reducible refine Below.alloc ?_ ?_ _) | (with_reducible refine Below.setCell ?_ ?_ _) | (with_reducible refine Below.drew ?_) | (with_reducible refine below_drewN ?_ _) | (with_reducible refine below_via (by with_reducible assumption) ?_ ?_) | go_size)⟩
set_option maxRecDepth 20000 in
set_option maxHeartbeats 4000000 in
theorem iSymYes1 (nm : ByteArray) (kd p pw po : Int) (sa : Option Addr) (sn sc : Nat) (col : Int) (la : Option Addr) (ln lc : Nat) (zs : List Int) (r c : Int) (ga : Option Addr) (gn gc : Nat) (w : World) (h : Rd w sa sn zs) (hn : sn ≤ 1048576) (hh : hasB zs r sn = true) (hk : kd ≠ 2) :
    Calls Try.prog 61 #[.agg #[.string nm, .int .i64 kd, .int .i64 p, .int .i64 pw, .int .i64 po, .slice sa sn sc, .int .i64 col, .slice la ln lc], .agg #[.int .i64 r, .int .i64 c, .slice ga gn gc]] w fun e w' => e = .returned (.bool (c == r)) ∧ Below w.heap.size w w' := by
  have HH := Lib.hid h
  have HF := Lib.hid (held_fg nm kd p pw po sa sn sc col la ln lc r c ga gn gc w)
  have HK := Lib.hid hk
  clear h hk
  go_enter Try.func61, Try.ntmps61
  go_wp2_with fail
  go_region_held3 (fun w' => Below (w.heap.size + 2) ((w.alloc (.cells #[.string nm, .int .i64 kd, .int .i64 p, .int .i64 pw, .int .i64 po, .slice sa sn sc, .int .i64 col, .slice la ln lc] 34)).alloc (.cells #[.int .i64 r, .int .i64 c, .slice ga gn gc] 29)) w' ∧ w.heap.size < w'.heap.size ∧ w.heap.size + 1 < w'.heap.size ∧ w'.cell? ⟨w.heap.size, 0, none⟩ = some (.string nm) ∧ w'.cell? ⟨w.heap.size, 1, none⟩ = some (.int .i64 kd) ∧ w'.cell? ⟨w.heap.size, 2, none⟩ = some (.int .i64 p) ∧ w'.cell? ⟨w.heap.size, 3, none⟩ = some (.int .i64 pw) ∧ w'.cell? ⟨w.heap.size, 4, none⟩ = some (.int .i64 po) ∧ w'.cell? ⟨w.heap.size, 5, none⟩ = some (.slice sa sn sc) ∧ w'.cell? ⟨w.heap.size, 6, none⟩ = some (.int .i64 col) ∧ w'.cell? ⟨w.heap.size, 7, none⟩ = some (.slice la ln lc) ∧ w'.cell? ⟨w.heap.size + 1, 0, none⟩ = some (.int .i64 r) ∧ w'.cell? ⟨w.heap.size + 1, 1, none⟩ = some (.int .i64 c) ∧ w'.cell? ⟨w.heap.size + 1, 2, none⟩ = some (.slice ga gn gc)) (exact HF.out _ (by repeat' (first | (with_reducible exact Below.refl _ _) | (with_reducible assumption) | (with_reducible refine Below.alloc ?_ ?_ _) | (with_reducible refine Below.setCell ?_ ?_ _) | (with_reducible refine Below.drew ?_) | (with_reducible refine below_drewN ?_ _) | (with_reducible refine below_via (by with_reducible assumption) ?_ ?_) | go_size))) ((first | (go_at_call 39; refine (iHasSize nm kd p pw po sa sn sc col la ln lc zs r _ (HH.out.below (by repeat' (first | (with_reducible exact Below.refl _ _) | (with_reducible assumption) | (with_reducible refine Below.alloc ?_ ?_ _) | (with_reducible refine Below.setCell ?_ ?_ _) | (with_reducible refine Below.drew ?_) | (with_reducible refine below_drewN ?_ _) | (with_reducible refine below_via (by with_reducible assumption) ?_ ?_) | go_size))) hn).mono ?_; rintro e w' ⟨rfl, hb⟩; rw [hh]; obtain ⟨hc, hf⟩ := bcell hb; have hz := hb.size; (try simp at hz); have hz0 : w.heap.size < w'.heap.size := (by omega); have hz1 : w.heap.size + 1 < w'.heap.size := (by omega)) | (go_at_call 80; refine (iKind1 nm kd p pw po sa sn sc col la ln lc _ HK.out).mono ?_; rintro e w' ⟨rfl, hb⟩; obtain ⟨hc, hf⟩ := bcell hb; have hz := hb.size; (try simp at hz); have hz0 : w.heap.size < w'.heap.size := (by omega); have hz1 : w.heap.size + 1 < w'.heap.size := (by omega)) | (go_at_call 128; refine (iColsM nm kd p pw po sa sn sc col la ln lc r _).mono ?_; rintro e w' ⟨rfl, hb⟩; obtain ⟨hc, hf⟩ := bcell hb; have hz := hb.size; (try simp at hz); have hz0 : w.heap.size < w'.heap.size := (by omega); have hz1 : w.heap.size + 1 < w'.heap.size := (by omega))))
  all_goals
    go_wp2
    go_returns
    exact ⟨rfl, by repeat' (first | (with_reducible exact Below.refl _ _) | (with_reducible assumption) | (with_reducible refine Below.alloc ?_ ?_ _) | (with_reducible refine Below.setCell ?_ ?_ _) | (with_reducible refine Below.drew ?_) | (with_reducible refine below_drewN ?_ _) | (with_reducible refine below_via (by with_reducible assumption) ?_ ?_) | go_size)⟩
end Go.Proofs.Ytenelpollcabnaa
