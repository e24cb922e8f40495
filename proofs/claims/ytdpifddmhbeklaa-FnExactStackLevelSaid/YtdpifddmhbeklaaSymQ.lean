/-
  DERIVED. Sym0, FamI.
-/
import Derived.Test.YtdpifddmhbeklaaFamS
import Derived.Test.YtdpifddmhbeklaaResQ
import Derived.Test.YtdpifddmhbeklaaRegI
namespace Go.Proofs.Ytdpifddmhbeklaa
open Go.RowKit
set_option linter.unusedVariables false
def colsZ (kd col r : Int) : Int := if kd = 1 then r else 15 + 11 * (col + 2)
set_option maxRecDepth 20000 in
set_option maxHeartbeats 4000000 in
theorem sCols (nm : ByteArray) (kd p pw po : Int) (sa : Option Addr) (sn sc : Nat) (col : Int) (la : Option Addr) (ln lc : Nat) (r : Int) (w : World) (hk : kd = 1 ∨ (1 ≤ col ∧ col ≤ 8)) :
    Calls Try.prog 81 #[.agg #[.string nm, .int .i64 kd, .int .i64 p, .int .i64 pw, .int .i64 po, .slice sa sn sc, .int .i64 col, .slice la ln lc], .int .i64 r] w fun e w' => e = .returned (.int .i64 (colsZ kd col r)) ∧ Below w.heap.size w w' := by
  by_cases h : kd = 1
  · have HE : Hid (r = colsZ kd col r) := by unfold Hid colsZ; rw [if_pos h]
    have h1 : (kd == 1) = true := by simp [h]
    clear h hk
    go_enter Try.func81, Try.ntmps81
    go_wp2
    go_returns
    exact ⟨ret_int HE.out, by repeat' (first | (with_reducible exact Below.refl _ _) | (with_reducible assumption) | (with_reducible refine Below.alloc ?_ ?_ _) | (with_reducible refine Below.setCell ?_ ?_ _) | (with_reducible refine Below.drew ?_) | (with_reducible refine below_drewN ?_ _) | (with_reducible refine below_via (by with_reducible assumption) ?_ ?_) | go_size)⟩
  · have HE : Hid (15 + 11 * (col + 2) = colsZ kd col r) := by unfold Hid colsZ; rw [if_neg h]
    have h1 : (kd == 1) = false := by simp [h]
    obtain ⟨c1, c2⟩ : 1 ≤ col ∧ col ≤ 8 := by rcases hk with h2 | h2; exact absurd h2 h; exact h2
    clear h hk
    go_enter Try.func81, Try.ntmps81
    go_wp2
    go_returns
    exact ⟨ret_int HE.out, by repeat' (first | (with_reducible exact Below.refl _ _) | (with_reducible assumption) | (with_reducible refine Below.alloc ?_ ?_ _) | (with_reducible refine Below.setCell ?_ ?_ _) | (with_reducible refine Below.drew ?_) | (with_reducible refine below_drewN ?_ _) | (with_reducible refine below_via (by with_reducible assumption) ?_ ?_) | go_size)⟩
set_option maxRecDepth 20000 in
set_option maxHeartbeats 4000000 in
theorem iKind2 (nm : ByteArray) (kd p pw po : Int) (sa : Option Addr) (sn sc : Nat) (col : Int) (la : Option Addr) (ln lc : Nat) (w : World) (h : kd = 2) : Calls Try.prog 120 #[.agg #[.string nm, .int .i64 kd, .int .i64 p, .int .i64 pw, .int .i64 po, .slice sa sn sc, .int .i64 col, .slice la ln lc]] w fun e w' => e = .returned (.iface 170 (.agg #[.string nm, .int .i64 kd, .int .i64 p, .int .i64 pw, .int .i64 po, .slice sa sn sc, .int .i64 col, .slice la ln lc])) ∧ Below w.heap.size w w' := by
  have h1 : (kd == 2) = true := by simp [h]
  clear h
  go_enter Try.func120, Try.ntmps120
  go_wp2
  go_returns
  exact ⟨rfl, by repeat' (first | (with_reducible exact Below.refl _ _) | (with_reducible assumption) | (with_reducible refine Below.alloc ?_ ?_ _) | (with_reducible refine Below.setCell ?_ ?_ _) | (with_reducible refine Below.drew ?_) | (with_reducible refine below_drewN ?_ _) | (with_reducible refine below_via (by with_reducible assumption) ?_ ?_) | go_size)⟩
set_option maxRecDepth 20000 in
set_option maxHeartbeats 4000000 in
theorem iKind1 (nm : ByteArray) (kd p pw po : Int) (sa : Option Addr) (sn sc : Nat) (col : Int) (la : Option Addr) (ln lc : Nat) (w : World) (h : kd ≠ 2) : Calls Try.prog 120 #[.agg #[.string nm, .int .i64 kd, .int .i64 p, .int .i64 pw, .int .i64 po, .slice sa sn sc, .int .i64 col, .slice la ln lc]] w fun e w' => e = .returned (.iface 171 (.agg #[.string nm, .int .i64 kd, .int .i64 p, .int .i64 pw, .int .i64 po, .slice sa sn sc, .int .i64 col, .slice la ln lc])) ∧ Below w.heap.size w w' := by
  have h1 : (kd == 2) = false := by simp [h]
  clear h
  go_enter Try.func120, Try.ntmps120
  go_wp2
  go_returns
  exact ⟨rfl, by repeat' (first | (with_reducible exact Below.refl _ _) | (with_reducible assumption) | (with_reducible refine Below.alloc ?_ ?_ _) | (with_reducible refine Below.setCell ?_ ?_ _) | (with_reducible refine Below.drew ?_) | (with_reducible refine below_drewN ?_ _) | (with_reducible refine below_via (by with_reducible assumption) ?_ ?_) | go_size)⟩
set_option maxRecDepth 20000 in
set_option maxHeartbeats 4000000 in
theorem iColsS (nm : ByteArray) (kd p pw po : Int) (sa : Option Addr) (sn sc : Nat) (col : Int) (la : Option Addr) (ln lc : Nat) (r : Int) (w : World) (c1 : 1 ≤ col) (c2 : col ≤ 8) : Calls Try.prog 163 #[.agg #[.string nm, .int .i64 kd, .int .i64 p, .int .i64 pw, .int .i64 po, .slice sa sn sc, .int .i64 col, .slice la ln lc], .int .i64 r] w fun e w' => e = .returned (.int .i64 (15 + 11 * (col + 2))) ∧ Below w.heap.size w w' := by
  have HE : Hid (7 + 11 * (col + 2) + 8 = 15 + 11 * (col + 2)) := by unfold Hid; omega
  go_enter Try.func163, Try.ntmps163
  go_wp2_with (go_at_call 69; refine (iRowW (col + 2) _ (by omega) (by omega)).mono ?_; rintro e w' ⟨rfl, rfl⟩)
  go_returns
  exact ⟨ret_int HE.out, by repeat' (first | (with_reducible exact Below.refl _ _) | (with_reducible assumption) | (with_reducible refine Below.alloc ?_ ?_ _) | (with_reducible refine Below.setCell ?_ ?_ _) | (with_reducible refine Below.drew ?_) | (with_reducible refine below_drewN ?_ _) | (with_reducible refine below_via (by with_reducible assumption) ?_ ?_) | go_size)⟩
set_option maxRecDepth 20000 in
set_option maxHeartbeats 4000000 in
theorem iColsM (nm : ByteArray) (kd p pw po : Int) (sa : Option Addr) (sn sc : Nat) (col : Int) (la : Option Addr) (ln lc : Nat) (r : Int) (w : World) : Calls Try.prog 164 #[.agg #[.string nm, .int .i64 kd, .int .i64 p, .int .i64 pw, .int .i64 po, .slice sa sn sc, .int .i64 col, .slice la ln lc], .int .i64 r] w fun e w' => e = .returned (.int .i64 r) ∧ Below w.heap.size w w' := by
  go_enter Try.func164, Try.ntmps164
  go_wp2
  go_returns
  exact ⟨rfl, by repeat' (first | (with_reducible exact Below.refl _ _) | (with_reducible assumption) | (with_reducible refine Below.alloc ?_ ?_ _) | (with_reducible refine Below.setCell ?_ ?_ _) | (with_reducible refine Below.drew ?_) | (with_reducible refine below_drewN ?_ _) | (with_reducible refine below_via (by with_reducible assumption) ?_ ?_) | go_size)⟩
set_option maxRecDepth 20000 in
set_option maxHeartbeats 4000000 in
theorem iHasSize (nm : ByteArray) (kd p pw po : Int) (sa : Option Addr) (sn sc : Nat) (col : Int) (la : Option Addr) (ln lc : Nat) (zs : List Int) (r : Int) (w : World) (h : Rd w sa sn zs) (hn : sn ≤ 1048576) : Calls Try.prog 88 #[.agg #[.string nm, .int .i64 kd, .int .i64 p, .int .i64 pw, .int .i64 po, .slice sa sn sc, .int .i64 col, .slice la ln lc], .int .i64 r] w fun e w' => e = .returned (.bool (hasB zs r sn)) ∧ Below w.heap.size w w' := by
  have HH := Lib.hid h
  clear h
  go_enter Try.func88, Try.ntmps88
  go_wp2_with (go_at_call 121; refine (iContains sa sn sc zs r _ (HH.out.below (by repeat' (first | (with_reducible exact Below.refl _ _) | (with_reducible assumption) | (with_reducible refine Below.alloc ?_ ?_ _) | (with_reducible refine Below.setCell ?_ ?_ _) | (with_reducible refine Below.drew ?_) | (with_reducible refine below_drewN ?_ _) | (with_reducible refine below_via (by with_reducible assumption) ?_ ?_) | go_size))) hn).mono ?_; rintro e w' ⟨rfl, rfl⟩)
  go_returns
  exact ⟨rfl, by repeat' (first | (with_reducible exact Below.refl _ _) | (with_reducible assumption) | (with_reducible refine Below.alloc ?_ ?_ _) | (with_reducible refine Below.setCell ?_ ?_ _) | (with_reducible refine Below.drew ?_) | (with_reducible refine below_drewN ?_ _) | (with_reducible refine below_via (by with_reducible assumption) ?_ ?_) | go_size)⟩
theorem held_fg (nm : ByteArray) (kd p pw po : Int) (sa : Option Addr) (sn sc : Nat) (col : Int) (la : Option Addr) (ln lc : Nat) (r c : Int) (ga : Option Addr) (gn gc : Nat) (w : World) : ∀ w', Below (w.heap.size + 2) ((w.alloc (.cells #[.string nm, .int .i64 kd, .int .i64 p, .int .i64 pw, .int .i64 po, .slice sa sn sc, .int .i64 col, .slice la ln lc] 60)).alloc (.cells #[.int .i64 r, .int .i64 c, .slice ga gn gc] 62)) w' → Below (w.heap.size + 2) ((w.alloc (.cells #[.string nm, .int .i64 kd, .int .i64 p, .int .i64 pw, .int .i64 po, .slice sa sn sc, .int .i64 col, .slice la ln lc] 60)).alloc (.cells #[.int .i64 r, .int .i64 c, .slice ga gn gc] 62)) w' ∧ w.heap.size < w'.heap.size ∧ w.heap.size + 1 < w'.heap.size ∧ w'.cell? ⟨w.heap.size, 0, none⟩ = some (.string nm) ∧ w'.cell? ⟨w.heap.size, 1, none⟩ = some (.int .i64 kd) ∧ w'.cell? ⟨w.heap.size, 2, none⟩ = some (.int .i64 p) ∧ w'.cell? ⟨w.heap.size, 3, none⟩ = some (.int .i64 pw) ∧ w'.cell? ⟨w.heap.size, 4, none⟩ = some (.int .i64 po) ∧ w'.cell? ⟨w.heap.size, 5, none⟩ = some (.slice sa sn sc) ∧ w'.cell? ⟨w.heap.size, 6, none⟩ = some (.int .i64 col) ∧ w'.cell? ⟨w.heap.size, 7, none⟩ = some (.slice la ln lc) ∧ w'.cell? ⟨w.heap.size + 1, 0, none⟩ = some (.int .i64 r) ∧ w'.cell? ⟨w.heap.size + 1, 1, none⟩ = some (.int .i64 c) ∧ w'.cell? ⟨w.heap.size + 1, 2, none⟩ = some (.slice ga gn gc) := by
  intro w' h
  have hs := h.size
  simp at hs
  refine ⟨h, by omega, by omega, ?_, ?_, ?_, ?_, ?_, ?_, ?_, ?_, ?_, ?_, ?_⟩ <;> (refine (h.cell (p := ⟨_, _, none⟩) (by simp)).trans ?_; simp [go_sem])
set_option maxRecDepth 20000 in
set_option maxHeartbeats 4000000 in
theorem iSymNo (nm : ByteArray) (kd p pw po : Int) (sa : Option Addr) (sn sc : Nat) (col : Int) (la : Option Addr) (ln lc : Nat) (zs : List Int) (r c : Int) (ga : Option Addr) (gn gc : Nat) (w : World) (h : Rd w sa sn zs) (hn : sn ≤ 1048576) (hh : hasB zs r sn = false) :
    Calls Try.prog 84 #[.agg #[.string nm, .int .i64 kd, .int .i64 p, .int .i64 pw, .int .i64 po, .slice sa sn sc, .int .i64 col, .slice la ln lc], .agg #[.int .i64 r, .int .i64 c, .slice ga gn gc]] w fun e w' => e = .returned (.bool false) ∧ Below w.heap.size w w' := by
  have HH := Lib.hid h
  have HF := Lib.hid (held_fg nm kd p pw po sa sn sc col la ln lc r c ga gn gc w)
  clear h
  go_enter Try.func84, Try.ntmps84
  go_wp2_with fail
  obtain ⟨W, hW⟩ : ∃ W : World, W = ((w.alloc (.cells #[.string nm, .int .i64 kd, .int .i64 p, .int .i64 pw, .int .i64 po, .slice sa sn sc, .int .i64 col, .slice la ln lc] 60)).alloc (.cells #[.int .i64 r, .int .i64 c, .slice ga gn gc] 62)) := ⟨_, rfl⟩
  have HBW : Hid (Below w.heap.size w W) := by rw [hW]; unfold Hid; repeat' (first | (with_reducible exact Below.refl _ _) | (with_reducible assumption) | (with_reducible refine Below.alloc ?_ ?_ _) | (with_reducible refine Below.setCell ?_ ?_ _) | (with_reducible refine Below.drew ?_) | (with_reducible refine below_drewN ?_ _) | (with_reducible refine below_via (by with_reducible assumption) ?_ ?_) | go_size)
  have HZW : Hid (W.heap.size = w.heap.size + 2) := by unfold Hid; rw [hW]; simp
  have HCW := HF.out W (by rw [hW]; exact Below.refl _ _)
  rw [← hW]
  clear hW HF
  obtain ⟨-, y0, y1, y2, y3, y4, y5, y6, y7, y8, y9, y10, y11, y12⟩ := HCW
  have HY := Lib.hid (And.intro y0 (And.intro y1 (And.intro y2 (And.intro y3 (And.intro y4 (And.intro y5 (And.intro y6 (And.intro y7 (And.intro y8 (And.intro y9 (And.intro y10 (And.intro y11 y12))))))))))))
  clear y0 y1 y2 y3 y4 y5 y6 y7 y8 y9 y10 y11 y12
  refine wp_region_inv (fun dd ac wz => ∃ (u4 u5 u6 u7 u8 u9 u10 u11 u12 u13 u14 u15 u16 u17 u18 : Value), ac = ({ tmps := #[.agg #[.string nm, .int .i64 kd, .int .i64 p, .int .i64 pw, .int .i64 po, .slice sa sn sc, .int .i64 col, .slice la ln lc], .agg #[.int .i64 r, .int .i64 c, .slice ga gn gc], .pointer (some ⟨w.heap.size, 0, none⟩), .pointer (some ⟨w.heap.size + 1, 0, none⟩), u4, u5, u6, u7, u8, u9, u10, u11, u12, u13, u14, u15, u16, u17, u18], defers := [] } : Act) ∧ Below W.heap.size W wz ∧ (dd 0 = true → u5 = .agg #[.string nm, .int .i64 kd, .int .i64 p, .int .i64 pw, .int .i64 po, .slice sa sn sc, .int .i64 col, .slice la ln lc]) ∧ (dd 1 = true → u6 = .pointer (some ⟨w.heap.size + 1, 0, none⟩)) ∧ (dd 2 = true → u7 = .int .i64 r) ∧ (dd 3 = true → u8 = .bool false) ∧ (dd 4 = true → u9 = .bool false) ∧ (dd 13 = true → u18 = .bool false) ∧ (dd 14 = true → u4 = .bool false)) (by kernel_rfl) (by kernel_rfl) ?_ ?_ ?_
  · exact ⟨_, _, _, _, _, _, _, _, _, _, _, _, _, _, _, rfl, (Below.refl _ _).drew, (fun h => by cases h), (fun h => by cases h), (fun h => by cases h), (fun h => by cases h), (fun h => by cases h), (fun h => by cases h), (fun h => by cases h)⟩
  · refine Steps.cons (fun dd ac wz hI hdd hdep K hK' => ?_) ?_
    · obtain ⟨u4, u5, u6, u7, u8, u9, u10, u11, u12, u13, u14, u15, u16, u17, u18, rfl, hB, f0, f1, f2, f3, f4, f13, f14⟩ := hI
      obtain ⟨y0, y1, y2, y3, y4, y5, y6, y7, y8, y9, y10, y11, y12⟩ := HY.out
      have hcc : ∀ b i, b < W.heap.size → wz.cell? ⟨b, i, none⟩ = W.cell? ⟨b, i, none⟩ := fun b i hb => hB.cell (p := ⟨b, i, none⟩) hb
      have hzz := HZW.out
      have hl0 : w.heap.size < W.heap.size := by omega
      have hl1 : w.heap.size + 1 < W.heap.size := by omega
      go_simp
      refine hK' _ _ ⟨_, _, _, _, _, _, _, _, _, _, _, _, _, _, _, rfl, hB, (fun _ => rfl), f1, f2, f3, f4, f13, f14⟩
    refine Steps.cons (fun dd ac wz hI hdd hdep K hK' => ?_) ?_
    · obtain ⟨u4, u5, u6, u7, u8, u9, u10, u11, u12, u13, u14, u15, u16, u17, u18, rfl, hB, f0, f1, f2, f3, f4, f13, f14⟩ := hI
      go_simp
      refine hK' _ _ ⟨_, _, _, _, _, _, _, _, _, _, _, _, _, _, _, rfl, hB, f0, (fun _ => rfl), f2, f3, f4, f13, f14⟩
    refine Steps.cons (fun dd ac wz hI hdd hdep K hK' => ?_) ?_
    · obtain ⟨u4, u5, u6, u7, u8, u9, u10, u11, u12, u13, u14, u15, u16, u17, u18, rfl, hB, f0, f1, f2, f3, f4, f13, f14⟩ := hI
      have q1 := f1 (hdep 1 rfl)
      subst q1
      obtain ⟨y0, y1, y2, y3, y4, y5, y6, y7, y8, y9, y10, y11, y12⟩ := HY.out
      have hcc : ∀ b i, b < W.heap.size → wz.cell? ⟨b, i, none⟩ = W.cell? ⟨b, i, none⟩ := fun b i hb => hB.cell (p := ⟨b, i, none⟩) hb
      have hzz := HZW.out
      have hl0 : w.heap.size < W.heap.size := by omega
      have hl1 : w.heap.size + 1 < W.heap.size := by omega
      go_simp
      refine hK' _ _ ⟨_, _, _, _, _, _, _, _, _, _, _, _, _, _, _, rfl, hB, f0, f1, (fun _ => rfl), f3, f4, f13, f14⟩
    refine Steps.cons (fun dd ac wz hI hdd hdep K hK' => ?_) ?_
    · obtain ⟨u4, u5, u6, u7, u8, u9, u10, u11, u12, u13, u14, u15, u16, u17, u18, rfl, hB, f0, f1, f2, f3, f4, f13, f14⟩ := hI
      have q0 := f0 (hdep 0 rfl)
      subst q0
      have q2 := f2 (hdep 2 rfl)
      subst q2
      go_simp
      refine (iHasSize nm kd p pw po sa sn sc col la ln lc zs r wz (HH.out.below (HBW.out.trans (hB.mono HBW.out.size))) hn).mono ?_
      rintro e w1' ⟨rfl, hbx⟩
      rw [hh]
      refine hK' _ _ ⟨_, _, _, _, _, _, _, _, _, _, _, _, _, _, _, rfl, (hB.trans (hbx.mono hB.size)), f0, f1, f2, (fun _ => rfl), f4, f13, f14⟩
    refine Steps.cons (fun dd ac wz hI hdd hdep K hK' => ?_) ?_
    · obtain ⟨u4, u5, u6, u7, u8, u9, u10, u11, u12, u13, u14, u15, u16, u17, u18, rfl, hB, f0, f1, f2, f3, f4, f13, f14⟩ := hI
      have q3 := f3 (hdep 3 rfl)
      subst q3
      go_simp
      refine hK' _ _ ⟨_, _, _, _, _, _, _, _, _, _, _, _, _, _, _, rfl, hB, f0, f1, f2, f3, (fun _ => rfl), f13, f14⟩
    refine Steps.cons (fun dd ac wz hI hdd hdep K hK' => ?_) ?_
    · obtain ⟨u4, u5, u6, u7, u8, u9, u10, u11, u12, u13, u14, u15, u16, u17, u18, rfl, hB, f0, f1, f2, f3, f4, f13, f14⟩ := hI
      have q4 := f4 (hdep 4 rfl)
      subst q4
      go_simp
      refine hK' _ _ ⟨_, _, _, _, _, _, _, _, _, _, _, _, _, _, _, rfl, hB, f0, f1, f2, f3, f4, f13, f14⟩
    refine Steps.cons (fun dd ac wz hI hdd hdep K hK' => ?_) ?_
    · obtain ⟨u4, u5, u6, u7, u8, u9, u10, u11, u12, u13, u14, u15, u16, u17, u18, rfl, hB, f0, f1, f2, f3, f4, f13, f14⟩ := hI
      have q4 := f4 (hdep 4 rfl)
      subst q4
      go_simp
      refine hK' _ _ ⟨_, _, _, _, _, _, _, _, _, _, _, _, _, _, _, rfl, hB, f0, f1, f2, f3, f4, f13, f14⟩
    refine Steps.cons (fun dd ac wz hI hdd hdep K hK' => ?_) ?_
    · obtain ⟨u4, u5, u6, u7, u8, u9, u10, u11, u12, u13, u14, u15, u16, u17, u18, rfl, hB, f0, f1, f2, f3, f4, f13, f14⟩ := hI
      have q4 := f4 (hdep 4 rfl)
      subst q4
      go_simp
      refine hK' _ _ ⟨_, _, _, _, _, _, _, _, _, _, _, _, _, _, _, rfl, hB, f0, f1, f2, f3, f4, f13, f14⟩
    refine Steps.cons (fun dd ac wz hI hdd hdep K hK' => ?_) ?_
    · obtain ⟨u4, u5, u6, u7, u8, u9, u10, u11, u12, u13, u14, u15, u16, u17, u18, rfl, hB, f0, f1, f2, f3, f4, f13, f14⟩ := hI
      have q4 := f4 (hdep 4 rfl)
      subst q4
      go_simp
      refine hK' _ _ ⟨_, _, _, _, _, _, _, _, _, _, _, _, _, _, _, rfl, hB, f0, f1, f2, f3, f4, f13, f14⟩
    refine Steps.cons (fun dd ac wz hI hdd hdep K hK' => ?_) ?_
    · obtain ⟨u4, u5, u6, u7, u8, u9, u10, u11, u12, u13, u14, u15, u16, u17, u18, rfl, hB, f0, f1, f2, f3, f4, f13, f14⟩ := hI
      have q4 := f4 (hdep 4 rfl)
      subst q4
      go_simp
      refine hK' _ _ ⟨_, _, _, _, _, _, _, _, _, _, _, _, _, _, _, rfl, hB, f0, f1, f2, f3, f4, f13, f14⟩
    refine Steps.cons (fun dd ac wz hI hdd hdep K hK' => ?_) ?_
    · obtain ⟨u4, u5, u6, u7, u8, u9, u10, u11, u12, u13, u14, u15, u16, u17, u18, rfl, hB, f0, f1, f2, f3, f4, f13, f14⟩ := hI
      have q4 := f4 (hdep 4 rfl)
      subst q4
      go_simp
      refine hK' _ _ ⟨_, _, _, _, _, _, _, _, _, _, _, _, _, _, _, rfl, hB, f0, f1, f2, f3, f4, f13, f14⟩
    refine Steps.cons (fun dd ac wz hI hdd hdep K hK' => ?_) ?_
    · obtain ⟨u4, u5, u6, u7, u8, u9, u10, u11, u12, u13, u14, u15, u16, u17, u18, rfl, hB, f0, f1, f2, f3, f4, f13, f14⟩ := hI
      have q4 := f4 (hdep 4 rfl)
      subst q4
      go_simp
      refine hK' _ _ ⟨_, _, _, _, _, _, _, _, _, _, _, _, _, _, _, rfl, hB, f0, f1, f2, f3, f4, f13, f14⟩
    refine Steps.cons (fun dd ac wz hI hdd hdep K hK' => ?_) ?_
    · obtain ⟨u4, u5, u6, u7, u8, u9, u10, u11, u12, u13, u14, u15, u16, u17, u18, rfl, hB, f0, f1, f2, f3, f4, f13, f14⟩ := hI
      have q4 := f4 (hdep 4 rfl)
      subst q4
      go_simp
      refine hK' _ _ ⟨_, _, _, _, _, _, _, _, _, _, _, _, _, _, _, rfl, hB, f0, f1, f2, f3, f4, f13, f14⟩
    refine Steps.cons (fun dd ac wz hI hdd hdep K hK' => ?_) ?_
    · obtain ⟨u4, u5, u6, u7, u8, u9, u10, u11, u12, u13, u14, u15, u16, u17, u18, rfl, hB, f0, f1, f2, f3, f4, f13, f14⟩ := hI
      have q4 := f4 (hdep 4 rfl)
      subst q4
      go_simp
      refine hK' _ _ ⟨_, _, _, _, _, _, _, _, _, _, _, _, _, _, _, rfl, hB, f0, f1, f2, f3, f4, (fun _ => rfl), f14⟩
    refine Steps.cons (fun dd ac wz hI hdd hdep K hK' => ?_) ?_
    · obtain ⟨u4, u5, u6, u7, u8, u9, u10, u11, u12, u13, u14, u15, u16, u17, u18, rfl, hB, f0, f1, f2, f3, f4, f13, f14⟩ := hI
      have q13 := f13 (hdep 13 rfl)
      subst q13
      go_simp
      refine hK' _ _ ⟨_, _, _, _, _, _, _, _, _, _, _, _, _, _, _, rfl, hB, f0, f1, f2, f3, f4, f13, (fun _ => rfl)⟩
    exact Steps.nil
  · intro dd ac wz hI hall
    obtain ⟨u4, u5, u6, u7, u8, u9, u10, u11, u12, u13, u14, u15, u16, u17, u18, rfl, hB, f0, f1, f2, f3, f4, f13, f14⟩ := hI
    have q14 := f14 (hall 14 (by decide))
    subst q14
    have HBz : Hid (Below w.heap.size w wz) := HBW.out.trans (hB.mono HBW.out.size)
    clear hB f0 f1 f2 f3 f4 f13 f14 hall
    go_wp2
    go_returns
    exact ⟨rfl, HBz.out⟩
set_option maxRecDepth 20000 in
set_option maxHeartbeats 4000000 in
theorem iSymYes2 (nm : ByteArray) (kd p pw po : Int) (sa : Option Addr) (sn sc : Nat) (col : Int) (la : Option Addr) (ln lc : Nat) (zs : List Int) (r c : Int) (ga : Option Addr) (gn gc : Nat) (w : World) (h : Rd w sa sn zs) (hn : sn ≤ 1048576) (hh : hasB zs r sn = true) (hk : kd = 2) (c1 : 1 ≤ col) (c2 : col ≤ 8) :
    Calls Try.prog 84 #[.agg #[.string nm, .int .i64 kd, .int .i64 p, .int .i64 pw, .int .i64 po, .slice sa sn sc, .int .i64 col, .slice la ln lc], .agg #[.int .i64 r, .int .i64 c, .slice ga gn gc]] w fun e w' => e = .returned (.bool (c == 15 + 11 * (col + 2))) ∧ Below w.heap.size w w' := by
  have HH := Lib.hid h
  have HF := Lib.hid (held_fg nm kd p pw po sa sn sc col la ln lc r c ga gn gc w)
  have HK := Lib.hid hk
  clear h hk
  go_enter Try.func84, Try.ntmps84
  go_wp2_with fail
  go_region_held3 (fun w' => Below (w.heap.size + 2) ((w.alloc (.cells #[.string nm, .int .i64 kd, .int .i64 p, .int .i64 pw, .int .i64 po, .slice sa sn sc, .int .i64 col, .slice la ln lc] 60)).alloc (.cells #[.int .i64 r, .int .i64 c, .slice ga gn gc] 62)) w' ∧ w.heap.size < w'.heap.size ∧ w.heap.size + 1 < w'.heap.size ∧ w'.cell? ⟨w.heap.size, 0, none⟩ = some (.string nm) ∧ w'.cell? ⟨w.heap.size, 1, none⟩ = some (.int .i64 kd) ∧ w'.cell? ⟨w.heap.size, 2, none⟩ = some (.int .i64 p) ∧ w'.cell? ⟨w.heap.size, 3, none⟩ = some (.int .i64 pw) ∧ w'.cell? ⟨w.heap.size, 4, none⟩ = some (.int .i64 po) ∧ w'.cell? ⟨w.heap.size, 5, none⟩ = some (.slice sa sn sc) ∧ w'.cell? ⟨w.heap.size, 6, none⟩ = some (.int .i64 col) ∧ w'.cell? ⟨w.heap.size, 7, none⟩ = some (.slice la ln lc) ∧ w'.cell? ⟨w.heap.size + 1, 0, none⟩ = some (.int .i64 r) ∧ w'.cell? ⟨w.heap.size + 1, 1, none⟩ = some (.int .i64 c) ∧ w'.cell? ⟨w.heap.size + 1, 2, none⟩ = some (.slice ga gn gc)) (exact HF.out _ (by repeat' (first | (with_reducible exact Below.refl _ _) | (with_reducible assumption) | (with_reducible refine Below.alloc ?_ ?_ _) | (with_reducible refine Below.setCell ?_ ?_ _) | (with_reducible refine Below.drew ?_) | (with_reducible refine below_drewN ?_ _) | (with_reducible refine below_via (by with_reducible assumption) ?_ ?_) | go_size))) ((first | (go_at_call 88; refine (iHasSize nm kd p pw po sa sn sc col la ln lc zs r _ (HH.out.below (by repeat' (first | (with_reducible exact Below.refl _ _) | (with_reducible assumption) | (with_reducible refine Below.alloc ?_ ?_ _) | (with_reducible refine Below.setCell ?_ ?_ _) | (with_reducible refine Below.drew ?_) | (with_reducible refine below_drewN ?_ _) | (with_reducible refine below_via (by with_reducible assumption) ?_ ?_) | go_size))) hn).mono ?_; rintro e w' ⟨rfl, hb⟩; rw [hh]; obtain ⟨hc, hf⟩ := bcell hb; have hz := hb.size; (try simp at hz); have hz0 : w.heap.size < w'.heap.size := (by omega); have hz1 : w.heap.size + 1 < w'.heap.size := (by omega)) | (go_at_call 120; refine (iKind2 nm kd p pw po sa sn sc col la ln lc _ HK.out).mono ?_; rintro e w' ⟨rfl, hb⟩; obtain ⟨hc, hf⟩ := bcell hb; have hz := hb.size; (try simp at hz); have hz0 : w.heap.size < w'.heap.size := (by omega); have hz1 : w.heap.size + 1 < w'.heap.size := (by omega)) | (go_at_call 163; refine (iColsS nm kd p pw po sa sn sc col la ln lc r _ c1 c2).mono ?_; rintro e w' ⟨rfl, hb⟩; obtain ⟨hc, hf⟩ := bcell hb; have hz := hb.size; (try simp at hz); have hz0 : w.heap.size < w'.heap.size := (by omega); have hz1 : w.heap.size + 1 < w'.heap.size := (by omega))))
  all_goals
    go_wp2
    go_returns
    exact ⟨rfl, by repeat' (first | (with_reducible exact Below.refl _ _) | (with_reducible assumption) | (with_reducible refine Below.alloc ?_ ?_ _) | (with_reducible refine Below.setCell ?_ ?_ _) | (with_reducible refine Below.drew ?_) | (with_reducible refine below_drewN ?_ _) | (with_reducible refine below_via (by with_reducible assumption) ?_ ?_) | go_size)⟩
set_option maxRecDepth 20000 in
set_option maxHeartbeats 4000000 in
theorem iSymYes1 (nm : ByteArray) (kd p pw po : Int) (sa : Option Addr) (sn sc : Nat) (col : Int) (la : Option Addr) (ln lc : Nat) (zs : List Int) (r c : Int) (ga : Option Addr) (gn gc : Nat) (w : World) (h : Rd w sa sn zs) (hn : sn ≤ 1048576) (hh : hasB zs r sn = true) (hk : kd ≠ 2) :
    Calls Try.prog 84 #[.agg #[.string nm, .int .i64 kd, .int .i64 p, .int .i64 pw, .int .i64 po, .slice sa sn sc, .int .i64 col, .slice la ln lc], .agg #[.int .i64 r, .int .i64 c, .slice ga gn gc]] w fun e w' => e = .returned (.bool (c == r)) ∧ Below w.heap.size w w' := by
  have HH := Lib.hid h
  have HF := Lib.hid (held_fg nm kd p pw po sa sn sc col la ln lc r c ga gn gc w)
  have HK := Lib.hid hk
  clear h hk
  go_enter Try.func84, Try.ntmps84
  go_wp2_with fail
  go_region_held3 (fun w' => Below (w.heap.size + 2) ((w.alloc (.cells #[.string nm, .int .i64 kd, .int .i64 p, .int .i64 pw, .int .i64 po, .slice sa sn sc, .int .i64 col, .slice la ln lc] 60)).alloc (.cells #[.int .i64 r, .int .i64 c, .slice ga gn gc] 62)) w' ∧ w.heap.size < w'.heap.size ∧ w.heap.size + 1 < w'.heap.size ∧ w'.cell? ⟨w.heap.size, 0, none⟩ = some (.string nm) ∧ w'.cell? ⟨w.heap.size, 1, none⟩ = some (.int .i64 kd) ∧ w'.cell? ⟨w.heap.size, 2, none⟩ = some (.int .i64 p) ∧ w'.cell? ⟨w.heap.size, 3, none⟩ = some (.int .i64 pw) ∧ w'.cell? ⟨w.heap.size, 4, none⟩ = some (.int .i64 po) ∧ w'.cell? ⟨w.heap.size, 5, none⟩ = some (.slice sa sn sc) ∧ w'.cell? ⟨w.heap.size, 6, none⟩ = some (.int .i64 col) ∧ w'.cell? ⟨w.heap.size, 7, none⟩ = some (.slice la ln lc) ∧ w'.cell? ⟨w.heap.size + 1, 0, none⟩ = some (.int .i64 r) ∧ w'.cell? ⟨w.heap.size + 1, 1, none⟩ = some (.int .i64 c) ∧ w'.cell? ⟨w.heap.size + 1, 2, none⟩ = some (.slice ga gn gc)) (exact HF.out _ (by repeat' (first | (with_reducible exact Below.refl _ _) | (with_reducible assumption) | (with_reducible refine Below.alloc ?_ ?_ _) | (with_reducible refine Below.setCell ?_ ?_ _) | (with_reducible refine Below.drew ?_) | (with_reducible refine below_drewN ?_ _) | (with_reducible refine below_via (by with_reducible assumption) ?_ ?_) | go_size))) ((first | (go_at_call 88; refine (iHasSize nm kd p pw po sa sn sc col la ln lc zs r _ (HH.out.below (by repeat' (first | (with_reducible exact Below.refl _ _) | (with_reducible assumption) | (with_reducible refine Below.alloc ?_ ?_ _) | (with_reducible refine Below.setCell ?_ ?_ _) | (with_reducible refine Below.drew ?_) | (with_reducible refine below_drewN ?_ _) | (with_reducible refine below_via (by with_reducible assumption) ?_ ?_) | go_size))) hn).mono ?_; rintro e w' ⟨rfl, hb⟩; rw [hh]; obtain ⟨hc, hf⟩ := bcell hb; have hz := hb.size; (try simp at hz); have hz0 : w.heap.size < w'.heap.size := (by omega); have hz1 : w.heap.size + 1 < w'.heap.size := (by omega)) | (go_at_call 120; refine (iKind1 nm kd p pw po sa sn sc col la ln lc _ HK.out).mono ?_; rintro e w' ⟨rfl, hb⟩; obtain ⟨hc, hf⟩ := bcell hb; have hz := hb.size; (try simp at hz); have hz0 : w.heap.size < w'.heap.size := (by omega); have hz1 : w.heap.size + 1 < w'.heap.size := (by omega)) | (go_at_call 164; refine (iColsM nm kd p pw po sa sn sc col la ln lc r _).mono ?_; rintro e w' ⟨rfl, hb⟩; obtain ⟨hc, hf⟩ := bcell hb; have hz := hb.size; (try simp at hz); have hz0 : w.heap.size < w'.heap.size := (by omega); have hz1 : w.heap.size + 1 < w'.heap.size := (by omega))))
  all_goals
    go_wp2
    go_returns
    exact ⟨rfl, by repeat' (first | (with_reducible exact Below.refl _ _) | (with_reducible assumption) | (with_reducible refine Below.alloc ?_ ?_ _) | (with_reducible refine Below.setCell ?_ ?_ _) | (with_reducible refine Below.drew ?_) | (with_reducible refine below_drewN ?_ _) | (with_reducible refine below_via (by with_reducible assumption) ?_ ?_) | go_size)⟩
end Go.Proofs.Ytdpifddmhbeklaa
namespace Go.Proofs.Ytdpifddmhbeklaa
open Go.RowKit
set_option linter.unusedVariables false
set_option maxRecDepth 20000 in
set_option maxHeartbeats 4000000 in
theorem iIsFamily (nm : ByteArray) (kd p pw po : Int) (sa : Option Addr) (sn sc : Nat) (zs : List Int) (col : Int) (la : Option Addr) (ln lc : Nat) (ls : List Int) (w : World) (hnm : nm.size ≤ maxLen) (hs : Rd w sa sn zs) (hsn : sn ≤ 1048576) (hl : Rd w la ln ls) (hln : ln ≤ 1048576) :
    Calls Try.prog 82 #[.agg #[.string nm, .int .i64 kd, .int .i64 p, .int .i64 pw, .int .i64 po, .slice sa sn sc, .int .i64 col, .slice la ln lc]] w fun e w' => e = .returned (.bool (famB nm kd p pw po sn zs col ln ls)) ∧ Below w.heap.size w w' := by
  have HS := Lib.hid hs
  have HL := Lib.hid hl
  clear hs hl
  have hEq := eqlFld
  have hGd := grdFld
  cases h1 : nameB nm
  · have HE : Hid (false = famB nm kd p pw po sn zs col ln ls) := by unfold Hid famB; simp [h1]
    go_enter Try.func82, Try.ntmps82
    go_wp2_with (first | (go_at_call 115; refine (iName nm _ hnm).mono ?_; rintro e w' ⟨rfl, rfl⟩) | (go_at_call 59; refine (iIn _ _ _ _).mono ?_; rintro e w' ⟨rfl, rfl⟩) | (go_at_call 117; refine (iMSize _ _).mono ?_; rintro e w' ⟨rfl, rfl⟩) | (go_at_call 118; refine (iIsField _ _ _ _).mono ?_; rintro e w' ⟨rfl, hb⟩; obtain ⟨hc, hf⟩ := bcell hb; have hz := hb.size; (try simp at hz); have hz0 : w.heap.size < w'.heap.size := (by omega)) | (go_at_call 119; refine (iF32 _).mono ?_; rintro e w' ⟨rfl, hb⟩; obtain ⟨hc, hf⟩ := bcell hb; have hz := hb.size; (try simp at hz); have hz0 : w.heap.size < w'.heap.size := (by omega)) | (go_at_call 116; with_reducible show Calls _ _ #[.slice la ln lc, .int .i64 1, .int .i64 80] _ _; refine (iRises la ln lc ls 1 80 _ (HL.out.below (by repeat' (first | (with_reducible exact Below.refl _ _) | (with_reducible assumption) | (with_reducible refine Below.alloc ?_ ?_ _) | (with_reducible refine Below.setCell ?_ ?_ _) | (with_reducible refine Below.drew ?_) | (with_reducible refine below_drewN ?_ _) | (with_reducible refine below_via (by with_reducible assumption) ?_ ?_) | go_size))) hln).mono ?_; rintro e w' ⟨rfl, rfl⟩) | (go_at_call 116; with_reducible show Calls _ _ #[.slice sa sn sc, .int .i64 3, .int .i64 24] _ _; refine (iRises sa sn sc zs 3 24 _ (HS.out.below (by repeat' (first | (with_reducible exact Below.refl _ _) | (with_reducible assumption) | (with_reducible refine Below.alloc ?_ ?_ _) | (with_reducible refine Below.setCell ?_ ?_ _) | (with_reducible refine Below.drew ?_) | (with_reducible refine below_drewN ?_ _) | (with_reducible refine below_via (by with_reducible assumption) ?_ ?_) | go_size))) hsn).mono ?_; rintro e w' ⟨rfl, rfl⟩) | (go_at_call 116; with_reducible show Calls _ _ #[.slice sa sn sc, .int .i64 17, .int .i64 41] _ _; refine (iRises sa sn sc zs 17 41 _ (HS.out.below (by repeat' (first | (with_reducible exact Below.refl _ _) | (with_reducible assumption) | (with_reducible refine Below.alloc ?_ ?_ _) | (with_reducible refine Below.setCell ?_ ?_ _) | (with_reducible refine Below.drew ?_) | (with_reducible refine below_drewN ?_ _) | (with_reducible refine below_via (by with_reducible assumption) ?_ ?_) | go_size))) hsn).mono ?_; rintro e w' ⟨rfl, rfl⟩))
    go_returns
    exact ⟨ret_bool HE.out, by repeat' (first | (with_reducible exact Below.refl _ _) | (with_reducible assumption) | (with_reducible refine Below.alloc ?_ ?_ _) | (with_reducible refine Below.setCell ?_ ?_ _) | (with_reducible refine Below.drew ?_) | (with_reducible refine below_drewN ?_ _) | (with_reducible refine below_via (by with_reducible assumption) ?_ ?_) | go_size)⟩
  cases h2 : inB (sn : Int) 1 8
  · have HE : Hid (false = famB nm kd p pw po sn zs col ln ls) := by unfold Hid famB; rw [h2]; simp
    go_enter Try.func82, Try.ntmps82
    go_wp2_with (first | (go_at_call 115; refine (iName nm _ hnm).mono ?_; rintro e w' ⟨rfl, rfl⟩) | (go_at_call 59; refine (iIn _ _ _ _).mono ?_; rintro e w' ⟨rfl, rfl⟩) | (go_at_call 117; refine (iMSize _ _).mono ?_; rintro e w' ⟨rfl, rfl⟩) | (go_at_call 118; refine (iIsField _ _ _ _).mono ?_; rintro e w' ⟨rfl, hb⟩; obtain ⟨hc, hf⟩ := bcell hb; have hz := hb.size; (try simp at hz); have hz0 : w.heap.size < w'.heap.size := (by omega)) | (go_at_call 119; refine (iF32 _).mono ?_; rintro e w' ⟨rfl, hb⟩; obtain ⟨hc, hf⟩ := bcell hb; have hz := hb.size; (try simp at hz); have hz0 : w.heap.size < w'.heap.size := (by omega)) | (go_at_call 116; with_reducible show Calls _ _ #[.slice la ln lc, .int .i64 1, .int .i64 80] _ _; refine (iRises la ln lc ls 1 80 _ (HL.out.below (by repeat' (first | (with_reducible exact Below.refl _ _) | (with_reducible assumption) | (with_reducible refine Below.alloc ?_ ?_ _) | (with_reducible refine Below.setCell ?_ ?_ _) | (with_reducible refine Below.drew ?_) | (with_reducible refine below_drewN ?_ _) | (with_reducible refine below_via (by with_reducible assumption) ?_ ?_) | go_size))) hln).mono ?_; rintro e w' ⟨rfl, rfl⟩) | (go_at_call 116; with_reducible show Calls _ _ #[.slice sa sn sc, .int .i64 3, .int .i64 24] _ _; refine (iRises sa sn sc zs 3 24 _ (HS.out.below (by repeat' (first | (with_reducible exact Below.refl _ _) | (with_reducible assumption) | (with_reducible refine Below.alloc ?_ ?_ _) | (with_reducible refine Below.setCell ?_ ?_ _) | (with_reducible refine Below.drew ?_) | (with_reducible refine below_drewN ?_ _) | (with_reducible refine below_via (by with_reducible assumption) ?_ ?_) | go_size))) hsn).mono ?_; rintro e w' ⟨rfl, rfl⟩) | (go_at_call 116; with_reducible show Calls _ _ #[.slice sa sn sc, .int .i64 17, .int .i64 41] _ _; refine (iRises sa sn sc zs 17 41 _ (HS.out.below (by repeat' (first | (with_reducible exact Below.refl _ _) | (with_reducible assumption) | (with_reducible refine Below.alloc ?_ ?_ _) | (with_reducible refine Below.setCell ?_ ?_ _) | (with_reducible refine Below.drew ?_) | (with_reducible refine below_drewN ?_ _) | (with_reducible refine below_via (by with_reducible assumption) ?_ ?_) | go_size))) hsn).mono ?_; rintro e w' ⟨rfl, rfl⟩))
    go_returns
    exact ⟨ret_bool HE.out, by repeat' (first | (with_reducible exact Below.refl _ _) | (with_reducible assumption) | (with_reducible refine Below.alloc ?_ ?_ _) | (with_reducible refine Below.setCell ?_ ?_ _) | (with_reducible refine Below.drew ?_) | (with_reducible refine below_drewN ?_ _) | (with_reducible refine below_via (by with_reducible assumption) ?_ ?_) | go_size)⟩
  cases h3 : inB (ln : Int) 1 4
  · have HE : Hid (false = famB nm kd p pw po sn zs col ln ls) := by unfold Hid famB; rw [h3]; simp
    go_enter Try.func82, Try.ntmps82
    go_wp2_with (first | (go_at_call 115; refine (iName nm _ hnm).mono ?_; rintro e w' ⟨rfl, rfl⟩) | (go_at_call 59; refine (iIn _ _ _ _).mono ?_; rintro e w' ⟨rfl, rfl⟩) | (go_at_call 117; refine (iMSize _ _).mono ?_; rintro e w' ⟨rfl, rfl⟩) | (go_at_call 118; refine (iIsField _ _ _ _).mono ?_; rintro e w' ⟨rfl, hb⟩; obtain ⟨hc, hf⟩ := bcell hb; have hz := hb.size; (try simp at hz); have hz0 : w.heap.size < w'.heap.size := (by omega)) | (go_at_call 119; refine (iF32 _).mono ?_; rintro e w' ⟨rfl, hb⟩; obtain ⟨hc, hf⟩ := bcell hb; have hz := hb.size; (try simp at hz); have hz0 : w.heap.size < w'.heap.size := (by omega)) | (go_at_call 116; with_reducible show Calls _ _ #[.slice la ln lc, .int .i64 1, .int .i64 80] _ _; refine (iRises la ln lc ls 1 80 _ (HL.out.below (by repeat' (first | (with_reducible exact Below.refl _ _) | (with_reducible assumption) | (with_reducible refine Below.alloc ?_ ?_ _) | (with_reducible refine Below.setCell ?_ ?_ _) | (with_reducible refine Below.drew ?_) | (with_reducible refine below_drewN ?_ _) | (with_reducible refine below_via (by with_reducible assumption) ?_ ?_) | go_size))) hln).mono ?_; rintro e w' ⟨rfl, rfl⟩) | (go_at_call 116; with_reducible show Calls _ _ #[.slice sa sn sc, .int .i64 3, .int .i64 24] _ _; refine (iRises sa sn sc zs 3 24 _ (HS.out.below (by repeat' (first | (with_reducible exact Below.refl _ _) | (with_reducible assumption) | (with_reducible refine Below.alloc ?_ ?_ _) | (with_reducible refine Below.setCell ?_ ?_ _) | (with_reducible refine Below.drew ?_) | (with_reducible refine below_drewN ?_ _) | (with_reducible refine below_via (by with_reducible assumption) ?_ ?_) | go_size))) hsn).mono ?_; rintro e w' ⟨rfl, rfl⟩) | (go_at_call 116; with_reducible show Calls _ _ #[.slice sa sn sc, .int .i64 17, .int .i64 41] _ _; refine (iRises sa sn sc zs 17 41 _ (HS.out.below (by repeat' (first | (with_reducible exact Below.refl _ _) | (with_reducible assumption) | (with_reducible refine Below.alloc ?_ ?_ _) | (with_reducible refine Below.setCell ?_ ?_ _) | (with_reducible refine Below.drew ?_) | (with_reducible refine below_drewN ?_ _) | (with_reducible refine below_via (by with_reducible assumption) ?_ ?_) | go_size))) hsn).mono ?_; rintro e w' ⟨rfl, rfl⟩))
    go_returns
    exact ⟨ret_bool HE.out, by repeat' (first | (with_reducible exact Below.refl _ _) | (with_reducible assumption) | (with_reducible refine Below.alloc ?_ ?_ _) | (with_reducible refine Below.setCell ?_ ?_ _) | (with_reducible refine Below.drew ?_) | (with_reducible refine below_drewN ?_ _) | (with_reducible refine below_via (by with_reducible assumption) ?_ ?_) | go_size)⟩
  cases h3b : riseB ls 1 80 ln
  · have HE : Hid (false = famB nm kd p pw po sn zs col ln ls) := by unfold Hid famB; rw [h3b]; simp
    go_enter Try.func82, Try.ntmps82
    go_wp2_with (first | (go_at_call 115; refine (iName nm _ hnm).mono ?_; rintro e w' ⟨rfl, rfl⟩) | (go_at_call 59; refine (iIn _ _ _ _).mono ?_; rintro e w' ⟨rfl, rfl⟩) | (go_at_call 117; refine (iMSize _ _).mono ?_; rintro e w' ⟨rfl, rfl⟩) | (go_at_call 118; refine (iIsField _ _ _ _).mono ?_; rintro e w' ⟨rfl, hb⟩; obtain ⟨hc, hf⟩ := bcell hb; have hz := hb.size; (try simp at hz); have hz0 : w.heap.size < w'.heap.size := (by omega)) | (go_at_call 119; refine (iF32 _).mono ?_; rintro e w' ⟨rfl, hb⟩; obtain ⟨hc, hf⟩ := bcell hb; have hz := hb.size; (try simp at hz); have hz0 : w.heap.size < w'.heap.size := (by omega)) | (go_at_call 116; with_reducible show Calls _ _ #[.slice la ln lc, .int .i64 1, .int .i64 80] _ _; refine (iRises la ln lc ls 1 80 _ (HL.out.below (by repeat' (first | (with_reducible exact Below.refl _ _) | (with_reducible assumption) | (with_reducible refine Below.alloc ?_ ?_ _) | (with_reducible refine Below.setCell ?_ ?_ _) | (with_reducible refine Below.drew ?_) | (with_reducible refine below_drewN ?_ _) | (with_reducible refine below_via (by with_reducible assumption) ?_ ?_) | go_size))) hln).mono ?_; rintro e w' ⟨rfl, rfl⟩) | (go_at_call 116; with_reducible show Calls _ _ #[.slice sa sn sc, .int .i64 3, .int .i64 24] _ _; refine (iRises sa sn sc zs 3 24 _ (HS.out.below (by repeat' (first | (with_reducible exact Below.refl _ _) | (with_reducible assumption) | (with_reducible refine Below.alloc ?_ ?_ _) | (with_reducible refine Below.setCell ?_ ?_ _) | (with_reducible refine Below.drew ?_) | (with_reducible refine below_drewN ?_ _) | (with_reducible refine below_via (by with_reducible assumption) ?_ ?_) | go_size))) hsn).mono ?_; rintro e w' ⟨rfl, rfl⟩) | (go_at_call 116; with_reducible show Calls _ _ #[.slice sa sn sc, .int .i64 17, .int .i64 41] _ _; refine (iRises sa sn sc zs 17 41 _ (HS.out.below (by repeat' (first | (with_reducible exact Below.refl _ _) | (with_reducible assumption) | (with_reducible refine Below.alloc ?_ ?_ _) | (with_reducible refine Below.setCell ?_ ?_ _) | (with_reducible refine Below.drew ?_) | (with_reducible refine below_drewN ?_ _) | (with_reducible refine below_via (by with_reducible assumption) ?_ ?_) | go_size))) hsn).mono ?_; rintro e w' ⟨rfl, rfl⟩))
    go_returns
    exact ⟨ret_bool HE.out, by repeat' (first | (with_reducible exact Below.refl _ _) | (with_reducible assumption) | (with_reducible refine Below.alloc ?_ ?_ _) | (with_reducible refine Below.setCell ?_ ?_ _) | (with_reducible refine Below.drew ?_) | (with_reducible refine below_drewN ?_ _) | (with_reducible refine below_via (by with_reducible assumption) ?_ ?_) | go_size)⟩
  by_cases h4 : kd = 2
  · subst h4
    cases h5 : (p == 2 && pw == 5 && po == 37)
    · have HE : Hid (false = famB nm 2 p pw po sn zs col ln ls) := by unfold Hid famB; rw [h5]; simp
      go_enter Try.func82, Try.ntmps82
      go_wp2_with (first | (go_at_call 115; refine (iName nm _ hnm).mono ?_; rintro e w' ⟨rfl, rfl⟩) | (go_at_call 59; refine (iIn _ _ _ _).mono ?_; rintro e w' ⟨rfl, rfl⟩) | (go_at_call 117; refine (iMSize _ _).mono ?_; rintro e w' ⟨rfl, rfl⟩) | (go_at_call 118; refine (iIsField _ _ _ _).mono ?_; rintro e w' ⟨rfl, hb⟩; obtain ⟨hc, hf⟩ := bcell hb; have hz := hb.size; (try simp at hz); have hz0 : w.heap.size < w'.heap.size := (by omega)) | (go_at_call 119; refine (iF32 _).mono ?_; rintro e w' ⟨rfl, hb⟩; obtain ⟨hc, hf⟩ := bcell hb; have hz := hb.size; (try simp at hz); have hz0 : w.heap.size < w'.heap.size := (by omega)) | (go_at_call 116; with_reducible show Calls _ _ #[.slice la ln lc, .int .i64 1, .int .i64 80] _ _; refine (iRises la ln lc ls 1 80 _ (HL.out.below (by repeat' (first | (with_reducible exact Below.refl _ _) | (with_reducible assumption) | (with_reducible refine Below.alloc ?_ ?_ _) | (with_reducible refine Below.setCell ?_ ?_ _) | (with_reducible refine Below.drew ?_) | (with_reducible refine below_drewN ?_ _) | (with_reducible refine below_via (by with_reducible assumption) ?_ ?_) | go_size))) hln).mono ?_; rintro e w' ⟨rfl, rfl⟩) | (go_at_call 116; with_reducible show Calls _ _ #[.slice sa sn sc, .int .i64 3, .int .i64 24] _ _; refine (iRises sa sn sc zs 3 24 _ (HS.out.below (by repeat' (first | (with_reducible exact Below.refl _ _) | (with_reducible assumption) | (with_reducible refine Below.alloc ?_ ?_ _) | (with_reducible refine Below.setCell ?_ ?_ _) | (with_reducible refine Below.drew ?_) | (with_reducible refine below_drewN ?_ _) | (with_reducible refine below_via (by with_reducible assumption) ?_ ?_) | go_size))) hsn).mono ?_; rintro e w' ⟨rfl, rfl⟩) | (go_at_call 116; with_reducible show Calls _ _ #[.slice sa sn sc, .int .i64 17, .int .i64 41] _ _; refine (iRises sa sn sc zs 17 41 _ (HS.out.below (by repeat' (first | (with_reducible exact Below.refl _ _) | (with_reducible assumption) | (with_reducible refine Below.alloc ?_ ?_ _) | (with_reducible refine Below.setCell ?_ ?_ _) | (with_reducible refine Below.drew ?_) | (with_reducible refine below_drewN ?_ _) | (with_reducible refine below_via (by with_reducible assumption) ?_ ?_) | go_size))) hsn).mono ?_; rintro e w' ⟨rfl, rfl⟩))
      go_returns
      exact ⟨ret_bool HE.out, by repeat' (first | (with_reducible exact Below.refl _ _) | (with_reducible assumption) | (with_reducible refine Below.alloc ?_ ?_ _) | (with_reducible refine Below.setCell ?_ ?_ _) | (with_reducible refine Below.drew ?_) | (with_reducible refine below_drewN ?_ _) | (with_reducible refine below_via (by with_reducible assumption) ?_ ?_) | go_size)⟩
    cases h6 : inB col 1 8
    · have HE : Hid (false = famB nm 2 p pw po sn zs col ln ls) := by unfold Hid famB; rw [h6]; simp
      go_enter Try.func82, Try.ntmps82
      go_wp2_with (first | (go_at_call 115; refine (iName nm _ hnm).mono ?_; rintro e w' ⟨rfl, rfl⟩) | (go_at_call 59; refine (iIn _ _ _ _).mono ?_; rintro e w' ⟨rfl, rfl⟩) | (go_at_call 117; refine (iMSize _ _).mono ?_; rintro e w' ⟨rfl, rfl⟩) | (go_at_call 118; refine (iIsField _ _ _ _).mono ?_; rintro e w' ⟨rfl, hb⟩; obtain ⟨hc, hf⟩ := bcell hb; have hz := hb.size; (try simp at hz); have hz0 : w.heap.size < w'.heap.size := (by omega)) | (go_at_call 119; refine (iF32 _).mono ?_; rintro e w' ⟨rfl, hb⟩; obtain ⟨hc, hf⟩ := bcell hb; have hz := hb.size; (try simp at hz); have hz0 : w.heap.size < w'.heap.size := (by omega)) | (go_at_call 116; with_reducible show Calls _ _ #[.slice la ln lc, .int .i64 1, .int .i64 80] _ _; refine (iRises la ln lc ls 1 80 _ (HL.out.below (by repeat' (first | (with_reducible exact Below.refl _ _) | (with_reducible assumption) | (with_reducible refine Below.alloc ?_ ?_ _) | (with_reducible refine Below.setCell ?_ ?_ _) | (with_reducible refine Below.drew ?_) | (with_reducible refine below_drewN ?_ _) | (with_reducible refine below_via (by with_reducible assumption) ?_ ?_) | go_size))) hln).mono ?_; rintro e w' ⟨rfl, rfl⟩) | (go_at_call 116; with_reducible show Calls _ _ #[.slice sa sn sc, .int .i64 3, .int .i64 24] _ _; refine (iRises sa sn sc zs 3 24 _ (HS.out.below (by repeat' (first | (with_reducible exact Below.refl _ _) | (with_reducible assumption) | (with_reducible refine Below.alloc ?_ ?_ _) | (with_reducible refine Below.setCell ?_ ?_ _) | (with_reducible refine Below.drew ?_) | (with_reducible refine below_drewN ?_ _) | (with_reducible refine below_via (by with_reducible assumption) ?_ ?_) | go_size))) hsn).mono ?_; rintro e w' ⟨rfl, rfl⟩) | (go_at_call 116; with_reducible show Calls _ _ #[.slice sa sn sc, .int .i64 17, .int .i64 41] _ _; refine (iRises sa sn sc zs 17 41 _ (HS.out.below (by repeat' (first | (with_reducible exact Below.refl _ _) | (with_reducible assumption) | (with_reducible refine Below.alloc ?_ ?_ _) | (with_reducible refine Below.setCell ?_ ?_ _) | (with_reducible refine Below.drew ?_) | (with_reducible refine below_drewN ?_ _) | (with_reducible refine below_via (by with_reducible assumption) ?_ ?_) | go_size))) hsn).mono ?_; rintro e w' ⟨rfl, rfl⟩))
      go_returns
      exact ⟨ret_bool HE.out, by repeat' (first | (with_reducible exact Below.refl _ _) | (with_reducible assumption) | (with_reducible refine Below.alloc ?_ ?_ _) | (with_reducible refine Below.setCell ?_ ?_ _) | (with_reducible refine Below.drew ?_) | (with_reducible refine below_drewN ?_ _) | (with_reducible refine below_via (by with_reducible assumption) ?_ ?_) | go_size)⟩
    · have HE : Hid (riseB zs 3 24 sn = famB nm 2 p pw po sn zs col ln ls) := by unfold Hid famB; rw [h1, h2, h3, h3b, h5, h6]; simp
      go_enter Try.func82, Try.ntmps82
      go_wp2_with (first | (go_at_call 115; refine (iName nm _ hnm).mono ?_; rintro e w' ⟨rfl, rfl⟩) | (go_at_call 59; refine (iIn _ _ _ _).mono ?_; rintro e w' ⟨rfl, rfl⟩) | (go_at_call 117; refine (iMSize _ _).mono ?_; rintro e w' ⟨rfl, rfl⟩) | (go_at_call 118; refine (iIsField _ _ _ _).mono ?_; rintro e w' ⟨rfl, hb⟩; obtain ⟨hc, hf⟩ := bcell hb; have hz := hb.size; (try simp at hz); have hz0 : w.heap.size < w'.heap.size := (by omega)) | (go_at_call 119; refine (iF32 _).mono ?_; rintro e w' ⟨rfl, hb⟩; obtain ⟨hc, hf⟩ := bcell hb; have hz := hb.size; (try simp at hz); have hz0 : w.heap.size < w'.heap.size := (by omega)) | (go_at_call 116; with_reducible show Calls _ _ #[.slice la ln lc, .int .i64 1, .int .i64 80] _ _; refine (iRises la ln lc ls 1 80 _ (HL.out.below (by repeat' (first | (with_reducible exact Below.refl _ _) | (with_reducible assumption) | (with_reducible refine Below.alloc ?_ ?_ _) | (with_reducible refine Below.setCell ?_ ?_ _) | (with_reducible refine Below.drew ?_) | (with_reducible refine below_drewN ?_ _) | (with_reducible refine below_via (by with_reducible assumption) ?_ ?_) | go_size))) hln).mono ?_; rintro e w' ⟨rfl, rfl⟩) | (go_at_call 116; with_reducible show Calls _ _ #[.slice sa sn sc, .int .i64 3, .int .i64 24] _ _; refine (iRises sa sn sc zs 3 24 _ (HS.out.below (by repeat' (first | (with_reducible exact Below.refl _ _) | (with_reducible assumption) | (with_reducible refine Below.alloc ?_ ?_ _) | (with_reducible refine Below.setCell ?_ ?_ _) | (with_reducible refine Below.drew ?_) | (with_reducible refine below_drewN ?_ _) | (with_reducible refine below_via (by with_reducible assumption) ?_ ?_) | go_size))) hsn).mono ?_; rintro e w' ⟨rfl, rfl⟩) | (go_at_call 116; with_reducible show Calls _ _ #[.slice sa sn sc, .int .i64 17, .int .i64 41] _ _; refine (iRises sa sn sc zs 17 41 _ (HS.out.below (by repeat' (first | (with_reducible exact Below.refl _ _) | (with_reducible assumption) | (with_reducible refine Below.alloc ?_ ?_ _) | (with_reducible refine Below.setCell ?_ ?_ _) | (with_reducible refine Below.drew ?_) | (with_reducible refine below_drewN ?_ _) | (with_reducible refine below_via (by with_reducible assumption) ?_ ?_) | go_size))) hsn).mono ?_; rintro e w' ⟨rfl, rfl⟩))
      go_returns
      exact ⟨ret_bool HE.out, by repeat' (first | (with_reducible exact Below.refl _ _) | (with_reducible assumption) | (with_reducible refine Below.alloc ?_ ?_ _) | (with_reducible refine Below.setCell ?_ ?_ _) | (with_reducible refine Below.drew ?_) | (with_reducible refine below_drewN ?_ _) | (with_reducible refine below_via (by with_reducible assumption) ?_ ?_) | go_size)⟩
  have k2 : (kd == 2) = false := by simp [h4]
  by_cases h5 : kd = 1
  rotate_left
  · have k1 : (kd == 1) = false := by simp [h5]
    have HE : Hid (false = famB nm kd p pw po sn zs col ln ls) := by unfold Hid famB; rw [k1, k2]; simp
    go_enter Try.func82, Try.ntmps82
    go_wp2_with (first | (go_at_call 115; refine (iName nm _ hnm).mono ?_; rintro e w' ⟨rfl, rfl⟩) | (go_at_call 59; refine (iIn _ _ _ _).mono ?_; rintro e w' ⟨rfl, rfl⟩) | (go_at_call 117; refine (iMSize _ _).mono ?_; rintro e w' ⟨rfl, rfl⟩) | (go_at_call 118; refine (iIsField _ _ _ _).mono ?_; rintro e w' ⟨rfl, hb⟩; obtain ⟨hc, hf⟩ := bcell hb; have hz := hb.size; (try simp at hz); have hz0 : w.heap.size < w'.heap.size := (by omega)) | (go_at_call 119; refine (iF32 _).mono ?_; rintro e w' ⟨rfl, hb⟩; obtain ⟨hc, hf⟩ := bcell hb; have hz := hb.size; (try simp at hz); have hz0 : w.heap.size < w'.heap.size := (by omega)) | (go_at_call 116; with_reducible show Calls _ _ #[.slice la ln lc, .int .i64 1, .int .i64 80] _ _; refine (iRises la ln lc ls 1 80 _ (HL.out.below (by repeat' (first | (with_reducible exact Below.refl _ _) | (with_reducible assumption) | (with_reducible refine Below.alloc ?_ ?_ _) | (with_reducible refine Below.setCell ?_ ?_ _) | (with_reducible refine Below.drew ?_) | (with_reducible refine below_drewN ?_ _) | (with_reducible refine below_via (by with_reducible assumption) ?_ ?_) | go_size))) hln).mono ?_; rintro e w' ⟨rfl, rfl⟩) | (go_at_call 116; with_reducible show Calls _ _ #[.slice sa sn sc, .int .i64 3, .int .i64 24] _ _; refine (iRises sa sn sc zs 3 24 _ (HS.out.below (by repeat' (first | (with_reducible exact Below.refl _ _) | (with_reducible assumption) | (with_reducible refine Below.alloc ?_ ?_ _) | (with_reducible refine Below.setCell ?_ ?_ _) | (with_reducible refine Below.drew ?_) | (with_reducible refine below_drewN ?_ _) | (with_reducible refine below_via (by with_reducible assumption) ?_ ?_) | go_size))) hsn).mono ?_; rintro e w' ⟨rfl, rfl⟩) | (go_at_call 116; with_reducible show Calls _ _ #[.slice sa sn sc, .int .i64 17, .int .i64 41] _ _; refine (iRises sa sn sc zs 17 41 _ (HS.out.below (by repeat' (first | (with_reducible exact Below.refl _ _) | (with_reducible assumption) | (with_reducible refine Below.alloc ?_ ?_ _) | (with_reducible refine Below.setCell ?_ ?_ _) | (with_reducible refine Below.drew ?_) | (with_reducible refine below_drewN ?_ _) | (with_reducible refine below_via (by with_reducible assumption) ?_ ?_) | go_size))) hsn).mono ?_; rintro e w' ⟨rfl, rfl⟩))
    go_returns
    exact ⟨ret_bool HE.out, by repeat' (first | (with_reducible exact Below.refl _ _) | (with_reducible assumption) | (with_reducible refine Below.alloc ?_ ?_ _) | (with_reducible refine Below.setCell ?_ ?_ _) | (with_reducible refine Below.drew ?_) | (with_reducible refine below_drewN ?_ _) | (with_reducible refine below_via (by with_reducible assumption) ?_ ?_) | go_size)⟩
  subst h5
  clear h4 k2
  go_enter Try.func82, Try.ntmps82
  go_wp2_with (first | (go_at_call 115; refine (iName nm _ hnm).mono ?_; rintro e w' ⟨rfl, rfl⟩) | (go_at_call 59; refine (iIn _ _ _ _).mono ?_; rintro e w' ⟨rfl, rfl⟩) | (go_at_call 117; refine (iMSize _ _).mono ?_; rintro e w' ⟨rfl, rfl⟩) | (go_at_call 118; refine (iIsField _ _ _ _).mono ?_; rintro e w' ⟨rfl, hb⟩; obtain ⟨hc, hf⟩ := bcell hb; have hz := hb.size; (try simp at hz); have hz0 : w.heap.size < w'.heap.size := (by omega)) | (go_at_call 119; refine (iF32 _).mono ?_; rintro e w' ⟨rfl, hb⟩; obtain ⟨hc, hf⟩ := bcell hb; have hz := hb.size; (try simp at hz); have hz0 : w.heap.size < w'.heap.size := (by omega)) | (go_at_call 116; with_reducible show Calls _ _ #[.slice la ln lc, .int .i64 1, .int .i64 80] _ _; refine (iRises la ln lc ls 1 80 _ (HL.out.below (by repeat' (first | (with_reducible exact Below.refl _ _) | (with_reducible assumption) | (with_reducible refine Below.alloc ?_ ?_ _) | (with_reducible refine Below.setCell ?_ ?_ _) | (with_reducible refine Below.drew ?_) | (with_reducible refine below_drewN ?_ _) | (with_reducible refine below_via (by with_reducible assumption) ?_ ?_) | go_size))) hln).mono ?_; rintro e w' ⟨rfl, rfl⟩) | (go_at_call 116; with_reducible show Calls _ _ #[.slice sa sn sc, .int .i64 3, .int .i64 24] _ _; refine (iRises sa sn sc zs 3 24 _ (HS.out.below (by repeat' (first | (with_reducible exact Below.refl _ _) | (with_reducible assumption) | (with_reducible refine Below.alloc ?_ ?_ _) | (with_reducible refine Below.setCell ?_ ?_ _) | (with_reducible refine Below.drew ?_) | (with_reducible refine below_drewN ?_ _) | (with_reducible refine below_via (by with_reducible assumption) ?_ ?_) | go_size))) hsn).mono ?_; rintro e w' ⟨rfl, rfl⟩) | (go_at_call 116; with_reducible show Calls _ _ #[.slice sa sn sc, .int .i64 17, .int .i64 41] _ _; refine (iRises sa sn sc zs 17 41 _ (HS.out.below (by repeat' (first | (with_reducible exact Below.refl _ _) | (with_reducible assumption) | (with_reducible refine Below.alloc ?_ ?_ _) | (with_reducible refine Below.setCell ?_ ?_ _) | (with_reducible refine Below.drew ?_) | (with_reducible refine below_drewN ?_ _) | (with_reducible refine below_via (by with_reducible assumption) ?_ ?_) | go_size))) hsn).mono ?_; rintro e w' ⟨rfl, rfl⟩))
  go_loopw [38] (fun v wr => ∃ (k : Nat), v = .int .i64 (k : Int) ∧ k ≤ sn ∧ Hid (MatTo zs k) ∧ Hid (Below w.heap.size w wr) ∧ w.heap.size < wr.heap.size ∧ wr.cell? ⟨w.heap.size, 0, none⟩ = some (.string nm) ∧ wr.cell? ⟨w.heap.size, 1, none⟩ = some (.int .i64 1) ∧ wr.cell? ⟨w.heap.size, 2, none⟩ = some (.int .i64 p) ∧ wr.cell? ⟨w.heap.size, 3, none⟩ = some (.int .i64 pw) ∧ wr.cell? ⟨w.heap.size, 4, none⟩ = some (.int .i64 po) ∧ wr.cell? ⟨w.heap.size, 5, none⟩ = some (.slice sa sn sc) ∧ wr.cell? ⟨w.heap.size, 6, none⟩ = some (.int .i64 col) ∧ wr.cell? ⟨w.heap.size, 7, none⟩ = some (.slice la ln lc)) (fun v _ => sn - (intOf v).toNat)
  case atStart => exact ⟨0, rfl, by omega, MatTo.zero _, by unfold Hid; repeat' (first | (with_reducible exact Below.refl _ _) | (with_reducible assumption) | (with_reducible refine Below.alloc ?_ ?_ _) | (with_reducible refine Below.setCell ?_ ?_ _) | (with_reducible refine Below.drew ?_) | (with_reducible refine below_drewN ?_ _) | (with_reducible refine below_via (by with_reducible assumption) ?_ ?_) | go_size), by go_size, by simp [go_sem, *], by simp [go_sem, *], by simp [go_sem, *], by simp [go_sem, *], by simp [go_sem, *], by simp [go_sem, *], by simp [go_sem, *], by simp [go_sem, *]⟩
  case round =>
    obtain ⟨k, rfl, k1, HN, HB, z0, y0, y1, y2, y3, y4, y5, y6, y7⟩ := hrel
    have hbel := HB.out
    by_cases hlt : k < sn
    · have hk : (k : Int) < (sn : Int) := by omega
      have hk0 : (0 : Int) ≤ (k : Int) := by omega
      obtain ⟨b, off, rfl, hb, hcell⟩ := (HS.out.below hbel).2 (by omega)
      have hc := hcell k hlt
      clear hcell
      obtain ⟨z, hz⟩ : ∃ z, zs.getD k 0 = z := ⟨_, rfl⟩
      rw [hz] at hc
      cases he : (inB z 17 41 && (z % 4 == 1))
      · have HE : Hid (false = famB nm 1 p pw po sn zs col ln ls) := by
          have hq : (riseB zs 17 41 sn && matB zs sn) = false := by
            cases hin : inB z 17 41
            · rw [riseB_no hlt (.inl (by rw [hz]; exact hin))]; rfl
            · rw [hin] at he
              rw [matB_no hlt (by rw [hz]; simpa using he)]; simp
          unfold Hid famB; rw [hq]; simp
        clear hz
        go_wp2_with (first | (go_at_call 115; refine (iName nm _ hnm).mono ?_; rintro e w' ⟨rfl, rfl⟩) | (go_at_call 59; refine (iIn _ _ _ _).mono ?_; rintro e w' ⟨rfl, rfl⟩) | (go_at_call 117; refine (iMSize _ _).mono ?_; rintro e w' ⟨rfl, rfl⟩) | (go_at_call 118; refine (iIsField _ _ _ _).mono ?_; rintro e w' ⟨rfl, hb⟩; obtain ⟨hc, hf⟩ := bcell hb; have hz := hb.size; (try simp at hz); have hz0 : w.heap.size < w'.heap.size := (by omega)) | (go_at_call 119; refine (iF32 _).mono ?_; rintro e w' ⟨rfl, hb⟩; obtain ⟨hc, hf⟩ := bcell hb; have hz := hb.size; (try simp at hz); have hz0 : w.heap.size < w'.heap.size := (by omega)) | (go_at_call 116; with_reducible show Calls _ _ #[.slice la ln lc, .int .i64 1, .int .i64 80] _ _; refine (iRises la ln lc ls 1 80 _ (HL.out.below (by repeat' (first | (with_reducible exact Below.refl _ _) | (with_reducible assumption) | (with_reducible refine Below.alloc ?_ ?_ _) | (with_reducible refine Below.setCell ?_ ?_ _) | (with_reducible refine Below.drew ?_) | (with_reducible refine below_drewN ?_ _) | (with_reducible refine below_via (by with_reducible assumption) ?_ ?_) | go_size))) hln).mono ?_; rintro e w' ⟨rfl, rfl⟩) | (go_at_call 116; with_reducible show Calls _ _ #[.slice sa sn sc, .int .i64 3, .int .i64 24] _ _; refine (iRises sa sn sc zs 3 24 _ (HS.out.below (by repeat' (first | (with_reducible exact Below.refl _ _) | (with_reducible assumption) | (with_reducible refine Below.alloc ?_ ?_ _) | (with_reducible refine Below.setCell ?_ ?_ _) | (with_reducible refine Below.drew ?_) | (with_reducible refine below_drewN ?_ _) | (with_reducible refine below_via (by with_reducible assumption) ?_ ?_) | go_size))) hsn).mono ?_; rintro e w' ⟨rfl, rfl⟩) | (go_at_call 116; with_reducible show Calls _ _ #[.slice sa sn sc, .int .i64 17, .int .i64 41] _ _; refine (iRises sa sn sc zs 17 41 _ (HS.out.below (by repeat' (first | (with_reducible exact Below.refl _ _) | (with_reducible assumption) | (with_reducible refine Below.alloc ?_ ?_ _) | (with_reducible refine Below.setCell ?_ ?_ _) | (with_reducible refine Below.drew ?_) | (with_reducible refine below_drewN ?_ _) | (with_reducible refine below_via (by with_reducible assumption) ?_ ?_) | go_size))) hsn).mono ?_; rintro e w' ⟨rfl, rfl⟩))
        go_returns
        exact ⟨ret_bool HE.out, HB.out⟩
      · have HN2 := Lib.hid (HN.out.succ (by rw [hz]; simp at he; exact he.2))
        clear hz
        go_wp2_with (first | (go_at_call 115; refine (iName nm _ hnm).mono ?_; rintro e w' ⟨rfl, rfl⟩) | (go_at_call 59; refine (iIn _ _ _ _).mono ?_; rintro e w' ⟨rfl, rfl⟩) | (go_at_call 117; refine (iMSize _ _).mono ?_; rintro e w' ⟨rfl, rfl⟩) | (go_at_call 118; refine (iIsField _ _ _ _).mono ?_; rintro e w' ⟨rfl, hb⟩; obtain ⟨hc, hf⟩ := bcell hb; have hz := hb.size; (try simp at hz); have hz0 : w.heap.size < w'.heap.size := (by omega)) | (go_at_call 119; refine (iF32 _).mono ?_; rintro e w' ⟨rfl, hb⟩; obtain ⟨hc, hf⟩ := bcell hb; have hz := hb.size; (try simp at hz); have hz0 : w.heap.size < w'.heap.size := (by omega)) | (go_at_call 116; with_reducible show Calls _ _ #[.slice la ln lc, .int .i64 1, .int .i64 80] _ _; refine (iRises la ln lc ls 1 80 _ (HL.out.below (by repeat' (first | (with_reducible exact Below.refl _ _) | (with_reducible assumption) | (with_reducible refine Below.alloc ?_ ?_ _) | (with_reducible refine Below.setCell ?_ ?_ _) | (with_reducible refine Below.drew ?_) | (with_reducible refine below_drewN ?_ _) | (with_reducible refine below_via (by with_reducible assumption) ?_ ?_) | go_size))) hln).mono ?_; rintro e w' ⟨rfl, rfl⟩) | (go_at_call 116; with_reducible show Calls _ _ #[.slice sa sn sc, .int .i64 3, .int .i64 24] _ _; refine (iRises sa sn sc zs 3 24 _ (HS.out.below (by repeat' (first | (with_reducible exact Below.refl _ _) | (with_reducible assumption) | (with_reducible refine Below.alloc ?_ ?_ _) | (with_reducible refine Below.setCell ?_ ?_ _) | (with_reducible refine Below.drew ?_) | (with_reducible refine below_drewN ?_ _) | (with_reducible refine below_via (by with_reducible assumption) ?_ ?_) | go_size))) hsn).mono ?_; rintro e w' ⟨rfl, rfl⟩) | (go_at_call 116; with_reducible show Calls _ _ #[.slice sa sn sc, .int .i64 17, .int .i64 41] _ _; refine (iRises sa sn sc zs 17 41 _ (HS.out.below (by repeat' (first | (with_reducible exact Below.refl _ _) | (with_reducible assumption) | (with_reducible refine Below.alloc ?_ ?_ _) | (with_reducible refine Below.setCell ?_ ?_ _) | (with_reducible refine Below.drew ?_) | (with_reducible refine below_drewN ?_ _) | (with_reducible refine below_via (by with_reducible assumption) ?_ ?_) | go_size))) hsn).mono ?_; rintro e w' ⟨rfl, rfl⟩))
        go_roundw
        case rel => exact ⟨k + 1, by simp, by omega, HN2, HB, z0, y0, y1, y2, y3, y4, y5, y6, y7⟩
        case measure => simp [intOf]; omega
    · obtain rfl : k = sn := by omega
      have hmat : matB zs k = true := matB_yes HN.out
      by_cases h6 : p = 2
      rotate_left
      · have k1' : (p == 2) = false := by simp [h6]
        have HE : Hid (false = famB nm 1 p pw po k zs col ln ls) := by unfold Hid famB; rw [k1']; simp
        go_wp2_with (first | (go_at_call 115; refine (iName nm _ hnm).mono ?_; rintro e w' ⟨rfl, rfl⟩) | (go_at_call 59; refine (iIn _ _ _ _).mono ?_; rintro e w' ⟨rfl, rfl⟩) | (go_at_call 117; refine (iMSize _ _).mono ?_; rintro e w' ⟨rfl, rfl⟩) | (go_at_call 118; refine (iIsField _ _ _ _).mono ?_; rintro e w' ⟨rfl, hb⟩; obtain ⟨hc, hf⟩ := bcell hb; have hz := hb.size; (try simp at hz); have hz0 : w.heap.size < w'.heap.size := (by omega)) | (go_at_call 119; refine (iF32 _).mono ?_; rintro e w' ⟨rfl, hb⟩; obtain ⟨hc, hf⟩ := bcell hb; have hz := hb.size; (try simp at hz); have hz0 : w.heap.size < w'.heap.size := (by omega)) | (go_at_call 116; with_reducible show Calls _ _ #[.slice la ln lc, .int .i64 1, .int .i64 80] _ _; refine (iRises la ln lc ls 1 80 _ (HL.out.below (by repeat' (first | (with_reducible exact Below.refl _ _) | (with_reducible assumption) | (with_reducible refine Below.alloc ?_ ?_ _) | (with_reducible refine Below.setCell ?_ ?_ _) | (with_reducible refine Below.drew ?_) | (with_reducible refine below_drewN ?_ _) | (with_reducible refine below_via (by with_reducible assumption) ?_ ?_) | go_size))) hln).mono ?_; rintro e w' ⟨rfl, rfl⟩) | (go_at_call 116; with_reducible show Calls _ _ #[.slice sa k sc, .int .i64 3, .int .i64 24] _ _; refine (iRises sa k sc zs 3 24 _ (HS.out.below (by repeat' (first | (with_reducible exact Below.refl _ _) | (with_reducible assumption) | (with_reducible refine Below.alloc ?_ ?_ _) | (with_reducible refine Below.setCell ?_ ?_ _) | (with_reducible refine Below.drew ?_) | (with_reducible refine below_drewN ?_ _) | (with_reducible refine below_via (by with_reducible assumption) ?_ ?_) | go_size))) hsn).mono ?_; rintro e w' ⟨rfl, rfl⟩) | (go_at_call 116; with_reducible show Calls _ _ #[.slice sa k sc, .int .i64 17, .int .i64 41] _ _; refine (iRises sa k sc zs 17 41 _ (HS.out.below (by repeat' (first | (with_reducible exact Below.refl _ _) | (with_reducible assumption) | (with_reducible refine Below.alloc ?_ ?_ _) | (with_reducible refine Below.setCell ?_ ?_ _) | (with_reducible refine Below.drew ?_) | (with_reducible refine below_drewN ?_ _) | (with_reducible refine below_via (by with_reducible assumption) ?_ ?_) | go_size))) hsn).mono ?_; rintro e w' ⟨rfl, rfl⟩))
        go_returns
        exact ⟨ret_bool HE.out, by repeat' (first | (with_reducible exact Below.refl _ _) | (with_reducible assumption) | (with_reducible refine Below.alloc ?_ ?_ _) | (with_reducible refine Below.setCell ?_ ?_ _) | (with_reducible refine Below.drew ?_) | (with_reducible refine below_drewN ?_ _) | (with_reducible refine below_via (by with_reducible assumption) ?_ ?_) | go_size)⟩
      subst h6
      cases h7 : fldB 2 pw po
      · have HE : Hid (false = famB nm 1 2 pw po k zs col ln ls) := by unfold Hid famB; rw [h7, eq37 h7]; simp
        go_wp2_with (first | (go_at_call 115; refine (iName nm _ hnm).mono ?_; rintro e w' ⟨rfl, rfl⟩) | (go_at_call 59; refine (iIn _ _ _ _).mono ?_; rintro e w' ⟨rfl, rfl⟩) | (go_at_call 117; refine (iMSize _ _).mono ?_; rintro e w' ⟨rfl, rfl⟩) | (go_at_call 118; refine (iIsField _ _ _ _).mono ?_; rintro e w' ⟨rfl, hb⟩; obtain ⟨hc, hf⟩ := bcell hb; have hz := hb.size; (try simp at hz); have hz0 : w.heap.size < w'.heap.size := (by omega)) | (go_at_call 119; refine (iF32 _).mono ?_; rintro e w' ⟨rfl, hb⟩; obtain ⟨hc, hf⟩ := bcell hb; have hz := hb.size; (try simp at hz); have hz0 : w.heap.size < w'.heap.size := (by omega)) | (go_at_call 116; with_reducible show Calls _ _ #[.slice la ln lc, .int .i64 1, .int .i64 80] _ _; refine (iRises la ln lc ls 1 80 _ (HL.out.below (by repeat' (first | (with_reducible exact Below.refl _ _) | (with_reducible assumption) | (with_reducible refine Below.alloc ?_ ?_ _) | (with_reducible refine Below.setCell ?_ ?_ _) | (with_reducible refine Below.drew ?_) | (with_reducible refine below_drewN ?_ _) | (with_reducible refine below_via (by with_reducible assumption) ?_ ?_) | go_size))) hln).mono ?_; rintro e w' ⟨rfl, rfl⟩) | (go_at_call 116; with_reducible show Calls _ _ #[.slice sa k sc, .int .i64 3, .int .i64 24] _ _; refine (iRises sa k sc zs 3 24 _ (HS.out.below (by repeat' (first | (with_reducible exact Below.refl _ _) | (with_reducible assumption) | (with_reducible refine Below.alloc ?_ ?_ _) | (with_reducible refine Below.setCell ?_ ?_ _) | (with_reducible refine Below.drew ?_) | (with_reducible refine below_drewN ?_ _) | (with_reducible refine below_via (by with_reducible assumption) ?_ ?_) | go_size))) hsn).mono ?_; rintro e w' ⟨rfl, rfl⟩) | (go_at_call 116; with_reducible show Calls _ _ #[.slice sa k sc, .int .i64 17, .int .i64 41] _ _; refine (iRises sa k sc zs 17 41 _ (HS.out.below (by repeat' (first | (with_reducible exact Below.refl _ _) | (with_reducible assumption) | (with_reducible refine Below.alloc ?_ ?_ _) | (with_reducible refine Below.setCell ?_ ?_ _) | (with_reducible refine Below.drew ?_) | (with_reducible refine below_drewN ?_ _) | (with_reducible refine below_via (by with_reducible assumption) ?_ ?_) | go_size))) hsn).mono ?_; rintro e w' ⟨rfl, rfl⟩))
        go_returns
        exact ⟨ret_bool HE.out, by repeat' (first | (with_reducible exact Below.refl _ _) | (with_reducible assumption) | (with_reducible refine Below.alloc ?_ ?_ _) | (with_reducible refine Below.setCell ?_ ?_ _) | (with_reducible refine Below.drew ?_) | (with_reducible refine below_drewN ?_ _) | (with_reducible refine below_via (by with_reducible assumption) ?_ ?_) | go_size)⟩
      by_cases h8 : col = 0
      rotate_left
      · have k1' : (col == 0) = false := by simp [h8]
        have HE : Hid (false = famB nm 1 2 pw po k zs col ln ls) := by unfold Hid famB; rw [k1']; simp
        go_wp2_with (first | (go_at_call 115; refine (iName nm _ hnm).mono ?_; rintro e w' ⟨rfl, rfl⟩) | (go_at_call 59; refine (iIn _ _ _ _).mono ?_; rintro e w' ⟨rfl, rfl⟩) | (go_at_call 117; refine (iMSize _ _).mono ?_; rintro e w' ⟨rfl, rfl⟩) | (go_at_call 118; refine (iIsField _ _ _ _).mono ?_; rintro e w' ⟨rfl, hb⟩; obtain ⟨hc, hf⟩ := bcell hb; have hz := hb.size; (try simp at hz); have hz0 : w.heap.size < w'.heap.size := (by omega)) | (go_at_call 119; refine (iF32 _).mono ?_; rintro e w' ⟨rfl, hb⟩; obtain ⟨hc, hf⟩ := bcell hb; have hz := hb.size; (try simp at hz); have hz0 : w.heap.size < w'.heap.size := (by omega)) | (go_at_call 116; with_reducible show Calls _ _ #[.slice la ln lc, .int .i64 1, .int .i64 80] _ _; refine (iRises la ln lc ls 1 80 _ (HL.out.below (by repeat' (first | (with_reducible exact Below.refl _ _) | (with_reducible assumption) | (with_reducible refine Below.alloc ?_ ?_ _) | (with_reducible refine Below.setCell ?_ ?_ _) | (with_reducible refine Below.drew ?_) | (with_reducible refine below_drewN ?_ _) | (with_reducible refine below_via (by with_reducible assumption) ?_ ?_) | go_size))) hln).mono ?_; rintro e w' ⟨rfl, rfl⟩) | (go_at_call 116; with_reducible show Calls _ _ #[.slice sa k sc, .int .i64 3, .int .i64 24] _ _; refine (iRises sa k sc zs 3 24 _ (HS.out.below (by repeat' (first | (with_reducible exact Below.refl _ _) | (with_reducible assumption) | (with_reducible refine Below.alloc ?_ ?_ _) | (with_reducible refine Below.setCell ?_ ?_ _) | (with_reducible refine Below.drew ?_) | (with_reducible refine below_drewN ?_ _) | (with_reducible refine below_via (by with_reducible assumption) ?_ ?_) | go_size))) hsn).mono ?_; rintro e w' ⟨rfl, rfl⟩) | (go_at_call 116; with_reducible show Calls _ _ #[.slice sa k sc, .int .i64 17, .int .i64 41] _ _; refine (iRises sa k sc zs 17 41 _ (HS.out.below (by repeat' (first | (with_reducible exact Below.refl _ _) | (with_reducible assumption) | (with_reducible refine Below.alloc ?_ ?_ _) | (with_reducible refine Below.setCell ?_ ?_ _) | (with_reducible refine Below.drew ?_) | (with_reducible refine below_drewN ?_ _) | (with_reducible refine below_via (by with_reducible assumption) ?_ ?_) | go_size))) hsn).mono ?_; rintro e w' ⟨rfl, rfl⟩))
        go_returns
        exact ⟨ret_bool HE.out, by repeat' (first | (with_reducible exact Below.refl _ _) | (with_reducible assumption) | (with_reducible refine Below.alloc ?_ ?_ _) | (with_reducible refine Below.setCell ?_ ?_ _) | (with_reducible refine Below.drew ?_) | (with_reducible refine below_drewN ?_ _) | (with_reducible refine below_via (by with_reducible assumption) ?_ ?_) | go_size)⟩
      subst h8
      have HE : Hid (riseB zs 17 41 k = famB nm 1 2 pw po k zs 0 ln ls) := by unfold Hid famB; rw [h1, h2, h3, h3b, h7, hmat]; simp
      go_wp2_with (first | (go_at_call 115; refine (iName nm _ hnm).mono ?_; rintro e w' ⟨rfl, rfl⟩) | (go_at_call 59; refine (iIn _ _ _ _).mono ?_; rintro e w' ⟨rfl, rfl⟩) | (go_at_call 117; refine (iMSize _ _).mono ?_; rintro e w' ⟨rfl, rfl⟩) | (go_at_call 118; refine (iIsField _ _ _ _).mono ?_; rintro e w' ⟨rfl, hb⟩; obtain ⟨hc, hf⟩ := bcell hb; have hz := hb.size; (try simp at hz); have hz0 : w.heap.size < w'.heap.size := (by omega)) | (go_at_call 119; refine (iF32 _).mono ?_; rintro e w' ⟨rfl, hb⟩; obtain ⟨hc, hf⟩ := bcell hb; have hz := hb.size; (try simp at hz); have hz0 : w.heap.size < w'.heap.size := (by omega)) | (go_at_call 116; with_reducible show Calls _ _ #[.slice la ln lc, .int .i64 1, .int .i64 80] _ _; refine (iRises la ln lc ls 1 80 _ (HL.out.below (by repeat' (first | (with_reducible exact Below.refl _ _) | (with_reducible assumption) | (with_reducible refine Below.alloc ?_ ?_ _) | (with_reducible refine Below.setCell ?_ ?_ _) | (with_reducible refine Below.drew ?_) | (with_reducible refine below_drewN ?_ _) | (with_reducible refine below_via (by with_reducible assumption) ?_ ?_) | go_size))) hln).mono ?_; rintro e w' ⟨rfl, rfl⟩) | (go_at_call 116; with_reducible show Calls _ _ #[.slice sa k sc, .int .i64 3, .int .i64 24] _ _; refine (iRises sa k sc zs 3 24 _ (HS.out.below (by repeat' (first | (with_reducible exact Below.refl _ _) | (with_reducible assumption) | (with_reducible refine Below.alloc ?_ ?_ _) | (with_reducible refine Below.setCell ?_ ?_ _) | (with_reducible refine Below.drew ?_) | (with_reducible refine below_drewN ?_ _) | (with_reducible refine below_via (by with_reducible assumption) ?_ ?_) | go_size))) hsn).mono ?_; rintro e w' ⟨rfl, rfl⟩) | (go_at_call 116; with_reducible show Calls _ _ #[.slice sa k sc, .int .i64 17, .int .i64 41] _ _; refine (iRises sa k sc zs 17 41 _ (HS.out.below (by repeat' (first | (with_reducible exact Below.refl _ _) | (with_reducible assumption) | (with_reducible refine Below.alloc ?_ ?_ _) | (with_reducible refine Below.setCell ?_ ?_ _) | (with_reducible refine Below.drew ?_) | (with_reducible refine below_drewN ?_ _) | (with_reducible refine below_via (by with_reducible assumption) ?_ ?_) | go_size))) hsn).mono ?_; rintro e w' ⟨rfl, rfl⟩))
      go_returns
      exact ⟨ret_bool HE.out, by repeat' (first | (with_reducible exact Below.refl _ _) | (with_reducible assumption) | (with_reducible refine Below.alloc ?_ ?_ _) | (with_reducible refine Below.setCell ?_ ?_ _) | (with_reducible refine Below.drew ?_) | (with_reducible refine below_drewN ?_ _) | (with_reducible refine below_via (by with_reducible assumption) ?_ ?_) | go_size)⟩
end Go.Proofs.Ytdpifddmhbeklaa
