/-
  DERIVED. IsField: impl's fill.
-/
import Derived.Test.YtdpifddmhbeklaaFldQ
import Derived.Test.YtdpifddmhbeklaaBin
namespace Go.Proofs.Ytdpifddmhbeklaa
open Go.RowKit
set_option linter.unusedVariables false
theorem iTimesP (bg bp : Nat) (g p x : Int) (w : World) (hp : 3 ≤ p) (hp2 : p ≤ 1021) (g0 : 0 ≤ g) (g1 : g < p) (x0 : 0 ≤ x) (x1 : x < p) (cg : w.cell? ⟨bg, 0, none⟩ = some (.int .i64 g)) (cp : w.cell? ⟨bp, 0, none⟩ = some (.int .i64 p)) :
    Calls Try.prog 143 #[.int .i64 x, .pointer (some ⟨bg, 0, none⟩), .pointer (some ⟨bp, 0, none⟩)] w fun e w' => e = .returned (.int .i64 (Tp p g x)) ∧ w = w' := by
  have q0 : 0 ≤ x * g := Int.mul_nonneg x0 g0
  have q1 : x * g ≤ 1021 * g := Int.mul_le_mul_of_nonneg_right (by omega) g0
  have hpz : ¬ (p = 0) := by omega
  have HE : Hid (x * g % p = Tp p g x) := rfl
  go_enter Try.func143, Try.ntmps143
  go_wp2
  go_returns
  exact ⟨ret_int HE.out, rfl⟩
/-- The cells of a calc: the size stands, all may be written. -/
def CalcB (w : World) (b : Nat) (sz : Int) : Prop := b < w.heap.size ∧ w.cell? ⟨b, 1, none⟩ = some (.int .i64 sz) ∧ ∀ i, i < 2044 → ∃ v, w.cell? ⟨b, i, none⟩ = some v ∧ w.frozen? ⟨b, i, none⟩ = false
theorem CalcB.set {w : World} {b : Nat} {sz : Int} (h : CalcB w b sz) (i : Nat) (hi : i ≠ 1) (v : Value) : CalcB (w.setCell ⟨b, i, none⟩ v) b sz := by
  obtain ⟨h0, h1, h2⟩ := h
  refine ⟨by simpa using h0, by rw [World.cell?_setCell_other _ _ _ _ (by intro h; injection h with h1 h2 h3; omega)]; exact h1, fun j hj => ?_⟩
  obtain ⟨u, hu, hf⟩ := h2 j hj
  by_cases he : j = i
  · subst he
    exact ⟨v, World.cell?_setCell_same w ⟨b, j, none⟩ v hu, by rw [World.frozen?_setCell]; exact hf⟩
  · exact ⟨u, by rw [World.cell?_setCell_other _ _ _ _ (by intro h; injection h with h1 h2 h3; omega)]; exact hu, by rw [World.frozen?_setCell]; exact hf⟩
set_option maxRecDepth 20000 in
set_option maxHeartbeats 2000000 in
theorem iFillP (b bg bp : Nat) (p g : Int) (m : Nat) (hpm : p = (m : Int) + 1) (hm : 2 ≤ m) (hm2 : m ≤ 1020) (w : World) (hB : CalcB w b p) (hp2 : 3 ≤ p) (g0 : 0 ≤ g) (g1 : g < p) (hbg : bg < w.heap.size) (hbp : bp < w.heap.size) (ne1 : bg ≠ b) (ne2 : bp ≠ b) (cg : w.cell? ⟨bg, 0, none⟩ = some (.int .i64 g)) (cp : w.cell? ⟨bp, 0, none⟩ = some (.int .i64 p)) :
    Calls Try.prog 141 #[.pointer (some ⟨b, 0, none⟩), .func (.func 143) #[] #[.pointer (some ⟨bg, 0, none⟩), .pointer (some ⟨bp, 0, none⟩)]] w fun e w' => e = .returned (.bool (fillB (Tp p g) m)) ∧ CalcB w' b p ∧ w.grownBy w' (some b) ∧ w.heap.size = w'.heap.size := by
  have hm0 : (2 : Int) ≤ (m : Int) := by omega
  have HO : Hid (∀ n, 0 ≤ orb (Tp p g) n ∧ orb (Tp p g) n < p) := fun n => orb_in (by omega) (fun x h0 h1 => Tp_in (by omega) g0 x h0 h1) n
  have HB := Lib.hid hB
  have HCG := Lib.hid cg
  have HCP := Lib.hid cp
  have HPM := Lib.hid hpm
  clear hB hpm cg cp
  go_enter Try.func141, Try.ntmps141
  go_wp2
  go_loopw [5, 6] (fun xv nv wr => ∃ (x n : Nat), xv = .int .i64 (x : Int) ∧ nv = .int .i64 (n : Int) ∧ n ≤ m ∧ Hid ((x : Int) = orb (Tp p g) n) ∧ Hid (Goes (Tp p g) n) ∧ Hid (w.grownBy wr (some b)) ∧ Hid (w.heap.size = wr.heap.size) ∧ Hid (CalcB wr b p)) (fun _ n _ => m - (intOf n).toNat)
  case atStart => exact ⟨1, 0, rfl, rfl, by omega, rfl, Goes.zero _, World.grownBy.refl _ _, rfl, HB.out⟩
  case round =>
    obtain ⟨x, n, rfl, rfl, n2, HX, HG, HW, HWZ, HR⟩ := hrel
    obtain ⟨x0, x1⟩ : 0 ≤ (x : Int) ∧ (x : Int) < p := by rw [HX.out]; exact HO.out n
    obtain ⟨z0, z1, HZ'⟩ := HR.out
    have HZ := Lib.hid HZ'
    clear HZ'
    have hpm := HPM.out
    have pm1 : IntKind.i64.wrap (p - 1) = (m : Int) := by rw [IntWalk.i64_in _ (by omega)]; omega
    have pm2 : (p : Int) - 1 = (m : Int) := by omega
    by_cases hn : n < m
    · have hnn : (n : Int) < (m : Int) := by omega
      by_cases hx0 : x = 0
      · subst hx0
        have HE : Hid (false = fillB (Tp p g) m) := (fillB_no (Fills.no hn (.inl HX.out.symm))).symm
        go_wp2
        go_returns
        exact ⟨ret_bool HE.out, HR.out, HW.out, HWZ.out⟩
      have b0 : ((x : Int) == 0) = false := by simp; omega
      have n0 : (0 : Int) ≤ (n : Int) := by omega
      have nb : (n : Int) < 1021 := by omega
      have xb : (x : Int) < 1021 := by omega
      by_cases hx1 : 0 < n ∧ x = 1
      · obtain ⟨hp, rfl⟩ := hx1
        have hpi : (0 : Int) < (n : Int) := by omega
        have HE : Hid (false = fillB (Tp p g) m) := (fillB_no (Fills.no hn (.inr ⟨hp, HX.out.symm⟩))).symm
        go_wp2
        go_returns
        exact ⟨ret_bool HE.out, HR.out, HW.out, HWZ.out⟩
      have HG' : Hid (Goes (Tp p g) (n + 1)) := HG.out.succ (by rw [← HX.out]; omega) (fun hp => by rw [← HX.out]; omega)
      have HS : Hid (Tp p g (x : Int) = orb (Tp p g) (n + 1)) := by unfold Hid; rw [HX.out]; rfl
      obtain ⟨v1, hv1, hf1⟩ := HZ.out (2 + n) (by omega)
      have HR1 := Lib.hid (HR.out.set (2 + n) (by omega) (.int .i64 (x : Int)))
      obtain ⟨v2, hv2, hf2⟩ := HR1.out.2.2 (1023 + x) (by omega)
      have HR2 := Lib.hid (HR1.out.set (1023 + x) (by omega) (.int .i64 (n : Int)))
      have HW2 : Hid (w.grownBy ((wr.setCell ⟨b, 2 + n, none⟩ (.int .i64 (x : Int))).setCell ⟨b, 1023 + x, none⟩ (.int .i64 (n : Int))) (some b)) := only_setCell (only_setCell HW.out _) _
      have HZ2 : Hid (w.heap.size = ((wr.setCell ⟨b, 2 + n, none⟩ (.int .i64 (x : Int))).setCell ⟨b, 1023 + x, none⟩ (.int .i64 (n : Int))).heap.size) := by unfold Hid; simpa using HWZ.out
      by_cases hp : 0 < n
      · have hpi : (0 : Int) < (n : Int) := by omega
        have b1 : ((x : Int) == 1) = false := by simp; omega
        go_wp2_with (go_at_call 143; refine (iTimesP bg bp g p (x : Int) _ hp2 (by omega) g0 g1 x0 x1 ((only_cell HW2.out hbg ne1).trans HCG.out) ((only_cell HW2.out hbp ne2).trans HCP.out)).mono ?_; rintro e w2 ⟨rfl, rfl⟩)
        obtain ⟨y, hy⟩ := Int.eq_ofNat_of_zero_le (show 0 ≤ Tp p g (x : Int) by rw [HS.out]; exact (HO.out _).1)
        go_roundw
        case rel => exact ⟨y, n + 1, by rw [← hpm, hy], by simp, by omega, by rw [← hy]; exact HS.out, HG', HW2, HZ2, HR2⟩
        case measure => simp [intOf]; omega
      · have hpi : ¬ ((0 : Int) < (n : Int)) := by omega
        go_wp2_with (go_at_call 143; refine (iTimesP bg bp g p (x : Int) _ hp2 (by omega) g0 g1 x0 x1 ((only_cell HW2.out hbg ne1).trans HCG.out) ((only_cell HW2.out hbp ne2).trans HCP.out)).mono ?_; rintro e w2 ⟨rfl, rfl⟩)
        obtain ⟨y, hy⟩ := Int.eq_ofNat_of_zero_le (show 0 ≤ Tp p g (x : Int) by rw [HS.out]; exact (HO.out _).1)
        go_roundw
        case rel => exact ⟨y, n + 1, by rw [← hpm, hy], by simp, by omega, by rw [← hy]; exact HS.out, HG', HW2, HZ2, HR2⟩
        case measure => simp [intOf]; omega
    · obtain rfl : n = m := by omega
      have HE : Hid ((orb (Tp p g) n == 1) = fillB (Tp p g) n) := fillB_iff (Fills.of_goes HG.out)
      rw [← HX.out] at HE
      go_wp2
      go_returns
      exact ⟨ret_bool HE.out, HR.out, HW.out, HWZ.out⟩
theorem andT3 : ∀ x, x < 8 → (x * 2 &&& 8) = if x * 2 < 8 then 0 else 8 := by decide +kernel
theorem andV3 (x : Nat) (h : x < 8) : bits .and .i64 ((x : Int) * 2) 8 = if x * 2 < 8 then 0 else 8 := by
  have e : (x : Int) * 2 = ((x * 2 : Nat) : Int) := by omega
  have h2 := and_i64 (x * 2) 8 (by omega) (by omega)
  rw [e]
  refine h2.trans ?_
  rw [andT3 x h]
  split <;> rfl
theorem andT4 : ∀ x, x < 16 → (x * 2 &&& 16) = if x * 2 < 16 then 0 else 16 := by decide +kernel
theorem andV4 (x : Nat) (h : x < 16) : bits .and .i64 ((x : Int) * 2) 16 = if x * 2 < 16 then 0 else 16 := by
  have e : (x : Int) * 2 = ((x * 2 : Nat) : Int) := by omega
  have h2 := and_i64 (x * 2) 16 (by omega) (by omega)
  rw [e]
  refine h2.trans ?_
  rw [andT4 x h]
  split <;> rfl
theorem andT5 : ∀ x, x < 32 → (x * 2 &&& 32) = if x * 2 < 32 then 0 else 32 := by decide +kernel
theorem andV5 (x : Nat) (h : x < 32) : bits .and .i64 ((x : Int) * 2) 32 = if x * 2 < 32 then 0 else 32 := by
  have e : (x : Int) * 2 = ((x * 2 : Nat) : Int) := by omega
  have h2 := and_i64 (x * 2) 32 (by omega) (by omega)
  rw [e]
  refine h2.trans ?_
  rw [andT5 x h]
  split <;> rfl
theorem andT6 : ∀ x, x < 64 → (x * 2 &&& 64) = if x * 2 < 64 then 0 else 64 := by decide +kernel
theorem andV6 (x : Nat) (h : x < 64) : bits .and .i64 ((x : Int) * 2) 64 = if x * 2 < 64 then 0 else 64 := by
  have e : (x : Int) * 2 = ((x * 2 : Nat) : Int) := by omega
  have h2 := and_i64 (x * 2) 64 (by omega) (by omega)
  rw [e]
  refine h2.trans ?_
  rw [andT6 x h]
  split <;> rfl
theorem andT7 : ∀ x, x < 128 → (x * 2 &&& 128) = if x * 2 < 128 then 0 else 128 := by decide +kernel
theorem andV7 (x : Nat) (h : x < 128) : bits .and .i64 ((x : Int) * 2) 128 = if x * 2 < 128 then 0 else 128 := by
  have e : (x : Int) * 2 = ((x * 2 : Nat) : Int) := by omega
  have h2 := and_i64 (x * 2) 128 (by omega) (by omega)
  rw [e]
  refine h2.trans ?_
  rw [andT7 x h]
  split <;> rfl
theorem andT8 : ∀ x, x < 256 → (x * 2 &&& 256) = if x * 2 < 256 then 0 else 256 := by decide +kernel
theorem andV8 (x : Nat) (h : x < 256) : bits .and .i64 ((x : Int) * 2) 256 = if x * 2 < 256 then 0 else 256 := by
  have e : (x : Int) * 2 = ((x * 2 : Nat) : Int) := by omega
  have h2 := and_i64 (x * 2) 256 (by omega) (by omega)
  rw [e]
  refine h2.trans ?_
  rw [andT8 x h]
  split <;> rfl
theorem iTimesB3 (bc b bf : Nat) (po : Int) (x : Nat) (w : World) (p0 : 8 ≤ po) (p1 : po < 16) (x1 : (x : Int) < 8) (cc : w.cell? ⟨bc, 0, none⟩ = some (.pointer (some ⟨b, 0, none⟩))) (c1 : w.cell? ⟨b, 1, none⟩ = some (.int .i64 8)) (cf : w.cell? ⟨bf, 2, none⟩ = some (.int .i64 po)) (hb : b < w.heap.size) (hbf : bf < w.heap.size) :
    Calls Try.prog 142 #[.int .i64 (x : Int), .pointer (some ⟨bc, 0, none⟩), .pointer (some ⟨bf, 0, none⟩)] w fun e w' => e = .returned (.int .i64 (Tb 8 po (x : Int))) ∧ w = w' := by
  by_cases hs : 2 * (x : Int) < 8
  · have ha : bits .and .i64 ((x : Int) * 2) 8 = 0 := by rw [andV3 x (by omega), if_pos (by omega)]
    have HE : Hid ((x : Int) * 2 = Tb 8 po (x : Int)) := by unfold Hid Tb; rw [if_pos hs]; omega
    go_enter Try.func142, Try.ntmps142
    go_wp2
    go_returns
    exact ⟨ret_int HE.out, rfl⟩
  · have ha : bits .and .i64 ((x : Int) * 2) 8 = 8 := by rw [andV3 x (by omega), if_neg (by omega)]
    have HE : Hid (bits .xor .i64 ((x : Int) * 2) po = Tb 8 po (x : Int)) := by unfold Hid Tb; rw [if_neg hs, Int.mul_comm 2 (x : Int)]
    go_enter Try.func142, Try.ntmps142
    go_wp2
    go_returns
    exact ⟨ret_int HE.out, rfl⟩
theorem iTimesB4 (bc b bf : Nat) (po : Int) (x : Nat) (w : World) (p0 : 16 ≤ po) (p1 : po < 32) (x1 : (x : Int) < 16) (cc : w.cell? ⟨bc, 0, none⟩ = some (.pointer (some ⟨b, 0, none⟩))) (c1 : w.cell? ⟨b, 1, none⟩ = some (.int .i64 16)) (cf : w.cell? ⟨bf, 2, none⟩ = some (.int .i64 po)) (hb : b < w.heap.size) (hbf : bf < w.heap.size) :
    Calls Try.prog 142 #[.int .i64 (x : Int), .pointer (some ⟨bc, 0, none⟩), .pointer (some ⟨bf, 0, none⟩)] w fun e w' => e = .returned (.int .i64 (Tb 16 po (x : Int))) ∧ w = w' := by
  by_cases hs : 2 * (x : Int) < 16
  · have ha : bits .and .i64 ((x : Int) * 2) 16 = 0 := by rw [andV4 x (by omega), if_pos (by omega)]
    have HE : Hid ((x : Int) * 2 = Tb 16 po (x : Int)) := by unfold Hid Tb; rw [if_pos hs]; omega
    go_enter Try.func142, Try.ntmps142
    go_wp2
    go_returns
    exact ⟨ret_int HE.out, rfl⟩
  · have ha : bits .and .i64 ((x : Int) * 2) 16 = 16 := by rw [andV4 x (by omega), if_neg (by omega)]
    have HE : Hid (bits .xor .i64 ((x : Int) * 2) po = Tb 16 po (x : Int)) := by unfold Hid Tb; rw [if_neg hs, Int.mul_comm 2 (x : Int)]
    go_enter Try.func142, Try.ntmps142
    go_wp2
    go_returns
    exact ⟨ret_int HE.out, rfl⟩
theorem iTimesB5 (bc b bf : Nat) (po : Int) (x : Nat) (w : World) (p0 : 32 ≤ po) (p1 : po < 64) (x1 : (x : Int) < 32) (cc : w.cell? ⟨bc, 0, none⟩ = some (.pointer (some ⟨b, 0, none⟩))) (c1 : w.cell? ⟨b, 1, none⟩ = some (.int .i64 32)) (cf : w.cell? ⟨bf, 2, none⟩ = some (.int .i64 po)) (hb : b < w.heap.size) (hbf : bf < w.heap.size) :
    Calls Try.prog 142 #[.int .i64 (x : Int), .pointer (some ⟨bc, 0, none⟩), .pointer (some ⟨bf, 0, none⟩)] w fun e w' => e = .returned (.int .i64 (Tb 32 po (x : Int))) ∧ w = w' := by
  by_cases hs : 2 * (x : Int) < 32
  · have ha : bits .and .i64 ((x : Int) * 2) 32 = 0 := by rw [andV5 x (by omega), if_pos (by omega)]
    have HE : Hid ((x : Int) * 2 = Tb 32 po (x : Int)) := by unfold Hid Tb; rw [if_pos hs]; omega
    go_enter Try.func142, Try.ntmps142
    go_wp2
    go_returns
    exact ⟨ret_int HE.out, rfl⟩
  · have ha : bits .and .i64 ((x : Int) * 2) 32 = 32 := by rw [andV5 x (by omega), if_neg (by omega)]
    have HE : Hid (bits .xor .i64 ((x : Int) * 2) po = Tb 32 po (x : Int)) := by unfold Hid Tb; rw [if_neg hs, Int.mul_comm 2 (x : Int)]
    go_enter Try.func142, Try.ntmps142
    go_wp2
    go_returns
    exact ⟨ret_int HE.out, rfl⟩
theorem iTimesB6 (bc b bf : Nat) (po : Int) (x : Nat) (w : World) (p0 : 64 ≤ po) (p1 : po < 128) (x1 : (x : Int) < 64) (cc : w.cell? ⟨bc, 0, none⟩ = some (.pointer (some ⟨b, 0, none⟩))) (c1 : w.cell? ⟨b, 1, none⟩ = some (.int .i64 64)) (cf : w.cell? ⟨bf, 2, none⟩ = some (.int .i64 po)) (hb : b < w.heap.size) (hbf : bf < w.heap.size) :
    Calls Try.prog 142 #[.int .i64 (x : Int), .pointer (some ⟨bc, 0, none⟩), .pointer (some ⟨bf, 0, none⟩)] w fun e w' => e = .returned (.int .i64 (Tb 64 po (x : Int))) ∧ w = w' := by
  by_cases hs : 2 * (x : Int) < 64
  · have ha : bits .and .i64 ((x : Int) * 2) 64 = 0 := by rw [andV6 x (by omega), if_pos (by omega)]
    have HE : Hid ((x : Int) * 2 = Tb 64 po (x : Int)) := by unfold Hid Tb; rw [if_pos hs]; omega
    go_enter Try.func142, Try.ntmps142
    go_wp2
    go_returns
    exact ⟨ret_int HE.out, rfl⟩
  · have ha : bits .and .i64 ((x : Int) * 2) 64 = 64 := by rw [andV6 x (by omega), if_neg (by omega)]
    have HE : Hid (bits .xor .i64 ((x : Int) * 2) po = Tb 64 po (x : Int)) := by unfold Hid Tb; rw [if_neg hs, Int.mul_comm 2 (x : Int)]
    go_enter Try.func142, Try.ntmps142
    go_wp2
    go_returns
    exact ⟨ret_int HE.out, rfl⟩
theorem iTimesB7 (bc b bf : Nat) (po : Int) (x : Nat) (w : World) (p0 : 128 ≤ po) (p1 : po < 256) (x1 : (x : Int) < 128) (cc : w.cell? ⟨bc, 0, none⟩ = some (.pointer (some ⟨b, 0, none⟩))) (c1 : w.cell? ⟨b, 1, none⟩ = some (.int .i64 128)) (cf : w.cell? ⟨bf, 2, none⟩ = some (.int .i64 po)) (hb : b < w.heap.size) (hbf : bf < w.heap.size) :
    Calls Try.prog 142 #[.int .i64 (x : Int), .pointer (some ⟨bc, 0, none⟩), .pointer (some ⟨bf, 0, none⟩)] w fun e w' => e = .returned (.int .i64 (Tb 128 po (x : Int))) ∧ w = w' := by
  by_cases hs : 2 * (x : Int) < 128
  · have ha : bits .and .i64 ((x : Int) * 2) 128 = 0 := by rw [andV7 x (by omega), if_pos (by omega)]
    have HE : Hid ((x : Int) * 2 = Tb 128 po (x : Int)) := by unfold Hid Tb; rw [if_pos hs]; omega
    go_enter Try.func142, Try.ntmps142
    go_wp2
    go_returns
    exact ⟨ret_int HE.out, rfl⟩
  · have ha : bits .and .i64 ((x : Int) * 2) 128 = 128 := by rw [andV7 x (by omega), if_neg (by omega)]
    have HE : Hid (bits .xor .i64 ((x : Int) * 2) po = Tb 128 po (x : Int)) := by unfold Hid Tb; rw [if_neg hs, Int.mul_comm 2 (x : Int)]
    go_enter Try.func142, Try.ntmps142
    go_wp2
    go_returns
    exact ⟨ret_int HE.out, rfl⟩
theorem iTimesB8 (bc b bf : Nat) (po : Int) (x : Nat) (w : World) (p0 : 256 ≤ po) (p1 : po < 512) (x1 : (x : Int) < 256) (cc : w.cell? ⟨bc, 0, none⟩ = some (.pointer (some ⟨b, 0, none⟩))) (c1 : w.cell? ⟨b, 1, none⟩ = some (.int .i64 256)) (cf : w.cell? ⟨bf, 2, none⟩ = some (.int .i64 po)) (hb : b < w.heap.size) (hbf : bf < w.heap.size) :
    Calls Try.prog 142 #[.int .i64 (x : Int), .pointer (some ⟨bc, 0, none⟩), .pointer (some ⟨bf, 0, none⟩)] w fun e w' => e = .returned (.int .i64 (Tb 256 po (x : Int))) ∧ w = w' := by
  by_cases hs : 2 * (x : Int) < 256
  · have ha : bits .and .i64 ((x : Int) * 2) 256 = 0 := by rw [andV8 x (by omega), if_pos (by omega)]
    have HE : Hid ((x : Int) * 2 = Tb 256 po (x : Int)) := by unfold Hid Tb; rw [if_pos hs]; omega
    go_enter Try.func142, Try.ntmps142
    go_wp2
    go_returns
    exact ⟨ret_int HE.out, rfl⟩
  · have ha : bits .and .i64 ((x : Int) * 2) 256 = 256 := by rw [andV8 x (by omega), if_neg (by omega)]
    have HE : Hid (bits .xor .i64 ((x : Int) * 2) po = Tb 256 po (x : Int)) := by unfold Hid Tb; rw [if_neg hs, Int.mul_comm 2 (x : Int)]
    go_enter Try.func142, Try.ntmps142
    go_wp2
    go_returns
    exact ⟨ret_int HE.out, rfl⟩
set_option maxRecDepth 20000 in
set_option maxHeartbeats 2000000 in
theorem iFillB3 (b bc bf : Nat) (po : Int) (m : Nat) (hpm : 8 = (m : Int) + 1) (hm : 2 ≤ m) (hm2 : m ≤ 1020) (w : World) (hB : CalcB w b 8) (p0 : 8 ≤ po) (p1 : po < 16) (hbc : bc < w.heap.size) (hbf : bf < w.heap.size) (ne1 : bc ≠ b) (ne2 : bf ≠ b) (cc : w.cell? ⟨bc, 0, none⟩ = some (.pointer (some ⟨b, 0, none⟩))) (cf : w.cell? ⟨bf, 2, none⟩ = some (.int .i64 po)) :
    Calls Try.prog 141 #[.pointer (some ⟨b, 0, none⟩), .func (.func 142) #[] #[.pointer (some ⟨bc, 0, none⟩), .pointer (some ⟨bf, 0, none⟩)]] w fun e w' => e = .returned (.bool (fillB (Tb 8 po) m)) ∧ CalcB w' b 8 ∧ w.grownBy w' (some b) ∧ w.heap.size = w'.heap.size := by
  have hm0 : (2 : Int) ≤ (m : Int) := by omega
  have HO : Hid (∀ n, 0 ≤ orb (Tb 8 po) n ∧ orb (Tb 8 po) n < 8) := fun n => orb_in (by omega) (fun x h0 h1 => Tb_in (k := 3) (by decide) p0 p1 x h0 h1) n
  have HB := Lib.hid hB
  have HCC := Lib.hid cc
  have HCF := Lib.hid cf
  have HPM := Lib.hid hpm
  clear hB hpm cc cf
  go_enter Try.func141, Try.ntmps141
  go_wp2
  go_loopw [5, 6] (fun xv nv wr => ∃ (x n : Nat), xv = .int .i64 (x : Int) ∧ nv = .int .i64 (n : Int) ∧ n ≤ m ∧ Hid ((x : Int) = orb (Tb 8 po) n) ∧ Hid (Goes (Tb 8 po) n) ∧ Hid (w.grownBy wr (some b)) ∧ Hid (w.heap.size = wr.heap.size) ∧ Hid (CalcB wr b 8)) (fun _ n _ => m - (intOf n).toNat)
  case atStart => exact ⟨1, 0, rfl, rfl, by omega, rfl, Goes.zero _, World.grownBy.refl _ _, rfl, HB.out⟩
  case round =>
    obtain ⟨x, n, rfl, rfl, n2, HX, HG, HW, HWZ, HR⟩ := hrel
    obtain ⟨x0, x1⟩ : 0 ≤ (x : Int) ∧ (x : Int) < 8 := by rw [HX.out]; exact HO.out n
    obtain ⟨z0, z1, HZ'⟩ := HR.out
    have HZ := Lib.hid HZ'
    clear HZ'
    have hpm := HPM.out
    have pm1 : IntKind.i64.wrap (8 - 1) = (m : Int) := by rw [IntWalk.i64_in _ (by omega)]; omega
    have pm2 : (8 : Int) - 1 = (m : Int) := by omega
    by_cases hn : n < m
    · have hnn : (n : Int) < (m : Int) := by omega
      by_cases hx0 : x = 0
      · subst hx0
        have HE : Hid (false = fillB (Tb 8 po) m) := (fillB_no (Fills.no hn (.inl HX.out.symm))).symm
        go_wp2
        go_returns
        exact ⟨ret_bool HE.out, HR.out, HW.out, HWZ.out⟩
      have b0 : ((x : Int) == 0) = false := by simp; omega
      have n0 : (0 : Int) ≤ (n : Int) := by omega
      have nb : (n : Int) < 1021 := by omega
      have xb : (x : Int) < 1021 := by omega
      by_cases hx1 : 0 < n ∧ x = 1
      · obtain ⟨hp, rfl⟩ := hx1
        have hpi : (0 : Int) < (n : Int) := by omega
        have HE : Hid (false = fillB (Tb 8 po) m) := (fillB_no (Fills.no hn (.inr ⟨hp, HX.out.symm⟩))).symm
        go_wp2
        go_returns
        exact ⟨ret_bool HE.out, HR.out, HW.out, HWZ.out⟩
      have HG' : Hid (Goes (Tb 8 po) (n + 1)) := HG.out.succ (by rw [← HX.out]; omega) (fun hp => by rw [← HX.out]; omega)
      have HS : Hid (Tb 8 po (x : Int) = orb (Tb 8 po) (n + 1)) := by unfold Hid; rw [HX.out]; rfl
      obtain ⟨v1, hv1, hf1⟩ := HZ.out (2 + n) (by omega)
      have HR1 := Lib.hid (HR.out.set (2 + n) (by omega) (.int .i64 (x : Int)))
      obtain ⟨v2, hv2, hf2⟩ := HR1.out.2.2 (1023 + x) (by omega)
      have HR2 := Lib.hid (HR1.out.set (1023 + x) (by omega) (.int .i64 (n : Int)))
      have HW2 : Hid (w.grownBy ((wr.setCell ⟨b, 2 + n, none⟩ (.int .i64 (x : Int))).setCell ⟨b, 1023 + x, none⟩ (.int .i64 (n : Int))) (some b)) := only_setCell (only_setCell HW.out _) _
      have HZ2 : Hid (w.heap.size = ((wr.setCell ⟨b, 2 + n, none⟩ (.int .i64 (x : Int))).setCell ⟨b, 1023 + x, none⟩ (.int .i64 (n : Int))).heap.size) := by unfold Hid; simpa using HWZ.out
      by_cases hp : 0 < n
      · have hpi : (0 : Int) < (n : Int) := by omega
        have b1 : ((x : Int) == 1) = false := by simp; omega
        go_wp2_with (go_at_call 142; refine (iTimesB3 bc b bf po x _ p0 p1 x1 ((only_cell HW2.out hbc ne1).trans HCC.out) HR2.out.2.1 ((only_cell HW2.out hbf ne2).trans HCF.out) HR2.out.1 (by rw [← HZ2.out]; exact hbf)).mono ?_; rintro e w2 ⟨rfl, rfl⟩)
        obtain ⟨y, hy⟩ := Int.eq_ofNat_of_zero_le (show 0 ≤ Tb 8 po (x : Int) by rw [HS.out]; exact (HO.out _).1)
        go_roundw
        case rel => exact ⟨y, n + 1, by rw [← hpm, hy], by simp, by omega, by rw [← hy]; exact HS.out, HG', HW2, HZ2, HR2⟩
        case measure => simp [intOf]; omega
      · have hpi : ¬ ((0 : Int) < (n : Int)) := by omega
        go_wp2_with (go_at_call 142; refine (iTimesB3 bc b bf po x _ p0 p1 x1 ((only_cell HW2.out hbc ne1).trans HCC.out) HR2.out.2.1 ((only_cell HW2.out hbf ne2).trans HCF.out) HR2.out.1 (by rw [← HZ2.out]; exact hbf)).mono ?_; rintro e w2 ⟨rfl, rfl⟩)
        obtain ⟨y, hy⟩ := Int.eq_ofNat_of_zero_le (show 0 ≤ Tb 8 po (x : Int) by rw [HS.out]; exact (HO.out _).1)
        go_roundw
        case rel => exact ⟨y, n + 1, by rw [← hpm, hy], by simp, by omega, by rw [← hy]; exact HS.out, HG', HW2, HZ2, HR2⟩
        case measure => simp [intOf]; omega
    · obtain rfl : n = m := by omega
      have HE : Hid ((orb (Tb 8 po) n == 1) = fillB (Tb 8 po) n) := fillB_iff (Fills.of_goes HG.out)
      rw [← HX.out] at HE
      go_wp2
      go_returns
      exact ⟨ret_bool HE.out, HR.out, HW.out, HWZ.out⟩
set_option maxRecDepth 20000 in
set_option maxHeartbeats 2000000 in
theorem iFillB4 (b bc bf : Nat) (po : Int) (m : Nat) (hpm : 16 = (m : Int) + 1) (hm : 2 ≤ m) (hm2 : m ≤ 1020) (w : World) (hB : CalcB w b 16) (p0 : 16 ≤ po) (p1 : po < 32) (hbc : bc < w.heap.size) (hbf : bf < w.heap.size) (ne1 : bc ≠ b) (ne2 : bf ≠ b) (cc : w.cell? ⟨bc, 0, none⟩ = some (.pointer (some ⟨b, 0, none⟩))) (cf : w.cell? ⟨bf, 2, none⟩ = some (.int .i64 po)) :
    Calls Try.prog 141 #[.pointer (some ⟨b, 0, none⟩), .func (.func 142) #[] #[.pointer (some ⟨bc, 0, none⟩), .pointer (some ⟨bf, 0, none⟩)]] w fun e w' => e = .returned (.bool (fillB (Tb 16 po) m)) ∧ CalcB w' b 16 ∧ w.grownBy w' (some b) ∧ w.heap.size = w'.heap.size := by
  have hm0 : (2 : Int) ≤ (m : Int) := by omega
  have HO : Hid (∀ n, 0 ≤ orb (Tb 16 po) n ∧ orb (Tb 16 po) n < 16) := fun n => orb_in (by omega) (fun x h0 h1 => Tb_in (k := 4) (by decide) p0 p1 x h0 h1) n
  have HB := Lib.hid hB
  have HCC := Lib.hid cc
  have HCF := Lib.hid cf
  have HPM := Lib.hid hpm
  clear hB hpm cc cf
  go_enter Try.func141, Try.ntmps141
  go_wp2
  go_loopw [5, 6] (fun xv nv wr => ∃ (x n : Nat), xv = .int .i64 (x : Int) ∧ nv = .int .i64 (n : Int) ∧ n ≤ m ∧ Hid ((x : Int) = orb (Tb 16 po) n) ∧ Hid (Goes (Tb 16 po) n) ∧ Hid (w.grownBy wr (some b)) ∧ Hid (w.heap.size = wr.heap.size) ∧ Hid (CalcB wr b 16)) (fun _ n _ => m - (intOf n).toNat)
  case atStart => exact ⟨1, 0, rfl, rfl, by omega, rfl, Goes.zero _, World.grownBy.refl _ _, rfl, HB.out⟩
  case round =>
    obtain ⟨x, n, rfl, rfl, n2, HX, HG, HW, HWZ, HR⟩ := hrel
    obtain ⟨x0, x1⟩ : 0 ≤ (x : Int) ∧ (x : Int) < 16 := by rw [HX.out]; exact HO.out n
    obtain ⟨z0, z1, HZ'⟩ := HR.out
    have HZ := Lib.hid HZ'
    clear HZ'
    have hpm := HPM.out
    have pm1 : IntKind.i64.wrap (16 - 1) = (m : Int) := by rw [IntWalk.i64_in _ (by omega)]; omega
    have pm2 : (16 : Int) - 1 = (m : Int) := by omega
    by_cases hn : n < m
    · have hnn : (n : Int) < (m : Int) := by omega
      by_cases hx0 : x = 0
      · subst hx0
        have HE : Hid (false = fillB (Tb 16 po) m) := (fillB_no (Fills.no hn (.inl HX.out.symm))).symm
        go_wp2
        go_returns
        exact ⟨ret_bool HE.out, HR.out, HW.out, HWZ.out⟩
      have b0 : ((x : Int) == 0) = false := by simp; omega
      have n0 : (0 : Int) ≤ (n : Int) := by omega
      have nb : (n : Int) < 1021 := by omega
      have xb : (x : Int) < 1021 := by omega
      by_cases hx1 : 0 < n ∧ x = 1
      · obtain ⟨hp, rfl⟩ := hx1
        have hpi : (0 : Int) < (n : Int) := by omega
        have HE : Hid (false = fillB (Tb 16 po) m) := (fillB_no (Fills.no hn (.inr ⟨hp, HX.out.symm⟩))).symm
        go_wp2
        go_returns
        exact ⟨ret_bool HE.out, HR.out, HW.out, HWZ.out⟩
      have HG' : Hid (Goes (Tb 16 po) (n + 1)) := HG.out.succ (by rw [← HX.out]; omega) (fun hp => by rw [← HX.out]; omega)
      have HS : Hid (Tb 16 po (x : Int) = orb (Tb 16 po) (n + 1)) := by unfold Hid; rw [HX.out]; rfl
      obtain ⟨v1, hv1, hf1⟩ := HZ.out (2 + n) (by omega)
      have HR1 := Lib.hid (HR.out.set (2 + n) (by omega) (.int .i64 (x : Int)))
      obtain ⟨v2, hv2, hf2⟩ := HR1.out.2.2 (1023 + x) (by omega)
      have HR2 := Lib.hid (HR1.out.set (1023 + x) (by omega) (.int .i64 (n : Int)))
      have HW2 : Hid (w.grownBy ((wr.setCell ⟨b, 2 + n, none⟩ (.int .i64 (x : Int))).setCell ⟨b, 1023 + x, none⟩ (.int .i64 (n : Int))) (some b)) := only_setCell (only_setCell HW.out _) _
      have HZ2 : Hid (w.heap.size = ((wr.setCell ⟨b, 2 + n, none⟩ (.int .i64 (x : Int))).setCell ⟨b, 1023 + x, none⟩ (.int .i64 (n : Int))).heap.size) := by unfold Hid; simpa using HWZ.out
      by_cases hp : 0 < n
      · have hpi : (0 : Int) < (n : Int) := by omega
        have b1 : ((x : Int) == 1) = false := by simp; omega
        go_wp2_with (go_at_call 142; refine (iTimesB4 bc b bf po x _ p0 p1 x1 ((only_cell HW2.out hbc ne1).trans HCC.out) HR2.out.2.1 ((only_cell HW2.out hbf ne2).trans HCF.out) HR2.out.1 (by rw [← HZ2.out]; exact hbf)).mono ?_; rintro e w2 ⟨rfl, rfl⟩)
        obtain ⟨y, hy⟩ := Int.eq_ofNat_of_zero_le (show 0 ≤ Tb 16 po (x : Int) by rw [HS.out]; exact (HO.out _).1)
        go_roundw
        case rel => exact ⟨y, n + 1, by rw [← hpm, hy], by simp, by omega, by rw [← hy]; exact HS.out, HG', HW2, HZ2, HR2⟩
        case measure => simp [intOf]; omega
      · have hpi : ¬ ((0 : Int) < (n : Int)) := by omega
        go_wp2_with (go_at_call 142; refine (iTimesB4 bc b bf po x _ p0 p1 x1 ((only_cell HW2.out hbc ne1).trans HCC.out) HR2.out.2.1 ((only_cell HW2.out hbf ne2).trans HCF.out) HR2.out.1 (by rw [← HZ2.out]; exact hbf)).mono ?_; rintro e w2 ⟨rfl, rfl⟩)
        obtain ⟨y, hy⟩ := Int.eq_ofNat_of_zero_le (show 0 ≤ Tb 16 po (x : Int) by rw [HS.out]; exact (HO.out _).1)
        go_roundw
        case rel => exact ⟨y, n + 1, by rw [← hpm, hy], by simp, by omega, by rw [← hy]; exact HS.out, HG', HW2, HZ2, HR2⟩
        case measure => simp [intOf]; omega
    · obtain rfl : n = m := by omega
      have HE : Hid ((orb (Tb 16 po) n == 1) = fillB (Tb 16 po) n) := fillB_iff (Fills.of_goes HG.out)
      rw [← HX.out] at HE
      go_wp2
      go_returns
      exact ⟨ret_bool HE.out, HR.out, HW.out, HWZ.out⟩
set_option maxRecDepth 20000 in
set_option maxHeartbeats 2000000 in
theorem iFillB5 (b bc bf : Nat) (po : Int) (m : Nat) (hpm : 32 = (m : Int) + 1) (hm : 2 ≤ m) (hm2 : m ≤ 1020) (w : World) (hB : CalcB w b 32) (p0 : 32 ≤ po) (p1 : po < 64) (hbc : bc < w.heap.size) (hbf : bf < w.heap.size) (ne1 : bc ≠ b) (ne2 : bf ≠ b) (cc : w.cell? ⟨bc, 0, none⟩ = some (.pointer (some ⟨b, 0, none⟩))) (cf : w.cell? ⟨bf, 2, none⟩ = some (.int .i64 po)) :
    Calls Try.prog 141 #[.pointer (some ⟨b, 0, none⟩), .func (.func 142) #[] #[.pointer (some ⟨bc, 0, none⟩), .pointer (some ⟨bf, 0, none⟩)]] w fun e w' => e = .returned (.bool (fillB (Tb 32 po) m)) ∧ CalcB w' b 32 ∧ w.grownBy w' (some b) ∧ w.heap.size = w'.heap.size := by
  have hm0 : (2 : Int) ≤ (m : Int) := by omega
  have HO : Hid (∀ n, 0 ≤ orb (Tb 32 po) n ∧ orb (Tb 32 po) n < 32) := fun n => orb_in (by omega) (fun x h0 h1 => Tb_in (k := 5) (by decide) p0 p1 x h0 h1) n
  have HB := Lib.hid hB
  have HCC := Lib.hid cc
  have HCF := Lib.hid cf
  have HPM := Lib.hid hpm
  clear hB hpm cc cf
  go_enter Try.func141, Try.ntmps141
  go_wp2
  go_loopw [5, 6] (fun xv nv wr => ∃ (x n : Nat), xv = .int .i64 (x : Int) ∧ nv = .int .i64 (n : Int) ∧ n ≤ m ∧ Hid ((x : Int) = orb (Tb 32 po) n) ∧ Hid (Goes (Tb 32 po) n) ∧ Hid (w.grownBy wr (some b)) ∧ Hid (w.heap.size = wr.heap.size) ∧ Hid (CalcB wr b 32)) (fun _ n _ => m - (intOf n).toNat)
  case atStart => exact ⟨1, 0, rfl, rfl, by omega, rfl, Goes.zero _, World.grownBy.refl _ _, rfl, HB.out⟩
  case round =>
    obtain ⟨x, n, rfl, rfl, n2, HX, HG, HW, HWZ, HR⟩ := hrel
    obtain ⟨x0, x1⟩ : 0 ≤ (x : Int) ∧ (x : Int) < 32 := by rw [HX.out]; exact HO.out n
    obtain ⟨z0, z1, HZ'⟩ := HR.out
    have HZ := Lib.hid HZ'
    clear HZ'
    have hpm := HPM.out
    have pm1 : IntKind.i64.wrap (32 - 1) = (m : Int) := by rw [IntWalk.i64_in _ (by omega)]; omega
    have pm2 : (32 : Int) - 1 = (m : Int) := by omega
    by_cases hn : n < m
    · have hnn : (n : Int) < (m : Int) := by omega
      by_cases hx0 : x = 0
      · subst hx0
        have HE : Hid (false = fillB (Tb 32 po) m) := (fillB_no (Fills.no hn (.inl HX.out.symm))).symm
        go_wp2
        go_returns
        exact ⟨ret_bool HE.out, HR.out, HW.out, HWZ.out⟩
      have b0 : ((x : Int) == 0) = false := by simp; omega
      have n0 : (0 : Int) ≤ (n : Int) := by omega
      have nb : (n : Int) < 1021 := by omega
      have xb : (x : Int) < 1021 := by omega
      by_cases hx1 : 0 < n ∧ x = 1
      · obtain ⟨hp, rfl⟩ := hx1
        have hpi : (0 : Int) < (n : Int) := by omega
        have HE : Hid (false = fillB (Tb 32 po) m) := (fillB_no (Fills.no hn (.inr ⟨hp, HX.out.symm⟩))).symm
        go_wp2
        go_returns
        exact ⟨ret_bool HE.out, HR.out, HW.out, HWZ.out⟩
      have HG' : Hid (Goes (Tb 32 po) (n + 1)) := HG.out.succ (by rw [← HX.out]; omega) (fun hp => by rw [← HX.out]; omega)
      have HS : Hid (Tb 32 po (x : Int) = orb (Tb 32 po) (n + 1)) := by unfold Hid; rw [HX.out]; rfl
      obtain ⟨v1, hv1, hf1⟩ := HZ.out (2 + n) (by omega)
      have HR1 := Lib.hid (HR.out.set (2 + n) (by omega) (.int .i64 (x : Int)))
      obtain ⟨v2, hv2, hf2⟩ := HR1.out.2.2 (1023 + x) (by omega)
      have HR2 := Lib.hid (HR1.out.set (1023 + x) (by omega) (.int .i64 (n : Int)))
      have HW2 : Hid (w.grownBy ((wr.setCell ⟨b, 2 + n, none⟩ (.int .i64 (x : Int))).setCell ⟨b, 1023 + x, none⟩ (.int .i64 (n : Int))) (some b)) := only_setCell (only_setCell HW.out _) _
      have HZ2 : Hid (w.heap.size = ((wr.setCell ⟨b, 2 + n, none⟩ (.int .i64 (x : Int))).setCell ⟨b, 1023 + x, none⟩ (.int .i64 (n : Int))).heap.size) := by unfold Hid; simpa using HWZ.out
      by_cases hp : 0 < n
      · have hpi : (0 : Int) < (n : Int) := by omega
        have b1 : ((x : Int) == 1) = false := by simp; omega
        go_wp2_with (go_at_call 142; refine (iTimesB5 bc b bf po x _ p0 p1 x1 ((only_cell HW2.out hbc ne1).trans HCC.out) HR2.out.2.1 ((only_cell HW2.out hbf ne2).trans HCF.out) HR2.out.1 (by rw [← HZ2.out]; exact hbf)).mono ?_; rintro e w2 ⟨rfl, rfl⟩)
        obtain ⟨y, hy⟩ := Int.eq_ofNat_of_zero_le (show 0 ≤ Tb 32 po (x : Int) by rw [HS.out]; exact (HO.out _).1)
        go_roundw
        case rel => exact ⟨y, n + 1, by rw [← hpm, hy], by simp, by omega, by rw [← hy]; exact HS.out, HG', HW2, HZ2, HR2⟩
        case measure => simp [intOf]; omega
      · have hpi : ¬ ((0 : Int) < (n : Int)) := by omega
        go_wp2_with (go_at_call 142; refine (iTimesB5 bc b bf po x _ p0 p1 x1 ((only_cell HW2.out hbc ne1).trans HCC.out) HR2.out.2.1 ((only_cell HW2.out hbf ne2).trans HCF.out) HR2.out.1 (by rw [← HZ2.out]; exact hbf)).mono ?_; rintro e w2 ⟨rfl, rfl⟩)
        obtain ⟨y, hy⟩ := Int.eq_ofNat_of_zero_le (show 0 ≤ Tb 32 po (x : Int) by rw [HS.out]; exact (HO.out _).1)
        go_roundw
        case rel => exact ⟨y, n + 1, by rw [← hpm, hy], by simp, by omega, by rw [← hy]; exact HS.out, HG', HW2, HZ2, HR2⟩
        case measure => simp [intOf]; omega
    · obtain rfl : n = m := by omega
      have HE : Hid ((orb (Tb 32 po) n == 1) = fillB (Tb 32 po) n) := fillB_iff (Fills.of_goes HG.out)
      rw [← HX.out] at HE
      go_wp2
      go_returns
      exact ⟨ret_bool HE.out, HR.out, HW.out, HWZ.out⟩
set_option maxRecDepth 20000 in
set_option maxHeartbeats 2000000 in
theorem iFillB6 (b bc bf : Nat) (po : Int) (m : Nat) (hpm : 64 = (m : Int) + 1) (hm : 2 ≤ m) (hm2 : m ≤ 1020) (w : World) (hB : CalcB w b 64) (p0 : 64 ≤ po) (p1 : po < 128) (hbc : bc < w.heap.size) (hbf : bf < w.heap.size) (ne1 : bc ≠ b) (ne2 : bf ≠ b) (cc : w.cell? ⟨bc, 0, none⟩ = some (.pointer (some ⟨b, 0, none⟩))) (cf : w.cell? ⟨bf, 2, none⟩ = some (.int .i64 po)) :
    Calls Try.prog 141 #[.pointer (some ⟨b, 0, none⟩), .func (.func 142) #[] #[.pointer (some ⟨bc, 0, none⟩), .pointer (some ⟨bf, 0, none⟩)]] w fun e w' => e = .returned (.bool (fillB (Tb 64 po) m)) ∧ CalcB w' b 64 ∧ w.grownBy w' (some b) ∧ w.heap.size = w'.heap.size := by
  have hm0 : (2 : Int) ≤ (m : Int) := by omega
  have HO : Hid (∀ n, 0 ≤ orb (Tb 64 po) n ∧ orb (Tb 64 po) n < 64) := fun n => orb_in (by omega) (fun x h0 h1 => Tb_in (k := 6) (by decide) p0 p1 x h0 h1) n
  have HB := Lib.hid hB
  have HCC := Lib.hid cc
  have HCF := Lib.hid cf
  have HPM := Lib.hid hpm
  clear hB hpm cc cf
  go_enter Try.func141, Try.ntmps141
  go_wp2
  go_loopw [5, 6] (fun xv nv wr => ∃ (x n : Nat), xv = .int .i64 (x : Int) ∧ nv = .int .i64 (n : Int) ∧ n ≤ m ∧ Hid ((x : Int) = orb (Tb 64 po) n) ∧ Hid (Goes (Tb 64 po) n) ∧ Hid (w.grownBy wr (some b)) ∧ Hid (w.heap.size = wr.heap.size) ∧ Hid (CalcB wr b 64)) (fun _ n _ => m - (intOf n).toNat)
  case atStart => exact ⟨1, 0, rfl, rfl, by omega, rfl, Goes.zero _, World.grownBy.refl _ _, rfl, HB.out⟩
  case round =>
    obtain ⟨x, n, rfl, rfl, n2, HX, HG, HW, HWZ, HR⟩ := hrel
    obtain ⟨x0, x1⟩ : 0 ≤ (x : Int) ∧ (x : Int) < 64 := by rw [HX.out]; exact HO.out n
    obtain ⟨z0, z1, HZ'⟩ := HR.out
    have HZ := Lib.hid HZ'
    clear HZ'
    have hpm := HPM.out
    have pm1 : IntKind.i64.wrap (64 - 1) = (m : Int) := by rw [IntWalk.i64_in _ (by omega)]; omega
    have pm2 : (64 : Int) - 1 = (m : Int) := by omega
    by_cases hn : n < m
    · have hnn : (n : Int) < (m : Int) := by omega
      by_cases hx0 : x = 0
      · subst hx0
        have HE : Hid (false = fillB (Tb 64 po) m) := (fillB_no (Fills.no hn (.inl HX.out.symm))).symm
        go_wp2
        go_returns
        exact ⟨ret_bool HE.out, HR.out, HW.out, HWZ.out⟩
      have b0 : ((x : Int) == 0) = false := by simp; omega
      have n0 : (0 : Int) ≤ (n : Int) := by omega
      have nb : (n : Int) < 1021 := by omega
      have xb : (x : Int) < 1021 := by omega
      by_cases hx1 : 0 < n ∧ x = 1
      · obtain ⟨hp, rfl⟩ := hx1
        have hpi : (0 : Int) < (n : Int) := by omega
        have HE : Hid (false = fillB (Tb 64 po) m) := (fillB_no (Fills.no hn (.inr ⟨hp, HX.out.symm⟩))).symm
        go_wp2
        go_returns
        exact ⟨ret_bool HE.out, HR.out, HW.out, HWZ.out⟩
      have HG' : Hid (Goes (Tb 64 po) (n + 1)) := HG.out.succ (by rw [← HX.out]; omega) (fun hp => by rw [← HX.out]; omega)
      have HS : Hid (Tb 64 po (x : Int) = orb (Tb 64 po) (n + 1)) := by unfold Hid; rw [HX.out]; rfl
      obtain ⟨v1, hv1, hf1⟩ := HZ.out (2 + n) (by omega)
      have HR1 := Lib.hid (HR.out.set (2 + n) (by omega) (.int .i64 (x : Int)))
      obtain ⟨v2, hv2, hf2⟩ := HR1.out.2.2 (1023 + x) (by omega)
      have HR2 := Lib.hid (HR1.out.set (1023 + x) (by omega) (.int .i64 (n : Int)))
      have HW2 : Hid (w.grownBy ((wr.setCell ⟨b, 2 + n, none⟩ (.int .i64 (x : Int))).setCell ⟨b, 1023 + x, none⟩ (.int .i64 (n : Int))) (some b)) := only_setCell (only_setCell HW.out _) _
      have HZ2 : Hid (w.heap.size = ((wr.setCell ⟨b, 2 + n, none⟩ (.int .i64 (x : Int))).setCell ⟨b, 1023 + x, none⟩ (.int .i64 (n : Int))).heap.size) := by unfold Hid; simpa using HWZ.out
      by_cases hp : 0 < n
      · have hpi : (0 : Int) < (n : Int) := by omega
        have b1 : ((x : Int) == 1) = false := by simp; omega
        go_wp2_with (go_at_call 142; refine (iTimesB6 bc b bf po x _ p0 p1 x1 ((only_cell HW2.out hbc ne1).trans HCC.out) HR2.out.2.1 ((only_cell HW2.out hbf ne2).trans HCF.out) HR2.out.1 (by rw [← HZ2.out]; exact hbf)).mono ?_; rintro e w2 ⟨rfl, rfl⟩)
        obtain ⟨y, hy⟩ := Int.eq_ofNat_of_zero_le (show 0 ≤ Tb 64 po (x : Int) by rw [HS.out]; exact (HO.out _).1)
        go_roundw
        case rel => exact ⟨y, n + 1, by rw [← hpm, hy], by simp, by omega, by rw [← hy]; exact HS.out, HG', HW2, HZ2, HR2⟩
        case measure => simp [intOf]; omega
      · have hpi : ¬ ((0 : Int) < (n : Int)) := by omega
        go_wp2_with (go_at_call 142; refine (iTimesB6 bc b bf po x _ p0 p1 x1 ((only_cell HW2.out hbc ne1).trans HCC.out) HR2.out.2.1 ((only_cell HW2.out hbf ne2).trans HCF.out) HR2.out.1 (by rw [← HZ2.out]; exact hbf)).mono ?_; rintro e w2 ⟨rfl, rfl⟩)
        obtain ⟨y, hy⟩ := Int.eq_ofNat_of_zero_le (show 0 ≤ Tb 64 po (x : Int) by rw [HS.out]; exact (HO.out _).1)
        go_roundw
        case rel => exact ⟨y, n + 1, by rw [← hpm, hy], by simp, by omega, by rw [← hy]; exact HS.out, HG', HW2, HZ2, HR2⟩
        case measure => simp [intOf]; omega
    · obtain rfl : n = m := by omega
      have HE : Hid ((orb (Tb 64 po) n == 1) = fillB (Tb 64 po) n) := fillB_iff (Fills.of_goes HG.out)
      rw [← HX.out] at HE
      go_wp2
      go_returns
      exact ⟨ret_bool HE.out, HR.out, HW.out, HWZ.out⟩
set_option maxRecDepth 20000 in
set_option maxHeartbeats 2000000 in
theorem iFillB7 (b bc bf : Nat) (po : Int) (m : Nat) (hpm : 128 = (m : Int) + 1) (hm : 2 ≤ m) (hm2 : m ≤ 1020) (w : World) (hB : CalcB w b 128) (p0 : 128 ≤ po) (p1 : po < 256) (hbc : bc < w.heap.size) (hbf : bf < w.heap.size) (ne1 : bc ≠ b) (ne2 : bf ≠ b) (cc : w.cell? ⟨bc, 0, none⟩ = some (.pointer (some ⟨b, 0, none⟩))) (cf : w.cell? ⟨bf, 2, none⟩ = some (.int .i64 po)) :
    Calls Try.prog 141 #[.pointer (some ⟨b, 0, none⟩), .func (.func 142) #[] #[.pointer (some ⟨bc, 0, none⟩), .pointer (some ⟨bf, 0, none⟩)]] w fun e w' => e = .returned (.bool (fillB (Tb 128 po) m)) ∧ CalcB w' b 128 ∧ w.grownBy w' (some b) ∧ w.heap.size = w'.heap.size := by
  have hm0 : (2 : Int) ≤ (m : Int) := by omega
  have HO : Hid (∀ n, 0 ≤ orb (Tb 128 po) n ∧ orb (Tb 128 po) n < 128) := fun n => orb_in (by omega) (fun x h0 h1 => Tb_in (k := 7) (by decide) p0 p1 x h0 h1) n
  have HB := Lib.hid hB
  have HCC := Lib.hid cc
  have HCF := Lib.hid cf
  have HPM := Lib.hid hpm
  clear hB hpm cc cf
  go_enter Try.func141, Try.ntmps141
  go_wp2
  go_loopw [5, 6] (fun xv nv wr => ∃ (x n : Nat), xv = .int .i64 (x : Int) ∧ nv = .int .i64 (n : Int) ∧ n ≤ m ∧ Hid ((x : Int) = orb (Tb 128 po) n) ∧ Hid (Goes (Tb 128 po) n) ∧ Hid (w.grownBy wr (some b)) ∧ Hid (w.heap.size = wr.heap.size) ∧ Hid (CalcB wr b 128)) (fun _ n _ => m - (intOf n).toNat)
  case atStart => exact ⟨1, 0, rfl, rfl, by omega, rfl, Goes.zero _, World.grownBy.refl _ _, rfl, HB.out⟩
  case round =>
    obtain ⟨x, n, rfl, rfl, n2, HX, HG, HW, HWZ, HR⟩ := hrel
    obtain ⟨x0, x1⟩ : 0 ≤ (x : Int) ∧ (x : Int) < 128 := by rw [HX.out]; exact HO.out n
    obtain ⟨z0, z1, HZ'⟩ := HR.out
    have HZ := Lib.hid HZ'
    clear HZ'
    have hpm := HPM.out
    have pm1 : IntKind.i64.wrap (128 - 1) = (m : Int) := by rw [IntWalk.i64_in _ (by omega)]; omega
    have pm2 : (128 : Int) - 1 = (m : Int) := by omega
    by_cases hn : n < m
    · have hnn : (n : Int) < (m : Int) := by omega
      by_cases hx0 : x = 0
      · subst hx0
        have HE : Hid (false = fillB (Tb 128 po) m) := (fillB_no (Fills.no hn (.inl HX.out.symm))).symm
        go_wp2
        go_returns
        exact ⟨ret_bool HE.out, HR.out, HW.out, HWZ.out⟩
      have b0 : ((x : Int) == 0) = false := by simp; omega
      have n0 : (0 : Int) ≤ (n : Int) := by omega
      have nb : (n : Int) < 1021 := by omega
      have xb : (x : Int) < 1021 := by omega
      by_cases hx1 : 0 < n ∧ x = 1
      · obtain ⟨hp, rfl⟩ := hx1
        have hpi : (0 : Int) < (n : Int) := by omega
        have HE : Hid (false = fillB (Tb 128 po) m) := (fillB_no (Fills.no hn (.inr ⟨hp, HX.out.symm⟩))).symm
        go_wp2
        go_returns
        exact ⟨ret_bool HE.out, HR.out, HW.out, HWZ.out⟩
      have HG' : Hid (Goes (Tb 128 po) (n + 1)) := HG.out.succ (by rw [← HX.out]; omega) (fun hp => by rw [← HX.out]; omega)
      have HS : Hid (Tb 128 po (x : Int) = orb (Tb 128 po) (n + 1)) := by unfold Hid; rw [HX.out]; rfl
      obtain ⟨v1, hv1, hf1⟩ := HZ.out (2 + n) (by omega)
      have HR1 := Lib.hid (HR.out.set (2 + n) (by omega) (.int .i64 (x : Int)))
      obtain ⟨v2, hv2, hf2⟩ := HR1.out.2.2 (1023 + x) (by omega)
      have HR2 := Lib.hid (HR1.out.set (1023 + x) (by omega) (.int .i64 (n : Int)))
      have HW2 : Hid (w.grownBy ((wr.setCell ⟨b, 2 + n, none⟩ (.int .i64 (x : Int))).setCell ⟨b, 1023 + x, none⟩ (.int .i64 (n : Int))) (some b)) := only_setCell (only_setCell HW.out _) _
      have HZ2 : Hid (w.heap.size = ((wr.setCell ⟨b, 2 + n, none⟩ (.int .i64 (x : Int))).setCell ⟨b, 1023 + x, none⟩ (.int .i64 (n : Int))).heap.size) := by unfold Hid; simpa using HWZ.out
      by_cases hp : 0 < n
      · have hpi : (0 : Int) < (n : Int) := by omega
        have b1 : ((x : Int) == 1) = false := by simp; omega
        go_wp2_with (go_at_call 142; refine (iTimesB7 bc b bf po x _ p0 p1 x1 ((only_cell HW2.out hbc ne1).trans HCC.out) HR2.out.2.1 ((only_cell HW2.out hbf ne2).trans HCF.out) HR2.out.1 (by rw [← HZ2.out]; exact hbf)).mono ?_; rintro e w2 ⟨rfl, rfl⟩)
        obtain ⟨y, hy⟩ := Int.eq_ofNat_of_zero_le (show 0 ≤ Tb 128 po (x : Int) by rw [HS.out]; exact (HO.out _).1)
        go_roundw
        case rel => exact ⟨y, n + 1, by rw [← hpm, hy], by simp, by omega, by rw [← hy]; exact HS.out, HG', HW2, HZ2, HR2⟩
        case measure => simp [intOf]; omega
      · have hpi : ¬ ((0 : Int) < (n : Int)) := by omega
        go_wp2_with (go_at_call 142; refine (iTimesB7 bc b bf po x _ p0 p1 x1 ((only_cell HW2.out hbc ne1).trans HCC.out) HR2.out.2.1 ((only_cell HW2.out hbf ne2).trans HCF.out) HR2.out.1 (by rw [← HZ2.out]; exact hbf)).mono ?_; rintro e w2 ⟨rfl, rfl⟩)
        obtain ⟨y, hy⟩ := Int.eq_ofNat_of_zero_le (show 0 ≤ Tb 128 po (x : Int) by rw [HS.out]; exact (HO.out _).1)
        go_roundw
        case rel => exact ⟨y, n + 1, by rw [← hpm, hy], by simp, by omega, by rw [← hy]; exact HS.out, HG', HW2, HZ2, HR2⟩
        case measure => simp [intOf]; omega
    · obtain rfl : n = m := by omega
      have HE : Hid ((orb (Tb 128 po) n == 1) = fillB (Tb 128 po) n) := fillB_iff (Fills.of_goes HG.out)
      rw [← HX.out] at HE
      go_wp2
      go_returns
      exact ⟨ret_bool HE.out, HR.out, HW.out, HWZ.out⟩
set_option maxRecDepth 20000 in
set_option maxHeartbeats 2000000 in
theorem iFillB8 (b bc bf : Nat) (po : Int) (m : Nat) (hpm : 256 = (m : Int) + 1) (hm : 2 ≤ m) (hm2 : m ≤ 1020) (w : World) (hB : CalcB w b 256) (p0 : 256 ≤ po) (p1 : po < 512) (hbc : bc < w.heap.size) (hbf : bf < w.heap.size) (ne1 : bc ≠ b) (ne2 : bf ≠ b) (cc : w.cell? ⟨bc, 0, none⟩ = some (.pointer (some ⟨b, 0, none⟩))) (cf : w.cell? ⟨bf, 2, none⟩ = some (.int .i64 po)) :
    Calls Try.prog 141 #[.pointer (some ⟨b, 0, none⟩), .func (.func 142) #[] #[.pointer (some ⟨bc, 0, none⟩), .pointer (some ⟨bf, 0, none⟩)]] w fun e w' => e = .returned (.bool (fillB (Tb 256 po) m)) ∧ CalcB w' b 256 ∧ w.grownBy w' (some b) ∧ w.heap.size = w'.heap.size := by
  have hm0 : (2 : Int) ≤ (m : Int) := by omega
  have HO : Hid (∀ n, 0 ≤ orb (Tb 256 po) n ∧ orb (Tb 256 po) n < 256) := fun n => orb_in (by omega) (fun x h0 h1 => Tb_in (k := 8) (by decide) p0 p1 x h0 h1) n
  have HB := Lib.hid hB
  have HCC := Lib.hid cc
  have HCF := Lib.hid cf
  have HPM := Lib.hid hpm
  clear hB hpm cc cf
  go_enter Try.func141, Try.ntmps141
  go_wp2
  go_loopw [5, 6] (fun xv nv wr => ∃ (x n : Nat), xv = .int .i64 (x : Int) ∧ nv = .int .i64 (n : Int) ∧ n ≤ m ∧ Hid ((x : Int) = orb (Tb 256 po) n) ∧ Hid (Goes (Tb 256 po) n) ∧ Hid (w.grownBy wr (some b)) ∧ Hid (w.heap.size = wr.heap.size) ∧ Hid (CalcB wr b 256)) (fun _ n _ => m - (intOf n).toNat)
  case atStart => exact ⟨1, 0, rfl, rfl, by omega, rfl, Goes.zero _, World.grownBy.refl _ _, rfl, HB.out⟩
  case round =>
    obtain ⟨x, n, rfl, rfl, n2, HX, HG, HW, HWZ, HR⟩ := hrel
    obtain ⟨x0, x1⟩ : 0 ≤ (x : Int) ∧ (x : Int) < 256 := by rw [HX.out]; exact HO.out n
    obtain ⟨z0, z1, HZ'⟩ := HR.out
    have HZ := Lib.hid HZ'
    clear HZ'
    have hpm := HPM.out
    have pm1 : IntKind.i64.wrap (256 - 1) = (m : Int) := by rw [IntWalk.i64_in _ (by omega)]; omega
    have pm2 : (256 : Int) - 1 = (m : Int) := by omega
    by_cases hn : n < m
    · have hnn : (n : Int) < (m : Int) := by omega
      by_cases hx0 : x = 0
      · subst hx0
        have HE : Hid (false = fillB (Tb 256 po) m) := (fillB_no (Fills.no hn (.inl HX.out.symm))).symm
        go_wp2
        go_returns
        exact ⟨ret_bool HE.out, HR.out, HW.out, HWZ.out⟩
      have b0 : ((x : Int) == 0) = false := by simp; omega
      have n0 : (0 : Int) ≤ (n : Int) := by omega
      have nb : (n : Int) < 1021 := by omega
      have xb : (x : Int) < 1021 := by omega
      by_cases hx1 : 0 < n ∧ x = 1
      · obtain ⟨hp, rfl⟩ := hx1
        have hpi : (0 : Int) < (n : Int) := by omega
        have HE : Hid (false = fillB (Tb 256 po) m) := (fillB_no (Fills.no hn (.inr ⟨hp, HX.out.symm⟩))).symm
        go_wp2
        go_returns
        exact ⟨ret_bool HE.out, HR.out, HW.out, HWZ.out⟩
      have HG' : Hid (Goes (Tb 256 po) (n + 1)) := HG.out.succ (by rw [← HX.out]; omega) (fun hp => by rw [← HX.out]; omega)
      have HS : Hid (Tb 256 po (x : Int) = orb (Tb 256 po) (n + 1)) := by unfold Hid; rw [HX.out]; rfl
      obtain ⟨v1, hv1, hf1⟩ := HZ.out (2 + n) (by omega)
      have HR1 := Lib.hid (HR.out.set (2 + n) (by omega) (.int .i64 (x : Int)))
      obtain ⟨v2, hv2, hf2⟩ := HR1.out.2.2 (1023 + x) (by omega)
      have HR2 := Lib.hid (HR1.out.set (1023 + x) (by omega) (.int .i64 (n : Int)))
      have HW2 : Hid (w.grownBy ((wr.setCell ⟨b, 2 + n, none⟩ (.int .i64 (x : Int))).setCell ⟨b, 1023 + x, none⟩ (.int .i64 (n : Int))) (some b)) := only_setCell (only_setCell HW.out _) _
      have HZ2 : Hid (w.heap.size = ((wr.setCell ⟨b, 2 + n, none⟩ (.int .i64 (x : Int))).setCell ⟨b, 1023 + x, none⟩ (.int .i64 (n : Int))).heap.size) := by unfold Hid; simpa using HWZ.out
      by_cases hp : 0 < n
      · have hpi : (0 : Int) < (n : Int) := by omega
        have b1 : ((x : Int) == 1) = false := by simp; omega
        go_wp2_with (go_at_call 142; refine (iTimesB8 bc b bf po x _ p0 p1 x1 ((only_cell HW2.out hbc ne1).trans HCC.out) HR2.out.2.1 ((only_cell HW2.out hbf ne2).trans HCF.out) HR2.out.1 (by rw [← HZ2.out]; exact hbf)).mono ?_; rintro e w2 ⟨rfl, rfl⟩)
        obtain ⟨y, hy⟩ := Int.eq_ofNat_of_zero_le (show 0 ≤ Tb 256 po (x : Int) by rw [HS.out]; exact (HO.out _).1)
        go_roundw
        case rel => exact ⟨y, n + 1, by rw [← hpm, hy], by simp, by omega, by rw [← hy]; exact HS.out, HG', HW2, HZ2, HR2⟩
        case measure => simp [intOf]; omega
      · have hpi : ¬ ((0 : Int) < (n : Int)) := by omega
        go_wp2_with (go_at_call 142; refine (iTimesB8 bc b bf po x _ p0 p1 x1 ((only_cell HW2.out hbc ne1).trans HCC.out) HR2.out.2.1 ((only_cell HW2.out hbf ne2).trans HCF.out) HR2.out.1 (by rw [← HZ2.out]; exact hbf)).mono ?_; rintro e w2 ⟨rfl, rfl⟩)
        obtain ⟨y, hy⟩ := Int.eq_ofNat_of_zero_le (show 0 ≤ Tb 256 po (x : Int) by rw [HS.out]; exact (HO.out _).1)
        go_roundw
        case rel => exact ⟨y, n + 1, by rw [← hpm, hy], by simp, by omega, by rw [← hy]; exact HS.out, HG', HW2, HZ2, HR2⟩
        case measure => simp [intOf]; omega
    · obtain rfl : n = m := by omega
      have HE : Hid ((orb (Tb 256 po) n == 1) = fillB (Tb 256 po) n) := fillB_iff (Fills.of_goes HG.out)
      rw [← HX.out] at HE
      go_wp2
      go_returns
      exact ⟨ret_bool HE.out, HR.out, HW.out, HWZ.out⟩
end Go.Proofs.Ytdpifddmhbeklaa
