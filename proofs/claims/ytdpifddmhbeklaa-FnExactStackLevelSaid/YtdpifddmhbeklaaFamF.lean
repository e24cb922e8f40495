/-
  DERIVED. IsFamily: the field of size 32.
-/
import Derived.Test.YtdpifddmhbeklaaLayQ
namespace Go.Proofs.Ytdpifddmhbeklaa
open Go.RowKit
set_option linter.unusedVariables false
def fillsC (T : Int → Int) (m : Nat) : Bool := (List.range m).all (fun k => k == 0 || (orb T k != 0 && orb T k != 1)) && orb T m == 1
theorem fillsC_iff {T : Int → Int} {m : Nat} : fillsC T m = true ↔ Fills T m := by
  unfold fillsC Fills
  simp only [Bool.and_eq_true, List.all_eq_true, List.mem_range, Bool.or_eq_true, beq_iff_eq, bne_iff_ne]
  constructor
  · rintro ⟨h, h1⟩
    refine ⟨fun k k0 km => ?_, h1⟩
    rcases h k km with h2 | h2
    · omega
    · exact h2
  · rintro ⟨h, h1⟩
    refine ⟨fun k km => ?_, h1⟩
    rcases Nat.eq_zero_or_pos k with h2 | h2
    · exact .inl h2
    · exact .inr (h k h2 km)
theorem fld32 (po : Int) (c : Bool) (h0 : 32 ≤ po) (h1 : po < 64) (h : fillsC (Tb 32 po) 31 = c) : fldB 2 5 po = c := by
  have e : (c = true ↔ IsFld 2 5 po) := by
    rw [← h, fillsC_iff]
    refine Iff.trans ?_ (IsFld.bin (k := 5) (by decide) (by decide)).symm
    exact ⟨fun h => ⟨h0, h1, h⟩, fun h => h.2.2⟩
  exact (fldB_of e).symm
theorem fld32_37 : fldB 2 5 37 = true := fld32 37 true (by decide) (by decide) (by decide +kernel)
theorem fld32_32 : fldB 2 5 32 = false := fld32 32 false (by decide) (by decide) (by decide +kernel)
theorem fld32_33 : fldB 2 5 33 = false := fld32 33 false (by decide) (by decide) (by decide +kernel)
theorem fld32_34 : fldB 2 5 34 = false := fld32 34 false (by decide) (by decide) (by decide +kernel)
theorem fld32_35 : fldB 2 5 35 = false := fld32 35 false (by decide) (by decide) (by decide +kernel)
theorem fld32_36 : fldB 2 5 36 = false := fld32 36 false (by decide) (by decide) (by decide +kernel)
theorem prm32 : prmB 32 = false := prmB_no (Prm.no (c := 2) (by decide) (by decide) (by decide))
def Res3 (w : World) (b : Nat) : Prop := b < w.heap.size ∧ (w.cell? ⟨b, 0, none⟩ = some (.int .i64 0) ∧ w.cell? ⟨b, 1, none⟩ = some (.int .i64 0) ∧ w.cell? ⟨b, 2, none⟩ = some (.int .i64 0)) ∧ (w.frozen? ⟨b, 0, none⟩ = false ∧ w.frozen? ⟨b, 1, none⟩ = false ∧ w.frozen? ⟨b, 2, none⟩ = false)
theorem Res3.keep {w w' : World} {b : Nat} (h : Res3 w b) (hb : Below w.heap.size w w') : Res3 w' b := by
  obtain ⟨h0, ⟨a0, a1, a2⟩, ⟨f0, f1, f2⟩⟩ := h
  have hc : ∀ j, w'.cell? ⟨b, j, none⟩ = w.cell? ⟨b, j, none⟩ := fun j => hb.cell (p := ⟨b, j, none⟩) h0
  have hf : ∀ j, w'.frozen? ⟨b, j, none⟩ = w.frozen? ⟨b, j, none⟩ := fun j => hb.frozen (p := ⟨b, j, none⟩) h0
  exact ⟨Nat.lt_of_lt_of_le h0 hb.size, ⟨(hc 0).trans a0, (hc 1).trans a1, (hc 2).trans a2⟩, ⟨(hf 0).trans f0, (hf 1).trans f1, (hf 2).trans f2⟩⟩
theorem Res3.new (w : World) (t : TypeId) : Res3 (w.alloc (.cells #[.int .i64 0, .int .i64 0, .int .i64 0] t)) w.heap.size := by
  refine ⟨by simp, ⟨by simp, by simp, by simp⟩, ⟨?_, ?_, ?_⟩⟩ <;> simp [go_sem]
def Code3 (w : World) (b : Nat) (v0 v1 v2 : Int) : Prop := b < w.heap.size ∧ (w.cell? ⟨b, 0, none⟩ = some (.int .i64 v0) ∧ w.cell? ⟨b, 1, none⟩ = some (.int .i64 v1) ∧ w.cell? ⟨b, 2, none⟩ = some (.int .i64 v2))
set_option maxRecDepth 20000 in
set_option maxHeartbeats 2000000 in
theorem sF32 (w : World) : Calls Try.prog 114 #[.int .i64 32] w fun e w' => e = .returned (.tuple #[.agg #[.int .i64 2, .int .i64 5, .int .i64 37], .int .i64 0]) ∧ Below w.heap.size w w' := by
  have hpr := prm32
  have hin : inB 32 3 1021 = true := by decide
  have r0 := Lib.hid (Res3.new w 27)
  go_enter Try.func114, Try.ntmps114
  go_wp2_with (first | (go_at_call 55; refine (sIn _ _ _ _).mono ?_; rintro e w' ⟨rfl, rfl⟩) | (go_at_call 128; refine (sPrm _ _ (by decide) (by decide)).mono ?_; rintro e w' ⟨rfl, rfl⟩))
  go_loopw [6] (fun v wr => ∃ (k : Int), v = .int .i64 k ∧ 3 ≤ k ∧ k ≤ 5 ∧ Hid (Res3 wr w.heap.size) ∧ Hid (Below w.heap.size w wr)) (fun v _ => 6 - (intOf v).toNat)
  case atStart => exact ⟨3, rfl, by omega, by omega, r0, by unfold Hid; repeat' (first | (with_reducible exact Below.refl _ _) | (with_reducible assumption) | (with_reducible refine Below.alloc ?_ ?_ _) | (with_reducible refine Below.setCell ?_ ?_ _) | (with_reducible refine Below.drew ?_) | (with_reducible refine below_drewN ?_ _) | (with_reducible refine below_via (by with_reducible assumption) ?_ ?_) | go_size)⟩
  case round =>
    obtain ⟨k, rfl, k3, k5, HR, HB⟩ := hrel
    rcases (by omega : k = 3 ∨ k = 4 ∨ k = 5) with rfl | rfl | rfl
    · go_wp2
      go_roundw
      case rel => exact ⟨4, rfl, by omega, by omega, HR, HB⟩
      case measure => simp [intOf]
    · go_wp2
      go_roundw
      case rel => exact ⟨5, rfl, by omega, by omega, HR, HB⟩
      case measure => simp [intOf]
    · go_wp2
      go_loopw [7] (fun v wr => ∃ (q : Int), v = .int .i64 q ∧ 32 ≤ q ∧ q ≤ 37 ∧ Hid (Res3 wr w.heap.size) ∧ Hid (Below w.heap.size w wr)) (fun v _ => (38 - intOf v).toNat)
      case atStart => exact ⟨32, rfl, by omega, by omega, HR, HB⟩
      case round =>
        clear HR HB r0
        obtain ⟨q, rfl, q1, q2, HR, HB⟩ := hrel
        have hsz := HR.out.1
        by_cases hq : q = 37
        · subst hq
          have hfl := fld32_37
          go_wp2_with fail
          refine (sIsField _ _ _ _).mono ?_
          rintro e w' ⟨rfl, hb⟩
          rw [hfl]
          have HB2 : Hid (Below w.heap.size w w') := by
            unfold Hid
            have hbel := HB.out
            repeat' (first | (with_reducible exact Below.refl _ _) | (with_reducible assumption) | (with_reducible refine Below.alloc ?_ ?_ _) | (with_reducible refine Below.setCell ?_ ?_ _) | (with_reducible refine Below.drew ?_) | (with_reducible refine below_drewN ?_ _) | (with_reducible refine below_via (by with_reducible assumption) ?_ ?_) | go_size)
          have hR2 : Res3 w' w.heap.size := (HR.out.keep ((Below.refl _ _).alloc (Nat.le_refl _) _)).keep hb
          have y0 : w'.cell? ⟨wr.heap.size, 0, none⟩ = some (.int .i64 2) := (hb.cell (p := ⟨_, _, none⟩) (by simp)).trans (by simp [go_sem])
          have y1 : w'.cell? ⟨wr.heap.size, 1, none⟩ = some (.int .i64 5) := (hb.cell (p := ⟨_, _, none⟩) (by simp)).trans (by simp [go_sem])
          have y2 : w'.cell? ⟨wr.heap.size, 2, none⟩ = some (.int .i64 37) := (hb.cell (p := ⟨_, _, none⟩) (by simp)).trans (by simp [go_sem])
          obtain ⟨_, ⟨_, _, _⟩, ⟨_, _, _⟩⟩ := hR2
          clear HR HB hb
          go_wp2_with fail
          refine bodyPost_ret (v := .tuple #[.agg #[.int .i64 2, .int .i64 5, .int .i64 37], .int .i64 0]) (by simp [results, Try.results114, go_sem, *]) rfl ?_
          have hb2 := HB2.out
          exact ⟨rfl, by repeat' (first | (with_reducible exact Below.refl _ _) | (with_reducible assumption) | (with_reducible refine Below.alloc ?_ ?_ _) | (with_reducible refine Below.setCell ?_ ?_ _) | (with_reducible refine Below.drew ?_) | (with_reducible refine below_drewN ?_ _) | (with_reducible refine below_via (by with_reducible assumption) ?_ ?_) | go_size)⟩
        · have hfl : fldB 2 5 q = false := by
            rcases (by omega : q = 32 ∨ q = 33 ∨ q = 34 ∨ q = 35 ∨ q = 36) with rfl | rfl | rfl | rfl | rfl
            · exact fld32_32
            · exact fld32_33
            · exact fld32_34
            · exact fld32_35
            · exact fld32_36
          go_wp2_with fail
          refine (sIsField _ _ _ _).mono ?_
          rintro e w' ⟨rfl, hb⟩
          rw [hfl]
          have HB2 : Hid (Below w.heap.size w w') := by
            unfold Hid
            have hbel := HB.out
            repeat' (first | (with_reducible exact Below.refl _ _) | (with_reducible assumption) | (with_reducible refine Below.alloc ?_ ?_ _) | (with_reducible refine Below.setCell ?_ ?_ _) | (with_reducible refine Below.drew ?_) | (with_reducible refine below_drewN ?_ _) | (with_reducible refine below_via (by with_reducible assumption) ?_ ?_) | go_size)
          have HR2 : Hid (Res3 w' w.heap.size) := (HR.out.keep ((Below.refl _ _).alloc (Nat.le_refl _) _)).keep hb
          clear HR HB hb
          go_wp2_with fail
          go_roundw
          case rel => exact ⟨q + 1, rfl, by omega, by omega, HR2, HB2⟩
          case measure => simp [intOf]; omega
set_option maxRecDepth 20000 in
set_option maxHeartbeats 2000000 in
theorem iF32 (w : World) : Calls Try.prog 119 #[.int .i64 32] w fun e w' => e = .returned (.tuple #[.agg #[.int .i64 2, .int .i64 5, .int .i64 37], .int .i64 0]) ∧ Below w.heap.size w w' := by
  have hpr := prm32
  have hin : inB 32 3 1021 = true := by decide
  have r0 := Lib.hid (Res3.new w 27)
  go_enter Try.func119, Try.ntmps119
  go_wp2_with (first | (go_at_call 59; refine (iIn _ _ _ _).mono ?_; rintro e w' ⟨rfl, rfl⟩) | (go_at_call 135; refine (iPrm _ _ (by decide) (by decide)).mono ?_; rintro e w' ⟨rfl, rfl⟩))
  go_loopw [7] (fun v wr => ∃ (k : Int), v = .int .i64 k ∧ 3 ≤ k ∧ k ≤ 5 ∧ Hid (Res3 wr w.heap.size) ∧ Hid (Below w.heap.size w wr)) (fun v _ => 6 - (intOf v).toNat)
  case atStart => exact ⟨3, rfl, by omega, by omega, r0, by unfold Hid; repeat' (first | (with_reducible exact Below.refl _ _) | (with_reducible assumption) | (with_reducible refine Below.alloc ?_ ?_ _) | (with_reducible refine Below.setCell ?_ ?_ _) | (with_reducible refine Below.drew ?_) | (with_reducible refine below_drewN ?_ _) | (with_reducible refine below_via (by with_reducible assumption) ?_ ?_) | go_size)⟩
  case round =>
    obtain ⟨k, rfl, k3, k5, HR, HB⟩ := hrel
    rcases (by omega : k = 3 ∨ k = 4 ∨ k = 5) with rfl | rfl | rfl
    · go_wp2
      go_roundw
      case rel => exact ⟨4, rfl, by omega, by omega, HR, HB⟩
      case measure => simp [intOf]
    · go_wp2
      go_roundw
      case rel => exact ⟨5, rfl, by omega, by omega, HR, HB⟩
      case measure => simp [intOf]
    · go_wp2
      go_loopw [8] (fun v wr => ∃ (q : Int), v = .int .i64 q ∧ 32 ≤ q ∧ q ≤ 37 ∧ Hid (Res3 wr w.heap.size) ∧ Hid (Below w.heap.size w wr)) (fun v _ => (38 - intOf v).toNat)
      case atStart => exact ⟨32, rfl, by omega, by omega, HR, HB⟩
      case round =>
        clear HR HB r0
        obtain ⟨q, rfl, q1, q2, HR, HB⟩ := hrel
        have hsz := HR.out.1
        by_cases hq : q = 37
        · subst hq
          have hfl := fld32_37
          go_wp2_with fail
          refine (iIsField _ _ _ _).mono ?_
          rintro e w' ⟨rfl, hb⟩
          rw [hfl]
          have HB2 : Hid (Below w.heap.size w w') := by
            unfold Hid
            have hbel := HB.out
            repeat' (first | (with_reducible exact Below.refl _ _) | (with_reducible assumption) | (with_reducible refine Below.alloc ?_ ?_ _) | (with_reducible refine Below.setCell ?_ ?_ _) | (with_reducible refine Below.drew ?_) | (with_reducible refine below_drewN ?_ _) | (with_reducible refine below_via (by with_reducible assumption) ?_ ?_) | go_size)
          have hR2 : Res3 w' w.heap.size := (HR.out.keep ((Below.refl _ _).alloc (Nat.le_refl _) _)).keep hb
          have y0 : w'.cell? ⟨wr.heap.size, 0, none⟩ = some (.int .i64 2) := (hb.cell (p := ⟨_, _, none⟩) (by simp)).trans (by simp [go_sem])
          have y1 : w'.cell? ⟨wr.heap.size, 1, none⟩ = some (.int .i64 5) := (hb.cell (p := ⟨_, _, none⟩) (by simp)).trans (by simp [go_sem])
          have y2 : w'.cell? ⟨wr.heap.size, 2, none⟩ = some (.int .i64 37) := (hb.cell (p := ⟨_, _, none⟩) (by simp)).trans (by simp [go_sem])
          obtain ⟨_, ⟨_, _, _⟩, ⟨_, _, _⟩⟩ := hR2
          clear HR HB hb
          go_wp2_with fail
          refine bodyPost_ret (v := .tuple #[.agg #[.int .i64 2, .int .i64 5, .int .i64 37], .int .i64 0]) (by simp [results, Try.results119, go_sem, *]) rfl ?_
          have hb2 := HB2.out
          exact ⟨rfl, by repeat' (first | (with_reducible exact Below.refl _ _) | (with_reducible assumption) | (with_reducible refine Below.alloc ?_ ?_ _) | (with_reducible refine Below.setCell ?_ ?_ _) | (with_reducible refine Below.drew ?_) | (with_reducible refine below_drewN ?_ _) | (with_reducible refine below_via (by with_reducible assumption) ?_ ?_) | go_size)⟩
        · have hfl : fldB 2 5 q = false := by
            rcases (by omega : q = 32 ∨ q = 33 ∨ q = 34 ∨ q = 35 ∨ q = 36) with rfl | rfl | rfl | rfl | rfl
            · exact fld32_32
            · exact fld32_33
            · exact fld32_34
            · exact fld32_35
            · exact fld32_36
          go_wp2_with fail
          refine (iIsField _ _ _ _).mono ?_
          rintro e w' ⟨rfl, hb⟩
          rw [hfl]
          have HB2 : Hid (Below w.heap.size w w') := by
            unfold Hid
            have hbel := HB.out
            repeat' (first | (with_reducible exact Below.refl _ _) | (with_reducible assumption) | (with_reducible refine Below.alloc ?_ ?_ _) | (with_reducible refine Below.setCell ?_ ?_ _) | (with_reducible refine Below.drew ?_) | (with_reducible refine below_drewN ?_ _) | (with_reducible refine below_via (by with_reducible assumption) ?_ ?_) | go_size)
          have HR2 : Hid (Res3 w' w.heap.size) := (HR.out.keep ((Below.refl _ _).alloc (Nat.le_refl _) _)).keep hb
          clear HR HB hb
          go_wp2_with fail
          go_roundw
          case rel => exact ⟨q + 1, rfl, by omega, by omega, HR2, HB2⟩
          case measure => simp [intOf]; omega
end Go.Proofs.Ytdpifddmhbeklaa
