/-
  DERIVED. LocalBinary: the function that impl.windows returns.
-/
import Derived.Test.YtfiddbmjgncabaaWinI
import Derived.Test.YtfiddbmjgncabaaLocS
import Derived.Test.YtfiddbmjgncabaaInv
import Derived.Deep.CutRange
import Derived.Deep.RegionHeld3
namespace Go.Proofs.Ytfiddbmjgncabaa
open Go.RowKit
set_option linter.unusedVariables false
theorem entWin : ∀ (args : Array Value) (w : World), (callFunc 123 args).run Try.prog w = .ok (.enter 123 args) w := enters_of Try.func123 (by kernel_rfl) rfl
set_option maxRecDepth 20000 in
set_option maxHeartbeats 8000000 in
theorem cWin (b R C rad i j t l N M : Nat) (zs : List Int) (w : World) (h : WinAt w b R C rad zs) (h8 : ∀ x ∈ zs, 0 ≤ x ∧ x ≤ 255) (hR : R ≤ 400) (hC1 : 1 ≤ C) (hC : C ≤ 400) (hi : i < R) (hj : j < C) (hr : rad ≤ 20)
    (t1 : i ≤ t + rad) (t2 : t ≤ 0 ∨ t + rad ≤ i) (l1 : j ≤ l + rad) (l2 : l ≤ 0 ∨ l + rad ≤ j)
    (n1 : t + N ≤ R) (n2 : t + N ≤ i + rad + 1) (n3 : R ≤ t + N ∨ i + rad + 1 ≤ t + N) (m1 : l + M ≤ C) (m2 : l + M ≤ j + rad + 1) (m3 : C ≤ l + M ∨ j + rad + 1 ≤ l + M) :
    Calls Try.prog 123 #[.int .i64 (i : Int), .int .i64 (j : Int), .pointer (some ⟨b + 1, 0, none⟩), .pointer (some ⟨b, 0, none⟩), .pointer (some ⟨b + 4, 0, none⟩), .pointer (some ⟨b + 2, 0, none⟩)] w fun e w' =>
      e = .returned (.tuple #[.int .i64 ((N * M : Nat) : Int), .int .i64 (winS zs C t l N M)]) ∧ Below w.heap.size w w' := by
  obtain ⟨h0, h1, h2, h3, h4, h5, h6⟩ := h
  have hz0 : b < w.heap.size := by omega
  have hz1 : b + 1 < w.heap.size := by omega
  have hz2 : b + 2 < w.heap.size := by omega
  have hz3 : b + 3 < w.heap.size := by omega
  obtain ⟨Bo, hBo⟩ : ∃ Bo, t + N = Bo := ⟨_, rfl⟩
  obtain ⟨Ri, hRi⟩ : ∃ Ri, l + M = Ri := ⟨_, rfl⟩
  have i1 : Bo * (C + 1) + Ri < (R + 1) * (C + 1) := tab_idx (by omega) (by omega)
  have i2 : t * (C + 1) + Ri < (R + 1) * (C + 1) := tab_idx (by omega) (by omega)
  have i3 : Bo * (C + 1) + l < (R + 1) * (C + 1) := tab_idx (by omega) (by omega)
  have i4 : t * (C + 1) + l < (R + 1) * (C + 1) := tab_idx (by omega) (by omega)
  have hz : (R + 1) * (C + 1) ≤ 401 * 401 := Nat.mul_le_mul (by omega) (by omega)
  have hlen := tabS_length zs C R (R * C)
  have cell : ∀ q v, q < (R + 1) * (C + 1) → (tabS zs C R (R * C)).getD q 0 = v → w.cell? ⟨b + 3, q, none⟩ = some (.int .i64 v) := by
    intro q v hq hv
    rw [← hv, h6.cell]
    exact vals_get _ _ (by rw [hlen]; exact hq)
  have e1 := tabS_all zs C R (by omega) Bo Ri (by omega) (by omega)
  have e2 := tabS_all zs C R (by omega) t Ri (by omega) (by omega)
  have e3 := tabS_all zs C R (by omega) Bo l (by omega) (by omega)
  have e4 := tabS_all zs C R (by omega) t l (by omega) (by omega)
  have c1 := cell _ _ i1 e1
  have c2 := cell _ _ i2 e2
  have c3 := cell _ _ i3 e3
  have c4 := cell _ _ i4 e4
  have bd : ∀ p q, p ≤ R → q ≤ C → 0 ≤ preS zs C p q ∧ preS zs C p q ≤ 40800000 := by
    intro p q hp hq
    have h1 := preS_bd h8 C p q
    have h2 : p * (q * 255) ≤ 400 * (400 * 255) := Nat.mul_le_mul (by omega) (Nat.mul_le_mul_right _ (by omega))
    omega
  have b1 := bd Bo Ri (by omega) (by omega)
  have b2 := bd t Ri (by omega) (by omega)
  have b3 := bd Bo l (by omega) (by omega)
  have b4 := bd t l (by omega) (by omega)
  have HV : Hid (preS zs C Bo Ri - preS zs C t Ri - preS zs C Bo l + preS zs C t l = winS zs C t l N M) := by
    have := winS_pre zs C t l N M
    rw [hBo, hRi] at this
    exact this
  clear e1 e2 e3 e4 cell bd hlen h8
  obtain ⟨x1, hx1⟩ : ∃ x, preS zs C Bo Ri = x := ⟨_, rfl⟩
  obtain ⟨x2, hx2⟩ : ∃ x, preS zs C t Ri = x := ⟨_, rfl⟩
  obtain ⟨x3, hx3⟩ : ∃ x, preS zs C Bo l = x := ⟨_, rfl⟩
  obtain ⟨x4, hx4⟩ : ∃ x, preS zs C t l = x := ⟨_, rfl⟩
  rw [hx1] at b1 c1 HV
  rw [hx2] at b2 c2 HV
  rw [hx3] at b3 c3 HV
  rw [hx4] at b4 c4 HV
  have hA : (Bo : Int) * ((C : Int) + 1) = ((Bo * (C + 1) : Nat) : Int) := by simp
  have hB : (t : Int) * ((C : Int) + 1) = ((t * (C + 1) : Nat) : Int) := by simp
  obtain ⟨A, hAA⟩ : ∃ A, Bo * (C + 1) = A := ⟨_, rfl⟩
  obtain ⟨B, hBB⟩ : ∃ B, t * (C + 1) = B := ⟨_, rfl⟩
  obtain ⟨Z, hZZ⟩ : ∃ Z, (R + 1) * (C + 1) = Z := ⟨_, rfl⟩
  rw [hAA] at i1 i3 c1 c3 hA
  rw [hBB] at i2 i4 c2 c4 hB
  rw [hZZ] at i1 i2 i3 i4 h5 hz
  clear hAA hBB hZZ hx1 hx2 hx3 hx4 h6
  have HSn : Hid (∀ w', Below w.heap.size w w' → w'.cell? ⟨b, 0, none⟩ = some (.int .i64 (R : Int)) ∧ w'.cell? ⟨b, 1, none⟩ = some (.int .i64 (C : Int)) ∧ w'.cell? ⟨b + 1, 0, none⟩ = some (.int .i64 (rad : Int))) := fun w' hb =>
    ⟨(hb.cell (p := ⟨_, _, none⟩) (by simpa using hz0)).trans h1, (hb.cell (p := ⟨_, _, none⟩) (by simpa using hz0)).trans h2, (hb.cell (p := ⟨_, _, none⟩) (by simpa using hz1)).trans h3⟩
  have HS3 : Hid (∀ w', Below w.heap.size w w' → w'.cell? ⟨b + 2, 0, none⟩ = some (.int .i64 ((C : Int) + 1)) ∧ w'.cell? ⟨b + 4, 0, none⟩ = some (.slice (some ⟨b + 3, 0, none⟩) Z Z) ∧ w'.cell? ⟨b + 3, A + Ri, none⟩ = some (.int .i64 x1) ∧ w'.cell? ⟨b + 3, B + Ri, none⟩ = some (.int .i64 x2) ∧ w'.cell? ⟨b + 3, A + l, none⟩ = some (.int .i64 x3) ∧ w'.cell? ⟨b + 3, B + l, none⟩ = some (.int .i64 x4)) := fun w' hb =>
    ⟨(hb.cell (p := ⟨_, _, none⟩) (by simpa using hz2)).trans h4, (hb.cell (p := ⟨_, _, none⟩) (by simpa using h0)).trans h5, (hb.cell (p := ⟨_, _, none⟩) (by simpa using hz3)).trans c1, (hb.cell (p := ⟨_, _, none⟩) (by simpa using hz3)).trans c2, (hb.cell (p := ⟨_, _, none⟩) (by simpa using hz3)).trans c3, (hb.cell (p := ⟨_, _, none⟩) (by simpa using hz3)).trans c4⟩
  clear h1 h2 h3 h4 h5 c1 c2 c3 c4
  have HBo := Lib.hid hBo
  have HRi := Lib.hid hRi
  have bo1 : t ≤ Bo := by omega
  have bo2 : Bo ≤ 400 := by omega
  have ri1 : l ≤ Ri := by omega
  have ri2 : Ri ≤ 400 := by omega
  have hNM : N * M ≤ 400 * 400 := Nat.mul_le_mul (by omega) (by omega)
  clear hBo hRi
  have v1 : IntKind.i64.wrap ((i : Int) - (rad : Int)) = (i : Int) - (rad : Int) := IntWalk.i64_in _ (by omega)
  have v2 : IntKind.i64.wrap ((i : Int) + (rad : Int)) = (i : Int) + (rad : Int) := IntWalk.i64_in _ (by omega)
  have v3 : IntKind.i64.wrap ((i : Int) + (rad : Int) + 1) = (i : Int) + (rad : Int) + 1 := IntWalk.i64_in _ (by omega)
  have v4 : IntKind.i64.wrap ((j : Int) - (rad : Int)) = (j : Int) - (rad : Int) := IntWalk.i64_in _ (by omega)
  have v5 : IntKind.i64.wrap ((j : Int) + (rad : Int)) = (j : Int) + (rad : Int) := IntWalk.i64_in _ (by omega)
  have v6 : IntKind.i64.wrap ((j : Int) + (rad : Int) + 1) = (j : Int) + (rad : Int) + 1 := IntWalk.i64_in _ (by omega)
  go_enter Try.func123, Try.ntmps123
  go_wp2_with fail
  go_cut [10, 11] from 15 (fun p q wx => p = .int .i64 (t : Int) ∧ q = .int .i64 (Bo : Int) ∧ Hid (Below w.heap.size w wx))
  case first =>
    go_region_held3 (fun w' => w'.cell? ⟨b, 0, none⟩ = some (.int .i64 (R : Int)) ∧ w'.cell? ⟨b, 1, none⟩ = some (.int .i64 (C : Int)) ∧ w'.cell? ⟨b + 1, 0, none⟩ = some (.int .i64 (rad : Int))) (exact HSn.out _ (by repeat' (first | (with_reducible exact Below.refl _ _) | (with_reducible assumption) | (with_reducible refine Below.alloc ?_ ?_ _) | (with_reducible refine Below.setCell ?_ ?_ _) | (with_reducible refine Below.drew ?_) | (with_reducible refine below_drewN ?_ _) | (with_reducible refine below_via (by with_reducible assumption) ?_ ?_) | go_size))) (fail)
    all_goals
      go_wp2
      all_goals
        go_meet
        case rel =>
          have hQQ := HBo.out
          exact ⟨congrArg (Value.int .i64) (by first | omega | (split <;> omega)), congrArg (Value.int .i64) (by first | omega | (split <;> omega)), by unfold Hid; repeat' (first | (with_reducible exact Below.refl _ _) | (with_reducible assumption) | (with_reducible refine Below.alloc ?_ ?_ _) | (with_reducible refine Below.setCell ?_ ?_ _) | (with_reducible refine Below.drew ?_) | (with_reducible refine below_drewN ?_ _) | (with_reducible refine below_via (by with_reducible assumption) ?_ ?_) | go_size)⟩
  obtain ⟨rfl, rfl, hbc⟩ := hcut
  obtain ⟨w1, rfl⟩ : ∃ w1 : World, w1 = wc := ⟨_, rfl⟩
  have hb1 := hbc.out
  have hz5 := hb1.size
  go_wp2_with fail
  go_cut [12, 13] from 15 (fun p q wx => p = .int .i64 (l : Int) ∧ q = .int .i64 (Ri : Int) ∧ Hid (Below w.heap.size w wx))
  case first =>
    go_region_held3 (fun w' => w'.cell? ⟨b, 0, none⟩ = some (.int .i64 (R : Int)) ∧ w'.cell? ⟨b, 1, none⟩ = some (.int .i64 (C : Int)) ∧ w'.cell? ⟨b + 1, 0, none⟩ = some (.int .i64 (rad : Int))) (exact HSn.out _ (by repeat' (first | (with_reducible exact Below.refl _ _) | (with_reducible assumption) | (with_reducible refine Below.alloc ?_ ?_ _) | (with_reducible refine Below.setCell ?_ ?_ _) | (with_reducible refine Below.drew ?_) | (with_reducible refine below_drewN ?_ _) | (with_reducible refine below_via (by with_reducible assumption) ?_ ?_) | go_size))) (fail)
    all_goals
      go_wp2
      all_goals
        go_meet
        case rel =>
          have hQQ := HRi.out
          exact ⟨congrArg (Value.int .i64) (by first | omega | (split <;> omega)), congrArg (Value.int .i64) (by first | omega | (split <;> omega)), by unfold Hid; repeat' (first | (with_reducible exact Below.refl _ _) | (with_reducible assumption) | (with_reducible refine Below.alloc ?_ ?_ _) | (with_reducible refine Below.setCell ?_ ?_ _) | (with_reducible refine Below.drew ?_) | (with_reducible refine below_drewN ?_ _) | (with_reducible refine below_via (by with_reducible assumption) ?_ ?_) | go_size)⟩
  obtain ⟨rfl, rfl, hbd⟩ := hcut
  obtain ⟨w2, rfl⟩ : ∃ w2 : World, w2 = wc := ⟨_, rfl⟩
  clear hb1 hbc hz5
  have hb2 := hbd.out
  have hz6 := hb2.size
  clear v1 v2 v3 v4 v5 v6 HSn
  have ho1 : 0 ≤ (A : Int) + (Ri : Int) := by omega
  have ho2 : (A : Int) + (Ri : Int) < (Z : Int) := by omega
  have ho3 : 0 ≤ (B : Int) + (Ri : Int) := by omega
  have ho4 : (B : Int) + (Ri : Int) < (Z : Int) := by omega
  have ho5 : 0 ≤ (A : Int) + (l : Int) := by omega
  have ho6 : (A : Int) + (l : Int) < (Z : Int) := by omega
  have ho7 : 0 ≤ (B : Int) + (l : Int) := by omega
  have ho8 : (B : Int) + (l : Int) < (Z : Int) := by omega
  have g1 : ((A : Int) + (Ri : Int)).toNat = A + Ri := by omega
  have g2 : ((B : Int) + (Ri : Int)).toNat = B + Ri := by omega
  have g3 : ((A : Int) + (l : Int)).toNat = A + l := by omega
  have g4 : ((B : Int) + (l : Int)).toNat = B + l := by omega
  have u1 : IntKind.i64.wrap (A : Int) = (A : Int) := IntWalk.i64_in _ (by omega)
  have u2 : IntKind.i64.wrap (B : Int) = (B : Int) := IntWalk.i64_in _ (by omega)
  have u3 : IntKind.i64.wrap ((A : Int) + (Ri : Int)) = (A : Int) + (Ri : Int) := IntWalk.i64_in _ (by omega)
  have u4 : IntKind.i64.wrap ((B : Int) + (Ri : Int)) = (B : Int) + (Ri : Int) := IntWalk.i64_in _ (by omega)
  have u5 : IntKind.i64.wrap ((A : Int) + (l : Int)) = (A : Int) + (l : Int) := IntWalk.i64_in _ (by omega)
  have u6 : IntKind.i64.wrap ((B : Int) + (l : Int)) = (B : Int) + (l : Int) := IntWalk.i64_in _ (by omega)
  have u7 : IntKind.i64.wrap (x1 - x2) = x1 - x2 := IntWalk.i64_in _ (by omega)
  have u8 : IntKind.i64.wrap (x1 - x2 - x3) = x1 - x2 - x3 := IntWalk.i64_in _ (by omega)
  have u9 : IntKind.i64.wrap (x1 - x2 - x3 + x4) = x1 - x2 - x3 + x4 := IntWalk.i64_in _ (by omega)
  go_wp2_with fail
  go_cut [14] from 15 (fun p wx => p = .int .i64 (x1 - x2 - x3 + x4) ∧ Hid (Below w.heap.size w wx))
  case first =>
    go_region_held3 (fun w' => w'.cell? ⟨b + 2, 0, none⟩ = some (.int .i64 ((C : Int) + 1)) ∧ w'.cell? ⟨b + 4, 0, none⟩ = some (.slice (some ⟨b + 3, 0, none⟩) Z Z) ∧ w'.cell? ⟨b + 3, A + Ri, none⟩ = some (.int .i64 x1) ∧ w'.cell? ⟨b + 3, B + Ri, none⟩ = some (.int .i64 x2) ∧ w'.cell? ⟨b + 3, A + l, none⟩ = some (.int .i64 x3) ∧ w'.cell? ⟨b + 3, B + l, none⟩ = some (.int .i64 x4)) (exact HS3.out _ (by repeat' (first | (with_reducible exact Below.refl _ _) | (with_reducible assumption) | (with_reducible refine Below.alloc ?_ ?_ _) | (with_reducible refine Below.setCell ?_ ?_ _) | (with_reducible refine Below.drew ?_) | (with_reducible refine below_drewN ?_ _) | (with_reducible refine below_via (by with_reducible assumption) ?_ ?_) | go_size))) (fail)
    all_goals
      go_wp2
      go_meet
      case rel => exact ⟨rfl, by unfold Hid; repeat' (first | (with_reducible exact Below.refl _ _) | (with_reducible assumption) | (with_reducible refine Below.alloc ?_ ?_ _) | (with_reducible refine Below.setCell ?_ ?_ _) | (with_reducible refine Below.drew ?_) | (with_reducible refine below_drewN ?_ _) | (with_reducible refine below_via (by with_reducible assumption) ?_ ?_) | go_size)⟩
  obtain ⟨rfl, hbe⟩ := hcut
  obtain ⟨w3, rfl⟩ : ∃ w3 : World, w3 = wc := ⟨_, rfl⟩
  clear u1 u2 u3 u4 u5 u6 u7 u8 u9 g1 g2 g3 g4 ho1 ho2 ho3 ho4 ho5 ho6 ho7 ho8 hA hB HS3
  have k1 : (Bo : Int) - (t : Int) = (N : Int) := by have := HBo.out; omega
  have k2 : (Ri : Int) - (l : Int) = (M : Int) := by have := HRi.out; omega
  have k3 : (N : Int) * (M : Int) = ((N * M : Nat) : Int) := by simp
  obtain ⟨Q, hQ⟩ : ∃ Q, N * M = Q := ⟨_, rfl⟩
  rw [hQ] at k3 hNM
  have HQ := Lib.hid hQ
  clear hQ
  go_wp2
  go_returns
  refine ⟨?_, hbe.out⟩
  rw [HV.out, HQ.out]
  rfl
theorem cWinOf (b R C rad i j : Nat) (zs : List Int) (w : World) (h : WinAt w b R C rad zs) (h8 : ∀ x ∈ zs, 0 ≤ x ∧ x ≤ 255) (hR : R ≤ 400) (hC : C ≤ 400) (hi : i < R) (hj : j < C) (hr : rad ≤ 20) :
    Calls Try.prog 123 #[.int .i64 (i : Int), .int .i64 (j : Int), .pointer (some ⟨b + 1, 0, none⟩), .pointer (some ⟨b, 0, none⟩), .pointer (some ⟨b + 4, 0, none⟩), .pointer (some ⟨b + 2, 0, none⟩)] w fun e w' =>
      e = .returned (.tuple #[.int .i64 ((winN R i rad * winN C j rad : Nat) : Int), .int .i64 (winS zs C (i - rad) (j - rad) (winN R i rad) (winN C j rad))]) ∧ Below w.heap.size w w' := by
  obtain ⟨a1, a2, a3, a4, a5⟩ := winN_le (R := R) hi hr
  obtain ⟨c1, c2, c3, c4, c5⟩ := winN_le (R := C) hj hr
  exact cWin b R C rad i j (i - rad) (j - rad) (winN R i rad) (winN C j rad) zs w h h8 hR (by omega) hC hi hj hr (by omega) (by omega) (by omega) (by omega) a3 a4 a5 c3 c4 c5
end Go.Proofs.Ytfiddbmjgncabaa
