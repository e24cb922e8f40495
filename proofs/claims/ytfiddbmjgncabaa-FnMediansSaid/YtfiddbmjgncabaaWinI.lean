/-
  DERIVED. LocalBinary: the table of sums: the contract of impl.windows.
-/
import Derived.Test.YtfiddbmjgncabaaSumT
import Derived.Test.YtfiddbmjgncabaaLocS
import Derived.Conc.MuLone
import Derived.Deep.CutRange
import Derived.Deep.RegionHeld3
namespace Go.Proofs.Ytfiddbmjgncabaa
open Go.RowKit
set_option linter.unusedVariables false
theorem tabS_bd {zs : List Int} (h8 : ∀ x ∈ zs, 0 ≤ x ∧ x ≤ 255) {C R k : Nat} (hC : 0 < C) (hk : k ≤ R * C) (hR : R ≤ 400) (hC4 : C ≤ 400) {i j : Nat} (hi : i ≤ R) (hj : j ≤ C) : 0 ≤ (tabS zs C R k).getD (i * (C + 1) + j) 0 ∧ (tabS zs C R k).getD (i * (C + 1) + j) 0 ≤ 40800000 := by
  rw [tabS_get zs C R hC k hk i j hi hj]
  have h1 := preS_bd h8 C i j
  have h2 : i * (j * 255) ≤ 400 * (400 * 255) := Nat.mul_le_mul (by omega) (Nat.mul_le_mul_right _ (by omega))
  split <;> omega
theorem tabS_next (zs : List Int) (C R i j : Nat) (hj : j < C) : tabS zs C R (i * C + (j + 1)) = (tabS zs C R (i * C + j)).set ((i + 1) * (C + 1) + (j + 1))
      (zs.getD (i * C + j) 0 + (tabS zs C R (i * C + j)).getD (i * (C + 1) + (j + 1)) 0 + (tabS zs C R (i * C + j)).getD ((i + 1) * (C + 1) + j) 0 - (tabS zs C R (i * C + j)).getD (i * (C + 1) + j) 0) := by
  rw [← Nat.add_assoc]
  simp only [tabS]
  rw [div_row hj, mod_row hj]
theorem tab_idx {R C i j : Nat} (hi : i ≤ R) (hj : j ≤ C) : i * (C + 1) + j < (R + 1) * (C + 1) := row_lt (show i < R + 1 by omega) (show j < C + 1 by omega)
/-- What the function that impl.windows returns finds: its boxes and its table, from block b on. -/
def WinAt (W : World) (b : Nat) (R C rad : Nat) (zs : List Int) : Prop :=
  b + 4 < W.heap.size ∧ W.cell? ⟨b, 0, none⟩ = some (.int .i64 R) ∧ W.cell? ⟨b, 1, none⟩ = some (.int .i64 C) ∧ W.cell? ⟨b + 1, 0, none⟩ = some (.int .i64 rad) ∧ W.cell? ⟨b + 2, 0, none⟩ = some (.int .i64 ((C : Int) + 1)) ∧
  W.cell? ⟨b + 4, 0, none⟩ = some (.slice (some ⟨b + 3, 0, none⟩) ((R + 1) * (C + 1)) ((R + 1) * (C + 1))) ∧ Blk W (b + 3) 2 (vals (tabS zs C R (R * C)))
theorem WinAt.keep {W W' : World} {b R C rad : Nat} {zs : List Int} (h : WinAt W b R C rad zs) (hb : Below W.heap.size W W') : WinAt W' b R C rad zs := by
  obtain ⟨h0, h1, h2, h3, h4, h5, h6⟩ := h
  have := hb.size
  exact ⟨by omega, (hb.cell (p := ⟨_, _, none⟩) (by show b < _; omega)).trans h1, (hb.cell (p := ⟨_, _, none⟩) (by show b < _; omega)).trans h2, (hb.cell (p := ⟨_, _, none⟩) (by show b + 1 < _; omega)).trans h3, (hb.cell (p := ⟨_, _, none⟩) (by show b + 2 < _; omega)).trans h4, (hb.cell (p := ⟨_, _, none⟩) (by show b + 4 < _; omega)).trans h5, h6.keep hb⟩
set_option maxRecDepth 100000 in
set_option maxHeartbeats 8000000 in
theorem iWindows (R C rad : Nat) (a : Option Addr) (n cp : Nat) (zs : List Int) (w : World) (h : Rd w a n zs) (hn : (n : Int) = (R : Int) * (C : Int)) (hR1 : 1 ≤ R) (hR : R ≤ 400) (hC1 : 1 ≤ C) (hC : C ≤ 400) (h8 : ∀ x ∈ zs, 0 ≤ x ∧ x ≤ 255) :
    Calls Try.prog 94 #[.agg #[.int .i64 (R : Int), .int .i64 (C : Int), .slice a n cp], .int .i64 (rad : Int)] w fun e w' =>
      e = .returned (.func (.func 123) #[] #[.pointer (some ⟨w.heap.size + 1, 0, none⟩), .pointer (some ⟨w.heap.size, 0, none⟩), .pointer (some ⟨w.heap.size + 4, 0, none⟩), .pointer (some ⟨w.heap.size + 2, 0, none⟩)]) ∧ WinAt w' w.heap.size R C rad zs ∧ Below w.heap.size w w' := by
  obtain ⟨i0, hi, hz0, hz1, hz2⟩ := info_parts infoInt
  have hp1 : ((R : Int) + 1) * ((C : Int) + 1) = (((R + 1) * (C + 1) : Nat) : Int) := by simp
  have hp2 : (R + 1) * (C + 1) ≤ 401 * 401 := Nat.mul_le_mul (by omega) (by omega)
  have hmk : ∀ W : World, (Instr.makeSlice 22 (.int .i64 (((R : Int) + 1) * ((C : Int) + 1))) (.int .i64 (((R : Int) + 1) * ((C : Int) + 1)))).run Try.prog W = .ok (.slice (some ⟨W.heap.size, 0, none⟩) ((R + 1) * (C + 1)) ((R + 1) * (C + 1))) (W.alloc (.cells (vals (zerN ((R + 1) * (C + 1)))) 2)) := by
    intro W
    rw [hp1]
    exact make_ints ((R + 1) * (C + 1)) (by omega) W
  have hb1 : 0 ≤ ((R : Int) + 1) * ((C : Int) + 1) := by omega
  have hb2 : ((R : Int) + 1) * ((C : Int) + 1) ≤ 160801 := by omega
  have HN := Lib.hid hn
  have HH := Lib.hid h
  have H8 := Lib.hid h8
  have HP := Lib.hid hp1
  clear h hn h8 hp1
  go_enter Try.func94, Try.ntmps94
  go_wp2
  clear hmk
  obtain ⟨W, hW⟩ : ∃ W : World, W = (((((w.alloc (.cells #[.int .i64 (R : Int), .int .i64 (C : Int), .slice a n cp] 32)).alloc (.cells #[.int .i64 (rad : Int)] 2)).alloc (.cells #[.int .i64 ((C : Int) + 1)] 2)).alloc (.cells (vals (zerN ((R + 1) * (C + 1)))) 2)).alloc (.cells #[.slice (some ⟨w.heap.size + 1 + 1 + 1, 0, none⟩) ((R + 1) * (C + 1)) ((R + 1) * (C + 1))] 22)) := ⟨_, rfl⟩
  rw [← hW]
  have hBW : Below w.heap.size w W := by rw [hW]; repeat' (first | (with_reducible exact Below.refl _ _) | (with_reducible assumption) | (with_reducible refine Below.alloc ?_ ?_ _) | (with_reducible refine Below.setCell ?_ ?_ _) | (with_reducible refine Below.drew ?_) | (with_reducible refine below_drewN ?_ _) | (with_reducible refine below_via (by with_reducible assumption) ?_ ?_) | go_size)
  have HSZ : Hid (W.heap.size = w.heap.size + 5) := by unfold Hid; rw [hW]; simp
  have kP : Box3 W w.heap.size (.int .i64 (R : Int)) (.int .i64 (C : Int)) (.slice a n cp) := by
    rw [hW]; exact (Box3.new w 32 (.int .i64 (R : Int)) (.int .i64 (C : Int)) (.slice a n cp)).keep (by repeat' (first | (with_reducible exact Below.refl _ _) | (with_reducible assumption) | (with_reducible refine Below.alloc ?_ ?_ _) | (with_reducible refine Below.setCell ?_ ?_ _) | (with_reducible refine Below.drew ?_) | (with_reducible refine below_drewN ?_ _) | (with_reducible refine below_via (by with_reducible assumption) ?_ ?_) | go_size))
  have kR : W.cell? ⟨w.heap.size + 1, 0, none⟩ = some (.int .i64 (rad : Int)) := by rw [hW]; simp [go_sem]
  have kV : W.cell? ⟨w.heap.size + 1 + 1, 0, none⟩ = some (.int .i64 ((C : Int) + 1)) := by rw [hW]; simp [go_sem]
  have kS : W.cell? ⟨w.heap.size + 1 + 1 + 1 + 1, 0, none⟩ = some (.slice (some ⟨w.heap.size + 1 + 1 + 1, 0, none⟩) ((R + 1) * (C + 1)) ((R + 1) * (C + 1))) := by rw [hW]; simp [go_sem]
  have kT : Blk W (w.heap.size + 1 + 1 + 1) 2 (vals (tabS zs C R 0)) := by
    have := Blk.new (((w.alloc (.cells #[.int .i64 (R : Int), .int .i64 (C : Int), .slice a n cp] 32)).alloc (.cells #[.int .i64 (rad : Int)] 2)).alloc (.cells #[.int .i64 ((C : Int) + 1)] 2)) 2 (vals (zerN ((R + 1) * (C + 1))))
    simp only [World.size_alloc] at this
    rw [hW]
    exact this.alloc _
  have HK : Hid (∀ wr, Below (w.heap.size + 1 + 1 + 1) W wr → Below w.heap.size w wr ∧ Box3 wr w.heap.size (.int .i64 (R : Int)) (.int .i64 (C : Int)) (.slice a n cp) ∧ wr.cell? ⟨w.heap.size + 1, 0, none⟩ = some (.int .i64 (rad : Int)) ∧ wr.cell? ⟨w.heap.size + 1 + 1, 0, none⟩ = some (.int .i64 ((C : Int) + 1)) ∧ Rd wr a n zs ∧ w.heap.size + 5 ≤ wr.heap.size) := by
    intro wr hb
    have h1 : Below w.heap.size w wr := hBW.trans (hb.mono (by omega))
    have := hb.size
    have := HSZ.out
    exact ⟨h1, Box3.below kP hb (by omega), (hb.cell (p := ⟨_, _, none⟩) (by simp)).trans kR, (hb.cell (p := ⟨_, _, none⟩) (by simp)).trans kV, HH.out.below h1, by omega⟩
  clear hW hBW kP kR kV
  go_loopw [7] (fun i wr => ∃ k : Nat, k ≤ R ∧ i = .int .i64 k ∧ Blk wr (w.heap.size + 1 + 1 + 1) 2 (vals (tabS zs C R (k * C))) ∧ Below (w.heap.size + 1 + 1 + 1) W wr ∧ wr.cell? ⟨w.heap.size + 1 + 1 + 1 + 1, 0, none⟩ = some (.slice (some ⟨w.heap.size + 1 + 1 + 1, 0, none⟩) ((R + 1) * (C + 1)) ((R + 1) * (C + 1)))) (fun i _ => R - (intOf i).toNat)
  case atStart => exact ⟨0, Nat.zero_le _, rfl, by simpa using kT, Below.refl _ _, kS⟩
  case round =>
    clear kS kT
    obtain ⟨k, hk, rfl, hblk, hbel, hsl⟩ := hrel
    obtain ⟨d1, ⟨d2, d3, d4, d5⟩, d6, d7, d8, d9⟩ := HK.out wr hbel
    by_cases hlt : k < R
    · obtain ⟨wo, rfl⟩ : ∃ wo : World, wo = wr := ⟨_, rfl⟩
      clear d8
      go_wp2
      clear d1 d2 d3 d4 d5 d6 d7 d9
      go_loopw [8] (fun i wr => ∃ c : Nat, c ≤ C ∧ i = .int .i64 c ∧ Blk wr (w.heap.size + 1 + 1 + 1) 2 (vals (tabS zs C R (k * C + c))) ∧ Below (w.heap.size + 1 + 1 + 1) W wr ∧ wr.cell? ⟨w.heap.size + 1 + 1 + 1 + 1, 0, none⟩ = some (.slice (some ⟨w.heap.size + 1 + 1 + 1, 0, none⟩) ((R + 1) * (C + 1)) ((R + 1) * (C + 1)))) (fun i _ => C - (intOf i).toNat)
      case atStart => exact ⟨0, Nat.zero_le _, rfl, by simpa using hblk, hbel, hsl⟩
      case round =>
        clear hblk hbel hsl
        obtain ⟨c, hc, rfl, hblk, hbel, hsl⟩ := hrel
        obtain ⟨d1, ⟨d2, d3, d4, d5⟩, d6, d7, d8, d9⟩ := HK.out wr hbel
        by_cases hlc : c < C
        · have hin : k * C + c < zs.length := by
            have e0 := HH.out.1
            have e1 := HN.out
            have e2 : (R : Int) * (C : Int) = ((R * C : Nat) : Int) := by simp
            have e3 : k * C + c < R * C := row_lt hlt hlc
            omega
          have hkc : k * C + c ≤ R * C := Nat.le_of_lt (row_lt hlt hlc)
          have hpx := H8.out _ (getD_mem hin)
          have i1 : k * (C + 1) + (c + 1) < (R + 1) * (C + 1) := tab_idx (by omega) (by omega)
          have i2 : (k + 1) * (C + 1) + c < (R + 1) * (C + 1) := tab_idx (by omega) (by omega)
          have i3 : k * (C + 1) + c < (R + 1) * (C + 1) := tab_idx (by omega) (by omega)
          have i4 : (k + 1) * (C + 1) + (c + 1) < (R + 1) * (C + 1) := tab_idx (by omega) (by omega)
          have b1 := tabS_bd H8.out (show 0 < C by omega) hkc hR hC (i := k) (j := c + 1) (by omega) (by omega)
          have b2 := tabS_bd H8.out (show 0 < C by omega) hkc hR hC (i := k + 1) (j := c) (by omega) (by omega)
          have b3 := tabS_bd H8.out (show 0 < C by omega) hkc hR hC (i := k) (j := c) (by omega) (by omega)
          have hlen := tabS_length zs C R (k * C + c)
          have c1 : wr.cell? ⟨w.heap.size + 1 + 1 + 1, k * (C + 1) + (c + 1), none⟩ = some (.int .i64 ((tabS zs C R (k * C + c)).getD (k * (C + 1) + (c + 1)) 0)) := by
            rw [hblk.cell]; exact vals_get _ _ (by rw [hlen]; exact i1)
          have c2 : wr.cell? ⟨w.heap.size + 1 + 1 + 1, (k + 1) * (C + 1) + c, none⟩ = some (.int .i64 ((tabS zs C R (k * C + c)).getD ((k + 1) * (C + 1) + c) 0)) := by
            rw [hblk.cell]; exact vals_get _ _ (by rw [hlen]; exact i2)
          have c3 : wr.cell? ⟨w.heap.size + 1 + 1 + 1, k * (C + 1) + c, none⟩ = some (.int .i64 ((tabS zs C R (k * C + c)).getD (k * (C + 1) + c) 0)) := by
            rw [hblk.cell]; exact vals_get _ _ (by rw [hlen]; exact i3)
          have c4 : wr.cell? ⟨w.heap.size + 1 + 1 + 1, (k + 1) * (C + 1) + (c + 1), none⟩ = some (.int .i64 ((tabS zs C R (k * C + c)).getD ((k + 1) * (C + 1) + (c + 1)) 0)) := by
            rw [hblk.cell]; exact vals_get _ _ (by rw [hlen]; exact i4)
          have hfz : wr.frozen? ⟨w.heap.size + 1 + 1 + 1, (k + 1) * (C + 1) + (c + 1), none⟩ = false := hblk.frozen _
          have HT : Hid (tabS zs C R (k * C + (c + 1)) = (tabS zs C R (k * C + c)).set ((k + 1) * (C + 1) + (c + 1)) (zs.getD (k * C + c) 0 + (tabS zs C R (k * C + c)).getD (k * (C + 1) + (c + 1)) 0 + (tabS zs C R (k * C + c)).getD ((k + 1) * (C + 1) + c) 0 - (tabS zs C R (k * C + c)).getD (k * (C + 1) + c) 0)) := tabS_next zs C R k c hlc
          obtain ⟨T, hTT⟩ : ∃ T, tabS zs C R (k * C + c) = T := ⟨_, rfl⟩
          rw [hTT] at hblk b1 b2 b3 c1 c2 c3 c4 HT
          obtain ⟨x1, hx1⟩ : ∃ x, T.getD (k * (C + 1) + (c + 1)) 0 = x := ⟨_, rfl⟩
          obtain ⟨x2, hx2⟩ : ∃ x, T.getD ((k + 1) * (C + 1) + c) 0 = x := ⟨_, rfl⟩
          obtain ⟨x3, hx3⟩ : ∃ x, T.getD (k * (C + 1) + c) 0 = x := ⟨_, rfl⟩
          obtain ⟨x4, hx4⟩ : ∃ x, T.getD ((k + 1) * (C + 1) + (c + 1)) 0 = x := ⟨_, rfl⟩
          obtain ⟨px, hpxv⟩ : ∃ x, zs.getD (k * C + c) 0 = x := ⟨_, rfl⟩
          rw [hx1] at b1 c1 HT
          rw [hx2] at b2 c2 HT
          rw [hx3] at b3 c3 HT
          rw [hx4] at c4
          rw [hpxv] at hpx HT
          have HPX := Lib.hid hpxv
          have hA : ((k : Int) + 1) * ((C : Int) + 1) = (((k + 1) * (C + 1) : Nat) : Int) := by simp
          have hB : (k : Int) * ((C : Int) + 1) = ((k * (C + 1) : Nat) : Int) := by simp
          obtain ⟨A, hAA⟩ : ∃ A, (k + 1) * (C + 1) = A := ⟨_, rfl⟩
          obtain ⟨B, hBB⟩ : ∃ B, k * (C + 1) = B := ⟨_, rfl⟩
          obtain ⟨N, hNN⟩ : ∃ N, (R + 1) * (C + 1) = N := ⟨_, rfl⟩
          rw [hAA] at i2 i4 c2 c4 hfz HT hA
          rw [hBB] at i1 i3 c1 c3 hB
          rw [hNN] at i1 i2 i3 i4 hsl hp2
          have HNN := Lib.hid hNN
          have HSL := Lib.hid hsl
          have ho1 : 0 ≤ (A : Int) + (c : Int) + 1 := by omega
          have ho2 : (A : Int) + (c : Int) + 1 < (N : Int) := by omega
          have ho3 : 0 ≤ (B : Int) + (c : Int) + 1 := by omega
          have ho4 : (B : Int) + (c : Int) + 1 < (N : Int) := by omega
          have ho5 : 0 ≤ (A : Int) + (c : Int) := by omega
          have ho6 : (A : Int) + (c : Int) < (N : Int) := by omega
          have ho7 : 0 ≤ (B : Int) + (c : Int) := by omega
          have ho8 : (B : Int) + (c : Int) < (N : Int) := by omega
          have t1 : ((A : Int) + (c : Int) + 1).toNat = A + (c + 1) := by omega
          have t2 : ((B : Int) + (c : Int) + 1).toNat = B + (c + 1) := by omega
          have t3 : ((A : Int) + (c : Int)).toNat = A + c := by omega
          have t4 : ((B : Int) + (c : Int)).toNat = B + c := by omega
          have HBL := Lib.hid hblk
          have HAB : Hid (A = B + (C + 1)) := by unfold Hid; rw [← hAA, ← hBB, Nat.add_mul, Nat.one_mul]
          have HBE := Lib.hid hbel
          have HD8 := Lib.hid d8
          have HC4 := Lib.hid c4
          clear c4 hTT hx1 hx2 hx3 hx4 hpxv hAA hBB hNN hblk hbel hsl d1 d6 d8 hlen hin hkc
          have wr1 : IntKind.i64.wrap ((k : Int) + 1) = (k : Int) + 1 := IntWalk.i64_in _ (by omega)
          have w2 : IntKind.i64.wrap (A : Int) = (A : Int) := IntWalk.i64_in _ (by omega)
          have w3 : IntKind.i64.wrap ((A : Int) + (c : Int)) = (A : Int) + (c : Int) := IntWalk.i64_in _ (by omega)
          have w4 : IntKind.i64.wrap ((A : Int) + (c : Int) + 1) = (A : Int) + (c : Int) + 1 := IntWalk.i64_in _ (by omega)
          have w5 : IntKind.i64.wrap (B : Int) = (B : Int) := IntWalk.i64_in _ (by omega)
          have w6 : IntKind.i64.wrap ((B : Int) + (c : Int)) = (B : Int) + (c : Int) := IntWalk.i64_in _ (by omega)
          have w7 : IntKind.i64.wrap ((B : Int) + (c : Int) + 1) = (B : Int) + (c : Int) + 1 := IntWalk.i64_in _ (by omega)
          have w8 : IntKind.i64.wrap (px + x1) = px + x1 := IntWalk.i64_in _ (by omega)
          have w9 : IntKind.i64.wrap (px + x1 + x2) = px + x1 + x2 := IntWalk.i64_in _ (by omega)
          have w10 : IntKind.i64.wrap (px + x1 + x2 - x3) = px + x1 + x2 - x3 := IntWalk.i64_in _ (by omega)
          have HS : Hid (∀ w', Below wr.heap.size wr w' → Below (w.heap.size + 1 + 1 + 1) W w' ∧ w.heap.size + 5 ≤ w'.heap.size ∧ w'.cell? ⟨w.heap.size, 0, none⟩ = some (.int .i64 (R : Int)) ∧ w'.cell? ⟨w.heap.size, 1, none⟩ = some (.int .i64 (C : Int)) ∧ w'.cell? ⟨w.heap.size, 2, none⟩ = some (.slice a n cp) ∧ w'.cell? ⟨w.heap.size + 1 + 1, 0, none⟩ = some (.int .i64 ((C : Int) + 1)) ∧ w'.cell? ⟨w.heap.size + 1 + 1 + 1 + 1, 0, none⟩ = some (.slice (some ⟨w.heap.size + 1 + 1 + 1, 0, none⟩) N N) ∧ w'.cell? ⟨w.heap.size + 1 + 1 + 1, B + (c + 1), none⟩ = some (.int .i64 x1) ∧ w'.cell? ⟨w.heap.size + 1 + 1 + 1, A + c, none⟩ = some (.int .i64 x2) ∧ w'.cell? ⟨w.heap.size + 1 + 1 + 1, B + c, none⟩ = some (.int .i64 x3) ∧ w'.frozen? ⟨w.heap.size + 1 + 1 + 1, A + (c + 1), none⟩ = false) := by
            intro w' hb
            have hz := hb.size
            exact ⟨HBE.out.trans (hb.mono (by omega)), by omega, (hb.cell (p := ⟨_, _, none⟩) (by simp; omega)).trans d3, (hb.cell (p := ⟨_, _, none⟩) (by simp; omega)).trans d4, (hb.cell (p := ⟨_, _, none⟩) (by simp; omega)).trans d5, (hb.cell (p := ⟨_, _, none⟩) (by simp; omega)).trans d7, (hb.cell (p := ⟨_, _, none⟩) (by simp; omega)).trans HSL.out, (hb.cell (p := ⟨_, _, none⟩) (by simp; omega)).trans c1, (hb.cell (p := ⟨_, _, none⟩) (by simp; omega)).trans c2, (hb.cell (p := ⟨_, _, none⟩) (by simp; omega)).trans c3, (hb.frozen (p := ⟨_, _, none⟩) (by simp; omega)).trans hfz⟩
          have HST : Hid (∀ w', Below wr.heap.size wr w' → ∀ v : Value, Below (w.heap.size + 1 + 1 + 1) W (w'.setCell ⟨w.heap.size + 1 + 1 + 1, A + (c + 1), none⟩ v) ∧ w.heap.size + 5 ≤ (w'.setCell ⟨w.heap.size + 1 + 1 + 1, A + (c + 1), none⟩ v).heap.size ∧ (w'.setCell ⟨w.heap.size + 1 + 1 + 1, A + (c + 1), none⟩ v).cell? ⟨w.heap.size, 0, none⟩ = some (.int .i64 (R : Int)) ∧ (w'.setCell ⟨w.heap.size + 1 + 1 + 1, A + (c + 1), none⟩ v).cell? ⟨w.heap.size, 1, none⟩ = some (.int .i64 (C : Int)) ∧ (w'.setCell ⟨w.heap.size + 1 + 1 + 1, A + (c + 1), none⟩ v).cell? ⟨w.heap.size, 2, none⟩ = some (.slice a n cp) ∧ (w'.setCell ⟨w.heap.size + 1 + 1 + 1, A + (c + 1), none⟩ v).cell? ⟨w.heap.size + 1 + 1, 0, none⟩ = some (.int .i64 ((C : Int) + 1)) ∧ (w'.setCell ⟨w.heap.size + 1 + 1 + 1, A + (c + 1), none⟩ v).cell? ⟨w.heap.size + 1 + 1 + 1 + 1, 0, none⟩ = some (.slice (some ⟨w.heap.size + 1 + 1 + 1, 0, none⟩) N N) ∧ (w'.setCell ⟨w.heap.size + 1 + 1 + 1, A + (c + 1), none⟩ v).cell? ⟨w.heap.size + 1 + 1 + 1, B + (c + 1), none⟩ = some (.int .i64 x1) ∧ (w'.setCell ⟨w.heap.size + 1 + 1 + 1, A + (c + 1), none⟩ v).cell? ⟨w.heap.size + 1 + 1 + 1, A + c, none⟩ = some (.int .i64 x2) ∧ (w'.setCell ⟨w.heap.size + 1 + 1 + 1, A + (c + 1), none⟩ v).cell? ⟨w.heap.size + 1 + 1 + 1, B + c, none⟩ = some (.int .i64 x3) ∧ (w'.setCell ⟨w.heap.size + 1 + 1 + 1, A + (c + 1), none⟩ v).frozen? ⟨w.heap.size + 1 + 1 + 1, A + (c + 1), none⟩ = false) := by
            intro w' hb v
            obtain ⟨s1, s2, s3, s4, s5, s6, s7, s8, s9, s10, s11⟩ := HS.out w' hb
            have hab := HAB.out
            refine ⟨s1.setCell (by simp) _, by simpa using s2, ?_, ?_, ?_, ?_, ?_, ?_, ?_, ?_, by simpa using s11⟩
            all_goals (rw [World.cell?_setCell_other _ _ _ _ (by simp <;> omega)]; assumption)
          go_wp2_with fail
          go_region_held3 (fun w' => Below (w.heap.size + 1 + 1 + 1) W w' ∧ w.heap.size + 5 ≤ w'.heap.size ∧ w'.cell? ⟨w.heap.size, 0, none⟩ = some (.int .i64 (R : Int)) ∧ w'.cell? ⟨w.heap.size, 1, none⟩ = some (.int .i64 (C : Int)) ∧ w'.cell? ⟨w.heap.size, 2, none⟩ = some (.slice a n cp) ∧ w'.cell? ⟨w.heap.size + 1 + 1, 0, none⟩ = some (.int .i64 ((C : Int) + 1)) ∧ w'.cell? ⟨w.heap.size + 1 + 1 + 1 + 1, 0, none⟩ = some (.slice (some ⟨w.heap.size + 1 + 1 + 1, 0, none⟩) N N) ∧ w'.cell? ⟨w.heap.size + 1 + 1 + 1, B + (c + 1), none⟩ = some (.int .i64 x1) ∧ w'.cell? ⟨w.heap.size + 1 + 1 + 1, A + c, none⟩ = some (.int .i64 x2) ∧ w'.cell? ⟨w.heap.size + 1 + 1 + 1, B + c, none⟩ = some (.int .i64 x3) ∧ w'.frozen? ⟨w.heap.size + 1 + 1 + 1, A + (c + 1), none⟩ = false) (first | exact HS4.out _ | exact HS.out _ (by repeat' (first | (with_reducible exact Below.refl _ _) | (with_reducible assumption) | (with_reducible refine Below.alloc ?_ ?_ _) | (with_reducible refine Below.setCell ?_ ?_ _) | (with_reducible refine Below.drew ?_) | (with_reducible refine below_drewN ?_ _) | (with_reducible refine below_via (by with_reducible assumption) ?_ ?_) | go_size))) ((go_at_call 68; refine (iPix (R : Int) (C : Int) a n cp zs (k : Int) (c : Int) _ (Rd.below HD8.out (by repeat' (first | (with_reducible exact Below.refl _ _) | (with_reducible assumption) | (with_reducible refine Below.alloc ?_ ?_ _) | (with_reducible refine Below.setCell ?_ ?_ _) | (with_reducible refine Below.drew ?_) | (with_reducible refine below_drewN ?_ _) | (with_reducible refine below_via (by with_reducible assumption) ?_ ?_) | go_size))) (by omega) (by omega) (by omega) (by omega) (by omega) (by omega) HN.out).mono ?_; rw [pixV_nat, HPX.out]; rintro e w1 ⟨rfl, hb1⟩; have hz1 := hb1.size; have HBQ : Hid (Below wr.heap.size wr w1) := (by unfold Hid; repeat' (first | (with_reducible exact Below.refl _ _) | (with_reducible assumption) | (with_reducible refine Below.alloc ?_ ?_ _) | (with_reducible refine Below.setCell ?_ ?_ _) | (with_reducible refine Below.drew ?_) | (with_reducible refine below_drewN ?_ _) | (with_reducible refine below_via (by with_reducible assumption) ?_ ?_) | go_size)); have HS4 := Lib.hid (HST.out w1 HBQ.out); have q4 : w1.cell? ⟨w.heap.size + 1 + 1 + 1, A + (c + 1), none⟩ = some (.int .i64 x4) := (HBQ.out.cell (p := ⟨_, _, none⟩) (by simp; omega)).trans HC4.out))
          all_goals
            have HN2 : Hid (Blk (w1.setCell ⟨w.heap.size + 1 + 1 + 1, A + (c + 1), none⟩ (.int .i64 (px + x1 + x2 - x3))) (w.heap.size + 1 + 1 + 1) 2 (vals (tabS zs C R (k * C + (c + 1))))) := by
              have := (HBL.out.keep HBQ.out).set_ (A + (c + 1)) (.int .i64 (px + x1 + x2 - x3))
              rw [vals_set, ← HT.out] at this
              exact this
            have HS5 : Hid (Below (w.heap.size + 1 + 1 + 1) W (w1.setCell ⟨w.heap.size + 1 + 1 + 1, A + (c + 1), none⟩ (.int .i64 (px + x1 + x2 - x3))) ∧ (w1.setCell ⟨w.heap.size + 1 + 1 + 1, A + (c + 1), none⟩ (.int .i64 (px + x1 + x2 - x3))).cell? ⟨w.heap.size + 1 + 1 + 1 + 1, 0, none⟩ = some (.slice (some ⟨w.heap.size + 1 + 1 + 1, 0, none⟩) ((R + 1) * (C + 1)) ((R + 1) * (C + 1)))) := by
              have q := HS4.out (.int .i64 (px + x1 + x2 - x3))
              rw [HNN.out]
              exact ⟨q.1, q.2.2.2.2.2.2.1⟩
            clear HS4 HST HS q4 wr1 w2 w3 w4 w5 w6 w7 w8 w9 w10 t1 t2 t3 t4 ho1 ho2 ho3 ho4 ho5 ho6 ho7 ho8 hA hB c1 c2 c3 d2 d3 d4 d5 d7
            go_wp2
            go_roundw
            case rel => exact ⟨c + 1, by omega, by go_num, HN2.out, HS5.out.1, HS5.out.2⟩
            case measure => simp [intOf]; omega
        · have hce : c = C := by omega
          have e : k * C + C = (k + 1) * C := by rw [Nat.add_mul, Nat.one_mul]
          rw [hce, e] at hblk
          have HO := Lib.hid hblk
          have HB := Lib.hid hbel
          clear hce hblk hbel e d1 d8 d6 d7
          go_wp2
          go_roundw
          case rel => exact ⟨k + 1, by omega, by go_num, HO.out, HB.out, hsl⟩
          case measure => simp [intOf]; omega
    · have hke : k = R := by omega
      rw [hke] at hblk
      have HA : Hid (WinAt wr w.heap.size R C rad zs ∧ Below w.heap.size w wr) := ⟨⟨by omega, d3, d4, d6, d7, hsl, hblk⟩, d1⟩
      clear hke hblk hbel d1 d8 d6 d7 hsl
      go_wp2
      go_returns
      exact ⟨rfl, HA.out.1, HA.out.2⟩
end Go.Proofs.Ytfiddbmjgncabaa
