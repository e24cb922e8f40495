/-
  DERIVED. A grid and a print drawn for PrintGrid.
-/
import Derived.Test.YtfiddbmjgncabaaDG16
import Derived.Test.YtfiddbmjgncabaaDG21
import Derived.Deep.Cut
import Derived.Deep.RegionHeld3
namespace Go.Proofs.Ytfiddbmjgncabaa
open Go.RowKit
set_option linter.unusedVariables false
/-- All blocks of W but g, b and the one behind b are as they were. -/
def KX3 (W wr : World) (g b : Nat) : Prop := W.heap.size ≤ wr.heap.size ∧ ∀ c, c < W.heap.size → c ≠ g → c ≠ b → c ≠ b + 1 → wr.heap[c]? = W.heap[c]?
theorem KX3.refl (W : World) (g b : Nat) : KX3 W W.drew g b := ⟨Nat.le_refl _, fun _ _ _ _ _ => rfl⟩
theorem KX3.set {W wr w1 : World} {g b : Nat} (h : KX3 W wr g b) (hg : wr.grownBy w1 (some b)) : KX3 W w1 g b :=
  ⟨Nat.le_trans h.1 hg.size, fun c h1 h2 h3 h4 => (hg.block c (by have := h.1; omega) (fun e => by injection e with e; exact h3 e)).trans (h.2 c h1 h2 h3 h4)⟩
theorem KX3.set1 {W wr w1 : World} {g b : Nat} (h : KX3 W wr g b) (hg : wr.grownBy w1 (some (b + 1))) : KX3 W w1 g b :=
  ⟨Nat.le_trans h.1 hg.size, fun c h1 h2 h3 h4 => (hg.block c (by have := h.1; omega) (fun e => by injection e with e; exact h4 e)).trans (h.2 c h1 h2 h3 h4)⟩
theorem KX3.kx {W wr w1 : World} {g b : Nat} (h : KX3 W wr g b) (hk : KX wr w1 wr.heap.size g) : KX3 W w1 g b :=
  ⟨Nat.le_trans h.1 hk.1, fun c h1 h2 h3 h4 => (hk.2 c (by have := h.1; omega) h2).trans (h.2 c h1 h2 h3 h4)⟩
theorem KX3.cell {W wr : World} {g b c i : Nat} (h : KX3 W wr g b) (h1 : c < W.heap.size) (h2 : c ≠ g) (h3 : c ≠ b) (h4 : c ≠ b + 1) : wr.cell? ⟨c, i, none⟩ = W.cell? ⟨c, i, none⟩ := World.cell?_of_block (a := ⟨c, i, none⟩) (h.2 c h1 h2 h3 h4)
theorem KX.block {W wr : World} {base g b : Nat} (h : KX W wr base g) (h1 : b < base) (h2 : b ≠ g) : wr.heap[b]? = W.heap[b]? := h.2 b h1 h2
theorem Out3.blk {w w' : World} {b : Nat} (h : Out3 w b) (hb : w'.heap[b]? = w.heap[b]?) (hz : w.heap.size ≤ w'.heap.size) : Out3 w' b := by
  obtain ⟨h1, h2, h3, h4, h5, h6, h7⟩ := h
  have hc : ∀ i, w'.cell? ⟨b, i, none⟩ = w.cell? ⟨b, i, none⟩ := fun i => World.cell?_of_block (a := ⟨b, i, none⟩) hb
  have hf : ∀ i, w'.frozen? ⟨b, i, none⟩ = w.frozen? ⟨b, i, none⟩ := fun i => World.frozen?_of_block (a := ⟨b, i, none⟩) hb
  exact ⟨Nat.lt_of_lt_of_le h1 hz, (hc 0).trans h2, (hc 1).trans h3, (hc 2).trans h4, (hf 0).trans h5, (hf 1).trans h6, (hf 2).trans h7⟩
theorem B6.blk {w w' : World} {b : Nat} {f : Nat → Int} (h : B6 w b f) (hb : w'.heap[b]? = w.heap[b]?) (hz : w.heap.size ≤ w'.heap.size) : B6 w' b f :=
  ⟨Nat.lt_of_lt_of_le h.1 hz, fun j hj => ⟨(World.cell?_of_block (a := ⟨b, j, none⟩) hb).trans (h.2 j hj).1, (World.frozen?_of_block (a := ⟨b, j, none⟩) hb).trans (h.2 j hj).2⟩⟩
theorem Box3.nxt3 {w w1 : World} {b g : Nat} {x y z : Value} (h : Box3 w b x y z) (hg : w.grownBy w1 (some g)) (hb : b ≠ g) : Box3 w1 b x y z :=
  ⟨Nat.lt_of_lt_of_le h.1 hg.size, cell_nxt h.2.1 hg hb, cell_nxt h.2.2.1 hg hb, cell_nxt h.2.2.2 hg hb⟩
theorem B6.congr {w : World} {b : Nat} {f f' : Nat → Int} (h : B6 w b f) (he : ∀ j, j < 6 → f j = f' j) : B6 w b f' :=
  ⟨h.1, fun j hj => ⟨by rw [← he j hj]; exact (h.2 j hj).1, (h.2 j hj).2⟩⟩
theorem bytes_up {w : World} {a : Option Addr} {n g g' : Nat} (h : BytesIn w a n g) (hg : g ≤ g') : BytesIn w a n g' := fun hp => by
  obtain ⟨b, off, e, hb, hc⟩ := h hp
  exact ⟨b, off, e, by omega, hc⟩
theorem store3b {w : World} {b : Nat} {x y z u0 u1 u2 : Value} (hb : b < w.heap.size) (h0 : w.cell? ⟨b, 0, none⟩ = some u0) (h1 : w.cell? ⟨b, 1, none⟩ = some u1) (h2 : w.cell? ⟨b, 2, none⟩ = some u2) : Hid (Box3 (((w.setCell ⟨b, 0, none⟩ x).setCell ⟨b, 1, none⟩ y).setCell ⟨b, 2, none⟩ z) b x y z) := by
  refine ⟨by simpa using hb, ?_, ?_, ?_⟩
  · rw [World.cell?_setCell_other _ _ _ _ (by simp), World.cell?_setCell_other _ _ _ _ (by simp)]
    exact World.cell?_setCell_same w ⟨b, 0, none⟩ x h0
  · rw [World.cell?_setCell_other _ _ _ _ (by simp)]
    exact World.cell?_setCell_same _ ⟨b, 1, none⟩ y ((World.cell?_setCell_other _ _ _ _ (by simp)).trans h1)
  · exact World.cell?_setCell_same _ ⟨b, 2, none⟩ z ((World.cell?_setCell_other _ _ _ _ (by simp)).trans ((World.cell?_setCell_other _ _ _ _ (by simp)).trans h2))
theorem B6.store6 {w : World} {b : Nat} {f0 : Nat → Int} (h : B6 w b f0) (f : Nat → Int) : Hid (B6 ((((((w.setCell ⟨b, 0, none⟩ (.int .i64 (f 0))).setCell ⟨b, 1, none⟩ (.int .i64 (f 1))).setCell ⟨b, 2, none⟩ (.int .i64 (f 2))).setCell ⟨b, 3, none⟩ (.int .i64 (f 3))).setCell ⟨b, 4, none⟩ (.int .i64 (f 4))).setCell ⟨b, 5, none⟩ (.int .i64 (f 5))) b f) := by
  refine B6.congr ((((((h.set (i := 0) (by omega) _).set (i := 1) (by omega) _).set (i := 2) (by omega) _).set (i := 3) (by omega) _).set (i := 4) (by omega) _).set (i := 5) (by omega) _) ?_
  intro j hj
  rcases j with _ | _ | _ | _ | _ | _ | j
  · rfl
  · rfl
  · rfl
  · rfl
  · rfl
  · rfl
  · omega
theorem grown6 (w : World) (b : Nat) (f : Nat → Int) : w.grownBy ((((((w.setCell ⟨b, 0, none⟩ (.int .i64 (f 0))).setCell ⟨b, 1, none⟩ (.int .i64 (f 1))).setCell ⟨b, 2, none⟩ (.int .i64 (f 2))).setCell ⟨b, 3, none⟩ (.int .i64 (f 3))).setCell ⟨b, 4, none⟩ (.int .i64 (f 4))).setCell ⟨b, 5, none⟩ (.int .i64 (f 5))) (some b) :=
  only_setCell (only_setCell (only_setCell (only_setCell (only_setCell (only_setCell (World.grownBy.refl w _) _) _) _) _) _) _
def DrawnPrG (w : World) (e : Ending) (w' : World) : Prop := ∃ (r c : Int) (a : Option Addr) (n cp : Nat) (zs : List Int) (f : Nat → Int),
  e = .returned (.tuple #[.agg #[.int .i64 r, .int .i64 c, .slice a n cp], .agg #[.int .i64 (f 0), .int .i64 (f 1), .int .i64 (f 2), .int .i64 (f 3), .int .i64 (f 4), .int .i64 (f 5)]]) ∧ n ≤ 1048576 ∧ n ≤ cp ∧ Rd w' a n zs ∧ Below w.heap.size w w'
set_option maxRecDepth 100000 in
set_option maxHeartbeats 8000000 in
theorem dPrG (a : Option Addr) (n cp : Nat) (w : World) (h : BytesIn w a n w.heap.size) (hn : n ≤ 1048576) : Calls Try.prog 28 #[.slice a n cp] w (DrawnPrG w) := by
  have HO1 := Lib.hid (Out3.new w 29)
  obtain ⟨Wa, hWa⟩ : ∃ Wa : World, Wa = w.alloc (.cells #[.int .i64 0, .int .i64 0, .slice none 0 0] 29) := ⟨_, rfl⟩
  have hza : Wa.heap.size = w.heap.size + 1 := by rw [hWa]; simp
  have hzr := B6.zero Wa 34
  rw [hza] at hzr
  have HZ1 := Lib.hid hzr
  clear hzr
  go_enter Try.func28, Try.ntmps28
  go_wp2_with fail
  obtain ⟨W0, hW0⟩ : ∃ W0 : World, W0 = (w.alloc (.cells #[.int .i64 0, .int .i64 0, .slice none 0 0] 29)).alloc (.cells #[.int .i64 0, .int .i64 0, .int .i64 0, .int .i64 0, .int .i64 0, .int .i64 0] 34) := ⟨_, rfl⟩
  have hk0 : Below w.heap.size w W0 := by rw [hW0]; repeat' (first | (with_reducible exact Below.refl _ _) | (with_reducible assumption) | (with_reducible refine Below.alloc ?_ ?_ _) | (with_reducible refine Below.setCell ?_ ?_ _) | (with_reducible refine Below.drew ?_) | (with_reducible refine below_drewN ?_ _) | (with_reducible refine below_via (by with_reducible assumption) ?_ ?_) | go_size)
  have hO1 : Hid (Out3 W0 w.heap.size) := by rw [hW0]; exact HO1.out.keep ((Below.refl _ _).alloc (Nat.le_refl _) _)
  have hZ1 : Hid (B6 W0 (w.heap.size + 1) (fun _ => 0)) := by rw [hW0, ← hWa]; exact HZ1.out
  have hz0 : W0.heap.size = w.heap.size + 2 := by rw [hW0]; simp
  have hby : BytesIn W0 a n w.heap.size := h.kept (fun b hb => hk0.block b hb)
  have HBY := Lib.hid (bytes_up hby (show w.heap.size ≤ W0.heap.size by omega))
  clear hby
  rw [← hW0]
  have HK0 := Lib.hid hk0
  clear hW0 HO1 HZ1 hk0 h hWa
  refine (sFrom a n cp _ HBY.out hn).mono ?_
  rintro e w1 ⟨g, rfl, hgl, hs1, hb1⟩
  have hz1 := hb1.size
  have HS1 := Lib.hid hs1
  have HX1 := Lib.hid hb1
  clear hs1 hb1 HBY
  go_wp2_with fail
  refine (d16 g _ HS1.out W0 HX1.out hgl).mono ?_
  rintro e w2 ⟨r, c, a3, n3, c3, zs, rfl, hn3, hc3, hr3, hb3, hf3, hk3⟩
  have HR3 := Lib.hid hr3
  have HX3 := Lib.hid hb3
  have HF3 := Lib.hid hf3
  have HK3 := Lib.hid hk3
  have hz3 := hk3.2.1
  have hgw := HS1.out.lt
  have bP := Lib.hid (Box3.new w2 29 (.int .i64 r) (.int .i64 c) (.slice a3 n3 c3))
  clear hr3 hb3 hf3 hk3
  go_wp2_with fail
  obtain ⟨V, hV⟩ : ∃ V : World, V = w2.alloc (.cells #[.int .i64 r, .int .i64 c, .slice a3 n3 c3] 29) := ⟨_, rfl⟩
  have hBa : Below w2.heap.size w2 V := by rw [hV]; exact (Below.refl _ _).alloc (Nat.le_refl _) _
  have hzV : V.heap.size = w2.heap.size + 1 := by rw [hV]; simp
  have HPV : Hid (Box3 V w2.heap.size (.int .i64 r) (.int .i64 c) (.slice a3 n3 c3)) := by rw [hV]; exact bP.out
  have HRV : Hid (Rd V a3 n3 zs) := HR3.out.below hBa
  have HXV : Hid (Below W0.heap.size W0 V) := HX3.out.trans (hBa.mono (by have := HX3.out.size; omega))
  have HSV : Hid (Src V g) := HK3.out.1.keep hBa
  have HOV : Hid (Out3 V w.heap.size) := hO1.out.keep HXV.out
  have HZV : Hid (B6 V (w.heap.size + 1) (fun _ => 0)) := hZ1.out.keep HXV.out
  have HWV : Hid (Below w.heap.size w V) := HK0.out.trans (HXV.out.mono (by omega))
  rw [← hV]
  clear hV bP HR3 HX3 hBa HK3 HS1 HX1 hO1 hZ1
  have lt2 : w2.heap.size < V.heap.size := by omega
  have ne2 : w2.heap.size ≠ g := by omega
  have ne3 : w2.heap.size ≠ w.heap.size := by omega
  have ne4 : w2.heap.size ≠ w.heap.size + 1 := by omega
  refine wp_region_inv (fun d ac wz => ∃ (u10 u11 u12 : Value) (f : Nat → Int), ac = ({ tmps := #[.slice a n cp, undef, .pointer (some ⟨w.heap.size, 0, none⟩), .pointer (some ⟨w.heap.size + 1, 0, none⟩), .pointer (some ⟨g, 0, none⟩), .pointer (some ⟨w2.heap.size, 0, none⟩), .slice a n cp, .pointer (some ⟨g, 0, none⟩), .pointer (some ⟨g, 0, none⟩), .agg #[.int .i64 r, .int .i64 c, .slice a3 n3 c3], u10, u11, u12], defers := [] } : Act) ∧ KX3 V wz g w.heap.size ∧ (d 2 = false → Src wz g) ∧ (d 2 = false → Below W0.heap.size W0 wz) ∧ Below w.heap.size w wz ∧ (d 3 = false → Out3 wz w.heap.size) ∧ (d 3 = true → Box3 wz w.heap.size (.int .i64 r) (.int .i64 c) (.slice a3 n3 c3)) ∧ (d 4 = false → B6 wz (w.heap.size + 1) (fun _ => 0)) ∧ (d 4 = true → B6 wz (w.heap.size + 1) f) ∧ (d 3 = true → d 2 = true) ∧ (d 4 = true → d 2 = true) ∧ (d 0 = true → u10 = .agg #[.int .i64 r, .int .i64 c, .slice a3 n3 c3]) ∧ (d 1 = true → u11 = .pointer (some ⟨g, 0, none⟩)) ∧ (d 2 = true → u12 = .agg #[.int .i64 (f 0), .int .i64 (f 1), .int .i64 (f 2), .int .i64 (f 3), .int .i64 (f 4), .int .i64 (f 5)])) (by kernel_rfl) (by kernel_rfl) ?_ ?_ ?_
  · exact ⟨_, _, _, fun _ => 0, rfl, KX3.refl V g w.heap.size, fun _ => HSV.out.keep (Below.refl _ _).drew, fun _ => HXV.out.drew, HWV.out.drew, fun _ => HOV.out.keep (Below.refl _ _).drew, (fun h => by cases h), fun _ => HZV.out.keep (Below.refl _ _).drew, (fun h => by cases h), (fun h => by cases h), (fun h => by cases h), (fun h => by cases h), (fun h => by cases h), (fun h => by cases h)⟩
  · refine Steps.cons (fun d ac wz hI hd hdep K hK' => ?_) ?_
    · obtain ⟨u10, u11, u12, f, rfl, hK, hS, hX, hW, hO, hB, hZ, hF, s3, s4, f0, f1, f2⟩ := hI
      have x0 := (hK.cell (i := 0) lt2 ne2 ne3 ne4).trans HPV.out.2.1
      have x1 := (hK.cell (i := 1) lt2 ne2 ne3 ne4).trans HPV.out.2.2.1
      have x2 := (hK.cell (i := 2) lt2 ne2 ne3 ne4).trans HPV.out.2.2.2
      go_simp
      refine hK' _ _ ⟨_, _, _, f, rfl, hK, hS, hX, hW, hO, hB, hZ, hF, s3, s4, (fun _ => rfl), f1, f2⟩
    refine Steps.cons (fun d ac wz hI hd hdep K hK' => ?_) ?_
    · obtain ⟨u10, u11, u12, f, rfl, hK, hS, hX, hW, hO, hB, hZ, hF, s3, s4, f0, f1, f2⟩ := hI
      go_simp
      refine hK' _ _ ⟨_, _, _, f, rfl, hK, hS, hX, hW, hO, hB, hZ, hF, s3, s4, f0, (fun _ => rfl), f2⟩
    refine Steps.cons (fun d ac wz hI hd hdep K hK' => ?_) ?_
    · obtain ⟨u10, u11, u12, f, rfl, hK, hS, hX, hW, hO, hB, hZ, hF, s3, s4, f0, f1, f2⟩ := hI
      have q1 := f1 (hdep 1 rfl)
      subst q1
      have hn3 : d 3 = false := by
        cases h : d 3 with
        | false => rfl
        | true => have h7 := s3 h; rw [hd] at h7; cases h7
      have hn4 : d 4 = false := by
        cases h : d 4 with
        | false => rfl
        | true => have h7 := s4 h; rw [hd] at h7; cases h7
      have hs := hS hd
      have hx := hX hd
      have hzx := hx.size
      have hkz := hK.1
      go_simp
      refine (d21 g wz hs W0 hx hgl).mono ?_
      rintro e w1' ⟨f', rfl, hkx, hbx⟩
      have hb1 := hkx.block (b := w.heap.size) (by omega) (by omega)
      have hb2 := hkx.block (b := w.heap.size + 1) (by omega) (by omega)
      have hsz := hkx.1
      refine hK' _ _ ⟨_, _, _, f', rfl, (hK.kx hkx), (fun h => by cases h), (fun h => by cases h), (HK0.out.trans (hbx.mono (by omega))), (fun h => (hO hn3).blk hb1 hsz), (fun h => absurd (h.symm.trans hn3) (by decide)), (fun h => (hZ hn4).blk hb2 hsz), (fun h => absurd (h.symm.trans hn4) (by decide)), (fun _ => rfl), (fun _ => rfl), f0, f1, (fun _ => rfl)⟩
    refine Steps.cons (fun d ac wz hI hd hdep K hK' => ?_) ?_
    · obtain ⟨u10, u11, u12, f, rfl, hK, hS, hX, hW, hO, hB, hZ, hF, s3, s4, f0, f1, f2⟩ := hI
      have q0 := f0 (hdep 0 rfl)
      subst q0
      obtain ⟨o1, o2, o3, o4, o5, o6, o7⟩ := hO hd
      have hst := store3b (x := .int .i64 r) (y := .int .i64 c) (z := .slice a3 n3 c3) o1 o2 o3 o4
      have hd2 := hdep 2 rfl
      have q2 := f2 hd2
      subst q2
      go_simp
      have hg3 : wz.grownBy (((wz.setCell ⟨w.heap.size, 0, none⟩ (.int .i64 r)).setCell ⟨w.heap.size, 1, none⟩ (.int .i64 c)).setCell ⟨w.heap.size, 2, none⟩ (.slice a3 n3 c3)) (some w.heap.size) := only_setCell (only_setCell (only_setCell (World.grownBy.refl wz _) _) _) _
      refine hK' _ _ ⟨_, _, _, f, rfl, (hK.set hg3), (fun h => absurd h (by simp [hd2])), (fun h => absurd h (by simp [hd2])), (((hW.setCell (Nat.le_refl _) _).setCell (Nat.le_refl _) _).setCell (Nat.le_refl _) _), (fun h => by cases h), (fun _ => hst.out), (fun h => (hZ h).nxt hg3 (by omega)), (fun h => (hF h).nxt hg3 (by omega)), (fun _ => hd2), s4, f0, f1, (fun _ => rfl)⟩
    refine Steps.cons (fun d ac wz hI hd hdep K hK' => ?_) ?_
    · obtain ⟨u10, u11, u12, f, rfl, hK, hS, hX, hW, hO, hB, hZ, hF, s3, s4, f0, f1, f2⟩ := hI
      have q2 := f2 (hdep 2 rfl)
      subst q2
      have hb6 := hZ hd
      obtain ⟨_, _, _, _, _, _, _, _, _, _, _, _, _⟩ := hb6.all
      have hd2 := hdep 2 rfl
      have hst := hb6.store6 f
      go_simp
      have hg3 := grown6 wz (w.heap.size + 1) f
      refine hK' _ _ ⟨_, _, _, f, rfl, (hK.set1 hg3), (fun h => absurd h (by simp [hd2])), (fun h => absurd h (by simp [hd2])), ((((((hW.setCell (Nat.le_succ _) _).setCell (Nat.le_succ _) _).setCell (Nat.le_succ _) _).setCell (Nat.le_succ _) _).setCell (Nat.le_succ _) _).setCell (Nat.le_succ _) _), (fun h => (hO h).nxt hg3 (by omega)), (fun h => (hB h).nxt3 hg3 (by omega)), (fun h => by cases h), (fun _ => hst.out), s3, (fun _ => hd2), f0, f1, f2⟩
    exact Steps.nil
  · intro d ac wz hI hall
    obtain ⟨u10, u11, u12, f, rfl, hK, hS, hX, hW, hO, hB, hZ, hF, s3, s4, f0, f1, f2⟩ := hI
    have hb := hB (hall 3 (by decide))
    have hf := hF (hall 4 (by decide))
    have HKX := Lib.hid hK
    have HBW := Lib.hid hW
    clear hK hS hX hW hO hB hZ hF s3 s4 f0 f1 f2 hall
    obtain ⟨p1, p2, p3, p4⟩ := hb
    obtain ⟨_, _, _, _, _, _, _, _, _, _, _, _, _⟩ := hf.all
    go_wp2
    (try simp only [Exit.inBlock, Exit.then])
    refine bodyPost_ret (v := .tuple #[.agg #[.int .i64 r, .int .i64 c, .slice a3 n3 c3], .agg #[.int .i64 (f 0), .int .i64 (f 1), .int .i64 (f 2), .int .i64 (f 3), .int .i64 (f 4), .int .i64 (f 5)]]) (by simp [results, Try.results28, go_sem, *]) rfl ?_
    refine ⟨r, c, a3, n3, c3, zs, f, rfl, by omega, hc3, ?_, HBW.out⟩
    refine ⟨HRV.out.1, fun hp => ?_⟩
    obtain ⟨b, off, e, hlt, hcl⟩ := HRV.out.2 hp
    have hge := HF3.out b off e
    exact ⟨b, off, e, Nat.lt_of_lt_of_le hlt HKX.out.1, fun i hi => (HKX.out.cell hlt (by omega) (by omega) (by omega)).trans (hcl i hi)⟩
end Go.Proofs.Ytfiddbmjgncabaa
