/-
  DERIVED. FnSections: what is drawn.
-/
import Derived.Test.YtbcbdphnbfjhoaaDraw0
import Derived.Test.YtbcbdphnbfjhoaaSect2
import Derived.Test.YtbcbdphnbfjhoaaSize
import Derived.Conc.MuLone
import Derived.Maps.AppendAt
import Derived.Deep.AppendLies
namespace Go.Proofs.Ytbcbdphnbfjhoaa
open Go.RowKit
set_option linter.unusedVariables false
set_option maxRecDepth 100000 in
set_option maxHeartbeats 8000000 in
theorem dIsSection (a : Option Addr) (n cp : Nat) (w : World) (h : BytesIn w a n w.heap.size) (hn : n ≤ 1048576) : Calls Try.prog 47 #[.slice a n cp] w (DrawnInts w 5) := by
  obtain ⟨i0, hi, iz0, iz1, iz2⟩ := info_parts infoInt
  have HBY := Lib.hid h
  clear h
  go_enter Try.func47, Try.ntmps47
  go_wp2_with fail
  refine (sFrom a n cp _ HBY.out hn).mono ?_
  rintro e w1 ⟨g, rfl, hgl, hs1, hb1⟩
  have HSR1 := Lib.hid hs1
  have hgw := hs1.lt
  clear hs1
  have hz1' := hb1.size
  go_wp2_with fail
  refine (sNext g 4 _ HSR1.out).mono ?_
  rintro e w2 ⟨x2, rfl, x2a, x2b, -, hs2, hg2⟩
  have HSR2 := Lib.hid hs2
  clear hs2
  have hz2 := hg2.size
  have x2b' := x2b (by omega)
  clear x2b
  have HB2 := Lib.hid (below_nxt hb1 hg2 hz1' hgl)
  have hww : w.heap.size ≤ w2.heap.size := Nat.le_trans hz1' hg2.size
  have hgw2 : g < w2.heap.size := Nat.lt_of_lt_of_le hgw hg2.size
  clear hb1 hg2
  have HO0 : Hid ((w2.alloc (.cells #[] 2)).ownsRow w2.heap.size 2 1 (.slice (some ⟨w2.heap.size, 0, none⟩) 0 0) 0 []) := by
    have := World.ownsRow_lit (base := w2.heap.size) (e := 2) (size := 1) w2 #[] 0 (Nat.le_refl _) (by unfold maxLen; omega) (by simp)
    simp at this
    exact this
  go_wp2
  have hlit : ∀ k, k < 5 → ∃ y : Int, 1 ≤ y ∧ y ≤ 3 ∧ ((w2.alloc (.cells #[] 2)).alloc (.cells #[.int .i64 1, .int .i64 1, .int .i64 3, .int .i64 1, .int .i64 1] 2)).cell? ⟨w2.heap.size + 1, k, none⟩ = some (.int .i64 y) := by
    intro k hk
    have : k = 0 ∨ k = 1 ∨ k = 2 ∨ k = 3 ∨ k = 4 := by omega
    rcases this with rfl | rfl | rfl | rfl | rfl
    · exact ⟨1, by omega, by omega, by simp [go_sem]⟩
    · exact ⟨1, by omega, by omega, by simp [go_sem]⟩
    · exact ⟨3, by omega, by omega, by simp [go_sem]⟩
    · exact ⟨1, by omega, by omega, by simp [go_sem]⟩
    · exact ⟨1, by omega, by omega, by simp [go_sem]⟩
  have hbA : Below w2.heap.size w2 ((w2.alloc (.cells #[] 2)).alloc (.cells #[.int .i64 1, .int .i64 1, .int .i64 3, .int .i64 1, .int .i64 1] 2)) := by repeat' (first | (with_reducible exact Below.refl _ _) | (with_reducible assumption) | (with_reducible refine Below.alloc ?_ ?_ _) | (with_reducible refine Below.setCell ?_ ?_ _) | (with_reducible refine Below.drew ?_) | (with_reducible refine below_drewN ?_ _) | (with_reducible refine below_via (by with_reducible assumption) ?_ ?_) | go_size)
  have hoA : ((w2.alloc (.cells #[] 2)).alloc (.cells #[.int .i64 1, .int .i64 1, .int .i64 3, .int .i64 1, .int .i64 1] 2)).ownsRow w2.heap.size 2 1 (.slice (some ⟨w2.heap.size, 0, none⟩) 0 0) 0 [] := HO0.out.alloc _
  have hsA : ((w2.alloc (.cells #[] 2)).alloc (.cells #[.int .i64 1, .int .i64 1, .int .i64 3, .int .i64 1, .int .i64 1] 2)).heap.size = w2.heap.size + 2 := by simp
  generalize hWA : (w2.alloc (.cells #[] 2)).alloc (.cells #[.int .i64 1, .int .i64 1, .int .i64 3, .int .i64 1, .int .i64 1] 2) = WA at hlit hbA hoA hsA ⊢
  clear hWA
  have HLIT := Lib.hid hlit
  have HBA := Lib.hid hbA
  have HSA := Lib.hid (HSR2.out.keep hbA)
  have HOA := Lib.hid hoA
  clear hlit hbA hoA
  go_loopw [5, 16] (fun v i wr => ∃ (k : Nat) (zs : List Int), k ≤ 5 ∧ i = .int .i64 k ∧ zs.length = k ∧ Hid (wr.ownsRow w2.heap.size 2 1 v k (zs.map (Value.int .i64))) ∧ Hid (Below w.heap.size w wr) ∧ Hid (Src wr g) ∧ w2.heap.size + 2 ≤ wr.heap.size ∧
      Hid (∀ k, k < 5 → ∃ y : Int, 1 ≤ y ∧ y ≤ 3 ∧ wr.cell? ⟨w2.heap.size + 1, k, none⟩ = some (.int .i64 y)) ∧ Hid (∀ j, v.ownBlock = some j → j ≠ w2.heap.size + 1)) (fun _ i _ => 5 - (intOf i).toNat)
  case atStart => exact ⟨0, [], by omega, rfl, rfl, HOA.out, HB2.out.trans (HBA.out.mono (by omega)), HSA.out, by omega, HLIT.out, fun j e => by simp [Value.ownBlock] at e; omega⟩
  case round =>
    obtain ⟨k, zs, hk, rfl, hzl, HO, HB, HSR3, hsz, HL, HX⟩ := hrel
    obtain ⟨av, cv, rfl⟩ := ownN_shape HO.out
    have HZ := Lib.hid hzl
    clear hzl
    by_cases hlt : k < 5
    · obtain ⟨y, y1, y2, hy⟩ := HL.out k hlt
      have hp : 0 ≤ y * (1 + x2) ∧ y * (1 + x2) ≤ 3 * 4 := prod_le (by omega) y2 (by omega) (by omega)
      obtain ⟨hp0, hp1⟩ := hp
      go_wp2_with fail
      refine (sNext g (1 + x2 + 1) _ HSR3.out).mono ?_
      rintro e w4 ⟨x4, rfl, x4a, x4b, -, hs4, hg4⟩
      have HSR4 := Lib.hid hs4
      clear hs4
      have hz4 := hg4.size
      have x4b' := x4b (by omega)
      clear x4b
      go_wp2_with fail
      refine (sNext g (1 + x2 + 1) _ HSR4.out).mono ?_
      rintro e w5 ⟨x5, rfl, x5a, x5b, -, hs5, hg5⟩
      have HSR5 := Lib.hid hs5
      clear hs5
      have hz5 := hg5.size
      have x5b' := x5b (by omega)
      clear x5b
      have hgb := HSR3.out.lt
      have HO5 : Hid (w5.ownsRow w2.heap.size 2 1 (.slice av k cv) k (zs.map (Value.int .i64))) := own_nxt (own_nxt HO.out hg4 hgw2) hg5 hgw2
      have HB5 : Hid (Below w.heap.size w w5) := below_nxt (below_nxt HB.out hg4 (by omega) hgl) hg5 (by omega) hgl
      have HL5 : Hid (∀ k, k < 5 → ∃ y : Int, 1 ≤ y ∧ y ≤ 3 ∧ w5.cell? ⟨w2.heap.size + 1, k, none⟩ = some (.int .i64 y)) := fun k hk => by
        obtain ⟨y, y1, y2, hy⟩ := HL.out k hk
        exact ⟨y, y1, y2, cell_nxt (cell_nxt hy hg4 (by omega)) hg5 (by omega)⟩
      have hz5 : wr.heap.size ≤ w5.heap.size := Nat.le_trans hg4.size hg5.size
      clear hg4 hg5 hy
      go_wp2_with (at_builtin; refine wpList_append_lies _ rfl _ _ 22 rfl w2.heap.size 2 i0 (.int .i64 0) 1 8 Try.underlying22 hi iz0 iz1 iz2 rfl (by decide) _ _ _ rfl (HO5.out.alloc _) ⟨w5.heap.size, 0, none⟩ 1 1 [.int .i64 (y * (1 + x2) + x4 - x5)] rfl rfl (cell_one_new _ _ _) (by simp [Value.oneCell']) (by omega) (by unfold maxLen; omega) (by omega) (by simp; omega) (w5.heap.size + 1) (by simp) ?_; intro g' cap w6 hown' hgrow hat hlt6)
      have HO6 : Hid (w6.ownsRow w2.heap.size 2 1 (.slice (some ⟨g', 0, none⟩) (k + 1) cap) (k + 1) ((zs ++ [y * (1 + x2) + x4 - x5]).map (Value.int .i64))) := by rw [List.map_append]; exact hown'
      have hob : ∀ j, (Value.slice av k cv).ownBlock = some j → w2.heap.size ≤ j := fun j e => (HO.out.lt j e).1
      have HB6 : Hid (Below w.heap.size w w6) := (HB5.out.alloc (by omega) _).grown hgrow (by simp; omega) (fun j e => by have := hob j e; omega)
      have HS6 : Hid (Src w6 g) := (HSR5.out.keep (by repeat' (first | (with_reducible exact Below.refl _ _) | (with_reducible assumption) | (with_reducible refine Below.alloc ?_ ?_ _) | (with_reducible refine Below.setCell ?_ ?_ _) | (with_reducible refine Below.drew ?_) | (with_reducible refine below_drewN ?_ _) | (with_reducible refine below_via (by with_reducible assumption) ?_ ?_) | go_size) : Below w5.heap.size w5 (w5.alloc (.cells #[.int .i64 (y * (1 + x2) + x4 - x5)] 2)))).grown hgrow (fun j e => by have := hob j e; omega)
      have HL6 : Hid (∀ k, k < 5 → ∃ y : Int, 1 ≤ y ∧ y ≤ 3 ∧ w6.cell? ⟨w2.heap.size + 1, k, none⟩ = some (.int .i64 y)) := fun k hk => by
        obtain ⟨y, y1, y2, hy⟩ := HL5.out k hk
        exact ⟨y, y1, y2, (World.cell?_of_block (a := ⟨w2.heap.size + 1, k, none⟩) (hgrow.block _ (by simp; omega) (fun e => HX.out _ e.symm rfl))).trans ((World.cell?_alloc_lt w5 _ ⟨w2.heap.size + 1, k, none⟩ (by show w2.heap.size + 1 < _; omega)).trans hy)⟩
      have HX6 : Hid (∀ j, (Value.slice (some ⟨g', 0, none⟩) (k + 1) cap).ownBlock = some j → j ≠ w2.heap.size + 1) := fun j e => by
        simp [Value.ownBlock] at e
        subst e
        rcases hat with h1 | h1
        · exact HX.out _ h1
        · omega
      have hz6 := hgrow.size
      simp at hz6
      have hz66 : w2.heap.size + 2 ≤ w6.heap.size := by omega
      have HZ6 : Hid ((zs ++ [y * (1 + x2) + x4 - x5]).length = k + 1) := by have := HZ.out; unfold Hid; simp; omega
      clear hown' hgrow hat hz6
      go_wp2
      go_roundw
      case rel => exact ⟨k + 1, _, by omega, by go_num, HZ6.out, HO6, HB6, HS6, hz66, HL6, HX6⟩
      case measure => simp [intOf]; omega
    · have hk5 : k = 5 := by omega
      subst hk5
      go_wp2_with fail
      refine (sNext g 12 _ HSR3.out).mono ?_
      rintro e w7 ⟨x7, rfl, x7a, x7b, -, hs7, hg7⟩
      have HSR7 := Lib.hid hs7
      clear hs7
      have hz7 := hg7.size
      have x7b' := x7b (by omega)
      clear x7b
      have hcap := own_cap HO.out
      have HO7 : Hid (w7.ownsRow w2.heap.size 2 1 (.slice av 5 cv) 5 (zs.map (Value.int .i64))) := own_nxt HO.out hg7 hgw2
      have HB7 : Hid (Below w.heap.size w w7) := below_nxt HB.out hg7 (by omega) hgl
      have hz77 : w2.heap.size + 2 ≤ w7.heap.size := by omega
      clear hg7
      obtain ⟨gv, rfl⟩ : ∃ gv, av = some ⟨gv, 0, none⟩ := by
        obtain ⟨gv, cap, hv, _⟩ := HO.out.form (by omega)
        injection hv with hv1
        exact ⟨gv, hv1⟩
      have hgv := HO7.out.lt gv rfl
      by_cases h0 : x7 = 0
      · subst h0
        go_wp2
        go_returns
        exact ⟨_, 4, cv, zs.take 4, rfl, by omega, by omega, (own_rd HO7.out).cut (by omega), HB7.out⟩
      · have t0 : (x7 == 0) = false := by simpa using h0
        by_cases h1 : x7 = 1
        · subst h1
          clear h0 t0
          go_wp2_with fail
          refine (sNext g 3 _ (HSR7.out.keep (by repeat' (first | (with_reducible exact Below.refl _ _) | (with_reducible assumption) | (with_reducible refine Below.alloc ?_ ?_ _) | (with_reducible refine Below.setCell ?_ ?_ _) | (with_reducible refine Below.drew ?_) | (with_reducible refine below_drewN ?_ _) | (with_reducible refine below_via (by with_reducible assumption) ?_ ?_) | go_size)))).mono ?_
          rintro e w8 ⟨x8, rfl, x8a, x8b, -, hs8, hg8⟩
          have x8b' := x8b (by omega)
          have hz8 := hg8.size
          simp at hz8
          have e8 : ∃ y : Int, w8.cell? ⟨w7.heap.size, x8.toNat, none⟩ = some (.int .i64 y) := by
            have : x8.toNat = 0 ∨ x8.toNat = 1 ∨ x8.toNat = 2 := by omega
            rcases this with h | h | h <;> rw [h]
            · exact ⟨_, cell_nxt (v := .int .i64 0) (by simp [go_sem]) hg8 (by omega)⟩
            · exact ⟨_, cell_nxt (v := .int .i64 40000) (by simp [go_sem]) hg8 (by omega)⟩
            · exact ⟨_, cell_nxt (v := .int .i64 40001) (by simp [go_sem]) hg8 (by omega)⟩
          obtain ⟨y8, hy8⟩ := e8
          have HO8 : Hid (w8.ownsRow w2.heap.size 2 1 (.slice (some ⟨gv, 0, none⟩) 5 cv) 5 (zs.map (Value.int .i64))) := own_nxt (HO7.out.alloc _) hg8 hgw2
          have HB8 : Hid (Below w.heap.size w w8) := below_nxt (HB7.out.alloc (by omega) _) hg8 (by simp; omega) hgl
          have hst := HO8.out.stored 0 (.int .i64 y8)
          have HST := Lib.hid hst.1
          have c8 : ∃ v, w8.cell? ⟨gv, 0, none⟩ = some v := by
            have := HO8.out.cellAt 0 (by omega)
            rw [List.getElem?_eq_getElem (by have := HZ.out; simp; omega)] at this
            exact ⟨_, this⟩
          obtain ⟨v8, hv8⟩ := c8
          have f8 : w8.frozen? ⟨gv, 0, none⟩ = false := HO8.out.frozenAt 0
          clear hst hg8
          go_wp2
          go_returns
          refine ⟨_, 5, cv, zs.set 0 y8, rfl, by omega, by omega, ?_, HB8.out.setCell (Nat.le_trans hww hgv.1) _⟩
          have := HST.out
          rw [← List.map_set] at this
          exact own_rd this
        · have t1 : (x7 == 1) = false := by simpa using h1
          go_wp2
          go_returns
          exact ⟨_, 5, cv, zs, rfl, by omega, by omega, own_rd HO7.out, HB7.out⟩
end Go.Proofs.Ytbcbdphnbfjhoaa
