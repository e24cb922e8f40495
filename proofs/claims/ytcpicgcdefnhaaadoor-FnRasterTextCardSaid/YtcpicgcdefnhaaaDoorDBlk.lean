/-
  DERIVED. spec.DrawRasterText and spec.DrawBlankRaster.
-/
import Derived.Test.YtcpicgcdefnhaaaDoorDRast
import Derived.Test.YtcpicgcdefnhaaaDoorRegI
namespace Go.Proofs.YtcpicgcdefnhaaaDoor
open Go.RowKit
set_option linter.unusedVariables false
theorem bytes_up {w : World} {a : Option Addr} {n B B' : Nat} (h : BytesIn w a n B) (hb : B ≤ B') : BytesIn w a n B' := fun hp => by
  obtain ⟨b, off, e, h1, h2⟩ := h hp
  exact ⟨b, off, e, by omega, h2⟩
set_option maxRecDepth 100000 in
set_option maxHeartbeats 8000000 in
theorem dRText (a : Option Addr) (n cp : Nat) (w : World) (h : BytesIn w a n w.heap.size) (hn : n ≤ 1048576) : Calls Tryd.prog 16 #[.slice a n cp] w (DrawnGrid w) := by
  have HO := Lib.hid (Out3.new w 24)
  have hk0 : Below w.heap.size w (w.alloc (.cells #[.int .i64 0, .int .i64 0, .slice none 0 0] 24)) := by repeat' (first | (with_reducible exact Below.refl _ _) | (with_reducible assumption) | (with_reducible refine Below.alloc ?_ ?_ _) | (with_reducible refine Below.setCell ?_ ?_ _) | (with_reducible refine Below.drew ?_) | (with_reducible refine below_drewN ?_ _) | (with_reducible refine below_via (by with_reducible assumption) ?_ ?_) | go_size)
  have HBY := Lib.hid (bytes_up (h.kept (fun b hb => hk0.block b hb)) (show w.heap.size ≤ (w.alloc (.cells #[.int .i64 0, .int .i64 0, .slice none 0 0] 24)).heap.size by simp))
  clear h
  go_enter Tryd.func16, Tryd.ntmps16
  go_wp2_with fail
  refine (sFrom a n cp _ HBY.out hn).mono ?_
  rintro e w1 ⟨g, rfl, hgl, hs1, hb1⟩
  have HS1 := Lib.hid hs1
  have hz1 := hb1.size
  simp only [World.size_alloc] at hgl hz1
  have HX1 := Lib.hid hb1
  clear hs1 hb1 HO HBY
  go_wp2_with fail
  refine (dRast g _ HS1.out _ HX1.out (by simp; omega)).mono ?_
  rintro e w3 ⟨r, c, a3, n3, c3, zs, rfl, hn3, hc3, hr3, hb3, hf3⟩
  have HO3 := Lib.hid ((Out3.new w 24).keep hb3)
  obtain ⟨o1, o2, o3, o4, o5, o6, o7⟩ := HO3.out
  have HR3 := Lib.hid hr3
  have hB3 : Below w.heap.size w w3 := hk0.trans (hb3.mono (by simp))
  have HF3 := Lib.hid hf3
  clear hb3 hr3 hf3
  go_wp2
  (try simp only [Exit.inBlock, Exit.then])
  refine bodyPost_ret (v := .agg #[.int .i64 r, .int .i64 c, .slice a3 n3 c3]) (by simp [results, Tryd.results16, go_sem, o2, o3, o4]) rfl ?_
  exact ⟨_, _, _, _, _, _, rfl, hn3, hc3, rd_nxt HR3.out (only_setCell (only_setCell (only_setCell (World.grownBy.refl w3 (some w.heap.size)) _) _) _) (fun b off e _ => by have := HF3.out b off e; simp at this; omega), by repeat' (first | (with_reducible exact Below.refl _ _) | (with_reducible assumption) | (with_reducible refine Below.alloc ?_ ?_ _) | (with_reducible refine Below.setCell ?_ ?_ _) | (with_reducible refine Below.drew ?_) | (with_reducible refine below_drewN ?_ _) | (with_reducible refine below_via (by with_reducible assumption) ?_ ?_) | go_size), fun b off e => by have := HF3.out b off e; simp at this; omega⟩
set_option maxRecDepth 100000 in
set_option maxHeartbeats 4000000 in
theorem dBlank (a : Option Addr) (n cp : Nat) (w : World) (h : BytesIn w a n w.heap.size) (hn : n ≤ 1048576) : Calls Tryd.prog 19 #[.slice a n cp] w fun e w' => ∃ r c g : Int, e = .returned (.tuple #[.int .i64 r, .int .i64 c, .int .i64 g]) ∧ Below w.heap.size w w' := by
  have HH := Lib.hid h
  clear h
  go_enter Tryd.func19, Tryd.ntmps19
  go_wp2_with fail
  refine (sFrom a n cp w HH.out hn).mono ?_
  rintro e w1 ⟨g, rfl, hg, hs, hb1⟩
  have HS := Lib.hid hs
  have HB1 := Lib.hid hb1
  have hz1 := hb1.size
  clear hs hb1
  go_wp2_with fail
  refine (sNext g 6 w1 HS.out).mono ?_
  rintro e w2 ⟨x, rfl, xa, xb, -, hs2, hg2⟩
  have HS2 := Lib.hid hs2
  have HB2 : Hid (Below w.heap.size w w2) := below_nxt HB1.out hg2 hz1 hg
  have hz2 := hg2.size
  clear hs2 hg2 HB1 HS
  by_cases hx : x = 0
  · subst hx
    go_wp2_with fail
    refine wp_region_inv (fun d ac wz => ∃ (u2 u3 u4 u11 u12 u13 u14 u15 u16 u17 u18 u19 u20 u21 u22 u23 u24 u25 : Value), ac = ({ tmps := #[.slice a n cp, undef, u2, u3, u4, .pointer (some ⟨g, 0, none⟩), .slice a n cp, .pointer (some ⟨g, 0, none⟩), .pointer (some ⟨g, 0, none⟩), .int .i64 0, .bool true, u11, u12, u13, u14, u15, u16, u17, u18, u19, u20, u21, u22, u23, u24, u25, undef, undef, undef, undef, undef, undef, undef, undef], defers := [] } : Act) ∧ Src wz g ∧ Below w.heap.size w wz ∧ w1.heap.size ≤ wz.heap.size ∧ (d 0 = true → ∃ h : Nat, u11 = .slice (some ⟨h, 0, none⟩) 4 4 ∧ g < h ∧ Lits wz h 4 (-1000) 1000) ∧ (d 1 = true → u12 = .pointer (some ⟨g, 0, none⟩)) ∧ (d 2 = true → ∃ q : Nat, u13 = .int .i64 (q : Int) ∧ q < 4) ∧ (d 3 = true → ∃ (h q : Nat) (y : Int), u14 = .pointer (some ⟨h, q, none⟩) ∧ g < h ∧ h < wz.heap.size ∧ wz.cell? ⟨h, q, none⟩ = some (.int .i64 y)) ∧ (d 4 = true → ∃ y : Int, u15 = .int .i64 y) ∧ (d 5 = true → ∃ h : Nat, u16 = .slice (some ⟨h, 0, none⟩) 4 4 ∧ g < h ∧ Lits wz h 4 (-1000) 1000) ∧ (d 6 = true → u17 = .pointer (some ⟨g, 0, none⟩)) ∧ (d 7 = true → ∃ q : Nat, u18 = .int .i64 (q : Int) ∧ q < 4) ∧ (d 8 = true → ∃ (h q : Nat) (y : Int), u19 = .pointer (some ⟨h, q, none⟩) ∧ g < h ∧ h < wz.heap.size ∧ wz.cell? ⟨h, q, none⟩ = some (.int .i64 y)) ∧ (d 9 = true → ∃ y : Int, u20 = .int .i64 y) ∧ (d 10 = true → ∃ h : Nat, u21 = .slice (some ⟨h, 0, none⟩) 4 4 ∧ g < h ∧ Lits wz h 4 (-1000) 1000) ∧ (d 11 = true → u22 = .pointer (some ⟨g, 0, none⟩)) ∧ (d 12 = true → ∃ q : Nat, u23 = .int .i64 (q : Int) ∧ q < 4) ∧ (d 13 = true → ∃ (h q : Nat) (y : Int), u24 = .pointer (some ⟨h, q, none⟩) ∧ g < h ∧ h < wz.heap.size ∧ wz.cell? ⟨h, q, none⟩ = some (.int .i64 y)) ∧ (d 14 = true → ∃ y : Int, u25 = .int .i64 y) ∧ (d 15 = true → ∃ y : Int, u2 = .int .i64 y) ∧ (d 16 = true → ∃ y : Int, u3 = .int .i64 y) ∧ (d 17 = true → ∃ y : Int, u4 = .int .i64 y)) (by kernel_rfl) (by kernel_rfl) ?_ ?_ ?_
    · exact ⟨_, _, _, _, _, _, _, _, _, _, _, _, _, _, _, _, _, _, rfl, HS2.out.keep (Below.refl _ _).drew, HB2.out.trans ((Below.refl w2.heap.size w2).drew.mono HB2.out.size), hz2, (fun h => by cases h), (fun h => by cases h), (fun h => by cases h), (fun h => by cases h), (fun h => by cases h), (fun h => by cases h), (fun h => by cases h), (fun h => by cases h), (fun h => by cases h), (fun h => by cases h), (fun h => by cases h), (fun h => by cases h), (fun h => by cases h), (fun h => by cases h), (fun h => by cases h), (fun h => by cases h), (fun h => by cases h), (fun h => by cases h)⟩
    · refine Steps.cons (fun d a wz hI hd hdep K hK' => ?_) ?_
      · obtain ⟨u2, u3, u4, u11, u12, u13, u14, u15, u16, u17, u18, u19, u20, u21, u22, u23, u24, u25, rfl, hS, hB, hW, f0, f1, f2, f3, f4, f5, f6, f7, f8, f9, f10, f11, f12, f13, f14, f15, f16, f17⟩ := hI
        have hal := (Below.refl wz.heap.size wz).alloc (Nat.le_refl _) (.cells #[.int .i64 0, .int .i64 100, .int .i64 400, .int .i64 401] 2)
        have hLA := Lits.new wz 2 [0, 100, 400, 401] (-1000) 1000 (by simp)
        go_simp
        refine hK' _ _ ⟨_, _, _, _, _, _, _, _, _, _, _, _, _, _, _, _, _, _, rfl, (hS.keep hal), (hB.trans (hal.mono hB.size)), (Nat.le_trans hW hal.size), (fun _ => ⟨wz.heap.size, rfl, hS.lt, hLA⟩), f1, f2, (fun h => by obtain ⟨h0, q0, y, e1, e2, e3, e4⟩ := f3 h; exact ⟨h0, q0, y, e1, e2, Nat.lt_of_lt_of_le e3 hal.size, (hal.cell (p := ⟨h0, q0, none⟩) e3).trans e4⟩), f4, (fun h => by obtain ⟨h0, e1, e2, e3⟩ := f5 h; exact ⟨h0, e1, e2, e3.below hal⟩), f6, f7, (fun h => by obtain ⟨h0, q0, y, e1, e2, e3, e4⟩ := f8 h; exact ⟨h0, q0, y, e1, e2, Nat.lt_of_lt_of_le e3 hal.size, (hal.cell (p := ⟨h0, q0, none⟩) e3).trans e4⟩), f9, (fun h => by obtain ⟨h0, e1, e2, e3⟩ := f10 h; exact ⟨h0, e1, e2, e3.below hal⟩), f11, f12, (fun h => by obtain ⟨h0, q0, y, e1, e2, e3, e4⟩ := f13 h; exact ⟨h0, q0, y, e1, e2, Nat.lt_of_lt_of_le e3 hal.size, (hal.cell (p := ⟨h0, q0, none⟩) e3).trans e4⟩), f14, f15, f16, f17⟩
      refine Steps.cons (fun d a wz hI hd hdep K hK' => ?_) ?_
      · obtain ⟨u2, u3, u4, u11, u12, u13, u14, u15, u16, u17, u18, u19, u20, u21, u22, u23, u24, u25, rfl, hS, hB, hW, f0, f1, f2, f3, f4, f5, f6, f7, f8, f9, f10, f11, f12, f13, f14, f15, f16, f17⟩ := hI
        go_simp
        refine hK' _ _ ⟨_, _, _, _, _, _, _, _, _, _, _, _, _, _, _, _, _, _, rfl, hS, hB, hW, f0, (fun _ => rfl), f2, f3, f4, f5, f6, f7, f8, f9, f10, f11, f12, f13, f14, f15, f16, f17⟩
      refine Steps.cons (fun d a wz hI hd hdep K hK' => ?_) ?_
      · obtain ⟨u2, u3, u4, u11, u12, u13, u14, u15, u16, u17, u18, u19, u20, u21, u22, u23, u24, u25, rfl, hS, hB, hW, f0, f1, f2, f3, f4, f5, f6, f7, f8, f9, f10, f11, f12, f13, f14, f15, f16, f17⟩ := hI
        have q0 := f1 (hdep 1 rfl)
        subst q0
        go_simp
        refine (sNext g 4 wz hS).mono ?_
        rintro e w1' ⟨x', rfl, xa, xb, -, hs1, hg1⟩
        have xc := xb (by omega)
        have hzB := hB.size
        obtain ⟨q, rfl⟩ := Int.eq_ofNat_of_zero_le xa
        refine hK' _ _ ⟨_, _, _, _, _, _, _, _, _, _, _, _, _, _, _, _, _, _, rfl, (hs1), (below_nxt hB hg1 (by omega) hg), (Nat.le_trans hW hg1.size), (fun h => by obtain ⟨h0, e1, e2, e3⟩ := f0 h; exact ⟨h0, e1, e2, e3.nxt hg1 (by omega)⟩), f1, (fun _ => ⟨q, rfl, by omega⟩), (fun h => by obtain ⟨h0, q0, y, e1, e2, e3, e4⟩ := f3 h; exact ⟨h0, q0, y, e1, e2, Nat.lt_of_lt_of_le e3 hg1.size, cell_nxt e4 hg1 (by omega)⟩), f4, (fun h => by obtain ⟨h0, e1, e2, e3⟩ := f5 h; exact ⟨h0, e1, e2, e3.nxt hg1 (by omega)⟩), f6, f7, (fun h => by obtain ⟨h0, q0, y, e1, e2, e3, e4⟩ := f8 h; exact ⟨h0, q0, y, e1, e2, Nat.lt_of_lt_of_le e3 hg1.size, cell_nxt e4 hg1 (by omega)⟩), f9, (fun h => by obtain ⟨h0, e1, e2, e3⟩ := f10 h; exact ⟨h0, e1, e2, e3.nxt hg1 (by omega)⟩), f11, f12, (fun h => by obtain ⟨h0, q0, y, e1, e2, e3, e4⟩ := f13 h; exact ⟨h0, q0, y, e1, e2, Nat.lt_of_lt_of_le e3 hg1.size, cell_nxt e4 hg1 (by omega)⟩), f14, f15, f16, f17⟩
      refine Steps.cons (fun d a wz hI hd hdep K hK' => ?_) ?_
      · obtain ⟨u2, u3, u4, u11, u12, u13, u14, u15, u16, u17, u18, u19, u20, u21, u22, u23, u24, u25, rfl, hS, hB, hW, f0, f1, f2, f3, f4, f5, f6, f7, f8, f9, f10, f11, f12, f13, f14, f15, f16, f17⟩ := hI
        obtain ⟨h0, q5, e2, e3⟩ := f0 (hdep 0 rfl)
        subst q5
        obtain ⟨q, q7, hq⟩ := f2 (hdep 2 rfl)
        subst q7
        have hq2 : (q : Int) < 4 := by omega
        have hq3 : (0 : Int) ≤ (q : Int) := by omega
        obtain ⟨y, _, _, hy⟩ := e3.2 q hq
        go_simp
        refine hK' _ _ ⟨_, _, _, _, _, _, _, _, _, _, _, _, _, _, _, _, _, _, rfl, hS, hB, hW, f0, f1, f2, (fun _ => ⟨h0, q, y, rfl, e2, e3.1, hy⟩), f4, f5, f6, f7, f8, f9, f10, f11, f12, f13, f14, f15, f16, f17⟩
      refine Steps.cons (fun d a wz hI hd hdep K hK' => ?_) ?_
      · obtain ⟨u2, u3, u4, u11, u12, u13, u14, u15, u16, u17, u18, u19, u20, u21, u22, u23, u24, u25, rfl, hS, hB, hW, f0, f1, f2, f3, f4, f5, f6, f7, f8, f9, f10, f11, f12, f13, f14, f15, f16, f17⟩ := hI
        obtain ⟨h0, q, y, q8, e2, e3, e4⟩ := f3 (hdep 3 rfl)
        subst q8
        go_simp
        refine hK' _ _ ⟨_, _, _, _, _, _, _, _, _, _, _, _, _, _, _, _, _, _, rfl, hS, hB, hW, f0, f1, f2, f3, (fun _ => ⟨y, rfl⟩), f5, f6, f7, f8, f9, f10, f11, f12, f13, f14, f15, f16, f17⟩
      refine Steps.cons (fun d a wz hI hd hdep K hK' => ?_) ?_
      · obtain ⟨u2, u3, u4, u11, u12, u13, u14, u15, u16, u17, u18, u19, u20, u21, u22, u23, u24, u25, rfl, hS, hB, hW, f0, f1, f2, f3, f4, f5, f6, f7, f8, f9, f10, f11, f12, f13, f14, f15, f16, f17⟩ := hI
        have hal := (Below.refl wz.heap.size wz).alloc (Nat.le_refl _) (.cells #[.int .i64 0, .int .i64 100, .int .i64 101, .int .i64 (-1)] 2)
        have hLA := Lits.new wz 2 [0, 100, 101, -1] (-1000) 1000 (by simp)
        go_simp
        refine hK' _ _ ⟨_, _, _, _, _, _, _, _, _, _, _, _, _, _, _, _, _, _, rfl, (hS.keep hal), (hB.trans (hal.mono hB.size)), (Nat.le_trans hW hal.size), (fun h => by obtain ⟨h0, e1, e2, e3⟩ := f0 h; exact ⟨h0, e1, e2, e3.below hal⟩), f1, f2, (fun h => by obtain ⟨h0, q0, y, e1, e2, e3, e4⟩ := f3 h; exact ⟨h0, q0, y, e1, e2, Nat.lt_of_lt_of_le e3 hal.size, (hal.cell (p := ⟨h0, q0, none⟩) e3).trans e4⟩), f4, (fun _ => ⟨wz.heap.size, rfl, hS.lt, hLA⟩), f6, f7, (fun h => by obtain ⟨h0, q0, y, e1, e2, e3, e4⟩ := f8 h; exact ⟨h0, q0, y, e1, e2, Nat.lt_of_lt_of_le e3 hal.size, (hal.cell (p := ⟨h0, q0, none⟩) e3).trans e4⟩), f9, (fun h => by obtain ⟨h0, e1, e2, e3⟩ := f10 h; exact ⟨h0, e1, e2, e3.below hal⟩), f11, f12, (fun h => by obtain ⟨h0, q0, y, e1, e2, e3, e4⟩ := f13 h; exact ⟨h0, q0, y, e1, e2, Nat.lt_of_lt_of_le e3 hal.size, (hal.cell (p := ⟨h0, q0, none⟩) e3).trans e4⟩), f14, f15, f16, f17⟩
      refine Steps.cons (fun d a wz hI hd hdep K hK' => ?_) ?_
      · obtain ⟨u2, u3, u4, u11, u12, u13, u14, u15, u16, u17, u18, u19, u20, u21, u22, u23, u24, u25, rfl, hS, hB, hW, f0, f1, f2, f3, f4, f5, f6, f7, f8, f9, f10, f11, f12, f13, f14, f15, f16, f17⟩ := hI
        go_simp
        refine hK' _ _ ⟨_, _, _, _, _, _, _, _, _, _, _, _, _, _, _, _, _, _, rfl, hS, hB, hW, f0, f1, f2, f3, f4, f5, (fun _ => rfl), f7, f8, f9, f10, f11, f12, f13, f14, f15, f16, f17⟩
      refine Steps.cons (fun d a wz hI hd hdep K hK' => ?_) ?_
      · obtain ⟨u2, u3, u4, u11, u12, u13, u14, u15, u16, u17, u18, u19, u20, u21, u22, u23, u24, u25, rfl, hS, hB, hW, f0, f1, f2, f3, f4, f5, f6, f7, f8, f9, f10, f11, f12, f13, f14, f15, f16, f17⟩ := hI
        have q0 := f6 (hdep 6 rfl)
        subst q0
        go_simp
        refine (sNext g 4 wz hS).mono ?_
        rintro e w1' ⟨x', rfl, xa, xb, -, hs1, hg1⟩
        have xc := xb (by omega)
        have hzB := hB.size
        obtain ⟨q, rfl⟩ := Int.eq_ofNat_of_zero_le xa
        refine hK' _ _ ⟨_, _, _, _, _, _, _, _, _, _, _, _, _, _, _, _, _, _, rfl, (hs1), (below_nxt hB hg1 (by omega) hg), (Nat.le_trans hW hg1.size), (fun h => by obtain ⟨h0, e1, e2, e3⟩ := f0 h; exact ⟨h0, e1, e2, e3.nxt hg1 (by omega)⟩), f1, f2, (fun h => by obtain ⟨h0, q0, y, e1, e2, e3, e4⟩ := f3 h; exact ⟨h0, q0, y, e1, e2, Nat.lt_of_lt_of_le e3 hg1.size, cell_nxt e4 hg1 (by omega)⟩), f4, (fun h => by obtain ⟨h0, e1, e2, e3⟩ := f5 h; exact ⟨h0, e1, e2, e3.nxt hg1 (by omega)⟩), f6, (fun _ => ⟨q, rfl, by omega⟩), (fun h => by obtain ⟨h0, q0, y, e1, e2, e3, e4⟩ := f8 h; exact ⟨h0, q0, y, e1, e2, Nat.lt_of_lt_of_le e3 hg1.size, cell_nxt e4 hg1 (by omega)⟩), f9, (fun h => by obtain ⟨h0, e1, e2, e3⟩ := f10 h; exact ⟨h0, e1, e2, e3.nxt hg1 (by omega)⟩), f11, f12, (fun h => by obtain ⟨h0, q0, y, e1, e2, e3, e4⟩ := f13 h; exact ⟨h0, q0, y, e1, e2, Nat.lt_of_lt_of_le e3 hg1.size, cell_nxt e4 hg1 (by omega)⟩), f14, f15, f16, f17⟩
      refine Steps.cons (fun d a wz hI hd hdep K hK' => ?_) ?_
      · obtain ⟨u2, u3, u4, u11, u12, u13, u14, u15, u16, u17, u18, u19, u20, u21, u22, u23, u24, u25, rfl, hS, hB, hW, f0, f1, f2, f3, f4, f5, f6, f7, f8, f9, f10, f11, f12, f13, f14, f15, f16, f17⟩ := hI
        obtain ⟨h0, q5, e2, e3⟩ := f5 (hdep 5 rfl)
        subst q5
        obtain ⟨q, q7, hq⟩ := f7 (hdep 7 rfl)
        subst q7
        have hq2 : (q : Int) < 4 := by omega
        have hq3 : (0 : Int) ≤ (q : Int) := by omega
        obtain ⟨y, _, _, hy⟩ := e3.2 q hq
        go_simp
        refine hK' _ _ ⟨_, _, _, _, _, _, _, _, _, _, _, _, _, _, _, _, _, _, rfl, hS, hB, hW, f0, f1, f2, f3, f4, f5, f6, f7, (fun _ => ⟨h0, q, y, rfl, e2, e3.1, hy⟩), f9, f10, f11, f12, f13, f14, f15, f16, f17⟩
      refine Steps.cons (fun d a wz hI hd hdep K hK' => ?_) ?_
      · obtain ⟨u2, u3, u4, u11, u12, u13, u14, u15, u16, u17, u18, u19, u20, u21, u22, u23, u24, u25, rfl, hS, hB, hW, f0, f1, f2, f3, f4, f5, f6, f7, f8, f9, f10, f11, f12, f13, f14, f15, f16, f17⟩ := hI
        obtain ⟨h0, q, y, q8, e2, e3, e4⟩ := f8 (hdep 8 rfl)
        subst q8
        go_simp
        refine hK' _ _ ⟨_, _, _, _, _, _, _, _, _, _, _, _, _, _, _, _, _, _, rfl, hS, hB, hW, f0, f1, f2, f3, f4, f5, f6, f7, f8, (fun _ => ⟨y, rfl⟩), f10, f11, f12, f13, f14, f15, f16, f17⟩
      refine Steps.cons (fun d a wz hI hd hdep K hK' => ?_) ?_
      · obtain ⟨u2, u3, u4, u11, u12, u13, u14, u15, u16, u17, u18, u19, u20, u21, u22, u23, u24, u25, rfl, hS, hB, hW, f0, f1, f2, f3, f4, f5, f6, f7, f8, f9, f10, f11, f12, f13, f14, f15, f16, f17⟩ := hI
        have hal := (Below.refl wz.heap.size wz).alloc (Nat.le_refl _) (.cells #[.int .i64 (-1), .int .i64 0, .int .i64 255, .int .i64 256] 2)
        have hLA := Lits.new wz 2 [-1, 0, 255, 256] (-1000) 1000 (by simp)
        go_simp
        refine hK' _ _ ⟨_, _, _, _, _, _, _, _, _, _, _, _, _, _, _, _, _, _, rfl, (hS.keep hal), (hB.trans (hal.mono hB.size)), (Nat.le_trans hW hal.size), (fun h => by obtain ⟨h0, e1, e2, e3⟩ := f0 h; exact ⟨h0, e1, e2, e3.below hal⟩), f1, f2, (fun h => by obtain ⟨h0, q0, y, e1, e2, e3, e4⟩ := f3 h; exact ⟨h0, q0, y, e1, e2, Nat.lt_of_lt_of_le e3 hal.size, (hal.cell (p := ⟨h0, q0, none⟩) e3).trans e4⟩), f4, (fun h => by obtain ⟨h0, e1, e2, e3⟩ := f5 h; exact ⟨h0, e1, e2, e3.below hal⟩), f6, f7, (fun h => by obtain ⟨h0, q0, y, e1, e2, e3, e4⟩ := f8 h; exact ⟨h0, q0, y, e1, e2, Nat.lt_of_lt_of_le e3 hal.size, (hal.cell (p := ⟨h0, q0, none⟩) e3).trans e4⟩), f9, (fun _ => ⟨wz.heap.size, rfl, hS.lt, hLA⟩), f11, f12, (fun h => by obtain ⟨h0, q0, y, e1, e2, e3, e4⟩ := f13 h; exact ⟨h0, q0, y, e1, e2, Nat.lt_of_lt_of_le e3 hal.size, (hal.cell (p := ⟨h0, q0, none⟩) e3).trans e4⟩), f14, f15, f16, f17⟩
      refine Steps.cons (fun d a wz hI hd hdep K hK' => ?_) ?_
      · obtain ⟨u2, u3, u4, u11, u12, u13, u14, u15, u16, u17, u18, u19, u20, u21, u22, u23, u24, u25, rfl, hS, hB, hW, f0, f1, f2, f3, f4, f5, f6, f7, f8, f9, f10, f11, f12, f13, f14, f15, f16, f17⟩ := hI
        go_simp
        refine hK' _ _ ⟨_, _, _, _, _, _, _, _, _, _, _, _, _, _, _, _, _, _, rfl, hS, hB, hW, f0, f1, f2, f3, f4, f5, f6, f7, f8, f9, f10, (fun _ => rfl), f12, f13, f14, f15, f16, f17⟩
      refine Steps.cons (fun d a wz hI hd hdep K hK' => ?_) ?_
      · obtain ⟨u2, u3, u4, u11, u12, u13, u14, u15, u16, u17, u18, u19, u20, u21, u22, u23, u24, u25, rfl, hS, hB, hW, f0, f1, f2, f3, f4, f5, f6, f7, f8, f9, f10, f11, f12, f13, f14, f15, f16, f17⟩ := hI
        have q0 := f11 (hdep 11 rfl)
        subst q0
        go_simp
        refine (sNext g 4 wz hS).mono ?_
        rintro e w1' ⟨x', rfl, xa, xb, -, hs1, hg1⟩
        have xc := xb (by omega)
        have hzB := hB.size
        obtain ⟨q, rfl⟩ := Int.eq_ofNat_of_zero_le xa
        refine hK' _ _ ⟨_, _, _, _, _, _, _, _, _, _, _, _, _, _, _, _, _, _, rfl, (hs1), (below_nxt hB hg1 (by omega) hg), (Nat.le_trans hW hg1.size), (fun h => by obtain ⟨h0, e1, e2, e3⟩ := f0 h; exact ⟨h0, e1, e2, e3.nxt hg1 (by omega)⟩), f1, f2, (fun h => by obtain ⟨h0, q0, y, e1, e2, e3, e4⟩ := f3 h; exact ⟨h0, q0, y, e1, e2, Nat.lt_of_lt_of_le e3 hg1.size, cell_nxt e4 hg1 (by omega)⟩), f4, (fun h => by obtain ⟨h0, e1, e2, e3⟩ := f5 h; exact ⟨h0, e1, e2, e3.nxt hg1 (by omega)⟩), f6, f7, (fun h => by obtain ⟨h0, q0, y, e1, e2, e3, e4⟩ := f8 h; exact ⟨h0, q0, y, e1, e2, Nat.lt_of_lt_of_le e3 hg1.size, cell_nxt e4 hg1 (by omega)⟩), f9, (fun h => by obtain ⟨h0, e1, e2, e3⟩ := f10 h; exact ⟨h0, e1, e2, e3.nxt hg1 (by omega)⟩), f11, (fun _ => ⟨q, rfl, by omega⟩), (fun h => by obtain ⟨h0, q0, y, e1, e2, e3, e4⟩ := f13 h; exact ⟨h0, q0, y, e1, e2, Nat.lt_of_lt_of_le e3 hg1.size, cell_nxt e4 hg1 (by omega)⟩), f14, f15, f16, f17⟩
      refine Steps.cons (fun d a wz hI hd hdep K hK' => ?_) ?_
      · obtain ⟨u2, u3, u4, u11, u12, u13, u14, u15, u16, u17, u18, u19, u20, u21, u22, u23, u24, u25, rfl, hS, hB, hW, f0, f1, f2, f3, f4, f5, f6, f7, f8, f9, f10, f11, f12, f13, f14, f15, f16, f17⟩ := hI
        obtain ⟨h0, q5, e2, e3⟩ := f10 (hdep 10 rfl)
        subst q5
        obtain ⟨q, q7, hq⟩ := f12 (hdep 12 rfl)
        subst q7
        have hq2 : (q : Int) < 4 := by omega
        have hq3 : (0 : Int) ≤ (q : Int) := by omega
        obtain ⟨y, _, _, hy⟩ := e3.2 q hq
        go_simp
        refine hK' _ _ ⟨_, _, _, _, _, _, _, _, _, _, _, _, _, _, _, _, _, _, rfl, hS, hB, hW, f0, f1, f2, f3, f4, f5, f6, f7, f8, f9, f10, f11, f12, (fun _ => ⟨h0, q, y, rfl, e2, e3.1, hy⟩), f14, f15, f16, f17⟩
      refine Steps.cons (fun d a wz hI hd hdep K hK' => ?_) ?_
      · obtain ⟨u2, u3, u4, u11, u12, u13, u14, u15, u16, u17, u18, u19, u20, u21, u22, u23, u24, u25, rfl, hS, hB, hW, f0, f1, f2, f3, f4, f5, f6, f7, f8, f9, f10, f11, f12, f13, f14, f15, f16, f17⟩ := hI
        obtain ⟨h0, q, y, q8, e2, e3, e4⟩ := f13 (hdep 13 rfl)
        subst q8
        go_simp
        refine hK' _ _ ⟨_, _, _, _, _, _, _, _, _, _, _, _, _, _, _, _, _, _, rfl, hS, hB, hW, f0, f1, f2, f3, f4, f5, f6, f7, f8, f9, f10, f11, f12, f13, (fun _ => ⟨y, rfl⟩), f15, f16, f17⟩
      refine Steps.cons (fun d a wz hI hd hdep K hK' => ?_) ?_
      · obtain ⟨u2, u3, u4, u11, u12, u13, u14, u15, u16, u17, u18, u19, u20, u21, u22, u23, u24, u25, rfl, hS, hB, hW, f0, f1, f2, f3, f4, f5, f6, f7, f8, f9, f10, f11, f12, f13, f14, f15, f16, f17⟩ := hI
        obtain ⟨y, q8⟩ := f4 (hdep 4 rfl)
        subst q8
        go_simp
        refine hK' _ _ ⟨_, _, _, _, _, _, _, _, _, _, _, _, _, _, _, _, _, _, rfl, hS, hB, hW, f0, f1, f2, f3, f4, f5, f6, f7, f8, f9, f10, f11, f12, f13, f14, (fun _ => ⟨y, rfl⟩), f16, f17⟩
      refine Steps.cons (fun d a wz hI hd hdep K hK' => ?_) ?_
      · obtain ⟨u2, u3, u4, u11, u12, u13, u14, u15, u16, u17, u18, u19, u20, u21, u22, u23, u24, u25, rfl, hS, hB, hW, f0, f1, f2, f3, f4, f5, f6, f7, f8, f9, f10, f11, f12, f13, f14, f15, f16, f17⟩ := hI
        obtain ⟨y, q8⟩ := f9 (hdep 9 rfl)
        subst q8
        go_simp
        refine hK' _ _ ⟨_, _, _, _, _, _, _, _, _, _, _, _, _, _, _, _, _, _, rfl, hS, hB, hW, f0, f1, f2, f3, f4, f5, f6, f7, f8, f9, f10, f11, f12, f13, f14, f15, (fun _ => ⟨y, rfl⟩), f17⟩
      refine Steps.cons (fun d a wz hI hd hdep K hK' => ?_) ?_
      · obtain ⟨u2, u3, u4, u11, u12, u13, u14, u15, u16, u17, u18, u19, u20, u21, u22, u23, u24, u25, rfl, hS, hB, hW, f0, f1, f2, f3, f4, f5, f6, f7, f8, f9, f10, f11, f12, f13, f14, f15, f16, f17⟩ := hI
        obtain ⟨y, q8⟩ := f14 (hdep 14 rfl)
        subst q8
        go_simp
        refine hK' _ _ ⟨_, _, _, _, _, _, _, _, _, _, _, _, _, _, _, _, _, _, rfl, hS, hB, hW, f0, f1, f2, f3, f4, f5, f6, f7, f8, f9, f10, f11, f12, f13, f14, f15, f16, (fun _ => ⟨y, rfl⟩)⟩
      exact Steps.nil
    · intro d ac wz hI hall
      obtain ⟨u2, u3, u4, u11, u12, u13, u14, u15, u16, u17, u18, u19, u20, u21, u22, u23, u24, u25, rfl, hS, hB, hW, f0, f1, f2, f3, f4, f5, f6, f7, f8, f9, f10, f11, f12, f13, f14, f15, f16, f17⟩ := hI
      obtain ⟨y0, z0⟩ := f15 (hall 15 (by decide))
      subst z0
      obtain ⟨y1, z1⟩ := f16 (hall 16 (by decide))
      subst z1
      obtain ⟨y2, z2⟩ := f17 (hall 17 (by decide))
      subst z2
      have HBZ := Lib.hid hB
      clear hS hB hW f0 f1 f2 f3 f4 f5 f6 f7 f8 f9 f10 f11 f12 f13 f14 f15 f16 f17 hall
      go_wp2_with fail
      go_returns
      exact ⟨_, _, _, rfl, HBZ.out⟩
  · have hx0 : (x == 0) = false := by simpa using hx
    go_wp2_with fail
    refine (sNext g 9 w2 HS2.out).mono ?_
    rintro e w3 ⟨y1, rfl, ya1, yb1, -, hs3, hg3⟩
    have HS3 := Lib.hid hs3
    have HB3 : Hid (Below w.heap.size w w3) := below_nxt HB2.out hg3 (by omega) hg
    have hz3 := hg3.size
    have yc1 := yb1 (by omega)
    clear hs3 hg3
    go_wp2_with fail
    refine (sNext g 9 w3 HS3.out).mono ?_
    rintro e w4 ⟨y2, rfl, ya2, yb2, -, hs4, hg4⟩
    have HS4 := Lib.hid hs4
    have HB4 : Hid (Below w.heap.size w w4) := below_nxt HB3.out hg4 (by omega) hg
    have hz4 := hg4.size
    have yc2 := yb2 (by omega)
    clear hs4 hg4
    go_wp2_with fail
    refine (sNext g 256 w4 HS4.out).mono ?_
    rintro e w5 ⟨y3, rfl, ya3, yb3, -, hs5, hg5⟩
    have HB5 : Hid (Below w.heap.size w w5) := below_nxt HB4.out hg5 (by omega) hg
    clear hs5 hg5
    go_wp2_with fail
    go_returns
    exact ⟨_, _, _, rfl, HB5.out⟩
end Go.Proofs.YtcpicgcdefnhaaaDoor
