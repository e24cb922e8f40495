/-
  DERIVED. Fields that are drawn: spec.l02Draw, spec.l02DrawAny.
-/
import Derived.Test.YtenelpollcabnaaLibr
import Derived.Test.YtenelpollcabnaaFamQ
import Derived.Deep.Cut
import Derived.Deep.CutBlock
namespace Go.Proofs.Ytenelpollcabnaa
open Go.RowKit
set_option linter.unusedVariables false
/-- Nothing has changed but the source g. -/
def SK (w wr : World) (g : Nat) : Prop := Src wr g ∧ w.grownBy wr (some g)
theorem SK.start {w : World} {g : Nat} (h : Src w g) : SK w w g := ⟨h, World.grownBy.refl w (some g)⟩
theorem SK.nxt {w wr w1 : World} {g : Nat} (h : SK w wr g) (hg : wr.grownBy w1 (some g)) (hs : Src w1 g) : SK w w1 g := ⟨hs, grown_trans' h.2 hg⟩
theorem SK.keep {w wr w1 : World} {g : Nat} (h : SK w wr g) (hb : Below wr.heap.size wr w1) : SK w w1 g := ⟨h.1.keep hb, only_below h.2 hb⟩
theorem SK.alloc {w wr : World} {g : Nat} (h : SK w wr g) (o : Obj) : SK w (wr.alloc o) g := h.keep ((Below.refl _ _).alloc (Nat.le_refl _) o)
theorem SK.drew {w wr : World} {g : Nat} (h : SK w wr g) : SK w wr.drew g := h.keep ((Below.refl _ _).drew)
theorem SK.set {w wr : World} {g b i : Nat} {v : Value} (h : SK w wr g) (hb : w.heap.size ≤ b) (hg : g < w.heap.size) : SK w (wr.setCell ⟨b, i, none⟩ v) g :=
  ⟨h.1.grown (row := some b) (only_setCell (World.grownBy.refl wr (some b)) v) (fun j e => by injection e with e; omega),
   ⟨h.2.os, h.2.tape, h.2.output, by have := h.2.size; simpa using this, fun k hk hne => (Below.heap_setCell _ _ _ _ (by simp; omega)).trans (h.2.block k hk hne)⟩⟩
theorem SK.lt {w wr : World} {g : Nat} (h : SK w wr g) : g < wr.heap.size := h.1.lt
/-- A literal of numbers. -/
def LitF (wr : World) (B : Nat) (ys : List Int) : Prop := B < wr.heap.size ∧ ∀ i, i < ys.length → wr.cell? ⟨B, i, none⟩ = some (.int .i64 (ys.getD i 0))
theorem LitF.nxt {wr w1 : World} {B g : Nat} {ys : List Int} (h : LitF wr B ys) (hg : wr.grownBy w1 (some g)) (hb : B ≠ g) : LitF w1 B ys :=
  ⟨Nat.lt_of_lt_of_le h.1 hg.size, fun i hi => cell_nxt (h.2 i hi) hg hb⟩
theorem LitF.new (w : World) (t : TypeId) (ys : List Int) : LitF (w.alloc (.cells (vals ys) t)) w.heap.size ys :=
  ⟨by simp, fun i hi => by rw [(Blk.new w t (vals ys)).cell]; exact vals_get ys i hi⟩
theorem RowL.new (w : World) (t : TypeId) (l : List Value) : RowL (w.alloc (.cells l.toArray t)) w.heap.size l := by
  refine ⟨by simp, fun j v hj => ⟨?_, alloc_frozen _ _ _ _⟩⟩
  rw [alloc_cell]
  simpa using hj
theorem RowL.nxt {w w1 : World} {b g : Nat} {l : List Value} (h : RowL w b l) (hg : w.grownBy w1 (some g)) (hb : b ≠ g) : RowL w1 b l :=
  h.grown hg (fun k e => by injection e with e; omega)
theorem RowL.alloc {w : World} {b : Nat} {l : List Value} (h : RowL w b l) (o : Obj) : RowL (w.alloc o) b l := h.keep ((Below.refl _ _).alloc (Nat.le_refl _) o)
theorem RowL.at3 {w : World} {b : Nat} {v0 v1 v2 : Value} (h : RowL w b [v0, v1, v2]) : b < w.heap.size ∧ (w.cell? ⟨b, 0, none⟩ = some v0 ∧ w.cell? ⟨b, 1, none⟩ = some v1 ∧ w.cell? ⟨b, 2, none⟩ = some v2) ∧ (w.frozen? ⟨b, 0, none⟩ = false ∧ w.frozen? ⟨b, 1, none⟩ = false ∧ w.frozen? ⟨b, 2, none⟩ = false) :=
  ⟨h.1, ⟨(h.2 0 _ rfl).1, (h.2 1 _ rfl).1, (h.2 2 _ rfl).1⟩, ⟨(h.2 0 _ rfl).2, (h.2 1 _ rfl).2, (h.2 2 _ rfl).2⟩⟩
def DrawnField (w : World) (g : Nat) (e : Ending) (w' : World) : Prop := ∃ p q r : Int, e = .returned (.agg #[.int .i64 p, .int .i64 q, .int .i64 r]) ∧ SK w w' g
set_option maxRecDepth 20000 in
set_option maxHeartbeats 8000000 in
theorem d02 (g : Nat) (w : World) (h : Src w g) : Calls Try.prog 104 #[.pointer (some ⟨g, 0, none⟩)] w (DrawnField w g) := by
  have hgw := h.lt
  have K0 : Hid (SK w w g) := SK.start h
  clear h
  go_enter Try.func104, Try.ntmps104
  go_wp2_with fail
  obtain ⟨W1, hW⟩ : ∃ W : World, W = (w.alloc (.cells #[.int .i64 0, .int .i64 0, .int .i64 0] 32)).alloc (.cells (vals [8, 16, 32, 64, 7, 11, 13, 17, 31, 256, 101, 3]) 2) := ⟨_, rfl⟩
  have K1 : Hid (SK w W1 g) := by rw [hW]; exact (K0.out.alloc _).alloc _
  have L1 : Hid (LitF W1 (w.heap.size + 1) [8, 16, 32, 64, 7, 11, 13, 17, 31, 256, 101, 3]) := by
    have := LitF.new (w.alloc (.cells #[.int .i64 0, .int .i64 0, .int .i64 0] 32)) 2 [8, 16, 32, 64, 7, 11, 13, 17, 31, 256, 101, 3]
    rw [World.size_alloc] at this
    rw [hW]; exact this
  have R1 : Hid (RowL W1 w.heap.size [.int .i64 0, .int .i64 0, .int .i64 0]) := by rw [hW]; exact (RowL.new w 32 [.int .i64 0, .int .i64 0, .int .i64 0]).alloc _
  (try rw [show (#[.int .i64 8, .int .i64 16, .int .i64 32, .int .i64 64, .int .i64 7, .int .i64 11, .int .i64 13, .int .i64 17, .int .i64 31, .int .i64 256, .int .i64 101, .int .i64 3] : Array Value) = vals [8, 16, 32, 64, 7, 11, 13, 17, 31, 256, 101, 3] from rfl])
  rw [← hW]
  clear hW K0
  refine (sNext g 12 _ K1.out.1).mono ?_
  rintro e w2 ⟨x, rfl, xa, xb, -, hs, hg⟩
  have K2 := Lib.hid (K1.out.nxt hg hs)
  have L2 := Lib.hid (L1.out.nxt hg (by omega))
  have R2 := Lib.hid (R1.out.nxt hg (by omega))
  have xc := xb (by omega)
  clear xb hs hg L1 R1 K1
  obtain ⟨q, rfl⟩ := Int.eq_ofNat_of_zero_le xa
  have hq : q < 12 := by omega
  obtain ⟨y, hy⟩ : ∃ y, ([8, 16, 32, 64, 7, 11, 13, 17, 31, 256, 101, 3] : List Int).getD q 0 = y := ⟨_, rfl⟩
  have hyb : 3 ≤ y ∧ y ≤ 1021 := by
    have hm := getD_mem (zs := ([8, 16, 32, 64, 7, 11, 13, 17, 31, 256, 101, 3] : List Int)) (i := q) hq
    rw [hy] at hm
    simp only [List.mem_cons, List.not_mem_nil, or_false] at hm
    omega
  have hcy := L2.out.2 q hq
  rw [hy] at hcy
  have hlb := L2.out.1
  obtain ⟨hb1, hb2⟩ := hyb
  clear hy L2
  go_wp2_with fail
  refine (sFieldAny y hb1 hb2 _).mono ?_
  rintro e w3 ⟨p, q1, r, c, rfl, hb⟩
  have hz3 := hb.size
  have K3 := Lib.hid (K2.out.keep hb)
  have R3 := Lib.hid (R2.out.keep hb)
  clear hb hcy K2 R2
  obtain ⟨r0, ⟨c0, c1, c2⟩, ⟨f0, f1, f2⟩⟩ := R3.out.at3
  go_wp2
  refine bodyPost_ret (v := .agg #[.int .i64 p, .int .i64 q1, .int .i64 r]) (by simp [results, Try.results104, go_sem, *]) rfl ?_
  exact ⟨p, q1, r, rfl, (by repeat' (first | with_reducible exact K3.out | with_reducible exact hgw | with_reducible exact Nat.le_refl _ | with_reducible refine SK.alloc ?_ _ | with_reducible refine SK.set ?_ ?_ ?_ | omega))⟩
-- l02DrawAny
set_option maxRecDepth 20000 in
set_option maxHeartbeats 8000000 in
theorem d02Any (g : Nat) (w : World) (h : Src w g) : Calls Try.prog 95 #[.pointer (some ⟨g, 0, none⟩)] w (DrawnField w g) := by
  have hgw := h.lt
  have K0 : Hid (SK w w g) := SK.start h
  clear h
  go_enter Try.func95, Try.ntmps95
  go_wp2_with fail
  have KA := Lib.hid (K0.out.alloc (.cells #[.int .i64 0, .int .i64 0, .int .i64 0] 32))
  have RA := Lib.hid (RowL.new w 32 [.int .i64 0, .int .i64 0, .int .i64 0])
  refine (d02 g _ KA.out.1).mono ?_
  rintro e w1 ⟨p, q0, r, rfl, hk⟩
  have K1 : Hid (SK w w1 g) := KA.out.nxt hk.2 hk.1
  have R1 := Lib.hid (RA.out.nxt hk.2 (by omega))
  have hz1 : w.heap.size < w1.heap.size := R1.out.1
  clear hk KA RA K0
  go_wp2_with fail
  obtain ⟨b, hb⟩ : ∃ b, b = w1.heap.size := ⟨_, rfl⟩
  have K1b := Lib.hid (K1.out.alloc (.cells #[.int .i64 p, .int .i64 q0, .int .i64 r] 32))
  have R1b := Lib.hid (R1.out.alloc (.cells #[.int .i64 p, .int .i64 q0, .int .i64 r] 32))
  have B1b := Lib.hid (RowL.new w1 32 [.int .i64 p, .int .i64 q0, .int .i64 r])
  refine (sNext g 20 _ K1b.out.1).mono ?_
  rintro e w2 ⟨x, rfl, xa, xb, -, hs, hg⟩
  have K2 := Lib.hid (K1b.out.nxt hg hs)
  have R2 := Lib.hid (R1b.out.nxt hg (by omega))
  have B2 := Lib.hid (B1b.out.nxt hg (by have := K1.out.lt; omega))
  rw [← hb] at B2
  rw [← hb]
  have hwb : w.heap.size < b := by omega
  have hgb : g < b := by omega
  have hg2 : g < w2.heap.size := K2.out.lt
  clear hs hg xb xa K1b R1b B1b K1 R1 hb hz1
  go_upto_block 0 with fail
  go_cut [] from 8 (fun wx => ∃ p q r : Int, Hid (SK w wx g) ∧ Hid (RowL wx b [.int .i64 p, .int .i64 q, .int .i64 r]) ∧ Hid (RowL wx w.heap.size [.int .i64 0, .int .i64 0, .int .i64 0]))
  case first =>
    by_cases h0 : x = 0
    · subst h0
      obtain ⟨b0, ⟨d0, d1, d2⟩, ⟨e0, e1, e2⟩⟩ := B2.out.at3
      go_wp2_with fail
      go_meet
      exact ⟨_, _, _, Lib.hid (K2.out.set (by omega) hgw), Lib.hid (B2.out.set (i := 2) (by simp) (.int .i64 _)), Lib.hid (R2.out.far (by omega))⟩
    by_cases h1 : x = 1
    · subst h1
      have K3 := Lib.hid (K2.out.alloc (.cells (vals [0, 1, 2, 9]) 2))
      have L3 := Lib.hid (LitF.new w2 2 [0, 1, 2, 9])
      have R3 := Lib.hid (R2.out.alloc (.cells (vals [0, 1, 2, 9]) 2))
      have B3 := Lib.hid (B2.out.alloc (.cells (vals [0, 1, 2, 9]) 2))
      go_wp2_with fail
      refine (sNext g 4 _ K3.out.1).mono ?_
      rintro e w4 ⟨z, rfl, za, zb, -, hs, hg⟩
      have K4 := Lib.hid (K3.out.nxt hg hs)
      have L4 := Lib.hid (L3.out.nxt hg (by omega))
      have R4 := Lib.hid (R3.out.nxt hg (by omega))
      have B4 := Lib.hid (B3.out.nxt hg (by omega))
      have zc := zb (by omega)
      clear zb hs hg K3 L3 R3 B3 K2 R2 B2
      obtain ⟨q, rfl⟩ := Int.eq_ofNat_of_zero_le za
      have hq : q < 4 := by omega
      obtain ⟨y, hy⟩ : ∃ y, ([0, 1, 2, 9] : List Int).getD q 0 = y := ⟨_, rfl⟩
      have hcy := L4.out.2 q hq
      rw [hy] at hcy
      have hlb := L4.out.1
      clear hy L4
      obtain ⟨b0, ⟨d0, d1, d2⟩, ⟨e0, e1, e2⟩⟩ := B4.out.at3
      go_wp2_with fail
      go_meet
      exact ⟨_, _, _, Lib.hid (K4.out.set (by omega) hgw), Lib.hid (B4.out.set (i := 1) (by simp) (.int .i64 y)), Lib.hid (R4.out.far (by omega))⟩
    by_cases h2 : x = 2
    · subst h2
      have K3 := Lib.hid (K2.out.alloc (.cells (vals [1, 4, 9, 1021, 1031, -3]) 2))
      have L3 := Lib.hid (LitF.new w2 2 [1, 4, 9, 1021, 1031, -3])
      have R3 := Lib.hid (R2.out.alloc (.cells (vals [1, 4, 9, 1021, 1031, -3]) 2))
      have B3 := Lib.hid (B2.out.alloc (.cells (vals [1, 4, 9, 1021, 1031, -3]) 2))
      go_wp2_with fail
      refine (sNext g 6 _ K3.out.1).mono ?_
      rintro e w4 ⟨z, rfl, za, zb, -, hs, hg⟩
      have K4 := Lib.hid (K3.out.nxt hg hs)
      have L4 := Lib.hid (L3.out.nxt hg (by omega))
      have R4 := Lib.hid (R3.out.nxt hg (by omega))
      have B4 := Lib.hid (B3.out.nxt hg (by omega))
      have zc := zb (by omega)
      clear zb hs hg K3 L3 R3 B3 K2 R2 B2
      obtain ⟨q, rfl⟩ := Int.eq_ofNat_of_zero_le za
      have hq : q < 6 := by omega
      obtain ⟨y, hy⟩ : ∃ y, ([1, 4, 9, 1021, 1031, -3] : List Int).getD q 0 = y := ⟨_, rfl⟩
      have hcy := L4.out.2 q hq
      rw [hy] at hcy
      have hlb := L4.out.1
      clear hy L4
      obtain ⟨b0, ⟨d0, d1, d2⟩, ⟨e0, e1, e2⟩⟩ := B4.out.at3
      go_wp2_with fail
      go_meet
      exact ⟨_, _, _, Lib.hid (K4.out.set (by omega) hgw), Lib.hid (B4.out.set (i := 0) (by simp) (.int .i64 y)), Lib.hid (R4.out.far (by omega))⟩
    by_cases h3 : x = 3
    · subst h3
      have K3 := Lib.hid (K2.out.alloc (.cells (vals [1021, 1, 10, 2, 4, 31, 2, 4, 25, 7, 1, 5]) 32))
      have L3 := Lib.hid (LitF.new w2 32 [1021, 1, 10, 2, 4, 31, 2, 4, 25, 7, 1, 5])
      have R3 := Lib.hid (R2.out.alloc (.cells (vals [1021, 1, 10, 2, 4, 31, 2, 4, 25, 7, 1, 5]) 32))
      go_wp2_with fail
      refine (sNext g 4 _ K3.out.1).mono ?_
      rintro e w4 ⟨z, rfl, za, zb, -, hs, hg⟩
      have K4 := Lib.hid (K3.out.nxt hg hs)
      have L4 := Lib.hid (L3.out.nxt hg (by omega))
      have R4 := Lib.hid (R3.out.nxt hg (by omega))
      have zc := zb (by omega)
      clear zb hs hg K3 L3 R3 K2 R2 B2
      obtain ⟨q, rfl⟩ := Int.eq_ofNat_of_zero_le za
      have hq : q < 4 := by omega
      have hc0 := L4.out.2 (q * 3) (show q * 3 < 12 by omega)
      have hc1 := L4.out.2 (q * 3 + 1) (show q * 3 + 1 < 12 by omega)
      have hc2 := L4.out.2 (q * 3 + 2) (show q * 3 + 2 < 12 by omega)
      obtain ⟨y0, hy0⟩ : ∃ y, ([1021, 1, 10, 2, 4, 31, 2, 4, 25, 7, 1, 5] : List Int).getD (q * 3) 0 = y := ⟨_, rfl⟩
      obtain ⟨y1, hy1⟩ : ∃ y, ([1021, 1, 10, 2, 4, 31, 2, 4, 25, 7, 1, 5] : List Int).getD (q * 3 + 1) 0 = y := ⟨_, rfl⟩
      obtain ⟨y2, hy2⟩ : ∃ y, ([1021, 1, 10, 2, 4, 31, 2, 4, 25, 7, 1, 5] : List Int).getD (q * 3 + 2) 0 = y := ⟨_, rfl⟩
      rw [hy0] at hc0
      rw [hy1] at hc1
      rw [hy2] at hc2
      have hlb := L4.out.1
      clear hy0 hy1 hy2 L4
      obtain ⟨b0, ⟨d0, d1, d2⟩, ⟨e0, e1, e2⟩⟩ := R4.out.at3
      go_wp2_with fail
      refine bodyPost_ret (v := .agg #[.int .i64 y0, .int .i64 y1, .int .i64 y2]) (by simp [results, Try.results95, go_sem, *]) rfl ?_
      exact ⟨_, _, _, rfl, (by repeat' (first | with_reducible exact K4.out | with_reducible exact hgw | with_reducible exact Nat.le_refl _ | with_reducible refine SK.alloc ?_ _ | with_reducible refine SK.set ?_ ?_ ?_ | omega))⟩
    have t0 : (x == 0) = false := by simpa using h0
    have t1 : (x == 1) = false := by simpa using h1
    have t2 : (x == 2) = false := by simpa using h2
    have t3 : (x == 3) = false := by simpa using h3
    clear h0 h1 h2 h3
    go_wp2_with fail
    go_meet
    exact ⟨_, _, _, K2, B2, R2⟩
  obtain ⟨p', q', r', K5, B5, R5⟩ := hcut
  obtain ⟨b0, ⟨d0, d1, d2⟩, ⟨e0, e1, e2⟩⟩ := R5.out.at3
  obtain ⟨_, ⟨u0, u1, u2⟩, _⟩ := B5.out.at3
  clear R2 B2 K2 R5 B5
  go_wp2_with fail
  refine bodyPost_ret (v := .agg #[.int .i64 p', .int .i64 q', .int .i64 r']) (by simp [results, Try.results95, go_sem, *]) rfl ?_
  exact ⟨_, _, _, rfl, (by repeat' (first | with_reducible exact K5.out | with_reducible exact hgw | with_reducible exact Nat.le_refl _ | with_reducible refine SK.alloc ?_ _ | with_reducible refine SK.set ?_ ?_ ?_ | omega))⟩
end Go.Proofs.Ytenelpollcabnaa
