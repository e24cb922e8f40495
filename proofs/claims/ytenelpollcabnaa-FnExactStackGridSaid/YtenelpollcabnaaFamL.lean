/-
  DERIVED. Families: the laws' helpers.
-/
import Derived.Test.YtenelpollcabnaaFamN
import Derived.Test.YtenelpollcabnaaGrid
import Derived.Test.YtenelpollcabnaaInts2
import Derived.Test.YtenelpollcabnaaWLayout
namespace Go.Proofs.Ytenelpollcabnaa
open Go.RowKit
set_option linter.unusedVariables false
/-- The cells of a block, and that they may be written. -/
def RowL (w : World) (b : Nat) (l : List Value) : Prop := b < w.heap.size ∧ ∀ j v, l[j]? = some v → w.cell? ⟨b, j, none⟩ = some v ∧ w.frozen? ⟨b, j, none⟩ = false
theorem RowL.mk8 {w : World} {b : Nat} {v0 v1 v2 v3 v4 v5 v6 v7 : Value} (h : b < w.heap.size) (c0 : w.cell? ⟨b, 0, none⟩ = some v0) (c1 : w.cell? ⟨b, 1, none⟩ = some v1) (c2 : w.cell? ⟨b, 2, none⟩ = some v2) (c3 : w.cell? ⟨b, 3, none⟩ = some v3) (c4 : w.cell? ⟨b, 4, none⟩ = some v4) (c5 : w.cell? ⟨b, 5, none⟩ = some v5) (c6 : w.cell? ⟨b, 6, none⟩ = some v6) (c7 : w.cell? ⟨b, 7, none⟩ = some v7) (f0 : w.frozen? ⟨b, 0, none⟩ = false) (f1 : w.frozen? ⟨b, 1, none⟩ = false) (f2 : w.frozen? ⟨b, 2, none⟩ = false) (f3 : w.frozen? ⟨b, 3, none⟩ = false) (f4 : w.frozen? ⟨b, 4, none⟩ = false) (f5 : w.frozen? ⟨b, 5, none⟩ = false) (f6 : w.frozen? ⟨b, 6, none⟩ = false) (f7 : w.frozen? ⟨b, 7, none⟩ = false) : RowL w b [v0, v1, v2, v3, v4, v5, v6, v7] := by
  refine ⟨h, fun j v hj => ?_⟩
  rcases j with _ | _ | _ | _ | _ | _ | _ | _ | j
  all_goals (simp at hj; try subst hj)
  · exact ⟨c0, f0⟩
  · exact ⟨c1, f1⟩
  · exact ⟨c2, f2⟩
  · exact ⟨c3, f3⟩
  · exact ⟨c4, f4⟩
  · exact ⟨c5, f5⟩
  · exact ⟨c6, f6⟩
  · exact ⟨c7, f7⟩
theorem RowL.keep {w w' : World} {b : Nat} {l : List Value} (h : RowL w b l) (hb : Below w.heap.size w w') : RowL w' b l :=
  ⟨Nat.lt_of_lt_of_le h.1 hb.size, fun j v hj => ⟨(hb.cell (p := ⟨b, j, none⟩) h.1).trans (h.2 j v hj).1, (hb.frozen (p := ⟨b, j, none⟩) h.1).trans (h.2 j v hj).2⟩⟩
theorem RowL.grown {w w' : World} {b : Nat} {l : List Value} {row : Option Nat} (h : RowL w b l) (hg : w.grownBy w' row) (hne : ∀ k, row = some k → k ≠ b) : RowL w' b l := by
  have hb : w'.heap[b]? = w.heap[b]? := hg.block b h.1 (fun e => hne b e.symm rfl)
  exact ⟨Nat.lt_of_lt_of_le h.1 hg.size, fun j v hj => ⟨(World.cell?_of_block (a := ⟨b, j, none⟩) hb).trans (h.2 j v hj).1, (World.frozen?_of_block (a := ⟨b, j, none⟩) hb).trans (h.2 j v hj).2⟩⟩
theorem RowL.far {w : World} {b b' i : Nat} {l : List Value} {v : Value} (h : RowL w b l) (hne : b' ≠ b) : RowL (w.setCell ⟨b', i, none⟩ v) b l :=
  h.grown (row := some b') (only_setCell (World.grownBy.refl w (some b')) v) (fun k e => by injection e with e; omega)
theorem RowL.set {w : World} {b i : Nat} {l : List Value} (h : RowL w b l) (hi : i < l.length) (v : Value) : RowL (w.setCell ⟨b, i, none⟩ v) b (l.set i v) := by
  refine ⟨by simpa using h.1, fun j u hj => ?_⟩
  by_cases e : j = i
  · subst e
    rw [List.getElem?_set_self (by omega)] at hj
    injection hj with hj
    subst hj
    obtain ⟨u, hu⟩ : ∃ u, l[j]? = some u := ⟨_, List.getElem?_eq_getElem hi⟩
    exact ⟨World.cell?_setCell_same w ⟨b, j, none⟩ _ (h.2 j u hu).1, by rw [World.frozen?_setCell]; exact (h.2 j u hu).2⟩
  · rw [List.getElem?_set_ne (by omega)] at hj
    exact ⟨by rw [World.cell?_setCell_other _ _ _ _ (by intro h; injection h with h1 h2 h3; omega)]; exact (h.2 j u hj).1, by rw [World.frozen?_setCell]; exact (h.2 j u hj).2⟩
theorem RowL.new8 (w : World) (t : TypeId) (v0 v1 v2 v3 v4 v5 v6 v7 : Value) : RowL (w.alloc (.cells #[v0, v1, v2, v3, v4, v5, v6, v7] t)) w.heap.size [v0, v1, v2, v3, v4, v5, v6, v7] := by
  refine RowL.mk8 (by simp) ?_ ?_ ?_ ?_ ?_ ?_ ?_ ?_ ?_ ?_ ?_ ?_ ?_ ?_ ?_ ?_ <;> first | (rw [alloc_cell]; rfl) | (rw [alloc_frozen])
/-- A fresh family. -/
def NewFam (w : World) (nm : ByteArray) (kd p pw po : Int) (sn : Nat) (zs : List Int) (col : Int) (ln : Nat) (ls : List Int) (e : Ending) (w' : World) : Prop :=
  ∃ g1 g2, e = .returned (.agg #[.string nm, .int .i64 kd, .int .i64 p, .int .i64 pw, .int .i64 po, .slice (some ⟨g1, 0, none⟩) sn sn, .int .i64 col, .slice (some ⟨g2, 0, none⟩) ln ln]) ∧ w.heap.size ≤ g1 ∧ w.heap.size ≤ g2 ∧ Blk w' g1 2 (vals zs) ∧ Blk w' g2 2 (vals ls) ∧ Below w.heap.size w w'
set_option maxRecDepth 20000 in
set_option maxHeartbeats 4000000 in
theorem toFam (nm : ByteArray) (kd p pw po : Int) (sa : Option Addr) (sn sc : Nat) (col : Int) (la : Option Addr) (ln lc : Nat) (zs ls : List Int) (w : World) (hs : Rd w sa sn zs) (hsn : sn ≤ 1048576) (hl : Rd w la ln ls) (hln : ln ≤ 1048576) :
    Calls Try.prog 8 #[.agg #[.string nm, .int .i64 kd, .int .i64 p, .int .i64 pw, .int .i64 po, .slice sa sn sc, .int .i64 col, .slice la ln lc]] w (NewFam w nm kd p pw po sn zs col ln ls) := by
  have HS := Lib.hid hs
  have HL := Lib.hid hl
  clear hs hl
  go_enter Try.func8, Try.ntmps8
  go_wp2_with (go_at_call 37; refine (toFieldX _ _ _ _).mono ?_; rintro e w' ⟨rfl, rfl⟩)
  refine (toInts sa sn sc zs _ (HS.out.below (by repeat' (first | (with_reducible exact Below.refl _ _) | (with_reducible assumption) | (with_reducible refine Below.alloc ?_ ?_ _) | (with_reducible refine Below.setCell ?_ ?_ _) | (with_reducible refine Below.drew ?_) | (with_reducible refine below_drewN ?_ _) | (with_reducible refine below_via (by with_reducible assumption) ?_ ?_) | go_size))) hsn).mono ?_
  rintro e w1 ⟨g1, rfl, hg1, hblk1, hb1⟩
  have hz1 := hb1.size
  simp at hz1 hg1
  have R1 : Hid (RowL w1 w.heap.size [.string nm, .int .i64 kd, .int .i64 p, .int .i64 pw, .int .i64 po, .slice sa sn sc, .int .i64 col, .slice la ln lc]) := RowL.keep (by refine RowL.mk8 ?_ ?_ ?_ ?_ ?_ ?_ ?_ ?_ ?_ ?_ ?_ ?_ ?_ ?_ ?_ ?_ ?_ <;> simp [go_sem]) hb1
  have R2 : Hid (RowL w1 (w.heap.size + 1) [.string ⟨#[]⟩, .int .i64 0, .int .i64 0, .int .i64 0, .int .i64 0, .slice none 0 0, .int .i64 0, .slice none 0 0]) := RowL.keep (by refine RowL.mk8 ?_ ?_ ?_ ?_ ?_ ?_ ?_ ?_ ?_ ?_ ?_ ?_ ?_ ?_ ?_ ?_ ?_ <;> simp [go_sem]) hb1
  have R3 : Hid (RowL w1 (w.heap.size + 1 + 1) [.string nm, .int .i64 kd, .int .i64 p, .int .i64 pw, .int .i64 po, .slice none 0 0, .int .i64 0, .slice none 0 0]) := RowL.keep (by refine RowL.mk8 ?_ ?_ ?_ ?_ ?_ ?_ ?_ ?_ ?_ ?_ ?_ ?_ ?_ ?_ ?_ ?_ ?_ <;> simp [go_sem]) hb1
  have HB1 : Hid (Below w.heap.size w w1) := by unfold Hid; repeat' (first | (with_reducible exact Below.refl _ _) | (with_reducible assumption) | (with_reducible refine Below.alloc ?_ ?_ _) | (with_reducible refine Below.setCell ?_ ?_ _) | (with_reducible refine Below.drew ?_) | (with_reducible refine below_drewN ?_ _) | (with_reducible refine below_via (by with_reducible assumption) ?_ ?_) | go_size)
  have HK1 := Lib.hid hblk1
  clear hb1 hblk1
  obtain ⟨h0, hr1⟩ := R1.out
  obtain ⟨h2, hr3⟩ := R3.out
  have d6 := (hr1 6 _ rfl).1
  have d7 := (hr1 7 _ rfl).1
  have e5 := hr3 5 _ rfl
  have e6 := hr3 6 _ rfl
  obtain ⟨e5a, e5b⟩ := e5
  obtain ⟨e6a, e6b⟩ := e6
  clear hr1 hr3
  go_wp2_with fail
  obtain ⟨W2, hW2⟩ : ∃ W2 : World, W2 = (w1.setCell ⟨w.heap.size + 1 + 1, 5, none⟩ (.slice (some ⟨g1, 0, none⟩) sn sn)).setCell ⟨w.heap.size + 1 + 1, 6, none⟩ (.int .i64 col) := ⟨_, rfl⟩
  have Q2 : Hid (RowL W2 (w.heap.size + 1) [.string ⟨#[]⟩, .int .i64 0, .int .i64 0, .int .i64 0, .int .i64 0, .slice none 0 0, .int .i64 0, .slice none 0 0]) := by rw [hW2]; exact (R2.out.far (by omega)).far (by omega)
  have Q3 : Hid (RowL W2 (w.heap.size + 1 + 1) [.string nm, .int .i64 kd, .int .i64 p, .int .i64 pw, .int .i64 po, .slice (some ⟨g1, 0, none⟩) sn sn, .int .i64 col, .slice none 0 0]) := by rw [hW2]; exact (R3.out.set (i := 5) (by simp) (.slice (some ⟨g1, 0, none⟩) sn sn)).set (i := 6) (by simp) (.int .i64 col)
  have HB2 : Hid (Below w.heap.size w W2) := by rw [hW2]; have h := HB1.out; unfold Hid; repeat' (first | (with_reducible exact Below.refl _ _) | (with_reducible assumption) | (with_reducible refine Below.alloc ?_ ?_ _) | (with_reducible refine Below.setCell ?_ ?_ _) | (with_reducible refine Below.drew ?_) | (with_reducible refine below_drewN ?_ _) | (with_reducible refine below_via (by with_reducible assumption) ?_ ?_) | go_size)
  have HK2 : Hid (Blk W2 g1 2 (vals zs)) := by rw [hW2]; exact (HK1.out.far (by simp; omega) _).far (by simp; omega) _
  have hz2 : W2.heap.size = w1.heap.size := by rw [hW2]; simp
  rw [← hW2]
  clear hW2 R1 R2 R3 HB1 HK1 d6 d7 e5a e5b e6a e6b
  refine (toInts la ln lc ls _ (HL.out.below HB2.out) hln).mono ?_
  rintro e w3 ⟨g2, rfl, hg2, hblk2, hb3⟩
  have hz3 := hb3.size
  have T2 := Lib.hid (Q2.out.keep hb3)
  have T3 := Lib.hid (Q3.out.keep hb3)
  have HB3 : Hid (Below w.heap.size w w3) := HB2.out.trans (hb3.mono (by omega))
  have HK3 := Lib.hid (HK2.out.keep hb3)
  have HK4 := Lib.hid hblk2
  clear Q2 Q3 HB2 HK2 hb3 hblk2
  have hr3 := T3.out.2
  obtain ⟨t0a, t0b⟩ := hr3 0 _ rfl
  obtain ⟨t1a, t1b⟩ := hr3 1 _ rfl
  obtain ⟨t2a, t2b⟩ := hr3 2 _ rfl
  obtain ⟨t3a, t3b⟩ := hr3 3 _ rfl
  obtain ⟨t4a, t4b⟩ := hr3 4 _ rfl
  obtain ⟨t5a, t5b⟩ := hr3 5 _ rfl
  obtain ⟨t6a, t6b⟩ := hr3 6 _ rfl
  obtain ⟨t7a, t7b⟩ := hr3 7 _ rfl
  clear hr3
  have hr2 := T2.out.2
  obtain ⟨r0a, r0b⟩ := hr2 0 _ rfl
  obtain ⟨r1a, r1b⟩ := hr2 1 _ rfl
  obtain ⟨r2a, r2b⟩ := hr2 2 _ rfl
  obtain ⟨r3a, r3b⟩ := hr2 3 _ rfl
  obtain ⟨r4a, r4b⟩ := hr2 4 _ rfl
  obtain ⟨r5a, r5b⟩ := hr2 5 _ rfl
  obtain ⟨r6a, r6b⟩ := hr2 6 _ rfl
  obtain ⟨r7a, r7b⟩ := hr2 7 _ rfl
  clear hr2
  have h3 := T3.out.1
  have h4 := T2.out.1
  go_wp2_with fail
  obtain ⟨W4, hW4⟩ : ∃ W4 : World, W4 = ((((((((w3.setCell ⟨w.heap.size + 1 + 1, 7, none⟩ (.slice (some ⟨g2, 0, none⟩) ln ln)).setCell ⟨w.heap.size + 1, 0, none⟩ (.string nm)).setCell ⟨w.heap.size + 1, 1, none⟩ (.int .i64 kd)).setCell ⟨w.heap.size + 1, 2, none⟩ (.int .i64 p)).setCell ⟨w.heap.size + 1, 3, none⟩ (.int .i64 pw)).setCell ⟨w.heap.size + 1, 4, none⟩ (.int .i64 po)).setCell ⟨w.heap.size + 1, 5, none⟩ (.slice (some ⟨g1, 0, none⟩) sn sn)).setCell ⟨w.heap.size + 1, 6, none⟩ (.int .i64 col)).setCell ⟨w.heap.size + 1, 7, none⟩ (.slice (some ⟨g2, 0, none⟩) ln ln) := ⟨_, rfl⟩
  have U2 : RowL W4 (w.heap.size + 1) [.string nm, .int .i64 kd, .int .i64 p, .int .i64 pw, .int .i64 po, .slice (some ⟨g1, 0, none⟩) sn sn, .int .i64 col, .slice (some ⟨g2, 0, none⟩) ln ln] := by rw [hW4]; exact (((((((((T2.out.far (by omega)).set (i := 0) (by simp) (.string nm)).set (i := 1) (by simp) (.int .i64 kd)).set (i := 2) (by simp) (.int .i64 p)).set (i := 3) (by simp) (.int .i64 pw)).set (i := 4) (by simp) (.int .i64 po)).set (i := 5) (by simp) (.slice (some ⟨g1, 0, none⟩) sn sn)).set (i := 6) (by simp) (.int .i64 col)).set (i := 7) (by simp) (.slice (some ⟨g2, 0, none⟩) ln ln))
  have HB4 : Hid (Below w.heap.size w W4) := by rw [hW4]; have h := HB3.out; unfold Hid; repeat' (first | (with_reducible exact Below.refl _ _) | (with_reducible assumption) | (with_reducible refine Below.alloc ?_ ?_ _) | (with_reducible refine Below.setCell ?_ ?_ _) | (with_reducible refine Below.drew ?_) | (with_reducible refine below_drewN ?_ _) | (with_reducible refine below_via (by with_reducible assumption) ?_ ?_) | go_size)
  have HK5 : Hid (Blk W4 g1 2 (vals zs)) := by rw [hW4]; exact ((((((((HK3.out.far (by simp; omega) _).far (by simp; omega) _).far (by simp; omega) _).far (by simp; omega) _).far (by simp; omega) _).far (by simp; omega) _).far (by simp; omega) _).far (by simp; omega) _).far (by simp; omega) _
  have HK6 : Hid (Blk W4 g2 2 (vals ls)) := by rw [hW4]; exact ((((((((HK4.out.far (by simp; omega) _).far (by simp; omega) _).far (by simp; omega) _).far (by simp; omega) _).far (by simp; omega) _).far (by simp; omega) _).far (by simp; omega) _).far (by simp; omega) _).far (by simp; omega) _
  rw [← hW4]
  clear hW4 T2 T3 HB3 HK3 HK4 t0a t0b t1a t1b t2a t2b t3a t3b t4a t4b t5a t5b t6a t6b t7a t7b r0a r0b r1a r1b r2a r2b r3a r3b r4a r4b r5a r5b r6a r6b r7a r7b h3 h4
  have hr2 := U2.2
  obtain ⟨r0a, r0b⟩ := hr2 0 _ rfl
  obtain ⟨r1a, r1b⟩ := hr2 1 _ rfl
  obtain ⟨r2a, r2b⟩ := hr2 2 _ rfl
  obtain ⟨r3a, r3b⟩ := hr2 3 _ rfl
  obtain ⟨r4a, r4b⟩ := hr2 4 _ rfl
  obtain ⟨r5a, r5b⟩ := hr2 5 _ rfl
  obtain ⟨r6a, r6b⟩ := hr2 6 _ rfl
  obtain ⟨r7a, r7b⟩ := hr2 7 _ rfl
  clear hr2 U2
  refine bodyPost_ret (v := .agg #[.string nm, .int .i64 kd, .int .i64 p, .int .i64 pw, .int .i64 po, .slice (some ⟨g1, 0, none⟩) sn sn, .int .i64 col, .slice (some ⟨g2, 0, none⟩) ln ln]) (by simp [results, Try.results8, go_sem, r0a, r1a, r2a, r3a, r4a, r5a, r6a, r7a]) rfl ?_
  exact ⟨g1, g2, rfl, by omega, by omega, HK5.out, HK6.out, HB4.out⟩
set_option maxRecDepth 20000 in
set_option maxHeartbeats 4000000 in
theorem eqFieldT (a b c : Int) (w : World) : Calls Try.prog 43 #[.agg #[.int .i64 a, .int .i64 b, .int .i64 c], .agg #[.int .i64 a, .int .i64 b, .int .i64 c]] w fun e w' => e = .returned (.bool true) ∧ Below w.heap.size w w' := by
  go_enter Try.func43, Try.ntmps43
  go_wp2
  go_returns
  exact ⟨rfl, by repeat' (first | (with_reducible exact Below.refl _ _) | (with_reducible assumption) | (with_reducible refine Below.alloc ?_ ?_ _) | (with_reducible refine Below.setCell ?_ ?_ _) | (with_reducible refine Below.drew ?_) | (with_reducible refine below_drewN ?_ _) | (with_reducible refine below_via (by with_reducible assumption) ?_ ?_) | go_size)⟩
theorem held_ff (nm : ByteArray) (kd p pw po : Int) (sa : Option Addr) (sn sc : Nat) (col : Int) (la : Option Addr) (ln lc : Nat) (sa' : Option Addr) (sc' : Nat) (la' : Option Addr) (lc' : Nat) (w : World) : ∀ w', Below (w.heap.size + 2) ((w.alloc (.cells #[.string nm, .int .i64 kd, .int .i64 p, .int .i64 pw, .int .i64 po, .slice sa sn sc, .int .i64 col, .slice la ln lc] 34)).alloc (.cells #[.string nm, .int .i64 kd, .int .i64 p, .int .i64 pw, .int .i64 po, .slice sa' sn sc', .int .i64 col, .slice la' ln lc'] 34)) w' → Below (w.heap.size + 2) ((w.alloc (.cells #[.string nm, .int .i64 kd, .int .i64 p, .int .i64 pw, .int .i64 po, .slice sa sn sc, .int .i64 col, .slice la ln lc] 34)).alloc (.cells #[.string nm, .int .i64 kd, .int .i64 p, .int .i64 pw, .int .i64 po, .slice sa' sn sc', .int .i64 col, .slice la' ln lc'] 34)) w' ∧ w.heap.size < w'.heap.size ∧ w.heap.size + 1 < w'.heap.size ∧ w'.cell? ⟨w.heap.size, 0, none⟩ = some (.string nm) ∧ w'.cell? ⟨w.heap.size, 1, none⟩ = some (.int .i64 kd) ∧ w'.cell? ⟨w.heap.size, 2, none⟩ = some (.int .i64 p) ∧ w'.cell? ⟨w.heap.size, 3, none⟩ = some (.int .i64 pw) ∧ w'.cell? ⟨w.heap.size, 4, none⟩ = some (.int .i64 po) ∧ w'.cell? ⟨w.heap.size, 5, none⟩ = some (.slice sa sn sc) ∧ w'.cell? ⟨w.heap.size, 6, none⟩ = some (.int .i64 col) ∧ w'.cell? ⟨w.heap.size, 7, none⟩ = some (.slice la ln lc) ∧ w'.cell? ⟨w.heap.size + 1, 0, none⟩ = some (.string nm) ∧ w'.cell? ⟨w.heap.size + 1, 1, none⟩ = some (.int .i64 kd) ∧ w'.cell? ⟨w.heap.size + 1, 2, none⟩ = some (.int .i64 p) ∧ w'.cell? ⟨w.heap.size + 1, 3, none⟩ = some (.int .i64 pw) ∧ w'.cell? ⟨w.heap.size + 1, 4, none⟩ = some (.int .i64 po) ∧ w'.cell? ⟨w.heap.size + 1, 5, none⟩ = some (.slice sa' sn sc') ∧ w'.cell? ⟨w.heap.size + 1, 6, none⟩ = some (.int .i64 col) ∧ w'.cell? ⟨w.heap.size + 1, 7, none⟩ = some (.slice la' ln lc') := by
  intro w' h
  have hs := h.size
  simp at hs
  refine ⟨h, by omega, by omega, ?_, ?_, ?_, ?_, ?_, ?_, ?_, ?_, ?_, ?_, ?_, ?_, ?_, ?_, ?_, ?_⟩ <;> (refine (h.cell (p := ⟨_, _, none⟩) (by simp)).trans ?_; simp [go_sem])
set_option maxRecDepth 20000 in
set_option maxHeartbeats 4000000 in
theorem eqFam (nm : ByteArray) (kd p pw po : Int) (sa : Option Addr) (sn sc : Nat) (col : Int) (la : Option Addr) (ln lc : Nat) (sa' : Option Addr) (sc' : Nat) (la' : Option Addr) (lc' : Nat) (zs ls : List Int) (w : World) (hs : Rd w sa sn zs) (hs' : Rd w sa' sn zs) (hsn : sn ≤ 1048576) (hl : Rd w la ln ls) (hl' : Rd w la' ln ls) (hln : ln ≤ 1048576) :
    Calls Try.prog 12 #[.agg #[.string nm, .int .i64 kd, .int .i64 p, .int .i64 pw, .int .i64 po, .slice sa sn sc, .int .i64 col, .slice la ln lc], .agg #[.string nm, .int .i64 kd, .int .i64 p, .int .i64 pw, .int .i64 po, .slice sa' sn sc', .int .i64 col, .slice la' ln lc']] w fun e w' => e = .returned (.bool true) ∧ Below w.heap.size w w' := by
  have HS := Lib.hid hs
  have HS' := Lib.hid hs'
  have HL := Lib.hid hl
  have HL' := Lib.hid hl'
  have e1 : eqL zs zs = true := by simp [eqL]
  have e2 : eqL ls ls = true := by simp [eqL]
  clear hs hs' hl hl'
  go_enter Try.func12, Try.ntmps12
  go_wp2_with (first | (go_at_call 43; refine (eqFieldT _ _ _ _).mono ?_; rintro e w' ⟨rfl, hb⟩; obtain ⟨hc, hf⟩ := bcell hb; have hz := hb.size; (try simp at hz); have hz0 : w.heap.size < w'.heap.size := (by omega); have hz1 : w.heap.size + 1 < w'.heap.size := (by omega)) | (go_at_call 13; with_reducible show Calls _ _ #[.slice sa sn sc, .slice sa' sn sc'] _ _; refine (eqInts sa sa' sn sn sc sc' zs zs _ (HS.out.below (by repeat' (first | (with_reducible exact Below.refl _ _) | (with_reducible assumption) | (with_reducible refine Below.alloc ?_ ?_ _) | (with_reducible refine Below.setCell ?_ ?_ _) | (with_reducible refine Below.drew ?_) | (with_reducible refine below_drewN ?_ _) | (with_reducible refine below_via (by with_reducible assumption) ?_ ?_) | go_size))) (HS'.out.below (by repeat' (first | (with_reducible exact Below.refl _ _) | (with_reducible assumption) | (with_reducible refine Below.alloc ?_ ?_ _) | (with_reducible refine Below.setCell ?_ ?_ _) | (with_reducible refine Below.drew ?_) | (with_reducible refine below_drewN ?_ _) | (with_reducible refine below_via (by with_reducible assumption) ?_ ?_) | go_size))) hsn hsn).mono ?_; rintro e w' ⟨rfl, hb⟩; rw [e1]; obtain ⟨hc, hf⟩ := bcell hb; have hz := hb.size; (try simp at hz); have hz0 : w.heap.size < w'.heap.size := (by omega); have hz1 : w.heap.size + 1 < w'.heap.size := (by omega)) | (go_at_call 13; with_reducible show Calls _ _ #[.slice la ln lc, .slice la' ln lc'] _ _; refine (eqInts la la' ln ln lc lc' ls ls _ (HL.out.below (by repeat' (first | (with_reducible exact Below.refl _ _) | (with_reducible assumption) | (with_reducible refine Below.alloc ?_ ?_ _) | (with_reducible refine Below.setCell ?_ ?_ _) | (with_reducible refine Below.drew ?_) | (with_reducible refine below_drewN ?_ _) | (with_reducible refine below_via (by with_reducible assumption) ?_ ?_) | go_size))) (HL'.out.below (by repeat' (first | (with_reducible exact Below.refl _ _) | (with_reducible assumption) | (with_reducible refine Below.alloc ?_ ?_ _) | (with_reducible refine Below.setCell ?_ ?_ _) | (with_reducible refine Below.drew ?_) | (with_reducible refine below_drewN ?_ _) | (with_reducible refine below_via (by with_reducible assumption) ?_ ?_) | go_size))) hln hln).mono ?_; rintro e w' ⟨rfl, hb⟩; rw [e2]; obtain ⟨hc, hf⟩ := bcell hb; have hz := hb.size; (try simp at hz); have hz0 : w.heap.size < w'.heap.size := (by omega); have hz1 : w.heap.size + 1 < w'.heap.size := (by omega)))
  go_returns
  exact ⟨rfl, by repeat' (first | (with_reducible exact Below.refl _ _) | (with_reducible assumption) | (with_reducible refine Below.alloc ?_ ?_ _) | (with_reducible refine Below.setCell ?_ ?_ _) | (with_reducible refine Below.drew ?_) | (with_reducible refine below_drewN ?_ _) | (with_reducible refine below_via (by with_reducible assumption) ?_ ?_) | go_size)⟩
end Go.Proofs.Ytenelpollcabnaa
