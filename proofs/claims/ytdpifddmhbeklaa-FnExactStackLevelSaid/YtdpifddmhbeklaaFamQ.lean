/-
  DERIVED. FamL, FamM.
-/
import Derived.Test.YtdpifddmhbeklaaFamN
import Derived.Test.YtdpifddmhbeklaaResQ
import Derived.Test.YtdpifddmhbeklaaBas
import Derived.Test.YtdpifddmhbeklaaLayQ
namespace Go.Proofs.Ytdpifddmhbeklaa
open Go.RowKit
set_option linter.unusedVariables false
/-- The cells of a block, and that they may be written. -/
def RowL (w : World) (b : Nat) (l : List Value) : Prop := b < w.heap.size ∧ ∀ j v, l[j]? = some v → w.cell? ⟨b, j, none⟩ = some v ∧ w.frozen? ⟨b, j, none⟩ = false
theorem RowL.mk8 {w : World} {b : Nat} {v0 v1 v2 v3 v4 v5 v6 v7 : Value} (h : b < w.heap.size) (c0 : w.cell? ⟨b, 0, none⟩ = some v0) (c1 : w.cell? ⟨b, 1, none⟩ = some v1) (c2 : w.cell? ⟨b, 2, none⟩ = some v2) (c3 : w.cell? ⟨b, 3, none⟩ = some v3) (c4 : w.cell? ⟨b, 4, none⟩ = some v4) (c5 : w.cell? ⟨b, 5, none⟩ = some v5) (c6 : w.cell? ⟨b, 6, none⟩ = some v6) (c7 : w.cell? ⟨b, 7, none⟩ = some v7) (f0 : w.frozen? ⟨b, 0, none⟩ = false) (f1 : w.frozen? ⟨b, 1, none⟩ = false) (f2 : w.frozen? ⟨b, 2, none⟩ = false) (f3 : w.frozen? ⟨b, 3, none⟩ = false) (f4 : w.frozen? ⟨b, 4, none⟩ = false) (f5 : w.frozen? ⟨b, 5, none⟩ = false) (f6 : w.frozen? ⟨b, 6, none⟩ = false) (f7 : w.frozen? ⟨b, 7, none⟩ = false) : RowL w b [v0, v1, v2, v3, v4, v5, v6, v7] := by
  refine ⟨h, fun j v hj => ?_⟩
  rcases j with _ | _ | _ | _ | _ | _ | _ | _ | j
  all_goals (simp at hj; try subst hj)
  · exact ⟨c0, f0⟩
  · exact ⟨c1, f1⟩
  · exact ⟨c2, f2⟩
  · exact ⟨c3, f3⟩
  · exact ⟨c4, f4⟩
  · exact ⟨c5, f5⟩
  · exact ⟨c6, f6⟩
  · exact ⟨c7, f7⟩
theorem RowL.keep {w w' : World} {b : Nat} {l : List Value} (h : RowL w b l) (hb : Below w.heap.size w w') : RowL w' b l :=
  ⟨Nat.lt_of_lt_of_le h.1 hb.size, fun j v hj => ⟨(hb.cell (p := ⟨b, j, none⟩) h.1).trans (h.2 j v hj).1, (hb.frozen (p := ⟨b, j, none⟩) h.1).trans (h.2 j v hj).2⟩⟩
theorem RowL.grown {w w' : World} {b : Nat} {l : List Value} {row : Option Nat} (h : RowL w b l) (hg : w.grownBy w' row) (hne : ∀ k, row = some k → k ≠ b) : RowL w' b l := by
  have hb : w'.heap[b]? = w.heap[b]? := hg.block b h.1 (fun e => hne b e.symm rfl)
  exact ⟨Nat.lt_of_lt_of_le h.1 hg.size, fun j v hj => ⟨(World.cell?_of_block (a := ⟨b, j, none⟩) hb).trans (h.2 j v hj).1, (World.frozen?_of_block (a := ⟨b, j, none⟩) hb).trans (h.2 j v hj).2⟩⟩
theorem RowL.far {w : World} {b b' i : Nat} {l : List Value} {v : Value} (h : RowL w b l) (hne : b' ≠ b) : RowL (w.setCell ⟨b', i, none⟩ v) b l :=
  h.grown (row := some b') (only_setCell (World.grownBy.refl w (some b')) v) (fun k e => by injection e with e; omega)
theorem RowL.set {w : World} {b i : Nat} {l : List Value} (h : RowL w b l) (hi : i < l.length) (v : Value) : RowL (w.setCell ⟨b, i, none⟩ v) b (l.set i v) := by
  refine ⟨by simpa using h.1, fun j u hj => ?_⟩
  by_cases e : j = i
  · subst e
    rw [List.getElem?_set_self (by omega)] at hj
    injection hj with hj
    subst hj
    obtain ⟨u, hu⟩ : ∃ u, l[j]? = some u := ⟨_, List.getElem?_eq_getElem hi⟩
    exact ⟨World.cell?_setCell_same w ⟨b, j, none⟩ _ (h.2 j u hu).1, by rw [World.frozen?_setCell]; exact (h.2 j u hu).2⟩
  · rw [List.getElem?_set_ne (by omega)] at hj
    exact ⟨by rw [World.cell?_setCell_other _ _ _ _ (by intro h; injection h with h1 h2 h3; omega)]; exact (h.2 j u hj).1, by rw [World.frozen?_setCell]; exact (h.2 j u hj).2⟩
theorem RowL.new8 (w : World) (t : TypeId) (v0 v1 v2 v3 v4 v5 v6 v7 : Value) : RowL (w.alloc (.cells #[v0, v1, v2, v3, v4, v5, v6, v7] t)) w.heap.size [v0, v1, v2, v3, v4, v5, v6, v7] := by
  refine RowL.mk8 (by simp) ?_ ?_ ?_ ?_ ?_ ?_ ?_ ?_ ?_ ?_ ?_ ?_ ?_ ?_ ?_ ?_ <;> first | (rw [alloc_cell]; rfl) | (rw [alloc_frozen])
/-- A fresh family. -/
def NewFam (w : World) (nm : ByteArray) (kd p pw po : Int) (sn : Nat) (zs : List Int) (col : Int) (ln : Nat) (ls : List Int) (e : Ending) (w' : World) : Prop :=
  ∃ g1 g2, e = .returned (.agg #[.string nm, .int .i64 kd, .int .i64 p, .int .i64 pw, .int .i64 po, .slice (some ⟨g1, 0, none⟩) sn sn, .int .i64 col, .slice (some ⟨g2, 0, none⟩) ln ln]) ∧ w.heap.size ≤ g1 ∧ w.heap.size ≤ g2 ∧ Blk w' g1 2 (vals zs) ∧ Blk w' g2 2 (vals ls) ∧ Below w.heap.size w w'
set_option maxRecDepth 20000 in
set_option maxHeartbeats 4000000 in
theorem toFam (nm : ByteArray) (kd p pw po : Int) (sa : Option Addr) (sn sc : Nat) (col : Int) (la : Option Addr) (ln lc : Nat) (zs ls : List Int) (w : World) (hs : Rd w sa sn zs) (hsn : sn ≤ 1048576) (hl : Rd w la ln ls) (hln : ln ≤ 1048576) :
    Calls Try.prog 37 #[.agg #[.string nm, .int .i64 kd, .int .i64 p, .int .i64 pw, .int .i64 po, .slice sa sn sc, .int .i64 col, .slice la ln lc]] w (NewFam w nm kd p pw po sn zs col ln ls) := by
  have HS := Lib.hid hs
  have HL := Lib.hid hl
  clear hs hl
  go_enter Try.func37, Try.ntmps37
  go_wp2_with (go_at_call 58; refine (toFieldX _ _ _ _).mono ?_; rintro e w' ⟨rfl, rfl⟩)
  refine (toInts sa sn sc zs _ (HS.out.below (by repeat' (first | (with_reducible exact Below.refl _ _) | (with_reducible assumption) | (with_reducible refine Below.alloc ?_ ?_ _) | (with_reducible refine Below.setCell ?_ ?_ _) | (with_reducible refine Below.drew ?_) | (with_reducible refine below_drewN ?_ _) | (with_reducible refine below_via (by with_reducible assumption) ?_ ?_) | go_size))) hsn).mono ?_
  rintro e w1 ⟨g1, rfl, hg1, hblk1, hb1⟩
  have hz1 := hb1.size
  simp at hz1 hg1
  have R1 : Hid (RowL w1 w.heap.size [.string nm, .int .i64 kd, .int .i64 p, .int .i64 pw, .int .i64 po, .slice sa sn sc, .int .i64 col, .slice la ln lc]) := RowL.keep (by refine RowL.mk8 ?_ ?_ ?_ ?_ ?_ ?_ ?_ ?_ ?_ ?_ ?_ ?_ ?_ ?_ ?_ ?_ ?_ <;> simp [go_sem]) hb1
  have R2 : Hid (RowL w1 (w.heap.size + 1) [.string ⟨#[]⟩, .int .i64 0, .int .i64 0, .int .i64 0, .int .i64 0, .slice none 0 0, .int .i64 0, .slice none 0 0]) := RowL.keep (by refine RowL.mk8 ?_ ?_ ?_ ?_ ?_ ?_ ?_ ?_ ?_ ?_ ?_ ?_ ?_ ?_ ?_ ?_ ?_ <;> simp [go_sem]) hb1
  have R3 : Hid (RowL w1 (w.heap.size + 1 + 1) [.string nm, .int .i64 kd, .int .i64 p, .int .i64 pw, .int .i64 po, .slice none 0 0, .int .i64 0, .slice none 0 0]) := RowL.keep (by refine RowL.mk8 ?_ ?_ ?_ ?_ ?_ ?_ ?_ ?_ ?_ ?_ ?_ ?_ ?_ ?_ ?_ ?_ ?_ <;> simp [go_sem]) hb1
  have HB1 : Hid (Below w.heap.size w w1) := by unfold Hid; repeat' (first | (with_reducible exact Below.refl _ _) | (with_reducible assumption) | (with_reducible refine Below.alloc ?_ ?_ _) | (with_reducible refine Below.setCell ?_ ?_ _) | (with_reducible refine Below.drew ?_) | (with_reducible refine below_drewN ?_ _) | (with_reducible refine below_via (by with_reducible assumption) ?_ ?_) | go_size)
  have HK1 := Lib.hid hblk1
  clear hb1 hblk1
  obtain ⟨h0, hr1⟩ := R1.out
  obtain ⟨h2, hr3⟩ := R3.out
  have d6 := (hr1 6 _ rfl).1
  have d7 := (hr1 7 _ rfl).1
  have e5 := hr3 5 _ rfl
  have e6 := hr3 6 _ rfl
  obtain ⟨e5a, e5b⟩ := e5
  obtain ⟨e6a, e6b⟩ := e6
  clear hr1 hr3
  go_wp2_with fail
  obtain ⟨W2, hW2⟩ : ∃ W2 : World, W2 = (w1.setCell ⟨w.heap.size + 1 + 1, 5, none⟩ (.slice (some ⟨g1, 0, none⟩) sn sn)).setCell ⟨w.heap.size + 1 + 1, 6, none⟩ (.int .i64 col) := ⟨_, rfl⟩
  have Q2 : Hid (RowL W2 (w.heap.size + 1) [.string ⟨#[]⟩, .int .i64 0, .int .i64 0, .int .i64 0, .int .i64 0, .slice none 0 0, .int .i64 0, .slice none 0 0]) := by rw [hW2]; exact (R2.out.far (by omega)).far (by omega)
  have Q3 : Hid (RowL W2 (w.heap.size + 1 + 1) [.string nm, .int .i64 kd, .int .i64 p, .int .i64 pw, .int .i64 po, .slice (some ⟨g1, 0, none⟩) sn sn, .int .i64 col, .slice none 0 0]) := by rw [hW2]; exact (R3.out.set (i := 5) (by simp) (.slice (some ⟨g1, 0, none⟩) sn sn)).set (i := 6) (by simp) (.int .i64 col)
  have HB2 : Hid (Below w.heap.size w W2) := by rw [hW2]; have h := HB1.out; unfold Hid; repeat' (first | (with_reducible exact Below.refl _ _) | (with_reducible assumption) | (with_reducible refine Below.alloc ?_ ?_ _) | (with_reducible refine Below.setCell ?_ ?_ _) | (with_reducible refine Below.drew ?_) | (with_reducible refine below_drewN ?_ _) | (with_reducible refine below_via (by with_reducible assumption) ?_ ?_) | go_size)
  have HK2 : Hid (Blk W2 g1 2 (vals zs)) := by rw [hW2]; exact (HK1.out.far (by simp; omega) _).far (by simp; omega) _
  have hz2 : W2.heap.size = w1.heap.size := by rw [hW2]; simp
  rw [← hW2]
  clear hW2 R1 R2 R3 HB1 HK1 d6 d7 e5a e5b e6a e6b
  refine (toInts la ln lc ls _ (HL.out.below HB2.out) hln).mono ?_
  rintro e w3 ⟨g2, rfl, hg2, hblk2, hb3⟩
  have hz3 := hb3.size
  have T2 := Lib.hid (Q2.out.keep hb3)
  have T3 := Lib.hid (Q3.out.keep hb3)
  have HB3 : Hid (Below w.heap.size w w3) := HB2.out.trans (hb3.mono (by omega))
  have HK3 := Lib.hid (HK2.out.keep hb3)
  have HK4 := Lib.hid hblk2
  clear Q2 Q3 HB2 HK2 hb3 hblk2
  have hr3 := T3.out.2
  obtain ⟨t0a, t0b⟩ := hr3 0 _ rfl
  obtain ⟨t1a, t1b⟩ := hr3 1 _ rfl
  obtain ⟨t2a, t2b⟩ := hr3 2 _ rfl
  obtain ⟨t3a, t3b⟩ := hr3 3 _ rfl
  obtain ⟨t4a, t4b⟩ := hr3 4 _ rfl
  obtain ⟨t5a, t5b⟩ := hr3 5 _ rfl
  obtain ⟨t6a, t6b⟩ := hr3 6 _ rfl
  obtain ⟨t7a, t7b⟩ := hr3 7 _ rfl
  clear hr3
  have hr2 := T2.out.2
  obtain ⟨r0a, r0b⟩ := hr2 0 _ rfl
  obtain ⟨r1a, r1b⟩ := hr2 1 _ rfl
  obtain ⟨r2a, r2b⟩ := hr2 2 _ rfl
  obtain ⟨r3a, r3b⟩ := hr2 3 _ rfl
  obtain ⟨r4a, r4b⟩ := hr2 4 _ rfl
  obtain ⟨r5a, r5b⟩ := hr2 5 _ rfl
  obtain ⟨r6a, r6b⟩ := hr2 6 _ rfl
  obtain ⟨r7a, r7b⟩ := hr2 7 _ rfl
  clear hr2
  have h3 := T3.out.1
  have h4 := T2.out.1
  go_wp2_with fail
  obtain ⟨W4, hW4⟩ : ∃ W4 : World, W4 = ((((((((w3.setCell ⟨w.heap.size + 1 + 1, 7, none⟩ (.slice (some ⟨g2, 0, none⟩) ln ln)).setCell ⟨w.heap.size + 1, 0, none⟩ (.string nm)).setCell ⟨w.heap.size + 1, 1, none⟩ (.int .i64 kd)).setCell ⟨w.heap.size + 1, 2, none⟩ (.int .i64 p)).setCell ⟨w.heap.size + 1, 3, none⟩ (.int .i64 pw)).setCell ⟨w.heap.size + 1, 4, none⟩ (.int .i64 po)).setCell ⟨w.heap.size + 1, 5, none⟩ (.slice (some ⟨g1, 0, none⟩) sn sn)).setCell ⟨w.heap.size + 1, 6, none⟩ (.int .i64 col)).setCell ⟨w.heap.size + 1, 7, none⟩ (.slice (some ⟨g2, 0, none⟩) ln ln) := ⟨_, rfl⟩
  have U2 : RowL W4 (w.heap.size + 1) [.string nm, .int .i64 kd, .int .i64 p, .int .i64 pw, .int .i64 po, .slice (some ⟨g1, 0, none⟩) sn sn, .int .i64 col, .slice (some ⟨g2, 0, none⟩) ln ln] := by rw [hW4]; exact (((((((((T2.out.far (by omega)).set (i := 0) (by simp) (.string nm)).set (i := 1) (by simp) (.int .i64 kd)).set (i := 2) (by simp) (.int .i64 p)).set (i := 3) (by simp) (.int .i64 pw)).set (i := 4) (by simp) (.int .i64 po)).set (i := 5) (by simp) (.slice (some ⟨g1, 0, none⟩) sn sn)).set (i := 6) (by simp) (.int .i64 col)).set (i := 7) (by simp) (.slice (some ⟨g2, 0, none⟩) ln ln))
  have HB4 : Hid (Below w.heap.size w W4) := by rw [hW4]; have h := HB3.out; unfold Hid; repeat' (first | (with_reducible exact Below.refl _ _) | (with_reducible assumption) | (with_reducible refine Below.alloc ?_ ?_ _) | (with_reducible refine Below.setCell ?_ ?_ _) | (with_reducible refine Below.drew ?_) | (with_reducible refine below_drewN ?_ _) | (with_reducible refine below_via (by with_reducible assumption) ?_ ?_) | go_size)
  have HK5 : Hid (Blk W4 g1 2 (vals zs)) := by rw [hW4]; exact ((((((((HK3.out.far (by simp; omega) _).far (by simp; omega) _).far (by simp; omega) _).far (by simp; omega) _).far (by simp; omega) _).far (by simp; omega) _).far (by simp; omega) _).far (by simp; omega) _).far (by simp; omega) _
  have HK6 : Hid (Blk W4 g2 2 (vals ls)) := by rw [hW4]; exact ((((((((HK4.out.far (by simp; omega) _).far (by simp; omega) _).far (by simp; omega) _).far (by simp; omega) _).far (by simp; omega) _).far (by simp; omega) _).far (by simp; omega) _).far (by simp; omega) _).far (by simp; omega) _
  rw [← hW4]
  clear hW4 T2 T3 HB3 HK3 HK4 t0a t0b t1a t1b t2a t2b t3a t3b t4a t4b t5a t5b t6a t6b t7a t7b r0a r0b r1a r1b r2a r2b r3a r3b r4a r4b r5a r5b r6a r6b r7a r7b h3 h4
  have hr2 := U2.2
  obtain ⟨r0a, r0b⟩ := hr2 0 _ rfl
  obtain ⟨r1a, r1b⟩ := hr2 1 _ rfl
  obtain ⟨r2a, r2b⟩ := hr2 2 _ rfl
  obtain ⟨r3a, r3b⟩ := hr2 3 _ rfl
  obtain ⟨r4a, r4b⟩ := hr2 4 _ rfl
  obtain ⟨r5a, r5b⟩ := hr2 5 _ rfl
  obtain ⟨r6a, r6b⟩ := hr2 6 _ rfl
  obtain ⟨r7a, r7b⟩ := hr2 7 _ rfl
  clear hr2 U2
  refine bodyPost_ret (v := .agg #[.string nm, .int .i64 kd, .int .i64 p, .int .i64 pw, .int .i64 po, .slice (some ⟨g1, 0, none⟩) sn sn, .int .i64 col, .slice (some ⟨g2, 0, none⟩) ln ln]) (by simp [results, Try.results37, go_sem, r0a, r1a, r2a, r3a, r4a, r5a, r6a, r7a]) rfl ?_
  exact ⟨g1, g2, rfl, by omega, by omega, HK5.out, HK6.out, HB4.out⟩
set_option maxRecDepth 20000 in
set_option maxHeartbeats 4000000 in
theorem eqFieldT (a b c : Int) (w : World) : Calls Try.prog 85 #[.agg #[.int .i64 a, .int .i64 b, .int .i64 c], .agg #[.int .i64 a, .int .i64 b, .int .i64 c]] w fun e w' => e = .returned (.bool true) ∧ Below w.heap.size w w' := by
  go_enter Try.func85, Try.ntmps85
  go_wp2
  go_returns
  exact ⟨rfl, by repeat' (first | (with_reducible exact Below.refl _ _) | (with_reducible assumption) | (with_reducible refine Below.alloc ?_ ?_ _) | (with_reducible refine Below.setCell ?_ ?_ _) | (with_reducible refine Below.drew ?_) | (with_reducible refine below_drewN ?_ _) | (with_reducible refine below_via (by with_reducible assumption) ?_ ?_) | go_size)⟩
theorem held_ff (nm : ByteArray) (kd p pw po : Int) (sa : Option Addr) (sn sc : Nat) (col : Int) (la : Option Addr) (ln lc : Nat) (sa' : Option Addr) (sc' : Nat) (la' : Option Addr) (lc' : Nat) (w : World) : ∀ w', Below (w.heap.size + 2) ((w.alloc (.cells #[.string nm, .int .i64 kd, .int .i64 p, .int .i64 pw, .int .i64 po, .slice sa sn sc, .int .i64 col, .slice la ln lc] 60)).alloc (.cells #[.string nm, .int .i64 kd, .int .i64 p, .int .i64 pw, .int .i64 po, .slice sa' sn sc', .int .i64 col, .slice la' ln lc'] 60)) w' → Below (w.heap.size + 2) ((w.alloc (.cells #[.string nm, .int .i64 kd, .int .i64 p, .int .i64 pw, .int .i64 po, .slice sa sn sc, .int .i64 col, .slice la ln lc] 60)).alloc (.cells #[.string nm, .int .i64 kd, .int .i64 p, .int .i64 pw, .int .i64 po, .slice sa' sn sc', .int .i64 col, .slice la' ln lc'] 60)) w' ∧ w.heap.size < w'.heap.size ∧ w.heap.size + 1 < w'.heap.size ∧ w'.cell? ⟨w.heap.size, 0, none⟩ = some (.string nm) ∧ w'.cell? ⟨w.heap.size, 1, none⟩ = some (.int .i64 kd) ∧ w'.cell? ⟨w.heap.size, 2, none⟩ = some (.int .i64 p) ∧ w'.cell? ⟨w.heap.size, 3, none⟩ = some (.int .i64 pw) ∧ w'.cell? ⟨w.heap.size, 4, none⟩ = some (.int .i64 po) ∧ w'.cell? ⟨w.heap.size, 5, none⟩ = some (.slice sa sn sc) ∧ w'.cell? ⟨w.heap.size, 6, none⟩ = some (.int .i64 col) ∧ w'.cell? ⟨w.heap.size, 7, none⟩ = some (.slice la ln lc) ∧ w'.cell? ⟨w.heap.size + 1, 0, none⟩ = some (.string nm) ∧ w'.cell? ⟨w.heap.size + 1, 1, none⟩ = some (.int .i64 kd) ∧ w'.cell? ⟨w.heap.size + 1, 2, none⟩ = some (.int .i64 p) ∧ w'.cell? ⟨w.heap.size + 1, 3, none⟩ = some (.int .i64 pw) ∧ w'.cell? ⟨w.heap.size + 1, 4, none⟩ = some (.int .i64 po) ∧ w'.cell? ⟨w.heap.size + 1, 5, none⟩ = some (.slice sa' sn sc') ∧ w'.cell? ⟨w.heap.size + 1, 6, none⟩ = some (.int .i64 col) ∧ w'.cell? ⟨w.heap.size + 1, 7, none⟩ = some (.slice la' ln lc') := by
  intro w' h
  have hs := h.size
  simp at hs
  refine ⟨h, by omega, by omega, ?_, ?_, ?_, ?_, ?_, ?_, ?_, ?_, ?_, ?_, ?_, ?_, ?_, ?_, ?_, ?_⟩ <;> (refine (h.cell (p := ⟨_, _, none⟩) (by simp)).trans ?_; simp [go_sem])
set_option maxRecDepth 20000 in
set_option maxHeartbeats 4000000 in
theorem eqFam (nm : ByteArray) (kd p pw po : Int) (sa : Option Addr) (sn sc : Nat) (col : Int) (la : Option Addr) (ln lc : Nat) (sa' : Option Addr) (sc' : Nat) (la' : Option Addr) (lc' : Nat) (zs ls : List Int) (w : World) (hs : Rd w sa sn zs) (hs' : Rd w sa' sn zs) (hsn : sn ≤ 1048576) (hl : Rd w la ln ls) (hl' : Rd w la' ln ls) (hln : ln ≤ 1048576) :
    Calls Try.prog 40 #[.agg #[.string nm, .int .i64 kd, .int .i64 p, .int .i64 pw, .int .i64 po, .slice sa sn sc, .int .i64 col, .slice la ln lc], .agg #[.string nm, .int .i64 kd, .int .i64 p, .int .i64 pw, .int .i64 po, .slice sa' sn sc', .int .i64 col, .slice la' ln lc']] w fun e w' => e = .returned (.bool true) ∧ Below w.heap.size w w' := by
  have HS := Lib.hid hs
  have HS' := Lib.hid hs'
  have HL := Lib.hid hl
  have HL' := Lib.hid hl'
  have e1 : eqL zs zs = true := by simp [eqL]
  have e2 : eqL ls ls = true := by simp [eqL]
  clear hs hs' hl hl'
  go_enter Try.func40, Try.ntmps40
  go_wp2_with (first | (go_at_call 85; refine (eqFieldT _ _ _ _).mono ?_; rintro e w' ⟨rfl, hb⟩; obtain ⟨hc, hf⟩ := bcell hb; have hz := hb.size; (try simp at hz); have hz0 : w.heap.size < w'.heap.size := (by omega); have hz1 : w.heap.size + 1 < w'.heap.size := (by omega)) | (go_at_call 24; with_reducible show Calls _ _ #[.slice sa sn sc, .slice sa' sn sc'] _ _; refine (eqInts sa sa' sn sn sc sc' zs zs _ (HS.out.below (by repeat' (first | (with_reducible exact Below.refl _ _) | (with_reducible assumption) | (with_reducible refine Below.alloc ?_ ?_ _) | (with_reducible refine Below.setCell ?_ ?_ _) | (with_reducible refine Below.drew ?_) | (with_reducible refine below_drewN ?_ _) | (with_reducible refine below_via (by with_reducible assumption) ?_ ?_) | go_size))) (HS'.out.below (by repeat' (first | (with_reducible exact Below.refl _ _) | (with_reducible assumption) | (with_reducible refine Below.alloc ?_ ?_ _) | (with_reducible refine Below.setCell ?_ ?_ _) | (with_reducible refine Below.drew ?_) | (with_reducible refine below_drewN ?_ _) | (with_reducible refine below_via (by with_reducible assumption) ?_ ?_) | go_size))) hsn hsn).mono ?_; rintro e w' ⟨rfl, hb⟩; rw [e1]; obtain ⟨hc, hf⟩ := bcell hb; have hz := hb.size; (try simp at hz); have hz0 : w.heap.size < w'.heap.size := (by omega); have hz1 : w.heap.size + 1 < w'.heap.size := (by omega)) | (go_at_call 24; with_reducible show Calls _ _ #[.slice la ln lc, .slice la' ln lc'] _ _; refine (eqInts la la' ln ln lc lc' ls ls _ (HL.out.below (by repeat' (first | (with_reducible exact Below.refl _ _) | (with_reducible assumption) | (with_reducible refine Below.alloc ?_ ?_ _) | (with_reducible refine Below.setCell ?_ ?_ _) | (with_reducible refine Below.drew ?_) | (with_reducible refine below_drewN ?_ _) | (with_reducible refine below_via (by with_reducible assumption) ?_ ?_) | go_size))) (HL'.out.below (by repeat' (first | (with_reducible exact Below.refl _ _) | (with_reducible assumption) | (with_reducible refine Below.alloc ?_ ?_ _) | (with_reducible refine Below.setCell ?_ ?_ _) | (with_reducible refine Below.drew ?_) | (with_reducible refine below_drewN ?_ _) | (with_reducible refine below_via (by with_reducible assumption) ?_ ?_) | go_size))) hln hln).mono ?_; rintro e w' ⟨rfl, hb⟩; rw [e2]; obtain ⟨hc, hf⟩ := bcell hb; have hz := hb.size; (try simp at hz); have hz0 : w.heap.size < w'.heap.size := (by omega); have hz1 : w.heap.size + 1 < w'.heap.size := (by omega)))
  go_returns
  exact ⟨rfl, by repeat' (first | (with_reducible exact Below.refl _ _) | (with_reducible assumption) | (with_reducible refine Below.alloc ?_ ?_ _) | (with_reducible refine Below.setCell ?_ ?_ _) | (with_reducible refine Below.drew ?_) | (with_reducible refine below_drewN ?_ _) | (with_reducible refine below_via (by with_reducible assumption) ?_ ?_) | go_size)⟩
end Go.Proofs.Ytdpifddmhbeklaa
namespace Go.Proofs.Ytdpifddmhbeklaa
open Go.RowKit
set_option linter.unusedVariables false
set_option maxRecDepth 20000 in
set_option maxHeartbeats 1000000 in
theorem markInts2 (a : Option Addr) (n c base : Nat) (xs : List Int) (k : Int) (w : World) (h : w.ownsRow base 2 1 (.slice a n c) n (xs.map (Value.int .i64))) (hn : n ≤ 1048576) (hk : 0 ≤ k) (hk2 : k ≤ 4194304) :
    Calls Try.prog 25 #[.slice a n c, .int .i64 k] w (Marked w base a n c k) := by
  have hl : xs.length = n := by simpa using h.1
  rcases Nat.eq_zero_or_pos n with h0 | h0
  · have h1 : n ≤ 0 := by omega
    have H := Lib.hid h
    have E : Hid (markL k n = xs ∧ (n : Int) = 0) := ⟨by subst h0; rw [List.eq_nil_of_length_eq_zero hl]; rfl, by omega⟩
    clear h h0 hl
    go_enter Try.func25, Try.ntmps25
    go_wp2
    refine wp_loop_rounds 1 ?_; rw [rounds_succ]
    go_wp2
    go_returns
    exact ⟨ret_int (by rw [E.out.2]; omega), by rw [E.out.1]; exact H.out, World.grownBy.refl w _⟩
  · obtain ⟨g, rfl⟩ : ∃ g, a = some ⟨g, 0, none⟩ := by
      rcases h.2 with ⟨_, h2⟩ | ⟨g, cap, cur, hv, _⟩
      · omega
      · injection hv with hv1; exact ⟨g, hv1⟩
    have HL := Lib.hid hl
    have HO := Lib.hid h
    clear hl h
    go_enter Try.func25, Try.ntmps25
    go_wp2
    go_loopw [1, 5] (fun q i wr => ∃ j : Nat, j ≤ n ∧ i = .int .i64 j ∧ q = .int .i64 (k + j) ∧ wr.ownsRow base 2 1 (.slice (some ⟨g, 0, none⟩) n c) n ((halfL k xs j).map (Value.int .i64)) ∧ w.grownBy wr (some g)) (fun _ i _ => n - (intOf i).toNat)
    case atStart => exact ⟨0, Nat.zero_le _, rfl, by simp, by rw [halfL_zero]; exact HO.out, World.grownBy.refl w _⟩
    case round =>
      obtain ⟨j, hj, rfl, rfl, hown, hgr⟩ := hrel
      by_cases hlt : j < n
      · have hlen : (halfL k xs j).length = n := by rw [halfL_length _ _ _ (by rw [HL.out]; exact hj), HL.out]
        have hy : wr.cell? ⟨g, j, none⟩ = some (.int .i64 ((halfL k xs j).getD j 0)) := by
          rw [hown.cellAt j (by omega)]
          simp [List.getElem?_map, List.getElem?_eq_getElem (show j < (halfL k xs j).length by omega), List.getD_eq_getElem?_getD]
        have hz : wr.frozen? ⟨g, j, none⟩ = false := hown.frozenAt j
        have HN : Hid ((wr.setCell ⟨g, j, none⟩ (.int .i64 (k + j))).ownsRow base 2 1 (.slice (some ⟨g, 0, none⟩) n c) n ((halfL k xs (j + 1)).map (Value.int .i64))) := by
          have := (hown.stored j (.int .i64 (k + j))).1
          rw [← List.map_set, halfL_set _ _ _ (by rw [HL.out]; exact hlt)] at this
          exact this
        have HG : Hid (w.grownBy (wr.setCell ⟨g, j, none⟩ (.int .i64 (k + j))) (some g)) := only_setCell hgr _
        generalize hyv : (halfL k xs j).getD j 0 = y at hy
        clear hyv hown hgr hlen
        go_wp2
        go_roundw
        case rel => exact ⟨j + 1, by omega, by go_num, by go_num, HN.out, HG.out⟩
        case measure => simp [intOf]; omega
      · have hje : j = n := by omega
        have HJ := Lib.hid hje
        clear hje
        go_wp2
        go_returns
        refine ⟨ret_int (by rw [HJ.out]), ?_, hgr⟩
        have e := halfL_all k xs
        rw [HL.out, ← HJ.out] at e
        rw [e, HJ.out] at hown
        exact hown
/-- What a call leaves of the blocks that p allows. -/
structure Off (p : Nat → Prop) (w w' : World) : Prop where
  os : w'.os = w.os
  tape : w'.tape = w.tape
  output : w'.output = w.output
  size : w.heap.size ≤ w'.heap.size
  block : ∀ b, b < w.heap.size → p b → w'.heap[b]? = w.heap[b]?
theorem Off.trans {p : Nat → Prop} {a b c : World} (h : Off p a b) (k : Off p b c) : Off p a c :=
  ⟨k.os.trans h.os, k.tape.trans h.tape, k.output.trans h.output, Nat.le_trans h.size k.size, fun i hi hp => (k.block i (Nat.lt_of_lt_of_le hi h.size) hp).trans (h.block i hi hp)⟩
theorem Off.of_below {p : Nat → Prop} {w w' : World} (h : Below w.heap.size w w') : Off p w w' := ⟨h.os, h.tape, h.output, h.size, fun b hb _ => h.block b hb⟩
theorem Off.of_grown {p : Nat → Prop} {w w' : World} {row : Option Nat} (h : w.grownBy w' row) (hp : ∀ b, p b → row ≠ some b) : Off p w w' := ⟨h.os, h.tape, h.output, h.size, fun b hb hpb => h.block b hb (fun e => hp b hpb e.symm)⟩
theorem Off.below {p : Nat → Prop} {w w' : World} {B : Nat} (h : Off p w w') (hB : B ≤ w.heap.size) (hp : ∀ b, b < B → p b) : Below B w w' := ⟨h.os, h.tape, h.output, h.size, fun b hb => h.block b (by omega) (hp b hb)⟩
theorem Off.rd {p : Nat → Prop} {w w' : World} {a : Option Addr} {n : Nat} {zs : List Int} (h : Off p w w') (hr : Rd w a n zs) (hp : ∀ b off, a = some ⟨b, off, none⟩ → 0 < n → p b) : Rd w' a n zs :=
  ⟨hr.1, fun hn => by
    obtain ⟨b, off, e, hb, hc⟩ := hr.2 hn
    exact ⟨b, off, e, Nat.lt_of_lt_of_le hb h.size, fun i hi => (World.cell?_of_block (a := ⟨b, off + i, none⟩) (h.block b hb (hp b off e hn))).trans (hc i hi)⟩⟩
theorem Off.own {p : Nat → Prop} {w w' : World} {base n m : Nat} {t : TypeId} {v : Value} {xs : List Value} (h : Off p w w') (ho : w.ownsRow base t m v n xs) (hp : ∀ b, v.ownBlock = some b → p b) : w'.ownsRow base t m v n xs := by
  refine ⟨ho.1, ?_⟩
  rcases ho.2 with hv | ⟨g, cap, cur, hv, hg, hh, r⟩
  · exact .inl hv
  · have hlt := (ho.lt g (by rw [hv]; rfl)).2
    exact .inr ⟨g, cap, cur, hv, hg, by rw [h.block g hlt (hp g (by rw [hv]; rfl))]; exact hh, r⟩
theorem Off.rowL {p : Nat → Prop} {w w' : World} {b : Nat} {l : List Value} (h : Off p w w') (hr : RowL w b l) (hp : p b) : RowL w' b l := by
  have hb := h.block b hr.1 hp
  exact ⟨Nat.lt_of_lt_of_le hr.1 h.size, fun j v hj => ⟨(World.cell?_of_block (a := ⟨b, j, none⟩) hb).trans (hr.2 j v hj).1, (World.frozen?_of_block (a := ⟨b, j, none⟩) hb).trans (hr.2 j v hj).2⟩⟩
theorem Off.blk {p : Nat → Prop} {w w' : World} {g : Nat} {t : TypeId} {cs : Array Value} (h : Off p w w') (hk : Blk w g t cs) (hp : p g) : Blk w' g t cs := (h.block g hk.lt hp).trans hk
theorem vals_inj {xs ys : List Int} (h : vals xs = vals ys) : xs = ys := by
  have h1 : xs.map (Value.int .i64) = ys.map (Value.int .i64) := by simpa [vals] using h
  exact (List.map_inj_right (fun a b e => by injection e)).1 h1
set_option maxRecDepth 20000 in
set_option maxHeartbeats 1000000 in
theorem markFam (nm : ByteArray) (kd p pw po : Int) (g1 g2 sn : Nat) (col : Int) (ln : Nat) (zs ls : List Int) (w : World) (h1 : Blk w g1 2 (vals zs)) (h2 : Blk w g2 2 (vals ls)) (hs : zs.length = sn) (hl : ls.length = ln) (hsn : sn ≤ 1048576) (hln : ln ≤ 1048576) :
    Calls Try.prog 44 #[.agg #[.string nm, .int .i64 kd, .int .i64 p, .int .i64 pw, .int .i64 po, .slice (some ⟨g1, 0, none⟩) sn sn, .int .i64 col, .slice (some ⟨g2, 0, none⟩) ln ln], .int .i64 1] w fun e w' => e = .returned (.int .i64 (1 + sn + ln)) ∧ Off (fun b => b ≠ g1 ∧ b ≠ g2) w w' := by
  have H1 := Lib.hid h1
  have H2 := Lib.hid h2
  have HS := Lib.hid hs
  have HL := Lib.hid hl
  have hm1 : sn ≤ maxLen := by unfold maxLen; omega
  have hm2 : ln ≤ maxLen := by unfold maxLen; omega
  clear h1 h2 hs hl
  go_enter Try.func44, Try.ntmps44
  go_wp2_with fail
  obtain ⟨W, hW⟩ : ∃ W : World, w.alloc (.cells #[.string nm, .int .i64 kd, .int .i64 p, .int .i64 pw, .int .i64 po, .slice (some ⟨g1, 0, none⟩) sn sn, .int .i64 col, .slice (some ⟨g2, 0, none⟩) ln ln] 60) = W := ⟨_, rfl⟩
  have HB : Hid (Below w.heap.size w W) := by rw [← hW]; unfold Hid; repeat' (first | (with_reducible exact Below.refl _ _) | (with_reducible assumption) | (with_reducible refine Below.alloc ?_ ?_ _) | (with_reducible refine Below.setCell ?_ ?_ _) | (with_reducible refine Below.drew ?_) | (with_reducible refine below_drewN ?_ _) | (with_reducible refine below_via (by with_reducible assumption) ?_ ?_) | go_size)
  have HR : Hid (RowL W w.heap.size [.string nm, .int .i64 kd, .int .i64 p, .int .i64 pw, .int .i64 po, .slice (some ⟨g1, 0, none⟩) sn sn, .int .i64 col, .slice (some ⟨g2, 0, none⟩) ln ln]) := by rw [← hW]; exact RowL.new8 w _ _ _ _ _ _ _ _ _
  rw [hW]
  clear hW
  have hl1 := H1.out.lt
  have hl2 := H2.out.lt
  refine (markInts2 (some ⟨g1, 0, none⟩) sn sn g1 zs 1 W (Blk.own (H1.out.keep HB.out) (Nat.le_refl _) HS.out hm1) hsn (by omega) (by omega)).mono ?_
  rintro e w1 ⟨rfl, ho1, hg1⟩
  have hO1 : Off (fun b => b ≠ g1 ∧ b ≠ g2) W w1 := Off.of_grown hg1 (fun b hb e => by simp [Value.ownBlock] at e; omega)
  have HO1 : Hid (Off (fun b => b ≠ g1 ∧ b ≠ g2) w w1) := (Off.of_below HB.out).trans hO1
  have HR1 := Lib.hid (hO1.rowL HR.out (by omega))
  have hx : ∃ (base : Nat) (xs : List Int), w1.ownsRow base 2 1 (.slice (some ⟨g2, 0, none⟩) ln ln) ln (xs.map (Value.int .i64)) := by
    by_cases he : g1 = g2
    · have h3 := H1.out
      rw [he] at h3
      have h4 : vals zs = vals ls := by
        have := h3.symm.trans H2.out
        injection this with this
        injection this
      have h5 : sn = ln := by rw [← HS.out, ← HL.out, vals_inj h4]
      rw [he, h5] at ho1
      exact ⟨_, _, ho1⟩
    · exact ⟨g2, ls, (Blk.own (H2.out.keep HB.out) (Nat.le_refl _) HL.out hm2).kept hg1 (.inr (by simp [Value.ownBlock]; omega))⟩
  obtain ⟨base, xs, hx⟩ := hx
  have HX := Lib.hid hx
  clear ho1 hg1 hO1 hx
  have q7 := (HR1.out.2 7 _ rfl).1
  go_wp2_with fail
  refine (markInts2 (some ⟨g2, 0, none⟩) ln ln base xs (1 + sn) w1 HX.out hln (by omega) (by omega)).mono ?_
  rintro e w2 ⟨rfl, ho2, hg2⟩
  have HO2 : Hid (Off (fun b => b ≠ g1 ∧ b ≠ g2) w w2) := HO1.out.trans (Off.of_grown hg2 (fun b hb e => by simp [Value.ownBlock] at e; omega))
  clear ho2 hg2
  go_wp2
  go_returns
  exact ⟨rfl, HO2.out⟩
set_option maxHeartbeats 1000000 in
theorem markGrd2 (r c : Int) (a : Option Addr) (n cp base : Nat) (xs : List Int) (k : Int) (w : World) (h : w.ownsRow base 2 1 (.slice a n cp) n (xs.map (Value.int .i64))) (hn : n ≤ 1048576) (hk : 0 ≤ k) (hk2 : k ≤ 4194304) :
    Calls Try.prog 45 #[.agg #[.int .i64 r, .int .i64 c, .slice a n cp], .int .i64 k] w fun e w' =>
      e = .returned (.int .i64 (k + n)) ∧ Off (fun b => (Value.slice a n cp).ownBlock ≠ some b) w w' := by
  have HH := Lib.hid h
  clear h
  go_enter Try.func45, Try.ntmps45
  go_wp2_with fail
  refine (markInts2 a n cp base xs k _ (HH.out.alloc _) hn hk hk2).mono ?_
  rintro e w1 ⟨rfl, ho, hg⟩
  go_wp2
  go_returns
  exact ⟨rfl, (Off.of_below ((Below.refl _ _).alloc (Nat.le_refl _) _)).trans (Off.of_grown hg (fun b h => h))⟩
end Go.Proofs.Ytdpifddmhbeklaa
