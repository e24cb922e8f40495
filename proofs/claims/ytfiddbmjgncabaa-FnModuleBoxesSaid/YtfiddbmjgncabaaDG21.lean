/-
  DERIVED. A print drawn.
-/
import Derived.Test.YtfiddbmjgncabaaDRastS
import Derived.Test.YtfiddbmjgncabaaRegI
import Derived.Deep.CutBlock
import Derived.Deep.RegionHeld3
import Derived.Conc.MuLone
import Derived.Maps.AppendAt
import Derived.Deep.AppendLies
namespace Go.Proofs.Ytfiddbmjgncabaa
open Go.RowKit
set_option linter.unusedVariables false
/-- A box of six numbers that can be written. -/
def B6 (w : World) (b : Nat) (f : Nat → Int) : Prop := b < w.heap.size ∧ ∀ j, j < 6 → w.cell? ⟨b, j, none⟩ = some (.int .i64 (f j)) ∧ w.frozen? ⟨b, j, none⟩ = false
theorem B6.keep {w w' : World} {b : Nat} {f : Nat → Int} (h : B6 w b f) (hb : Below w.heap.size w w') : B6 w' b f :=
  ⟨Nat.lt_of_lt_of_le h.1 hb.size, fun j hj => ⟨(hb.cell (p := ⟨b, j, none⟩) h.1).trans (h.2 j hj).1, (hb.frozen (p := ⟨b, j, none⟩) h.1).trans (h.2 j hj).2⟩⟩
theorem B6.nxt {w w' : World} {b g : Nat} {f : Nat → Int} (h : B6 w b f) (hg : w.grownBy w' (some g)) (hne : b ≠ g) : B6 w' b f := by
  have hb : w'.heap[b]? = w.heap[b]? := hg.block b h.1 (fun e => by injection e with e; exact hne e)
  exact ⟨Nat.lt_of_lt_of_le h.1 hg.size, fun j hj => ⟨(World.cell?_of_block (a := ⟨b, j, none⟩) hb).trans (h.2 j hj).1, (World.frozen?_of_block (a := ⟨b, j, none⟩) hb).trans (h.2 j hj).2⟩⟩
theorem B6.set {w : World} {b i : Nat} {f : Nat → Int} (h : B6 w b f) (hi : i < 6) (v : Int) : B6 (w.setCell ⟨b, i, none⟩ (.int .i64 v)) b (fun j => if j = i then v else f j) := by
  refine ⟨by simpa using h.1, fun j hj => ⟨?_, by simpa using (h.2 j hj).2⟩⟩
  by_cases e : j = i
  · subst e
    dsimp only
    rw [if_pos rfl]
    exact World.cell?_setCell_same w ⟨b, j, none⟩ _ (h.2 j hj).1
  · dsimp only
    rw [if_neg e, World.cell?_setCell_other _ _ _ _ (by simp <;> omega)]
    exact (h.2 j hj).1
theorem B6.far {w : World} {b b' i : Nat} {f : Nat → Int} {v : Value} (h : B6 w b f) (hne : b ≠ b') : B6 (w.setCell ⟨b', i, none⟩ v) b f :=
  h.nxt (only_setCell (World.grownBy.refl w (some b')) v) hne
theorem B6.zero (w : World) (t : TypeId) : B6 (w.alloc (.cells #[.int .i64 0, .int .i64 0, .int .i64 0, .int .i64 0, .int .i64 0, .int .i64 0] t)) w.heap.size (fun _ => 0) := by
  refine ⟨by simp, fun j hj => ?_⟩
  rcases j with _ | _ | _ | _ | _ | _ | j
  · simp [go_sem]
  · simp [go_sem]
  · simp [go_sem]
  · simp [go_sem]
  · simp [go_sem]
  · simp [go_sem]
  · omega
theorem B6.six (w : World) (t : TypeId) (f : Nat → Int) : B6 (w.alloc (.cells #[.int .i64 (f 0), .int .i64 (f 1), .int .i64 (f 2), .int .i64 (f 3), .int .i64 (f 4), .int .i64 (f 5)] t)) w.heap.size f := by
  refine ⟨by simp, fun j hj => ?_⟩
  rcases j with _ | _ | _ | _ | _ | _ | j
  · simp [go_sem]
  · simp [go_sem]
  · simp [go_sem]
  · simp [go_sem]
  · simp [go_sem]
  · simp [go_sem]
  · omega
theorem B6.all {w : World} {b : Nat} {f : Nat → Int} (h : B6 w b f) : b < w.heap.size ∧ w.cell? ⟨b, 0, none⟩ = some (.int .i64 (f 0)) ∧ w.cell? ⟨b, 1, none⟩ = some (.int .i64 (f 1)) ∧ w.cell? ⟨b, 2, none⟩ = some (.int .i64 (f 2)) ∧ w.cell? ⟨b, 3, none⟩ = some (.int .i64 (f 3)) ∧ w.cell? ⟨b, 4, none⟩ = some (.int .i64 (f 4)) ∧ w.cell? ⟨b, 5, none⟩ = some (.int .i64 (f 5)) ∧
    w.frozen? ⟨b, 0, none⟩ = false ∧ w.frozen? ⟨b, 1, none⟩ = false ∧ w.frozen? ⟨b, 2, none⟩ = false ∧ w.frozen? ⟨b, 3, none⟩ = false ∧ w.frozen? ⟨b, 4, none⟩ = false ∧ w.frozen? ⟨b, 5, none⟩ = false :=
  ⟨h.1, (h.2 0 (by omega)).1, (h.2 1 (by omega)).1, (h.2 2 (by omega)).1, (h.2 3 (by omega)).1, (h.2 4 (by omega)).1, (h.2 5 (by omega)).1, (h.2 0 (by omega)).2, (h.2 1 (by omega)).2, (h.2 2 (by omega)).2, (h.2 3 (by omega)).2, (h.2 4 (by omega)).2, (h.2 5 (by omega)).2⟩
/-- What is kept while a print is drawn: the source, the print's box, the result's box, and what lay before. -/
def PK (w w0 wr : World) (g b : Nat) (f : Nat → Int) : Prop := Src wr g ∧ B6 wr b f ∧ B6 wr w.heap.size (fun _ => 0) ∧ KX w wr w.heap.size g ∧ Below w0.heap.size w0 wr ∧ g < w.heap.size ∧ w.heap.size < b ∧ w0.heap.size ≤ g
theorem PK.nxt {w w0 wr w1 : World} {g b : Nat} {f : Nat → Int} (h : PK w w0 wr g b f) (hg : wr.grownBy w1 (some g)) (hs : Src w1 g) : PK w w0 w1 g b f := by
  obtain ⟨h1, h2, h3, h4, h5, h6, h7, h8⟩ := h
  exact ⟨hs, h2.nxt hg (by omega), h3.nxt hg (by omega), h4.nxt hg (Nat.le_refl _), below_nxt h5 hg h5.size h8, h6, h7, h8⟩
theorem PK.alloc {w w0 wr : World} {g b : Nat} {f : Nat → Int} (h : PK w w0 wr g b f) (o : Obj) : PK w w0 (wr.alloc o) g b f := by
  obtain ⟨h1, h2, h3, h4, h5, h6, h7, h8⟩ := h
  have ha := (Below.refl wr.heap.size wr).alloc (Nat.le_refl _) o
  exact ⟨h1.keep ha, h2.keep ha, h3.keep ha, h4.alloc (Nat.le_refl _) o, h5.alloc h5.size o, h6, h7, h8⟩
theorem PK.drew {w w0 wr : World} {g b : Nat} {f : Nat → Int} (h : PK w w0 wr g b f) : PK w w0 wr.drew g b f := by
  obtain ⟨h1, h2, h3, h4, h5, h6, h7, h8⟩ := h
  have ha := (Below.refl wr.heap.size wr).drew
  exact ⟨h1.keep ha, h2.keep ha, h3.keep ha, h4.below ha (Nat.le_refl _), h5.drew, h6, h7, h8⟩
theorem PK.set {w w0 wr : World} {g b i : Nat} {f : Nat → Int} (h : PK w w0 wr g b f) (hi : i < 6) (v : Int) : PK w w0 (wr.setCell ⟨b, i, none⟩ (.int .i64 v)) g b (fun j => if j = i then v else f j) := by
  obtain ⟨h1, h2, h3, h4, h5, h6, h7, h8⟩ := h
  have hg := only_setCell (i := i) (World.grownBy.refl wr (some b)) (.int .i64 v)
  have hz := h5.size
  exact ⟨h1.grown hg (fun j e => by injection e with e; omega), h2.set hi v, h3.far (by omega), h4.grown hg (fun j e => by injection e with e; omega) (Nat.le_refl _), h5.setCell (by simp; omega) _, h6, h7, h8⟩
theorem KX.setB {w wr : World} {g c i : Nat} {v : Value} (h : KX w wr w.heap.size g) (hc : w.heap.size ≤ c) : KX w (wr.setCell ⟨c, i, none⟩ v) w.heap.size g :=
  h.grown (only_setCell (World.grownBy.refl wr (some c)) v) (fun j e => by injection e with e; omega) (Nat.le_refl _)
/-- k numbers in the block B. -/
def LitA (wr : World) (B k : Nat) : Prop := B < wr.heap.size ∧ ∀ i, i < k → ∃ y : Int, wr.cell? ⟨B, i, none⟩ = some (.int .i64 y)
theorem LitA.nxt {wr w1 : World} {B k g : Nat} (h : LitA wr B k) (hg : wr.grownBy w1 (some g)) (hb : B ≠ g) : LitA w1 B k :=
  ⟨Nat.lt_of_lt_of_le h.1 hg.size, fun i hi => by obtain ⟨y, c⟩ := h.2 i hi; exact ⟨y, cell_nxt c hg hb⟩⟩
theorem LitA.new (w : World) (t : TypeId) (ys : List Int) : LitA (w.alloc (.cells (vals ys) t)) w.heap.size ys.length :=
  ⟨by simp, fun i hi => ⟨ys.getD i 0, by rw [(Blk.new w t (vals ys)).cell]; exact vals_get ys i hi⟩⟩
set_option maxRecDepth 100000 in
set_option maxHeartbeats 8000000 in
theorem d21 (g : Nat) (w : World) (h : Src w g) (w0 : World) (hw0 : Below w0.heap.size w0 w) (hwg : w0.heap.size ≤ g) : Calls Try.prog 79 #[.pointer (some ⟨g, 0, none⟩)] w fun e w' => ∃ f : Nat → Int, e = .returned (.agg #[.int .i64 (f 0), .int .i64 (f 1), .int .i64 (f 2), .int .i64 (f 3), .int .i64 (f 4), .int .i64 (f 5)]) ∧ KX w w' w.heap.size g ∧ Below w0.heap.size w0 w' := by
  have hgb : g < w.heap.size := h.lt
  have hz0 := hw0.size
  have hB0 := B6.zero w 34
  have HS0 := Lib.hid (h.keep ((Below.refl _ _).alloc (Nat.le_refl _) (.cells #[.int .i64 0, .int .i64 0, .int .i64 0, .int .i64 0, .int .i64 0, .int .i64 0] 34)))
  have HK0 := Lib.hid ((KX.refl w w.heap.size g).alloc (Nat.le_refl _) (.cells #[.int .i64 0, .int .i64 0, .int .i64 0, .int .i64 0, .int .i64 0, .int .i64 0] 34))
  have HZ0 := Lib.hid (hw0.alloc hz0 (.cells #[.int .i64 0, .int .i64 0, .int .i64 0, .int .i64 0, .int .i64 0, .int .i64 0] 34))
  have HB0 := Lib.hid hB0
  clear h hB0
  go_enter Try.func79, Try.ntmps79
  go_wp2_with fail
  refine (sNext g 4 _ HS0.out).mono ?_
  rintro e w1 ⟨x1, rfl, x1a, x1b, -, hs, hg⟩
  have HS1 := Lib.hid hs
  have HK1 := Lib.hid (HK0.out.nxt hg (Nat.le_refl _))
  have HZ1 := Lib.hid (below_nxt HZ0.out hg HZ0.out.size hwg)
  have HB1 := Lib.hid (HB0.out.nxt hg (by omega))
  have hz1 := hg.size
  have x1c := x1b (by omega)
  (try simp at hz1)
  clear hs hg x1b HS0 HK0 HZ0 HB0
  go_wp2_with fail
  refine (sNext g 4 _ HS1.out).mono ?_
  rintro e w2 ⟨x2, rfl, x2a, x2b, -, hs, hg⟩
  have HS2 := Lib.hid hs
  have HK2 := Lib.hid (HK1.out.nxt hg (Nat.le_refl _))
  have HZ2 := Lib.hid (below_nxt HZ1.out hg HZ1.out.size hwg)
  have HB2 := Lib.hid (HB1.out.nxt hg (by omega))
  have hz2 := hg.size
  have x2c := x2b (by omega)
  (try simp at hz2)
  clear hs hg x2b HS1 HK1 HZ1 HB1
  go_wp2_with fail
  refine (sNext g 4 _ HS2.out).mono ?_
  rintro e w3 ⟨x3, rfl, x3a, x3b, -, hs, hg⟩
  have HS3 := Lib.hid hs
  have HK3 := Lib.hid (HK2.out.nxt hg (Nat.le_refl _))
  have HZ3 := Lib.hid (below_nxt HZ2.out hg HZ2.out.size hwg)
  have HB3 := Lib.hid (HB2.out.nxt hg (by omega))
  have hz3 := hg.size
  have x3c := x3b (by omega)
  (try simp at hz3)
  clear hs hg x3b HS2 HK2 HZ2 HB2
  go_wp2_with fail
  refine (sNext g 60 _ HS3.out).mono ?_
  rintro e w4 ⟨x4, rfl, x4a, x4b, -, hs, hg⟩
  have HS4 := Lib.hid hs
  have HK4 := Lib.hid (HK3.out.nxt hg (Nat.le_refl _))
  have HZ4 := Lib.hid (below_nxt HZ3.out hg HZ3.out.size hwg)
  have HB4 := Lib.hid (HB3.out.nxt hg (by omega))
  have hz4 := hg.size
  have x4c := x4b (by omega)
  (try simp at hz4)
  clear hs hg x4b HS3 HK3 HZ3 HB3
  go_wp2_with fail
  refine (sNext g 106 _ HS4.out).mono ?_
  rintro e w5 ⟨x5, rfl, x5a, x5b, -, hs, hg⟩
  have HS5 := Lib.hid hs
  have HK5 := Lib.hid (HK4.out.nxt hg (Nat.le_refl _))
  have HZ5 := Lib.hid (below_nxt HZ4.out hg HZ4.out.size hwg)
  have HB5 := Lib.hid (HB4.out.nxt hg (by omega))
  have hz5 := hg.size
  have x5c := x5b (by omega)
  (try simp at hz5)
  clear hs hg x5b HS4 HK4 HZ4 HB4
  go_wp2_with fail
  obtain ⟨f0, hf0⟩ : ∃ f : Nat → Int, f 0 = 1 + x1 ∧ f 1 = 1 + x2 ∧ f 2 = x3 ∧ f 3 = 0 ∧ f 4 = x4 ∧ f 5 = 150 + x5 := ⟨fun j => if j = 0 then 1 + x1 else if j = 1 then 1 + x2 else if j = 2 then x3 else if j = 3 then 0 else if j = 4 then x4 else 150 + x5, rfl, rfl, rfl, rfl, rfl, rfl⟩
  obtain ⟨q0, q1, q2, q3, q4, q5⟩ := hf0
  obtain ⟨V, hV⟩ : ∃ V : World, V = w5.alloc (.cells #[.int .i64 (1 + x1), .int .i64 (1 + x2), .int .i64 x3, .int .i64 0, .int .i64 x4, .int .i64 (150 + x5)] 34) := ⟨_, rfl⟩
  have hpk : PK w w0 V g w5.heap.size f0 := by
    have hs6 := B6.six w5 34 f0
    rw [q0, q1, q2, q3, q4, q5] at hs6
    rw [← hV] at hs6
    have ha : Below w5.heap.size w5 V := by rw [hV]; exact (Below.refl _ _).alloc (Nat.le_refl _) _
    exact ⟨HS5.out.keep ha, hs6, HB5.out.keep ha, by rw [hV]; exact HK5.out.alloc (Nat.le_refl _) _, HZ5.out.trans (ha.mono HZ5.out.size), hgb, by omega, hwg⟩
  rw [← hV]
  have HPK := Lib.hid hpk
  have hp1 : 1 ≤ f0 0 ∧ f0 0 ≤ 4 := by omega
  clear q0 q1 q2 q3 q4 q5 hpk hV HS5 HK5 HZ5 HB5 x1a x1c x2a x2c x3a x3c x4a x4c x5a x5c hz1 hz2 hz3 hz4
  obtain ⟨b, hb5⟩ : ∃ b, w5.heap.size = b := ⟨_, rfl⟩
  rw [hb5] at HPK
  rw [hb5]
  clear hb5 hz5
  have a1 := HPK.out.2.1.all
  obtain ⟨hbV, _, _, _, c3, _, _, _, _, _, fz3, _, _⟩ := a1
  have hgb2 : g < b := by have := HPK.out.2.2.2.2.2.2.1; omega
  have g1 : IntKind.i64.wrap (2 * f0 0) = 2 * f0 0 := IntWalk.i64_in _ (by omega)
  have g2 : IntKind.i64.wrap (2 * f0 0 - 1) = 2 * f0 0 - 1 := IntWalk.i64_in _ (by omega)
  go_wp2_with fail
  go_region_held3 (fun w' => w'.cell? ⟨b, 0, none⟩ = some (.int .i64 (f0 0))) (first | exact (HPK.out.drew.2.1.2 0 (by omega)).1 | exact (HP6.out.2.1.2 0 (by omega)).1 | exact ((HP6.out.set (i := 3) (by omega) _).2.1.2 0 (by omega)).1) ((go_at_call 93; refine (sNext g (2 * f0 0 - 1) _ HPK.out.drew.1).mono ?_; rintro e w6 ⟨x, rfl, xa, xb, xz, hs, hg⟩; have HP6 := Lib.hid (HPK.out.drew.nxt hg hs); have hx9 : x ≤ 8 := (by rcases Int.lt_or_le 1 (2 * f0 0 - 1) with h | h <;> first | (have := xb h; omega) | (have := xz h; omega)); have r3 := (HP6.out.2.1.2 3 (by omega)).1; have r4 := (HP6.out.2.1.2 3 (by omega)).2; have s1 : IntKind.i64.wrap (x - f0 0) = x - f0 0 := IntWalk.i64_in _ (by omega); have s2 : IntKind.i64.wrap (x - f0 0 + 1) = x - f0 0 + 1 := IntWalk.i64_in _ (by omega)))
  all_goals
    have HP7 := Lib.hid (HP6.out.set (i := 3) (by omega) (x - f0 0 + 1))
    obtain ⟨w7, hw7⟩ : ∃ w7 : World, w7 = w6.setCell ⟨b, 3, none⟩ (.int .i64 (x - f0 0 + 1)) := ⟨_, rfl⟩
    rw [← hw7] at HP7
    rw [← hw7]
    obtain ⟨f, hf⟩ : ∃ f : Nat → Int, (fun j => if j = 3 then x - f0 0 + 1 else f0 j) = f := ⟨_, rfl⟩
    rw [hf] at HP7
    clear hf hw7 s1 s2 r3 r4 hs hg xa xb xz hx9 HP6 HPK g1 g2 c3 fz3
    go_upto_block 0 with ((go_at_call 93; refine (sNext g 30 _ HP7.out.1).mono ?_; rintro e w8 ⟨x8, rfl, x8a, x8b, -, hs, hg⟩; have HP8 := Lib.hid (HP7.out.nxt hg hs); have hgw8 : g < w8.heap.size := hs.lt; have hb8 : b < w8.heap.size := HP8.out.2.1.1; clear hs hg x8b HP7 x8a))
    go_cut [] from 31 (fun wx => ∃ f' : Nat → Int, Hid (PK w w0 wx g b f'))
    case first =>
      by_cases h0 : x8 = 0
      · subst h0
        have HPA := Lib.hid (HP8.out.alloc (.cells #[.int .i64 0, .int .i64 12, .int .i64 13] 2))
        have HLA := Lib.hid (LitA.new w8 2 [0, 12, 13])
        go_wp2_with fail
        refine (sNext g 3 _ HPA.out.1).mono ?_
        rintro e w9 ⟨x9, rfl, x9a, x9b, -, hs, hg⟩
        have HPZ := Lib.hid (HPA.out.nxt hg hs)
        have HLZ := Lib.hid (HLA.out.nxt hg (by omega))
        have x9c := x9b (by omega)
        clear hs hg x9b HPA HLA
        obtain ⟨q, rfl⟩ := Int.eq_ofNat_of_zero_le x9a
        obtain ⟨y, hy⟩ := HLZ.out.2 q (show q < 3 by omega)
        have hq2 : (q : Int) < 3 := by omega
        have hq3 : (0 : Int) ≤ (q : Int) := by omega
        have r3 := (HPZ.out.2.1.2 0 (by omega)).1
        have r4 := (HPZ.out.2.1.2 0 (by omega)).2
        have r5 := HPZ.out.2.1.1
        go_wp2_with fail
        go_meet
        exact ⟨_, Lib.hid (HPZ.out.set (i := 0) (by omega) y)⟩
      have t0 : (x8 == 0) = false := by simpa using h0
      by_cases h1 : x8 = 1
      · subst h1
        go_upto_region 7 with fail
        refine wp_region_inv (fun d ac wz => ∃ (u41 u42 u43 u44 u45 u46 u47 u48 u49 u50 u51 : Value), ac = ({ tmps := List.toArray (.pointer (some ⟨g, 0, none⟩) :: undef :: .pointer (some ⟨w.heap.size, 0, none⟩) :: .pointer (some ⟨b, 0, none⟩) :: .pointer (some ⟨g, 0, none⟩) :: .int .i64 x1 :: .int .i64 (1 + x1) :: .pointer (some ⟨g, 0, none⟩) :: .int .i64 x2 :: .int .i64 (1 + x2) :: .pointer (some ⟨g, 0, none⟩) :: .int .i64 x3 :: .pointer (some ⟨g, 0, none⟩) :: .int .i64 x4 :: .pointer (some ⟨g, 0, none⟩) :: .int .i64 x5 :: .int .i64 (150 + x5) :: .agg #[.int .i64 (1 + x1), .int .i64 (1 + x2), .int .i64 x3, .int .i64 0, .int .i64 x4, .int .i64 (150 + x5)] :: .pointer (some ⟨g, 0, none⟩) :: .pointer (some ⟨b, 0, none⟩) :: .int .i64 (f0 0) :: .int .i64 (2 * f0 0) :: .int .i64 (2 * f0 0 - 1) :: .int .i64 x :: .pointer (some ⟨b, 0, none⟩) :: .int .i64 (f0 0) :: .int .i64 (x - f0 0) :: .int .i64 (x - f0 0 + 1) :: .pointer (some ⟨b, 3, none⟩) :: .pointer (some ⟨g, 0, none⟩) :: .int .i64 1 :: .bool false :: .bool false :: undef :: undef :: undef :: undef :: undef :: undef :: .bool true :: .bool true :: u41 :: u42 :: u43 :: u44 :: u45 :: u46 :: u47 :: u48 :: u49 :: u50 :: u51 :: undef :: undef :: undef :: undef :: undef :: undef :: undef :: undef :: undef :: undef :: undef :: undef :: undef :: undef :: undef :: undef :: undef :: undef :: undef :: []), defers := [] } : Act) ∧ (∃ y : Int, PK w w0 wz g b (fun j => if j = 3 then y else f j)) ∧ (d 0 = true → u41 = .pointer (some ⟨b, 0, none⟩)) ∧ (d 1 = true → ∃ y : Int, u42 = .int .i64 y) ∧ (d 2 = true → u43 = .pointer (some ⟨b, 0, none⟩)) ∧ (d 3 = true → ∃ y : Int, u44 = .int .i64 y) ∧ (d 4 = true → ∃ y : Int, u45 = .int .i64 y) ∧ (d 5 = true → ∃ h : Nat, u46 = .slice (some ⟨h, 0, none⟩) 2 2 ∧ g < h ∧ b < h ∧ LitA wz h 2) ∧ (d 6 = true → u47 = .pointer (some ⟨g, 0, none⟩)) ∧ (d 7 = true → ∃ q : Nat, u48 = .int .i64 (q : Int) ∧ q < 2) ∧ (d 8 = true → ∃ (h q : Nat) (y : Int), u49 = .pointer (some ⟨h, q, none⟩) ∧ g < h ∧ b < h ∧ h < wz.heap.size ∧ wz.cell? ⟨h, q, none⟩ = some (.int .i64 y)) ∧ (d 9 = true → ∃ y : Int, u50 = .int .i64 y) ∧ (d 10 = true → u51 = .pointer (some ⟨b, 3, none⟩))) (by kernel_rfl) (by kernel_rfl) ?_ ?_ ?_
        · exact ⟨_, _, _, _, _, _, _, _, _, _, _, rfl, ⟨f 3, by rw [show (fun j => if j = 3 then f 3 else f j) = f by funext j; by_cases e : j = 3 <;> simp [e]]; exact HP8.out.drew⟩, (fun h => by cases h), (fun h => by cases h), (fun h => by cases h), (fun h => by cases h), (fun h => by cases h), (fun h => by cases h), (fun h => by cases h), (fun h => by cases h), (fun h => by cases h), (fun h => by cases h), (fun h => by cases h)⟩
        · refine Steps.cons (fun d a wz hI hd hdep K hK' => ?_) ?_
          · obtain ⟨u41, u42, u43, u44, u45, u46, u47, u48, u49, u50, u51, rfl, hP, f0, f1, f2, f3, f4, f5, f6, f7, f8, f9, f10⟩ := hI
            go_simp
            refine hK' _ _ ⟨_, _, _, _, _, _, _, _, _, _, _, rfl, hP, (fun _ => rfl), f1, f2, f3, f4, f5, f6, f7, f8, f9, f10⟩
          refine Steps.cons (fun d a wz hI hd hdep K hK' => ?_) ?_
          · obtain ⟨u41, u42, u43, u44, u45, u46, u47, u48, u49, u50, u51, rfl, hP, f0, f1, f2, f3, f4, f5, f6, f7, f8, f9, f10⟩ := hI
            have q0 := f0 (hdep 0 rfl)
            subst q0
            obtain ⟨y, hy⟩ := hP
            have c0 : wz.cell? ⟨b, 0, none⟩ = some (.int .i64 (f 0)) := by simpa using (hy.2.1.2 0 (by omega)).1
            have hP : ∃ y : Int, PK w w0 wz g b (fun j => if j = 3 then y else f j) := ⟨y, hy⟩
            clear hy
            go_simp
            refine hK' _ _ ⟨_, _, _, _, _, _, _, _, _, _, _, rfl, hP, f0, (fun _ => ⟨_, rfl⟩), f2, f3, f4, f5, f6, f7, f8, f9, f10⟩
          refine Steps.cons (fun d a wz hI hd hdep K hK' => ?_) ?_
          · obtain ⟨u41, u42, u43, u44, u45, u46, u47, u48, u49, u50, u51, rfl, hP, f0, f1, f2, f3, f4, f5, f6, f7, f8, f9, f10⟩ := hI
            go_simp
            refine hK' _ _ ⟨_, _, _, _, _, _, _, _, _, _, _, rfl, hP, f0, f1, (fun _ => rfl), f3, f4, f5, f6, f7, f8, f9, f10⟩
          refine Steps.cons (fun d a wz hI hd hdep K hK' => ?_) ?_
          · obtain ⟨u41, u42, u43, u44, u45, u46, u47, u48, u49, u50, u51, rfl, hP, f0, f1, f2, f3, f4, f5, f6, f7, f8, f9, f10⟩ := hI
            have q0 := f2 (hdep 2 rfl)
            subst q0
            obtain ⟨y, hy⟩ := hP
            have c0 : wz.cell? ⟨b, 0, none⟩ = some (.int .i64 (f 0)) := by simpa using (hy.2.1.2 0 (by omega)).1
            have hP : ∃ y : Int, PK w w0 wz g b (fun j => if j = 3 then y else f j) := ⟨y, hy⟩
            clear hy
            go_simp
            refine hK' _ _ ⟨_, _, _, _, _, _, _, _, _, _, _, rfl, hP, f0, f1, f2, (fun _ => ⟨_, rfl⟩), f4, f5, f6, f7, f8, f9, f10⟩
          refine Steps.cons (fun d a wz hI hd hdep K hK' => ?_) ?_
          · obtain ⟨u41, u42, u43, u44, u45, u46, u47, u48, u49, u50, u51, rfl, hP, f0, f1, f2, f3, f4, f5, f6, f7, f8, f9, f10⟩ := hI
            obtain ⟨y, q0⟩ := f3 (hdep 3 rfl)
            subst q0
            go_simp
            refine hK' _ _ ⟨_, _, _, _, _, _, _, _, _, _, _, rfl, hP, f0, f1, f2, f3, (fun _ => ⟨_, rfl⟩), f5, f6, f7, f8, f9, f10⟩
          refine Steps.cons (fun d a wz hI hd hdep K hK' => ?_) ?_
          · obtain ⟨u41, u42, u43, u44, u45, u46, u47, u48, u49, u50, u51, rfl, hP, f0, f1, f2, f3, f4, f5, f6, f7, f8, f9, f10⟩ := hI
            obtain ⟨y0, q0⟩ := f1 (hdep 1 rfl)
            subst q0
            obtain ⟨y1, q1⟩ := f4 (hdep 4 rfl)
            subst q1
            obtain ⟨y, hy⟩ := hP
            have hgz := hy.1.lt
            have hbz := hy.2.1.1
            have hal := (Below.refl wz.heap.size wz).alloc (Nat.le_refl _) (.cells #[.int .i64 y0, .int .i64 y1] 2)
            have hLA := LitA.new wz 2 [y0, y1]
            have hpa := hy.alloc (.cells #[.int .i64 y0, .int .i64 y1] 2)
            clear hy
            go_simp
            refine hK' _ _ ⟨_, _, _, _, _, _, _, _, _, _, _, rfl, (⟨y, hpa⟩), f0, f1, f2, f3, f4, (fun _ => ⟨wz.heap.size, rfl, hgz, hbz, hLA⟩), f6, f7, (fun h => by obtain ⟨h0, q0, y, e1, e2, e3, e4, e5⟩ := f8 h; exact ⟨h0, q0, y, e1, e2, e3, Nat.lt_of_lt_of_le e4 hal.size, (hal.cell (p := ⟨h0, q0, none⟩) e4).trans e5⟩), f9, f10⟩
          refine Steps.cons (fun d a wz hI hd hdep K hK' => ?_) ?_
          · obtain ⟨u41, u42, u43, u44, u45, u46, u47, u48, u49, u50, u51, rfl, hP, f0, f1, f2, f3, f4, f5, f6, f7, f8, f9, f10⟩ := hI
            go_simp
            refine hK' _ _ ⟨_, _, _, _, _, _, _, _, _, _, _, rfl, hP, f0, f1, f2, f3, f4, f5, (fun _ => rfl), f7, f8, f9, f10⟩
          refine Steps.cons (fun d a wz hI hd hdep K hK' => ?_) ?_
          · obtain ⟨u41, u42, u43, u44, u45, u46, u47, u48, u49, u50, u51, rfl, hP, f0, f1, f2, f3, f4, f5, f6, f7, f8, f9, f10⟩ := hI
            have q0 := f6 (hdep 6 rfl)
            subst q0
            obtain ⟨y, hy⟩ := hP
            go_simp
            refine (sNext g 2 wz hy.1).mono ?_
            rintro e w1' ⟨x', rfl, xa, xb, -, hs1, hg1⟩
            have xc := xb (by omega)
            obtain ⟨q, rfl⟩ := Int.eq_ofNat_of_zero_le xa
            refine hK' _ _ ⟨_, _, _, _, _, _, _, _, _, _, _, rfl, (⟨y, hy.nxt hg1 hs1⟩), f0, f1, f2, f3, f4, (fun h => by obtain ⟨h0, e1, e2, e3, e4⟩ := f5 h; exact ⟨h0, e1, e2, e3, e4.nxt hg1 (by omega)⟩), f6, (fun _ => ⟨q, rfl, by omega⟩), (fun h => by obtain ⟨h0, q0, y, e1, e2, e3, e4, e5⟩ := f8 h; exact ⟨h0, q0, y, e1, e2, e3, Nat.lt_of_lt_of_le e4 hg1.size, cell_nxt e5 hg1 (by omega)⟩), f9, f10⟩
          refine Steps.cons (fun d a wz hI hd hdep K hK' => ?_) ?_
          · obtain ⟨u41, u42, u43, u44, u45, u46, u47, u48, u49, u50, u51, rfl, hP, f0, f1, f2, f3, f4, f5, f6, f7, f8, f9, f10⟩ := hI
            obtain ⟨h0, q5, e2, e3, e4⟩ := f5 (hdep 5 rfl)
            subst q5
            obtain ⟨q, q7, hq⟩ := f7 (hdep 7 rfl)
            subst q7
            have hq2 : (q : Int) < 2 := by omega
            have hq3 : (0 : Int) ≤ (q : Int) := by omega
            obtain ⟨y, hy⟩ := e4.2 q hq
            go_simp
            refine hK' _ _ ⟨_, _, _, _, _, _, _, _, _, _, _, rfl, hP, f0, f1, f2, f3, f4, f5, f6, f7, (fun _ => ⟨h0, q, y, rfl, e2, e3, e4.1, hy⟩), f9, f10⟩
          refine Steps.cons (fun d a wz hI hd hdep K hK' => ?_) ?_
          · obtain ⟨u41, u42, u43, u44, u45, u46, u47, u48, u49, u50, u51, rfl, hP, f0, f1, f2, f3, f4, f5, f6, f7, f8, f9, f10⟩ := hI
            obtain ⟨h0, q, y, q8, e2, e3, e4, e5⟩ := f8 (hdep 8 rfl)
            subst q8
            go_simp
            refine hK' _ _ ⟨_, _, _, _, _, _, _, _, _, _, _, rfl, hP, f0, f1, f2, f3, f4, f5, f6, f7, f8, (fun _ => ⟨y, rfl⟩), f10⟩
          refine Steps.cons (fun d a wz hI hd hdep K hK' => ?_) ?_
          · obtain ⟨u41, u42, u43, u44, u45, u46, u47, u48, u49, u50, u51, rfl, hP, f0, f1, f2, f3, f4, f5, f6, f7, f8, f9, f10⟩ := hI
            go_simp
            refine hK' _ _ ⟨_, _, _, _, _, _, _, _, _, _, _, rfl, hP, f0, f1, f2, f3, f4, f5, f6, f7, f8, f9, (fun _ => rfl)⟩
          refine Steps.cons (fun d a wz hI hd hdep K hK' => ?_) ?_
          · obtain ⟨u41, u42, u43, u44, u45, u46, u47, u48, u49, u50, u51, rfl, hP, f0, f1, f2, f3, f4, f5, f6, f7, f8, f9, f10⟩ := hI
            have q0 := f10 (hdep 10 rfl)
            subst q0
            obtain ⟨y1, q9⟩ := f9 (hdep 9 rfl)
            subst q9
            obtain ⟨y, hy⟩ := hP
            have r3 := (hy.2.1.2 3 (by omega)).1
            have r4 := (hy.2.1.2 3 (by omega)).2
            have r5 := hy.2.1.1
            have hset := hy.set (i := 3) (by omega) y1
            rw [show (fun j => if j = 3 then y1 else (fun j => if j = 3 then y else f j) j) = (fun j => if j = 3 then y1 else f j) by funext j; by_cases e : j = 3 <;> simp [e]] at hset
            have hg3 : wz.grownBy (wz.setCell ⟨b, 3, none⟩ (.int .i64 y1)) (some b) := only_setCell (World.grownBy.refl wz _) _
            go_simp
            refine hK' _ _ ⟨_, _, _, _, _, _, _, _, _, _, _, rfl, (⟨y1, hset⟩), f0, f1, f2, f3, f4, (fun h => by obtain ⟨h0, e1, e2, e3, e4⟩ := f5 h; exact ⟨h0, e1, e2, e3, e4.nxt hg3 (by omega)⟩), f6, f7, (fun h => by obtain ⟨h0, q0, y, e1, e2, e3, e4, e5⟩ := f8 h; exact ⟨h0, q0, y, e1, e2, e3, Nat.lt_of_lt_of_le e4 hg3.size, cell_nxt e5 hg3 (by omega)⟩), f9, f10⟩
          exact Steps.nil
        · intro d ac wz hI hall
          obtain ⟨u41, u42, u43, u44, u45, u46, u47, u48, u49, u50, u51, rfl, hP, f0, f1, f2, f3, f4, f5, f6, f7, f8, f9, f10⟩ := hI
          obtain ⟨y, hy⟩ := hP
          have HPZ := Lib.hid hy
          clear hy f0 f1 f2 f3 f4 f5 f6 f7 f8 f9 f10 hall
          go_wp2_with fail
          go_meet
          exact ⟨_, HPZ⟩
      have t1 : (x8 == 1) = false := by simpa using h1
      by_cases h2 : x8 = 2
      · subst h2
        go_upto_region 9 with fail
        refine wp_region_inv (fun d ac wz => ∃ (u54 u55 u56 u57 u58 u59 u60 u61 : Value), ac = ({ tmps := List.toArray (.pointer (some ⟨g, 0, none⟩) :: undef :: .pointer (some ⟨w.heap.size, 0, none⟩) :: .pointer (some ⟨b, 0, none⟩) :: .pointer (some ⟨g, 0, none⟩) :: .int .i64 x1 :: .int .i64 (1 + x1) :: .pointer (some ⟨g, 0, none⟩) :: .int .i64 x2 :: .int .i64 (1 + x2) :: .pointer (some ⟨g, 0, none⟩) :: .int .i64 x3 :: .pointer (some ⟨g, 0, none⟩) :: .int .i64 x4 :: .pointer (some ⟨g, 0, none⟩) :: .int .i64 x5 :: .int .i64 (150 + x5) :: .agg #[.int .i64 (1 + x1), .int .i64 (1 + x2), .int .i64 x3, .int .i64 0, .int .i64 x4, .int .i64 (150 + x5)] :: .pointer (some ⟨g, 0, none⟩) :: .pointer (some ⟨b, 0, none⟩) :: .int .i64 (f0 0) :: .int .i64 (2 * f0 0) :: .int .i64 (2 * f0 0 - 1) :: .int .i64 x :: .pointer (some ⟨b, 0, none⟩) :: .int .i64 (f0 0) :: .int .i64 (x - f0 0) :: .int .i64 (x - f0 0 + 1) :: .pointer (some ⟨b, 3, none⟩) :: .pointer (some ⟨g, 0, none⟩) :: .int .i64 2 :: .bool false :: .bool false :: undef :: undef :: undef :: undef :: undef :: undef :: .bool false :: .bool false :: undef :: undef :: undef :: undef :: undef :: undef :: undef :: undef :: undef :: undef :: undef :: .bool true :: .bool true :: u54 :: u55 :: u56 :: u57 :: u58 :: u59 :: u60 :: u61 :: undef :: undef :: undef :: undef :: undef :: undef :: undef :: undef :: undef :: []), defers := [] } : Act) ∧ (∃ y : Int, PK w w0 wz g b (fun j => if j = 5 then y else f j)) ∧ (d 0 = true → u54 = .pointer (some ⟨b, 4, none⟩)) ∧ (d 1 = true → ∃ y : Int, u55 = .int .i64 y) ∧ (d 2 = true → ∃ h : Nat, u56 = .slice (some ⟨h, 0, none⟩) 2 2 ∧ g < h ∧ b < h ∧ LitA wz h 2) ∧ (d 3 = true → u57 = .pointer (some ⟨g, 0, none⟩)) ∧ (d 4 = true → ∃ q : Nat, u58 = .int .i64 (q : Int) ∧ q < 2) ∧ (d 5 = true → ∃ (h q : Nat) (y : Int), u59 = .pointer (some ⟨h, q, none⟩) ∧ g < h ∧ b < h ∧ h < wz.heap.size ∧ wz.cell? ⟨h, q, none⟩ = some (.int .i64 y)) ∧ (d 6 = true → ∃ y : Int, u60 = .int .i64 y) ∧ (d 7 = true → u61 = .pointer (some ⟨b, 5, none⟩))) (by kernel_rfl) (by kernel_rfl) ?_ ?_ ?_
        · exact ⟨_, _, _, _, _, _, _, _, rfl, ⟨f 5, by rw [show (fun j => if j = 5 then f 5 else f j) = f by funext j; by_cases e : j = 5 <;> simp [e]]; exact HP8.out.drew⟩, (fun h => by cases h), (fun h => by cases h), (fun h => by cases h), (fun h => by cases h), (fun h => by cases h), (fun h => by cases h), (fun h => by cases h), (fun h => by cases h)⟩
        · refine Steps.cons (fun d a wz hI hd hdep K hK' => ?_) ?_
          · obtain ⟨u54, u55, u56, u57, u58, u59, u60, u61, rfl, hP, f0, f1, f2, f3, f4, f5, f6, f7⟩ := hI
            go_simp
            refine hK' _ _ ⟨_, _, _, _, _, _, _, _, rfl, hP, (fun _ => rfl), f1, f2, f3, f4, f5, f6, f7⟩
          refine Steps.cons (fun d a wz hI hd hdep K hK' => ?_) ?_
          · obtain ⟨u54, u55, u56, u57, u58, u59, u60, u61, rfl, hP, f0, f1, f2, f3, f4, f5, f6, f7⟩ := hI
            have q0 := f0 (hdep 0 rfl)
            subst q0
            obtain ⟨y, hy⟩ := hP
            have c0 : wz.cell? ⟨b, 4, none⟩ = some (.int .i64 (f 4)) := by simpa using (hy.2.1.2 4 (by omega)).1
            have hP : ∃ y : Int, PK w w0 wz g b (fun j => if j = 5 then y else f j) := ⟨y, hy⟩
            clear hy
            go_simp
            refine hK' _ _ ⟨_, _, _, _, _, _, _, _, rfl, hP, f0, (fun _ => ⟨_, rfl⟩), f2, f3, f4, f5, f6, f7⟩
          refine Steps.cons (fun d a wz hI hd hdep K hK' => ?_) ?_
          · obtain ⟨u54, u55, u56, u57, u58, u59, u60, u61, rfl, hP, f0, f1, f2, f3, f4, f5, f6, f7⟩ := hI
            obtain ⟨y0, q0⟩ := f1 (hdep 1 rfl)
            subst q0
            obtain ⟨y, hy⟩ := hP
            have hgz := hy.1.lt
            have hbz := hy.2.1.1
            have hal := (Below.refl wz.heap.size wz).alloc (Nat.le_refl _) (.cells #[.int .i64 y0, .int .i64 256] 2)
            have hLA := LitA.new wz 2 [y0, 256]
            have hpa := hy.alloc (.cells #[.int .i64 y0, .int .i64 256] 2)
            clear hy
            go_simp
            refine hK' _ _ ⟨_, _, _, _, _, _, _, _, rfl, (⟨y, hpa⟩), f0, f1, (fun _ => ⟨wz.heap.size, rfl, hgz, hbz, hLA⟩), f3, f4, (fun h => by obtain ⟨h0, q0, y, e1, e2, e3, e4, e5⟩ := f5 h; exact ⟨h0, q0, y, e1, e2, e3, Nat.lt_of_lt_of_le e4 hal.size, (hal.cell (p := ⟨h0, q0, none⟩) e4).trans e5⟩), f6, f7⟩
          refine Steps.cons (fun d a wz hI hd hdep K hK' => ?_) ?_
          · obtain ⟨u54, u55, u56, u57, u58, u59, u60, u61, rfl, hP, f0, f1, f2, f3, f4, f5, f6, f7⟩ := hI
            go_simp
            refine hK' _ _ ⟨_, _, _, _, _, _, _, _, rfl, hP, f0, f1, f2, (fun _ => rfl), f4, f5, f6, f7⟩
          refine Steps.cons (fun d a wz hI hd hdep K hK' => ?_) ?_
          · obtain ⟨u54, u55, u56, u57, u58, u59, u60, u61, rfl, hP, f0, f1, f2, f3, f4, f5, f6, f7⟩ := hI
            have q0 := f3 (hdep 3 rfl)
            subst q0
            obtain ⟨y, hy⟩ := hP
            go_simp
            refine (sNext g 2 wz hy.1).mono ?_
            rintro e w1' ⟨x', rfl, xa, xb, -, hs1, hg1⟩
            have xc := xb (by omega)
            obtain ⟨q, rfl⟩ := Int.eq_ofNat_of_zero_le xa
            refine hK' _ _ ⟨_, _, _, _, _, _, _, _, rfl, (⟨y, hy.nxt hg1 hs1⟩), f0, f1, (fun h => by obtain ⟨h0, e1, e2, e3, e4⟩ := f2 h; exact ⟨h0, e1, e2, e3, e4.nxt hg1 (by omega)⟩), f3, (fun _ => ⟨q, rfl, by omega⟩), (fun h => by obtain ⟨h0, q0, y, e1, e2, e3, e4, e5⟩ := f5 h; exact ⟨h0, q0, y, e1, e2, e3, Nat.lt_of_lt_of_le e4 hg1.size, cell_nxt e5 hg1 (by omega)⟩), f6, f7⟩
          refine Steps.cons (fun d a wz hI hd hdep K hK' => ?_) ?_
          · obtain ⟨u54, u55, u56, u57, u58, u59, u60, u61, rfl, hP, f0, f1, f2, f3, f4, f5, f6, f7⟩ := hI
            obtain ⟨h0, q5, e2, e3, e4⟩ := f2 (hdep 2 rfl)
            subst q5
            obtain ⟨q, q7, hq⟩ := f4 (hdep 4 rfl)
            subst q7
            have hq2 : (q : Int) < 2 := by omega
            have hq3 : (0 : Int) ≤ (q : Int) := by omega
            obtain ⟨y, hy⟩ := e4.2 q hq
            go_simp
            refine hK' _ _ ⟨_, _, _, _, _, _, _, _, rfl, hP, f0, f1, f2, f3, f4, (fun _ => ⟨h0, q, y, rfl, e2, e3, e4.1, hy⟩), f6, f7⟩
          refine Steps.cons (fun d a wz hI hd hdep K hK' => ?_) ?_
          · obtain ⟨u54, u55, u56, u57, u58, u59, u60, u61, rfl, hP, f0, f1, f2, f3, f4, f5, f6, f7⟩ := hI
            obtain ⟨h0, q, y, q8, e2, e3, e4, e5⟩ := f5 (hdep 5 rfl)
            subst q8
            go_simp
            refine hK' _ _ ⟨_, _, _, _, _, _, _, _, rfl, hP, f0, f1, f2, f3, f4, f5, (fun _ => ⟨y, rfl⟩), f7⟩
          refine Steps.cons (fun d a wz hI hd hdep K hK' => ?_) ?_
          · obtain ⟨u54, u55, u56, u57, u58, u59, u60, u61, rfl, hP, f0, f1, f2, f3, f4, f5, f6, f7⟩ := hI
            go_simp
            refine hK' _ _ ⟨_, _, _, _, _, _, _, _, rfl, hP, f0, f1, f2, f3, f4, f5, f6, (fun _ => rfl)⟩
          refine Steps.cons (fun d a wz hI hd hdep K hK' => ?_) ?_
          · obtain ⟨u54, u55, u56, u57, u58, u59, u60, u61, rfl, hP, f0, f1, f2, f3, f4, f5, f6, f7⟩ := hI
            have q0 := f7 (hdep 7 rfl)
            subst q0
            obtain ⟨y1, q9⟩ := f6 (hdep 6 rfl)
            subst q9
            obtain ⟨y, hy⟩ := hP
            have r3 := (hy.2.1.2 5 (by omega)).1
            have r4 := (hy.2.1.2 5 (by omega)).2
            have r5 := hy.2.1.1
            have hset := hy.set (i := 5) (by omega) y1
            rw [show (fun j => if j = 5 then y1 else (fun j => if j = 5 then y else f j) j) = (fun j => if j = 5 then y1 else f j) by funext j; by_cases e : j = 5 <;> simp [e]] at hset
            have hg3 : wz.grownBy (wz.setCell ⟨b, 5, none⟩ (.int .i64 y1)) (some b) := only_setCell (World.grownBy.refl wz _) _
            go_simp
            refine hK' _ _ ⟨_, _, _, _, _, _, _, _, rfl, (⟨y1, hset⟩), f0, f1, (fun h => by obtain ⟨h0, e1, e2, e3, e4⟩ := f2 h; exact ⟨h0, e1, e2, e3, e4.nxt hg3 (by omega)⟩), f3, f4, (fun h => by obtain ⟨h0, q0, y, e1, e2, e3, e4, e5⟩ := f5 h; exact ⟨h0, q0, y, e1, e2, e3, Nat.lt_of_lt_of_le e4 hg3.size, cell_nxt e5 hg3 (by omega)⟩), f6, f7⟩
          exact Steps.nil
        · intro d ac wz hI hall
          obtain ⟨u54, u55, u56, u57, u58, u59, u60, u61, rfl, hP, f0, f1, f2, f3, f4, f5, f6, f7⟩ := hI
          obtain ⟨y, hy⟩ := hP
          have HPZ := Lib.hid hy
          clear hy f0 f1 f2 f3 f4 f5 f6 f7 hall
          go_wp2_with fail
          go_meet
          exact ⟨_, HPZ⟩
      have t2 : (x8 == 2) = false := by simpa using h2
      by_cases h3 : x8 = 3
      · subst h3
        have HPA := Lib.hid (HP8.out.alloc (.cells #[.int .i64 (-1), .int .i64 16, .int .i64 17] 2))
        have HLA := Lib.hid (LitA.new w8 2 [(-1), 16, 17])
        go_wp2_with fail
        refine (sNext g 3 _ HPA.out.1).mono ?_
        rintro e w9 ⟨x9, rfl, x9a, x9b, -, hs, hg⟩
        have HPZ := Lib.hid (HPA.out.nxt hg hs)
        have HLZ := Lib.hid (HLA.out.nxt hg (by omega))
        have x9c := x9b (by omega)
        clear hs hg x9b HPA HLA
        obtain ⟨q, rfl⟩ := Int.eq_ofNat_of_zero_le x9a
        obtain ⟨y, hy⟩ := HLZ.out.2 q (show q < 3 by omega)
        have hq2 : (q : Int) < 3 := by omega
        have hq3 : (0 : Int) ≤ (q : Int) := by omega
        have r3 := (HPZ.out.2.1.2 2 (by omega)).1
        have r4 := (HPZ.out.2.1.2 2 (by omega)).2
        have r5 := HPZ.out.2.1.1
        go_wp2_with fail
        go_meet
        exact ⟨_, Lib.hid (HPZ.out.set (i := 2) (by omega) y)⟩
      have t3 : (x8 == 3) = false := by simpa using h3
      go_wp2_with fail
      go_meet
      exact ⟨f, HP8⟩
    case rest =>
      clear HP8 hb8 hgw8
      obtain ⟨f', HPZ⟩ := hcut
      have a1 := HPZ.out.2.1.all
      have a2 := HPZ.out.2.2.1.all
      obtain ⟨_, _, _, _, _, _, _, _, _, _, _, _, _⟩ := a1
      obtain ⟨_, _, _, _, _, _, _, _, _, _, _, _, _⟩ := a2
      have hbw := HPZ.out.2.2.2.2.2.2.1
      have hzz := HPZ.out.2.2.2.2.1.size
      have ne1 : ¬ b = w.heap.size := by omega
      have ne2 : ¬ w.heap.size = b := by omega
      go_wp2
      (try simp only [Exit.inBlock, Exit.then])
      refine bodyPost_ret (v := .agg #[.int .i64 (f' 0), .int .i64 (f' 1), .int .i64 (f' 2), .int .i64 (f' 3), .int .i64 (f' 4), .int .i64 (f' 5)]) (by simp [results, Try.results79, go_sem, *]) rfl ?_
      refine ⟨f', rfl, ?_, ?_⟩
      · have hkx := HPZ.out.2.2.2.1
        exact (((((hkx.setB (Nat.le_refl _)).setB (Nat.le_refl _)).setB (Nat.le_refl _)).setB (Nat.le_refl _)).setB (Nat.le_refl _)).setB (Nat.le_refl _)
      · have hbl := HPZ.out.2.2.2.2.1
        exact (((((hbl.setCell hz0 _).setCell hz0 _).setCell hz0 _).setCell hz0 _).setCell hz0 _).setCell hz0 _
end Go.Proofs.Ytfiddbmjgncabaa
