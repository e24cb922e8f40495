/-
  DERIVED. spec.Library; families that are drawn.
-/
import Derived.Test.YtenelpollcabnaaFldO
import Derived.Test.YtenelpollcabnaaRast
import Derived.Test.YtenelpollcabnaaSour
namespace Go.Proofs.Ytenelpollcabnaa
open Go.RowKit
set_option linter.unusedVariables false
theorem allocs_old (os : List Obj) : ∀ (W : World) (b : Nat), b < W.heap.size → (os.foldl World.alloc W).heap[b]? = W.heap[b]? := by
  induction os with
  | nil => intro W b _; rfl
  | cons o os ih =>
    intro W b hb
    rw [List.foldl_cons, ih _ _ (by rw [World.size_alloc]; omega)]
    exact Below.heap_alloc W o b hb
theorem allocs_at (os : List Obj) : ∀ (W : World) (k : Nat), k < os.length → (os.foldl World.alloc W).heap[W.heap.size + k]? = os[k]? := by
  induction os with
  | nil => intro W k hk; simp at hk
  | cons o os ih =>
    intro W k hk
    rw [List.foldl_cons]
    cases k with
    | zero =>
      rw [Nat.add_zero, allocs_old _ _ _ (by rw [World.size_alloc]; omega)]
      simpa using heap_alloc_new W o
    | succ k =>
      have := ih (W.alloc o) k (by simpa using hk)
      rw [World.size_alloc] at this
      rw [show W.heap.size + (k + 1) = W.heap.size + 1 + k by omega, this]
      rfl
/-- A short slice of numbers that can be read, its block new (B or beyond). -/
def NewS (w : World) (B : Nat) (a : Option Addr) (n : Nat) (zs : List Int) : Prop := Rd w a n zs ∧ n ≤ 10 ∧ ∀ b off, a = some ⟨b, off, none⟩ → B ≤ b
theorem NewS.blk {w : World} {B g n : Nat} {zs : List Int} (h : Blk w g 2 (vals zs)) (hn : zs.length = n) (h10 : n ≤ 10) (hB : B ≤ g) : NewS w B (some ⟨g, 0, none⟩) n zs :=
  ⟨h.rd hn, h10, fun b off e => by injection e with e; injection e with e _; omega⟩
theorem NewS.nil (w : World) (B : Nat) : NewS w B none 0 [] := ⟨⟨rfl, fun h => absurd h (by omega)⟩, by omega, fun b off e => by cases e⟩
theorem NewS.keep {w w' : World} {B n : Nat} {a : Option Addr} {zs : List Int} (h : NewS w B a n zs) (hb : Below w.heap.size w w') : NewS w' B a n zs := ⟨h.1.below hb, h.2⟩
theorem NewS.nxt {w w' : World} {B n g : Nat} {a : Option Addr} {zs : List Int} (h : NewS w B a n zs) (hg : w.grownBy w' (some g)) (hgB : g < B) : NewS w' B a n zs :=
  ⟨rd_nxt h.1 hg (fun b off e _ => by have := h.2.2 b off e; omega), h.2⟩
theorem NewS.mono {w : World} {B B' n : Nat} {a : Option Addr} {zs : List Int} (h : NewS w B a n zs) (hB : B' ≤ B) : NewS w B' a n zs := ⟨h.1, h.2.1, fun b off e => Nat.le_trans hB (h.2.2 b off e)⟩
/-- The cells of a family at a place. -/
def FamAt (w : World) (B g o : Nat) : Prop := ∃ (nm : ByteArray) (kd p pw po : Int) (sa : Option Addr) (sn sc : Nat) (zs : List Int) (col : Int) (la : Option Addr) (ln lc : Nat) (ls : List Int), nm.size ≤ 100 ∧ NewS w B sa sn zs ∧ NewS w B la ln ls ∧
  w.cell? ⟨g, o, none⟩ = some (.string nm) ∧ w.cell? ⟨g, o + 1, none⟩ = some (.int .i64 kd) ∧ w.cell? ⟨g, o + 2, none⟩ = some (.int .i64 p) ∧ w.cell? ⟨g, o + 3, none⟩ = some (.int .i64 pw) ∧ w.cell? ⟨g, o + 4, none⟩ = some (.int .i64 po) ∧
  w.cell? ⟨g, o + 5, none⟩ = some (.slice sa sn sc) ∧ w.cell? ⟨g, o + 6, none⟩ = some (.int .i64 col) ∧ w.cell? ⟨g, o + 7, none⟩ = some (.slice la ln lc)
/-- What spec.Library returns. -/
def NewLib (w : World) (e : Ending) (w' : World) : Prop := ∃ g, e = .returned (.slice (some ⟨g, 0, none⟩) 5 5) ∧ w.heap.size ≤ g ∧ g < w'.heap.size ∧ (∀ i, i < 5 → FamAt w' w.heap.size g (i * 8)) ∧ Below w.heap.size w w'
set_option maxRecDepth 20000 in
set_option maxHeartbeats 8000000 in
theorem sLibrary (w : World) : Calls Try.prog 74 #[] w (NewLib w) := by
  have HB0 : Hid (Below w.heap.size w w) := Below.refl _ _
  go_enter Try.func74, Try.ntmps74
  go_wp2_with fail
  refine (sFieldAny 16 (by decide) (by decide) _).mono ?_
  rintro e w1 ⟨p1, q1, r1, c1, rfl, hb⟩
  have hz1 := hb.size
  have HB1 : Hid (Below w.heap.size w w1) := HB0.out.trans (hb.mono (by have := HB0.out.size; omega))
  clear hb
  go_wp2_with fail
  obtain ⟨v1, hv⟩ : ∃ W : World, W = w1.alloc (.cells #[.int .i64 p1, .int .i64 q1, .int .i64 r1] 32) := ⟨_, rfl⟩
  have hbv : Below w1.heap.size w1 v1 := by rw [hv]; exact (Below.refl _ _).alloc (Nat.le_refl _) _
  have hzv1 : w1.heap.size < v1.heap.size := by rw [hv]; simp
  have X1 : Hid (Box3 v1 w1.heap.size (.int .i64 p1) (.int .i64 q1) (.int .i64 r1)) := by rw [hv]; exact Box3.new _ _ _ _ _
  rw [← hv]
  clear hv
  have HV1 : Hid (Below w.heap.size w v1) := HB1.out.trans (hbv.mono (by have := HB1.out.size; omega))
  clear hbv HB1
  refine (sFieldAny 64 (by decide) (by decide) _).mono ?_
  rintro e w2 ⟨p2, q2, r2, c2, rfl, hb⟩
  have hz2 := hb.size
  have HB2 : Hid (Below w.heap.size w w2) := HV1.out.trans (hb.mono (by have := HV1.out.size; omega))
  have X1 := Lib.hid (X1.out.keep hb)
  clear hb
  go_wp2_with fail
  obtain ⟨v2, hv⟩ : ∃ W : World, W = w2.alloc (.cells #[.int .i64 p2, .int .i64 q2, .int .i64 r2] 32) := ⟨_, rfl⟩
  have hbv : Below w2.heap.size w2 v2 := by rw [hv]; exact (Below.refl _ _).alloc (Nat.le_refl _) _
  have hzv2 : w2.heap.size < v2.heap.size := by rw [hv]; simp
  have X2 : Hid (Box3 v2 w2.heap.size (.int .i64 p2) (.int .i64 q2) (.int .i64 r2)) := by rw [hv]; exact Box3.new _ _ _ _ _
  rw [← hv]
  clear hv
  have HV2 : Hid (Below w.heap.size w v2) := HB2.out.trans (hbv.mono (by have := HB2.out.size; omega))
  have X1 := Lib.hid (X1.out.keep hbv)
  clear hbv HB2
  refine (sFieldAny 256 (by decide) (by decide) _).mono ?_
  rintro e w3 ⟨p3, q3, r3, c3, rfl, hb⟩
  have hz3 := hb.size
  have HB3 : Hid (Below w.heap.size w w3) := HV2.out.trans (hb.mono (by have := HV2.out.size; omega))
  have X1 := Lib.hid (X1.out.keep hb)
  have X2 := Lib.hid (X2.out.keep hb)
  clear hb
  go_wp2_with fail
  obtain ⟨v3, hv⟩ : ∃ W : World, W = w3.alloc (.cells #[.int .i64 p3, .int .i64 q3, .int .i64 r3] 32) := ⟨_, rfl⟩
  have hbv : Below w3.heap.size w3 v3 := by rw [hv]; exact (Below.refl _ _).alloc (Nat.le_refl _) _
  have hzv3 : w3.heap.size < v3.heap.size := by rw [hv]; simp
  have X3 : Hid (Box3 v3 w3.heap.size (.int .i64 p3) (.int .i64 q3) (.int .i64 r3)) := by rw [hv]; exact Box3.new _ _ _ _ _
  rw [← hv]
  clear hv
  have HV3 : Hid (Below w.heap.size w v3) := HB3.out.trans (hbv.mono (by have := HB3.out.size; omega))
  have X1 := Lib.hid (X1.out.keep hbv)
  have X2 := Lib.hid (X2.out.keep hbv)
  clear hbv HB3
  refine (sFieldAny 32 (by decide) (by decide) _).mono ?_
  rintro e w4 ⟨p4, q4, r4, c4, rfl, hb⟩
  have hz4 := hb.size
  have HB4 : Hid (Below w.heap.size w w4) := HV3.out.trans (hb.mono (by have := HV3.out.size; omega))
  have X1 := Lib.hid (X1.out.keep hb)
  have X2 := Lib.hid (X2.out.keep hb)
  have X3 := Lib.hid (X3.out.keep hb)
  clear hb
  obtain ⟨b1, d10, d11, d12⟩ := X1.out
  obtain ⟨b2, d20, d21, d22⟩ := X2.out
  obtain ⟨b3, d30, d31, d32⟩ := X3.out
  have g21 : w2.heap.size < w4.heap.size + 1 := by omega
  have g22 : w2.heap.size < w4.heap.size + 1 + 1 := by omega
  have g23 : w2.heap.size < w4.heap.size + 1 + 1 + 1 := by omega
  have g24 : w2.heap.size < w4.heap.size + 1 + 1 + 1 + 1 := by omega
  have g25 : w2.heap.size < w4.heap.size + 1 + 1 + 1 + 1 + 1 := by omega
  have g26 : w2.heap.size < w4.heap.size + 1 + 1 + 1 + 1 + 1 + 1 := by omega
  have g27 : w2.heap.size < w4.heap.size + 1 + 1 + 1 + 1 + 1 + 1 + 1 := by omega
  have g31 : w3.heap.size < w4.heap.size + 1 := by omega
  have g32 : w3.heap.size < w4.heap.size + 1 + 1 := by omega
  have g33 : w3.heap.size < w4.heap.size + 1 + 1 + 1 := by omega
  have g34 : w3.heap.size < w4.heap.size + 1 + 1 + 1 + 1 := by omega
  have g35 : w3.heap.size < w4.heap.size + 1 + 1 + 1 + 1 + 1 := by omega
  have g36 : w3.heap.size < w4.heap.size + 1 + 1 + 1 + 1 + 1 + 1 := by omega
  have g37 : w3.heap.size < w4.heap.size + 1 + 1 + 1 + 1 + 1 + 1 + 1 := by omega
  go_wp2
  go_returns
  obtain ⟨v4, hv⟩ : ∃ W : World, W = w4.alloc (.cells #[.int .i64 p4, .int .i64 q4, .int .i64 r4] 32) := ⟨_, rfl⟩
  have hz : v4.heap.size = w4.heap.size + 1 := by rw [hv]; simp
  have HB : Below w.heap.size w v4 := by rw [hv]; exact HB4.out.alloc (by have := HB4.out.size; omega) _
  have hsz := HB.size
  obtain ⟨os, hos⟩ : ∃ l : List Obj, l = [.cells (vals [17, 21, 25]) 2, .cells (vals [20, 40]) 2, .cells (vals [17, 21, 25, 29, 33]) 2, .cells (vals [15, 30, 60]) 2, .cells (vals [17, 21, 25, 29, 33, 37, 41]) 2, .cells (vals [10, 20, 30, 50]) 2, .cells (vals [4, 6, 8, 12, 16, 24]) 2, .cells (vals [25, 50]) 2, .cells (vals [3, 4, 5]) 2, .cells (vals [30]) 2, .cells #[.string ⟨#[116, 105, 108, 101]⟩, .int .i64 1, .int .i64 p1, .int .i64 q1, .int .i64 r1, .slice (some ⟨v4.heap.size + 0, 0, none⟩) 3 3, .int .i64 0, .slice (some ⟨v4.heap.size + 1, 0, none⟩) 2 2, .string ⟨#[112, 97, 110, 101, 108]⟩, .int .i64 1, .int .i64 p2, .int .i64 q2, .int .i64 r2, .slice (some ⟨v4.heap.size + 2, 0, none⟩) 5 5, .int .i64 0, .slice (some ⟨v4.heap.size + 3, 0, none⟩) 3 3, .string ⟨#[112, 108, 97, 116, 101]⟩, .int .i64 1, .int .i64 p3, .int .i64 q3, .int .i64 r3, .slice (some ⟨v4.heap.size + 4, 0, none⟩) 7 7, .int .i64 0, .slice (some ⟨v4.heap.size + 5, 0, none⟩) 4 4, .string ⟨#[115, 116, 97, 99, 107]⟩, .int .i64 2, .int .i64 p4, .int .i64 q4, .int .i64 r4, .slice (some ⟨v4.heap.size + 6, 0, none⟩) 6 6, .int .i64 4, .slice (some ⟨v4.heap.size + 7, 0, none⟩) 2 2, .string ⟨#[114, 105, 98, 98, 111, 110]⟩, .int .i64 2, .int .i64 p4, .int .i64 q4, .int .i64 r4, .slice (some ⟨v4.heap.size + 8, 0, none⟩) 3 3, .int .i64 8, .slice (some ⟨v4.heap.size + 9, 0, none⟩) 1 1] 34] := ⟨_, rfl⟩
  obtain ⟨W, hW⟩ : ∃ W : World, W = os.foldl World.alloc v4 := ⟨_, rfl⟩
  have hat : ∀ k, k < 11 → W.heap[v4.heap.size + k]? = os[k]? := fun k hk => by rw [hW]; exact allocs_at os v4 k (by rw [hos]; exact hk)
  have hBW : Below v4.heap.size v4 W := by
    rw [hW, hos]
    simp only [List.foldl_cons, List.foldl_nil]
    repeat' (first | (with_reducible exact Below.refl _ _) | (with_reducible assumption) | (with_reducible refine Below.alloc ?_ ?_ _) | (with_reducible refine Below.setCell ?_ ?_ _) | (with_reducible refine Below.drew ?_) | (with_reducible refine below_drewN ?_ _) | (with_reducible refine below_via (by with_reducible assumption) ?_ ?_) | go_size)
  have hWs : v4.heap.size + 10 < W.heap.size := by
    have h := hat 10 (by omega)
    rw [hos] at h
    exact (Array.getElem?_eq_some_iff.1 (h.trans rfl)).1
  have s0 : NewS W w.heap.size (some ⟨v4.heap.size + 0, 0, none⟩) 3 [17, 21, 25] := NewS.blk (by have h := hat 0 (by omega); rw [hos] at h; exact h) rfl (by omega) (by omega)
  have l0 : NewS W w.heap.size (some ⟨v4.heap.size + 1, 0, none⟩) 2 [20, 40] := NewS.blk (by have h := hat 1 (by omega); rw [hos] at h; exact h) rfl (by omega) (by omega)
  have s1 : NewS W w.heap.size (some ⟨v4.heap.size + 2, 0, none⟩) 5 [17, 21, 25, 29, 33] := NewS.blk (by have h := hat 2 (by omega); rw [hos] at h; exact h) rfl (by omega) (by omega)
  have l1 : NewS W w.heap.size (some ⟨v4.heap.size + 3, 0, none⟩) 3 [15, 30, 60] := NewS.blk (by have h := hat 3 (by omega); rw [hos] at h; exact h) rfl (by omega) (by omega)
  have s2 : NewS W w.heap.size (some ⟨v4.heap.size + 4, 0, none⟩) 7 [17, 21, 25, 29, 33, 37, 41] := NewS.blk (by have h := hat 4 (by omega); rw [hos] at h; exact h) rfl (by omega) (by omega)
  have l2 : NewS W w.heap.size (some ⟨v4.heap.size + 5, 0, none⟩) 4 [10, 20, 30, 50] := NewS.blk (by have h := hat 5 (by omega); rw [hos] at h; exact h) rfl (by omega) (by omega)
  have s3 : NewS W w.heap.size (some ⟨v4.heap.size + 6, 0, none⟩) 6 [4, 6, 8, 12, 16, 24] := NewS.blk (by have h := hat 6 (by omega); rw [hos] at h; exact h) rfl (by omega) (by omega)
  have l3 : NewS W w.heap.size (some ⟨v4.heap.size + 7, 0, none⟩) 2 [25, 50] := NewS.blk (by have h := hat 7 (by omega); rw [hos] at h; exact h) rfl (by omega) (by omega)
  have s4 : NewS W w.heap.size (some ⟨v4.heap.size + 8, 0, none⟩) 3 [3, 4, 5] := NewS.blk (by have h := hat 8 (by omega); rw [hos] at h; exact h) rfl (by omega) (by omega)
  have l4 : NewS W w.heap.size (some ⟨v4.heap.size + 9, 0, none⟩) 1 [30] := NewS.blk (by have h := hat 9 (by omega); rw [hos] at h; exact h) rfl (by omega) (by omega)
  have hg : Blk W (v4.heap.size + 10) 34 #[.string ⟨#[116, 105, 108, 101]⟩, .int .i64 1, .int .i64 p1, .int .i64 q1, .int .i64 r1, .slice (some ⟨v4.heap.size + 0, 0, none⟩) 3 3, .int .i64 0, .slice (some ⟨v4.heap.size + 1, 0, none⟩) 2 2, .string ⟨#[112, 97, 110, 101, 108]⟩, .int .i64 1, .int .i64 p2, .int .i64 q2, .int .i64 r2, .slice (some ⟨v4.heap.size + 2, 0, none⟩) 5 5, .int .i64 0, .slice (some ⟨v4.heap.size + 3, 0, none⟩) 3 3, .string ⟨#[112, 108, 97, 116, 101]⟩, .int .i64 1, .int .i64 p3, .int .i64 q3, .int .i64 r3, .slice (some ⟨v4.heap.size + 4, 0, none⟩) 7 7, .int .i64 0, .slice (some ⟨v4.heap.size + 5, 0, none⟩) 4 4, .string ⟨#[115, 116, 97, 99, 107]⟩, .int .i64 2, .int .i64 p4, .int .i64 q4, .int .i64 r4, .slice (some ⟨v4.heap.size + 6, 0, none⟩) 6 6, .int .i64 4, .slice (some ⟨v4.heap.size + 7, 0, none⟩) 2 2, .string ⟨#[114, 105, 98, 98, 111, 110]⟩, .int .i64 2, .int .i64 p4, .int .i64 q4, .int .i64 r4, .slice (some ⟨v4.heap.size + 8, 0, none⟩) 3 3, .int .i64 8, .slice (some ⟨v4.heap.size + 9, 0, none⟩) 1 1] := by
    have h := hat 10 (by omega)
    rw [hos] at h
    exact h
  have hc := hg.cell
  have hfin : NewLib w (.returned (.slice (some ⟨v4.heap.size + 10, 0, none⟩) 5 5)) W := by
    refine ⟨v4.heap.size + 10, rfl, by omega, hWs, fun i hi => ?_, HB.trans (hBW.mono hsz)⟩
    rcases (by omega : i = 0 ∨ i = 1 ∨ i = 2 ∨ i = 3 ∨ i = 4) with rfl | rfl | rfl | rfl | rfl
    · exact ⟨_, _, _, _, _, _, _, _, _, _, _, _, _, _, by decide, s0, l0, hc 0, hc 1, hc 2, hc 3, hc 4, hc 5, hc 6, hc 7⟩
    · exact ⟨_, _, _, _, _, _, _, _, _, _, _, _, _, _, by decide, s1, l1, hc 8, hc 9, hc 10, hc 11, hc 12, hc 13, hc 14, hc 15⟩
    · exact ⟨_, _, _, _, _, _, _, _, _, _, _, _, _, _, by decide, s2, l2, hc 16, hc 17, hc 18, hc 19, hc 20, hc 21, hc 22, hc 23⟩
    · exact ⟨_, _, _, _, _, _, _, _, _, _, _, _, _, _, by decide, s3, l3, hc 24, hc 25, hc 26, hc 27, hc 28, hc 29, hc 30, hc 31⟩
    · exact ⟨_, _, _, _, _, _, _, _, _, _, _, _, _, _, by decide, s4, l4, hc 32, hc 33, hc 34, hc 35, hc 36, hc 37, hc 38, hc 39⟩
  rw [hW, hos, hv] at hfin
  simp only [World.size_alloc] at hfin
  exact hfin
end Go.Proofs.Ytenelpollcabnaa
