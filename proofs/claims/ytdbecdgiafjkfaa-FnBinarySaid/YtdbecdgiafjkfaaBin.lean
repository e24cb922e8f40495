/-
  DERIVED. Binary grids: blank, binary, l22Binary, darkCount, DarkPixels, BinaryOf.
-/
import Derived.Test.YtdbecdgiafjkfaaRast
namespace Go.Proofs.Ytdbecdgiafjkfaa
open Go.RowKit
set_option linter.unusedVariables false

/-- The first k cells of a row of n zeros hold v. -/
def fillL (v : Int) (n k : Nat) : List Int := List.replicate k v ++ List.replicate (n - k) 0
theorem fillL_zero (v : Int) (n : Nat) : fillL v n 0 = List.replicate n 0 := by simp [fillL]
theorem fillL_all (v : Int) (n : Nat) : fillL v n n = List.replicate n v := by simp [fillL]
theorem fillL_length (v : Int) (n k : Nat) (h : k ≤ n) : (fillL v n k).length = n := by simp [fillL]; omega
theorem fillL_set (v : Int) (n k : Nat) (h : k < n) : (fillL v n k).set k v = fillL v n (k + 1) := by
  have e : n - k = (n - (k + 1)) + 1 := by omega
  unfold fillL
  rw [List.set_append_right _ _ (by simp), List.length_replicate, Nat.sub_self, e, List.replicate_succ, List.replicate_succ']
  simp
theorem only_cell {a w : World} {g b o : Nat} (h : a.grownBy w (some g)) (hb : b < a.heap.size) (hne : b ≠ g) : w.cell? ⟨b, o, none⟩ = a.cell? ⟨b, o, none⟩ :=
  World.cell?_of_block (a := ⟨b, o, none⟩) (h.block b hb (by intro e; injection e with e; exact hne e))
theorem only_frozen {a w : World} {g b o : Nat} (h : a.grownBy w (some g)) (hb : b < a.heap.size) (hne : b ≠ g) : w.frozen? ⟨b, o, none⟩ = a.frozen? ⟨b, o, none⟩ :=
  World.frozen?_of_block (a := ⟨b, o, none⟩) (h.block b hb (by intro e; injection e with e; exact hne e))
theorem only_keep {a w w' : World} {g : Nat} (h : a.grownBy w (some g)) (k : w.grownBy w' (some g)) : a.grownBy w' (some g) :=
  ⟨k.os.trans h.os, k.tape.trans h.tape, k.output.trans h.output, Nat.le_trans h.size k.size, fun i hi hne => (k.block i (Nat.lt_of_lt_of_le hi h.size) hne).trans (h.block i hi hne)⟩
theorem below_only {B g : Nat} {a b w : World} (h : Below B a b) (k : b.grownBy w (some g)) (hB : B ≤ b.heap.size) (hg : B ≤ g) : Below B a w :=
  h.grown k hB (fun j e => by injection e with e; omega)
set_option maxHeartbeats 1000000 in
theorem iBlank (r c v : Int) (n : Nat) (w : World) (hn : n ≤ 1048576) (hnr : (n : Int) = r * c) :
    Calls Try.prog 94 #[.int .i64 r, .int .i64 c, .int .i64 v] w (NewRast w r c n (List.replicate n v)) := by
  have hmk := make_ints n hn
  rw [hnr] at hmk
  have HR := Lib.hid hnr
  have hb1 : 0 ≤ r * c := by omega
  have hb2 : r * c ≤ 1048576 := by omega
  clear hnr
  go_enter Try.func94, Try.ntmps94
  go_wp2
  clear hmk
  obtain ⟨W, hW⟩ : ∃ W, W = (((w.alloc (.cells #[.int .i64 0, .int .i64 0, .slice none 0 0] 66)).alloc (.cells (vals (List.replicate n 0)) 2)).alloc (.cells #[.int .i64 r, .int .i64 c, .slice (some ⟨w.heap.size + 1, 0, none⟩) n n] 66)) := ⟨_, rfl⟩
  have hB : Below w.heap.size w W := by rw [hW]; repeat' (first | (with_reducible exact Below.refl _ _) | (with_reducible assumption) | (with_reducible refine Below.alloc ?_ ?_ _) | (with_reducible refine Below.setCell ?_ ?_ _) | (with_reducible refine Below.drew ?_) | (with_reducible refine below_drewN ?_ _) | (with_reducible refine below_via (by with_reducible assumption) ?_ ?_) | go_size)
  have hs : W.heap.size = w.heap.size + 3 := by rw [hW]; simp
  have hk : Blk W (w.heap.size + 1) 2 (vals (List.replicate n 0)) := by
    rw [hW]
    have := Blk.new (w.alloc (.cells #[.int .i64 0, .int .i64 0, .slice none 0 0] 66)) 2 (vals (List.replicate n 0))
    simp only [World.size_alloc] at this
    exact this.alloc _
  have e0 : W.cell? ⟨w.heap.size + 1 + 1, 0, none⟩ = some (.int .i64 r) := by rw [hW]; simp [go_sem]
  have e1 : W.cell? ⟨w.heap.size + 1 + 1, 1, none⟩ = some (.int .i64 c) := by rw [hW]; simp [go_sem]
  have e2 : W.cell? ⟨w.heap.size + 1 + 1, 2, none⟩ = some (.slice (some ⟨w.heap.size + 1, 0, none⟩) n n) := by rw [hW]; simp [go_sem]
  have x0 : W.cell? ⟨w.heap.size, 0, none⟩ = some (.int .i64 0) := by rw [hW]; simp [go_sem]
  have x1 : W.cell? ⟨w.heap.size, 1, none⟩ = some (.int .i64 0) := by rw [hW]; simp [go_sem]
  have x2 : W.cell? ⟨w.heap.size, 2, none⟩ = some (.slice none 0 0) := by rw [hW]; simp [go_sem]
  have p0 : W.frozen? ⟨w.heap.size, 0, none⟩ = false := by rw [hW]; simp [go_sem]
  have p1 : W.frozen? ⟨w.heap.size, 1, none⟩ = false := by rw [hW]; simp [go_sem]
  have p2 : W.frozen? ⟨w.heap.size, 2, none⟩ = false := by rw [hW]; simp [go_sem]
  have HS := Lib.hid hs
  rw [← hW]
  clear hW hs
  go_loopw [19] (fun i wr => ∃ k : Nat, k ≤ n ∧ i = .int .i64 k ∧ Blk wr (w.heap.size + 1) 2 (vals (fillL v n k)) ∧ W.grownBy wr (some (w.heap.size + 1))) (fun i _ => n - (intOf i).toNat)
  case atStart => exact ⟨0, Nat.zero_le _, rfl, by rw [fillL_zero]; exact hk, World.grownBy.refl W _⟩
  case round =>
    obtain ⟨k, hkn, rfl, hblk, hgr⟩ := hrel
    have hsz : w.heap.size + 2 < wr.heap.size := by have := hgr.size; have := HS.out; omega
    have f2 : wr.cell? ⟨w.heap.size + 1 + 1, 2, none⟩ = some (.slice (some ⟨w.heap.size + 1, 0, none⟩) n n) := (only_cell hgr (by have := HS.out; omega) (by omega)).trans e2
    by_cases hlt : k < n
    · have hy : wr.cell? ⟨w.heap.size + 1, k, none⟩ = some (.int .i64 ((fillL v n k).getD k 0)) := by
        rw [hblk.cell]; exact vals_get _ _ (by rw [fillL_length _ _ _ hkn]; exact hlt)
      have hz : wr.frozen? ⟨w.heap.size + 1, k, none⟩ = false := hblk.frozen k
      have HN : Hid (Blk (wr.setCell ⟨w.heap.size + 1, k, none⟩ (.int .i64 v)) (w.heap.size + 1) 2 (vals (fillL v n (k + 1)))) := by
        have := hblk.set_ k (.int .i64 v)
        rw [vals_set, fillL_set _ _ _ hlt] at this
        exact this
      have HG : Hid (W.grownBy (wr.setCell ⟨w.heap.size + 1, k, none⟩ (.int .i64 v)) (some (w.heap.size + 1))) := only_setCell hgr _
      generalize (fillL v n k).getD k 0 = y at hy
      clear hblk hgr e0 e1 e2 x0 x1 x2 hk p0 p1 p2
      go_wp2
      go_roundw
      case rel => exact ⟨k + 1, by omega, by go_num, HN.out, HG.out⟩
      case measure => simp [intOf]; omega
    · have hke : k = n := by omega
      have HK := Lib.hid hke
      have f0 : wr.cell? ⟨w.heap.size + 1 + 1, 0, none⟩ = some (.int .i64 r) := (only_cell hgr (by have := HS.out; omega) (by omega)).trans e0
      have f1 : wr.cell? ⟨w.heap.size + 1 + 1, 1, none⟩ = some (.int .i64 c) := (only_cell hgr (by have := HS.out; omega) (by omega)).trans e1
      have y0 : wr.cell? ⟨w.heap.size, 0, none⟩ = some (.int .i64 0) := (only_cell hgr (by have := HS.out; omega) (by omega)).trans x0
      have y1 : wr.cell? ⟨w.heap.size, 1, none⟩ = some (.int .i64 0) := (only_cell hgr (by have := HS.out; omega) (by omega)).trans x1
      have y2 : wr.cell? ⟨w.heap.size, 2, none⟩ = some (.slice none 0 0) := (only_cell hgr (by have := HS.out; omega) (by omega)).trans x2
      have z0 : wr.frozen? ⟨w.heap.size, 0, none⟩ = false := (only_frozen hgr (by have := HS.out; omega) (by omega)).trans p0
      have z1 : wr.frozen? ⟨w.heap.size, 1, none⟩ = false := (only_frozen hgr (by have := HS.out; omega) (by omega)).trans p1
      have z2 : wr.frozen? ⟨w.heap.size, 2, none⟩ = false := (only_frozen hgr (by have := HS.out; omega) (by omega)).trans p2
      clear hke e0 e1 e2 x0 x1 x2 p0 p1 p2
      go_wp2
      refine bodyPost_ret (v := .agg #[.int .i64 r, .int .i64 c, .slice (some ⟨w.heap.size + 1, 0, none⟩) n n]) (by simp [results, Try.results94, go_sem, y0, y1, y2]) rfl ?_
      refine ⟨w.heap.size + 1, rfl, by omega, ?_, ?_⟩
      · have e := fillL_all v n
        rw [HK.out, e] at hblk
        exact ((hblk.far (by simp) _).far (by simp) _).far (by simp) _
      · have hb : Below w.heap.size w wr := below_only hB hgr (by have := HS.out; omega) (by omega)
        repeat' (first | (with_reducible exact Below.refl _ _) | (with_reducible assumption) | (with_reducible refine Below.alloc ?_ ?_ _) | (with_reducible refine Below.setCell ?_ ?_ _) | (with_reducible refine Below.drew ?_) | (with_reducible refine below_drewN ?_ _) | (with_reducible refine below_via (by with_reducible assumption) ?_ ?_) | go_size)
/-- The binary cells of a list of grey values. -/
def binF (limit x : Int) : Int := if x < limit then 1 else 0
theorem binF_yes {limit x : Int} (h : x < limit) : binF limit x = 1 := if_pos h
theorem binF_no {limit x : Int} (h : ¬ x < limit) : binF limit x = 0 := if_neg h
def binL (limit : Int) (zs : List Int) : List Int := zs.map (binF limit)
def binP (limit : Int) (zs : List Int) (k : Nat) : List Int := (zs.take k).map (binF limit) ++ List.replicate (zs.length - k) 0
theorem binP_zero (limit : Int) (zs : List Int) : binP limit zs 0 = List.replicate zs.length 0 := by simp [binP]
theorem binP_all (limit : Int) (zs : List Int) : binP limit zs zs.length = binL limit zs := by simp [binP, binL]
theorem binP_length (limit : Int) (zs : List Int) (k : Nat) (h : k ≤ zs.length) : (binP limit zs k).length = zs.length := by simp [binP]; omega
theorem binP_take (limit : Int) (zs : List Int) (k : Nat) (h : k < zs.length) : (zs.take (k + 1)).map (binF limit) = (zs.take k).map (binF limit) ++ [binF limit (zs.getD k 0)] := by
  rw [List.take_succ_eq_append_getElem h, List.map_append, List.map_cons, List.map_nil]
  simp only [List.getD_eq_getElem?_getD, List.getElem?_eq_getElem h, Option.getD_some]
theorem binP_set (limit : Int) (zs : List Int) (k : Nat) (h : k < zs.length) : (binP limit zs k).set k (binF limit (zs.getD k 0)) = binP limit zs (k + 1) := by
  have e : zs.length - k = (zs.length - (k + 1)) + 1 := by omega
  unfold binP
  rw [binP_take _ _ _ h, List.set_append_right _ _ (by simp; omega), e, List.replicate_succ, List.append_assoc]
  simp [Nat.min_eq_left (Nat.le_of_lt h)]
theorem binP_skip (limit : Int) (zs : List Int) (k : Nat) (h : k < zs.length) (hb : binF limit (zs.getD k 0) = 0) : binP limit zs (k + 1) = binP limit zs k := by
  have e : zs.length - k = (zs.length - (k + 1)) + 1 := by omega
  unfold binP
  rw [binP_take _ _ _ h, hb, e, List.replicate_succ, List.append_assoc]
  rfl
def cntV (p : Int → Bool) (zs : List Int) : Nat → Nat
  | 0 => 0
  | k + 1 => cntV p zs k + (if p (zs.getD k 0) then 1 else 0)
theorem cntV_le (p : Int → Bool) (zs : List Int) (k : Nat) : cntV p zs k ≤ k := by
  induction k with
  | zero => simp [cntV]
  | succ k ih => simp only [cntV]; split <;> omega
theorem cntV_bin (limit : Int) (zs : List Int) (k : Nat) (h : k ≤ zs.length) : cntV (fun x => x == 1) (binL limit zs) k = cntV (fun x => decide (x < limit)) zs k := by
  induction k with
  | zero => rfl
  | succ k ih =>
    have hk : k < zs.length := by omega
    simp only [cntV]
    rw [ih (by omega)]
    have e : (binL limit zs).getD k 0 = binF limit (zs.getD k 0) := by
      simp [binL, List.getD_eq_getElem?_getD, List.getElem?_map, List.getElem?_eq_getElem hk]
    rw [e]
    unfold binF
    split <;> simp_all
theorem cntV_yes {p : Int → Bool} {zs : List Int} {k : Nat} {x : Int} (h : zs.getD k 0 = x) (hp : p x = true) : cntV p zs (k + 1) = cntV p zs k + 1 := by simp only [cntV]; rw [h, hp]; rfl
theorem cntV_no {p : Int → Bool} {zs : List Int} {k : Nat} {x : Int} (h : zs.getD k 0 = x) (hp : p x = false) : cntV p zs (k + 1) = cntV p zs k := by simp only [cntV]; rw [h, hp]; rfl
set_option maxHeartbeats 2000000 in
theorem iBinary (r c limit : Int) (a : Option Addr) (n cp : Nat) (zs : List Int) (w : World) (h : Rd w a n zs) (hn : n ≤ 1048576) (hp : 0 < n) (hnr : (n : Int) = r * c) :
    Calls Try.prog 95 #[.agg #[.int .i64 r, .int .i64 c, .slice a n cp], .int .i64 limit] w (NewRast w r c n (binL limit zs)) := by
  obtain ⟨b, off, rfl, hb, hcell⟩ := h.2 hp
  have HL := Lib.hid h.1
  have HC := Lib.hid hcell
  have HR := Lib.hid hnr
  clear h hcell hnr
  go_enter Try.func95, Try.ntmps95
  go_wp2_with fail
  refine (iBlank r c 0 n _ hn HR.out).mono ?_
  rintro e w1 ⟨g, rfl, hg, hblk, hb1⟩
  obtain ⟨hc, hf⟩ := bcell hb1
  have hz1 := hb1.size
  simp at hz1 hg
  have hw1 : Below w.heap.size w w1 := by repeat' (first | (with_reducible exact Below.refl _ _) | (with_reducible assumption) | (with_reducible refine Below.alloc ?_ ?_ _) | (with_reducible refine Below.setCell ?_ ?_ _) | (with_reducible refine Below.drew ?_) | (with_reducible refine below_drewN ?_ _) | (with_reducible refine below_via (by with_reducible assumption) ?_ ?_) | go_size)
  have q2 : w1.cell? ⟨w.heap.size, 2, none⟩ = some (.slice (some ⟨b, off, none⟩) n cp) := by rw [hc _ _ (by simp; omega)]; simp [go_sem]
  have y0 : w1.cell? ⟨w.heap.size + 1, 0, none⟩ = some (.int .i64 0) := by rw [hc _ _ (by simp)]; simp [go_sem]
  have y1 : w1.cell? ⟨w.heap.size + 1, 1, none⟩ = some (.int .i64 0) := by rw [hc _ _ (by simp)]; simp [go_sem]
  have y2 : w1.cell? ⟨w.heap.size + 1, 2, none⟩ = some (.slice none 0 0) := by rw [hc _ _ (by simp)]; simp [go_sem]
  have p0 : w1.frozen? ⟨w.heap.size + 1, 0, none⟩ = false := by rw [hf _ _ (by simp)]; simp [go_sem]
  have p1 : w1.frozen? ⟨w.heap.size + 1, 1, none⟩ = false := by rw [hf _ _ (by simp)]; simp [go_sem]
  have p2 : w1.frozen? ⟨w.heap.size + 1, 2, none⟩ = false := by rw [hf _ _ (by simp)]; simp [go_sem]
  have hz0 : w.heap.size < w1.heap.size := by omega
  have hgl := hblk.lt
  clear hc hf
  go_wp2
  obtain ⟨W, hW⟩ : ∃ W, W = w1.alloc (.cells #[.int .i64 r, .int .i64 c, .slice (some ⟨g, 0, none⟩) n n] 66) := ⟨_, rfl⟩
  have hWB : Below w1.heap.size w1 W := by rw [hW]; repeat' (first | (with_reducible exact Below.refl _ _) | (with_reducible assumption) | (with_reducible refine Below.alloc ?_ ?_ _) | (with_reducible refine Below.setCell ?_ ?_ _) | (with_reducible refine Below.drew ?_) | (with_reducible refine below_drewN ?_ _) | (with_reducible refine below_via (by with_reducible assumption) ?_ ?_) | go_size)
  have hs : W.heap.size = w1.heap.size + 1 := by rw [hW]; simp
  have e0 : W.cell? ⟨w1.heap.size, 0, none⟩ = some (.int .i64 r) := by rw [hW]; simp
  have e1 : W.cell? ⟨w1.heap.size, 1, none⟩ = some (.int .i64 c) := by rw [hW]; simp
  have e2 : W.cell? ⟨w1.heap.size, 2, none⟩ = some (.slice (some ⟨g, 0, none⟩) n n) := by rw [hW]; simp
  have hk : Blk W g 2 (vals (List.replicate n 0)) := hblk.keep hWB
  have HS := Lib.hid hs
  have HD : Hid (∀ wr, W.grownBy wr (some g) → (∀ b o, b < w1.heap.size → b ≠ g → wr.cell? ⟨b, o, none⟩ = w1.cell? ⟨b, o, none⟩) ∧ (∀ b o, b < w1.heap.size → b ≠ g → wr.frozen? ⟨b, o, none⟩ = w1.frozen? ⟨b, o, none⟩) ∧ (∀ o, wr.cell? ⟨w1.heap.size, o, none⟩ = W.cell? ⟨w1.heap.size, o, none⟩) ∧ Below w.heap.size w wr ∧ w1.heap.size < wr.heap.size) := fun wr hgr =>
    ⟨fun b o h1 h2 => (only_cell hgr (by omega) h2).trans (hWB.cell (p := ⟨b, o, none⟩) h1), fun b o h1 h2 => (only_frozen hgr (by omega) h2).trans (hWB.frozen (p := ⟨b, o, none⟩) h1), fun o => only_cell hgr (by omega) (by omega),
      below_only (hw1.trans (hWB.mono (by omega))) hgr (by omega) (by omega), by have := hgr.size; omega⟩
  rw [← hW]
  clear hW hs hblk
  have hbg : b ≠ g := by omega
  go_loopw [16] (fun i wr => ∃ k : Nat, k ≤ n ∧ i = .int .i64 k ∧ Blk wr g 2 (vals (binP limit zs k)) ∧ W.grownBy wr (some g)) (fun i _ => n - (intOf i).toNat)
  case atStart => exact ⟨0, Nat.zero_le _, rfl, by rw [binP_zero, HL.out]; exact hk, World.grownBy.refl W _⟩
  case round =>
    obtain ⟨k, hkn, rfl, hblk, hgr⟩ := hrel
    obtain ⟨d1, d2, d3, d4, d5⟩ := HD.out wr hgr
    have f2 : wr.cell? ⟨w1.heap.size, 2, none⟩ = some (.slice (some ⟨g, 0, none⟩) n n) := (d3 2).trans e2
    by_cases hlt : k < n
    · have hx : wr.cell? ⟨b, off + k, none⟩ = some (.int .i64 (zs.getD k 0)) := (d4.cell (p := ⟨b, off + k, none⟩) hb).trans (HC.out k hlt)
      have hy : wr.cell? ⟨g, k, none⟩ = some (.int .i64 ((binP limit zs k).getD k 0)) := by
        rw [hblk.cell]; exact vals_get _ _ (by rw [binP_length _ _ _ (by rw [HL.out]; exact hkn), HL.out]; exact hlt)
      have hz : wr.frozen? ⟨g, k, none⟩ = false := hblk.frozen k
      by_cases hlim : zs.getD k 0 < limit
      · have HN : Hid (Blk (wr.setCell ⟨g, k, none⟩ (.int .i64 1)) g 2 (vals (binP limit zs (k + 1)))) := by
          have := hblk.set_ k (.int .i64 (binF limit (zs.getD k 0)))
          rw [vals_set, binP_set _ _ _ (by rw [HL.out]; exact hlt), binF_yes hlim] at this
          exact this
        have HG : Hid (W.grownBy (wr.setCell ⟨g, k, none⟩ (.int .i64 1)) (some g)) := only_setCell hgr _
        generalize (binP limit zs k).getD k 0 = y at hy
        generalize zs.getD k 0 = x at hx hlim
        clear hblk hgr e0 e1 e2 hk q2 y0 y1 y2 p0 p1 p2 d1 d2 d3 d4
        go_wp2
        go_roundw
        case rel => exact ⟨k + 1, by omega, by go_num, HN.out, HG.out⟩
        case measure => simp [intOf]; omega
      · have HN : Hid (Blk wr g 2 (vals (binP limit zs (k + 1)))) := by
          rw [binP_skip _ _ _ (by rw [HL.out]; exact hlt) (binF_no hlim)]; exact hblk
        have HG := Lib.hid hgr
        generalize (binP limit zs k).getD k 0 = y at hy
        generalize zs.getD k 0 = x at hx hlim
        clear hblk hgr e0 e1 e2 hk q2 y0 y1 y2 p0 p1 p2 d1 d2 d3 d4
        go_wp2
        go_roundw
        case rel => exact ⟨k + 1, by omega, by go_num, HN.out, HG.out⟩
        case measure => simp [intOf]; omega
    · have hke : k = n := by omega
      have HK := Lib.hid hke
      have f0 : wr.cell? ⟨w1.heap.size, 0, none⟩ = some (.int .i64 r) := (d3 0).trans e0
      have f1 : wr.cell? ⟨w1.heap.size, 1, none⟩ = some (.int .i64 c) := (d3 1).trans e1
      have g0 : wr.cell? ⟨w.heap.size + 1, 0, none⟩ = some (.int .i64 0) := (d1 _ _ (by omega) (by omega)).trans y0
      have g1 : wr.cell? ⟨w.heap.size + 1, 1, none⟩ = some (.int .i64 0) := (d1 _ _ (by omega) (by omega)).trans y1
      have g2 : wr.cell? ⟨w.heap.size + 1, 2, none⟩ = some (.slice none 0 0) := (d1 _ _ (by omega) (by omega)).trans y2
      have r0 : wr.frozen? ⟨w.heap.size + 1, 0, none⟩ = false := (d2 _ _ (by omega) (by omega)).trans p0
      have r1 : wr.frozen? ⟨w.heap.size + 1, 1, none⟩ = false := (d2 _ _ (by omega) (by omega)).trans p1
      have r2 : wr.frozen? ⟨w.heap.size + 1, 2, none⟩ = false := (d2 _ _ (by omega) (by omega)).trans p2
      have HB := Lib.hid d4
      have hne : g ≠ w.heap.size + 1 := by omega
      have HNE := Lib.hid hne
      clear hke e0 e1 e2 q2 y0 y1 y2 p0 p1 p2 d1 d2 d3 d4 hne
      go_wp2
      refine bodyPost_ret (v := .agg #[.int .i64 r, .int .i64 c, .slice (some ⟨g, 0, none⟩) n n]) (by simp [results, Try.results95, go_sem, g0, g1, g2]) rfl ?_
      have hblk2 := hblk
      rw [HK.out, ← HL.out, binP_all] at hblk2
      exact ⟨g, rfl, by omega, ((hblk2.far HNE.out _).far HNE.out _).far HNE.out _, (((HB.out.setCell (by simp) _).setCell (by simp) _).setCell (by simp) _)⟩
/-- A struct of two numbers and a slice of the call's own. -/
def OwnRast (w : World) (r c : Int) (L : List Int) (e : Ending) (w' : World) : Prop :=
  ∃ a cp, e = .returned (.agg #[.int .i64 r, .int .i64 c, .slice a L.length cp]) ∧ w'.ownsRow w.heap.size 2 1 (.slice a L.length cp) L.length (L.map (Value.int .i64)) ∧ Below w.heap.size w w'
theorem own_shape {w : World} {base n : Nat} {t : TypeId} {v : Value} {xs : List Value} (h : w.ownsRow base t 1 v n xs) : ∃ a cp, v = .slice a n cp := by
  rcases h.2 with ⟨rfl, rfl⟩ | ⟨g, cap, _, rfl, _⟩
  · exact ⟨_, _, rfl⟩
  · exact ⟨_, _, rfl⟩
theorem own_far {w : World} {base n : Nat} {t : TypeId} {v : Value} {xs : List Value} (h : w.ownsRow base t 1 v n xs) {p : Addr} (hp : p.block < base) (u : Value) : (w.setCell p u).ownsRow base t 1 v n xs := ownsRow_setCell_below h hp u
theorem own_mono {w : World} {base base' n : Nat} {t : TypeId} {v : Value} {xs : List Value} (h : w.ownsRow base t 1 v n xs) (hb : base' ≤ base) : w.ownsRow base' t 1 v n xs := by
  refine ⟨h.1, ?_⟩
  rcases h.2 with hv | ⟨g, cap, cur, hv, hg, r⟩
  · exact .inl hv
  · exact .inr ⟨g, cap, cur, hv, by omega, r⟩
theorem NewRast.own {w w' : World} {r c : Int} {n : Nat} {zs : List Int} {e : Ending} (h : NewRast w r c n zs e w') (hl : zs.length = n) (hn : n ≤ 1048576) : OwnRast w r c zs e w' := by
  obtain ⟨g, he, hg, hk, hb⟩ := h
  subst hl
  exact ⟨_, _, he, hk.own hg rfl (by unfold maxLen; omega), hb⟩
set_option maxHeartbeats 2000000 in
theorem sBinary (r c limit : Int) (a : Option Addr) (n cp : Nat) (zs : List Int) (w : World) (h : Rd w a n zs) (hn : n ≤ 1048576) (hp : 0 < n) :
    Calls Try.prog 97 #[.agg #[.int .i64 r, .int .i64 c, .slice a n cp], .int .i64 limit] w (OwnRast w r c (binL limit zs)) := by
  obtain ⟨b, off, rfl, hb, hcell⟩ := h.2 hp
  have HL := Lib.hid h.1
  have HC := Lib.hid hcell
  clear h hcell
  obtain ⟨i0, hi, hz0, hz1, hz2⟩ := info_parts infoInt
  go_enter Try.func97, Try.ntmps97
  go_wp2
  obtain ⟨W, hW⟩ : ∃ W, W = (((w.alloc (.cells #[.int .i64 r, .int .i64 c, .slice (some ⟨b, off, none⟩) n cp] 26)).alloc (.cells #[.int .i64 0, .int .i64 0, .slice none 0 0] 66)).alloc (.cells #[] 2)) := ⟨_, rfl⟩
  have hB : Below w.heap.size w W := by rw [hW]; repeat' (first | (with_reducible exact Below.refl _ _) | (with_reducible assumption) | (with_reducible refine Below.alloc ?_ ?_ _) | (with_reducible refine Below.setCell ?_ ?_ _) | (with_reducible refine Below.drew ?_) | (with_reducible refine below_drewN ?_ _) | (with_reducible refine below_via (by with_reducible assumption) ?_ ?_) | go_size)
  have hs : W.heap.size = w.heap.size + 3 := by rw [hW]; simp
  have HO0 : Hid (W.ownsRow (w.heap.size + 2) 2 1 (.slice (some ⟨w.heap.size + 1 + 1, 0, none⟩) 0 0) 0 []) := by
    have := World.ownsRow_lit (base := w.heap.size + 2) (e := 2) (size := 1) ((w.alloc (.cells #[.int .i64 r, .int .i64 c, .slice (some ⟨b, off, none⟩) n cp] 26)).alloc (.cells #[.int .i64 0, .int .i64 0, .slice none 0 0] 66)) #[] 0 (by simp) (by unfold maxLen; omega) (by simp)
    rw [hW]
    simp at this
    exact this
  have c0 : W.cell? ⟨w.heap.size, 0, none⟩ = some (.int .i64 r) := by rw [hW]; simp [go_sem]
  have c1 : W.cell? ⟨w.heap.size, 1, none⟩ = some (.int .i64 c) := by rw [hW]; simp [go_sem]
  have c2 : W.cell? ⟨w.heap.size, 2, none⟩ = some (.slice (some ⟨b, off, none⟩) n cp) := by rw [hW]; simp [go_sem]
  have y0 : W.cell? ⟨w.heap.size + 1, 0, none⟩ = some (.int .i64 0) := by rw [hW]; simp [go_sem]
  have y1 : W.cell? ⟨w.heap.size + 1, 1, none⟩ = some (.int .i64 0) := by rw [hW]; simp [go_sem]
  have y2 : W.cell? ⟨w.heap.size + 1, 2, none⟩ = some (.slice none 0 0) := by rw [hW]; simp [go_sem]
  have p0 : W.frozen? ⟨w.heap.size + 1, 0, none⟩ = false := by rw [hW]; simp [go_sem]
  have p1 : W.frozen? ⟨w.heap.size + 1, 1, none⟩ = false := by rw [hW]; simp [go_sem]
  have p2 : W.frozen? ⟨w.heap.size + 1, 2, none⟩ = false := by rw [hW]; simp [go_sem]
  have HD : Hid (∀ wr, Below (w.heap.size + 2) W wr → Below w.heap.size w wr ∧ w.heap.size + 2 < wr.heap.size ∧ wr.cell? ⟨w.heap.size, 2, none⟩ = some (.slice (some ⟨b, off, none⟩) n cp)) := fun wr h => ⟨hB.trans (h.mono (by omega)), by have := h.size; omega, (h.cell (p := ⟨_, _, none⟩) (by simp; try omega)).trans c2⟩
  have HE : Hid (∀ wr, Below (w.heap.size + 2) W wr → wr.cell? ⟨w.heap.size, 0, none⟩ = some (.int .i64 r) ∧ wr.cell? ⟨w.heap.size, 1, none⟩ = some (.int .i64 c) ∧ wr.cell? ⟨w.heap.size + 1, 0, none⟩ = some (.int .i64 0) ∧ wr.cell? ⟨w.heap.size + 1, 1, none⟩ = some (.int .i64 0) ∧ wr.cell? ⟨w.heap.size + 1, 2, none⟩ = some (.slice none 0 0) ∧
      wr.frozen? ⟨w.heap.size + 1, 0, none⟩ = false ∧ wr.frozen? ⟨w.heap.size + 1, 1, none⟩ = false ∧ wr.frozen? ⟨w.heap.size + 1, 2, none⟩ = false) := fun wr h =>
    ⟨(h.cell (p := ⟨_, _, none⟩) (by simp; try omega)).trans c0, (h.cell (p := ⟨_, _, none⟩) (by simp; try omega)).trans c1, (h.cell (p := ⟨_, _, none⟩) (by simp)).trans y0, (h.cell (p := ⟨_, _, none⟩) (by simp)).trans y1, (h.cell (p := ⟨_, _, none⟩) (by simp)).trans y2,
      (h.frozen (p := ⟨_, _, none⟩) (by simp)).trans p0, (h.frozen (p := ⟨_, _, none⟩) (by simp)).trans p1, (h.frozen (p := ⟨_, _, none⟩) (by simp)).trans p2⟩
  rw [← hW]
  clear hW hs c0 c1 c2 y0 y1 y2 p0 p1 p2 hB
  go_loopw [5, 6] (fun v i wr => ∃ k : Nat, k ≤ n ∧ i = .int .i64 k ∧ wr.ownsRow (w.heap.size + 2) 2 1 v k ((binL limit (zs.take k)).map (Value.int .i64)) ∧ Below (w.heap.size + 2) W wr) (fun _ i _ => n - (intOf i).toNat)
  case atStart => exact ⟨0, Nat.zero_le _, rfl, by simpa [binL] using HO0.out, Below.refl _ _⟩
  case round =>
    obtain ⟨k, hkn, rfl, hown, hbel⟩ := hrel
    obtain ⟨d0, hsz, d1⟩ := HD.out wr hbel
    by_cases hlt : k < n
    · have hx : wr.cell? ⟨b, off + k, none⟩ = some (.int .i64 (zs.getD k 0)) := (d0.cell (p := ⟨b, off + k, none⟩) hb).trans (HC.out k hlt)
      by_cases hlim : zs.getD k 0 < limit
      ·
        have HV : Hid ((binL limit (zs.take (k + 1))).map (Value.int .i64) = (binL limit (zs.take k)).map (Value.int .i64) ++ [.int .i64 1]) := by
          unfold binL
          rw [binP_take _ _ _ (by rw [HL.out]; exact hlt), binF_yes hlim, List.map_append]; rfl
        generalize zs.getD k 0 = x at hx hlim
        clear d0
        go_wp2_with (at_builtin; refine wpList_append_own _ rfl _ _ 22 rfl (w.heap.size + 2) 2 i0 (.int .i64 0) 1 8 Try.underlying22 hi hz0 hz1 hz2 rfl (by decide) _ _ _ rfl (hown.alloc _) ⟨wr.heap.size, 0, none⟩ 1 1 [.int .i64 1] rfl rfl (cell_one_new _ _ _) (by simp [Value.oneCell']) (by unfold maxLen; omega) (by omega) (by simp; omega) ?_; intro v' w2 hown' hgrow _)
        have HO : Hid (w2.ownsRow (w.heap.size + 2) 2 1 v' (k + 1) ((binL limit (zs.take (k + 1))).map (Value.int .i64))) := by rw [HV.out]; exact hown'
        have HB : Hid (Below (w.heap.size + 2) W w2) := (hbel.alloc (by omega) _).grown hgrow (by simp; omega) (fun j e => (hown.lt j e).1)
        clear hown hown' hgrow hbel
        go_wp2
        go_roundw
        case rel => exact ⟨k + 1, by omega, by go_num, HO.out, HB.out⟩
        case measure => simp [intOf]; omega
      ·
        have HV : Hid ((binL limit (zs.take (k + 1))).map (Value.int .i64) = (binL limit (zs.take k)).map (Value.int .i64) ++ [.int .i64 0]) := by
          unfold binL
          rw [binP_take _ _ _ (by rw [HL.out]; exact hlt), binF_no hlim, List.map_append]; rfl
        generalize zs.getD k 0 = x at hx hlim
        clear d0
        go_wp2_with (at_builtin; refine wpList_append_own _ rfl _ _ 22 rfl (w.heap.size + 2) 2 i0 (.int .i64 0) 1 8 Try.underlying22 hi hz0 hz1 hz2 rfl (by decide) _ _ _ rfl (hown.alloc _) ⟨wr.heap.size, 0, none⟩ 1 1 [.int .i64 0] rfl rfl (cell_one_new _ _ _) (by simp [Value.oneCell']) (by unfold maxLen; omega) (by omega) (by simp; omega) ?_; intro v' w2 hown' hgrow _)
        have HO : Hid (w2.ownsRow (w.heap.size + 2) 2 1 v' (k + 1) ((binL limit (zs.take (k + 1))).map (Value.int .i64))) := by rw [HV.out]; exact hown'
        have HB : Hid (Below (w.heap.size + 2) W w2) := (hbel.alloc (by omega) _).grown hgrow (by simp; omega) (fun j e => (hown.lt j e).1)
        clear hown hown' hgrow hbel
        go_wp2
        go_roundw
        case rel => exact ⟨k + 1, by omega, by go_num, HO.out, HB.out⟩
        case measure => simp [intOf]; omega
    · have hke : k = n := by omega
      obtain ⟨f0, f1, g0, g1, g2, r0, r1, r2⟩ := HE.out wr hbel
      obtain ⟨av, cv, rfl⟩ := own_shape hown
      have HO : Hid (wr.ownsRow (w.heap.size + 2) 2 1 (.slice av n cv) n ((binL limit zs).map (Value.int .i64))) := by
        have := hown
        rw [hke, show zs.take n = zs from by rw [List.take_of_length_le (by rw [HL.out]; exact Nat.le_refl _)]] at this
        exact this
      have HK := Lib.hid hke
      have HB := Lib.hid d0
      clear hke hown hbel d0
      go_wp2
      have hlen : (binL limit zs).length = n := by simp [binL, HL.out]
      refine bodyPost_ret (v := .agg #[.int .i64 r, .int .i64 c, .slice av k cv]) (by simp [results, Try.results97, go_sem, g0, g1, g2]) rfl ?_
      rw [HK.out]
      refine ⟨av, cv, by rw [hlen], ?_, (((HB.out.setCell (by simp) _).setCell (by simp) _).setCell (by simp) _)⟩
      rw [hlen]
      exact own_mono (own_far (own_far (own_far HO.out (by simp) _) (by simp) _) (by simp) _) (by omega)
end Go.Proofs.Ytdbecdgiafjkfaa
