/-
  DERIVED. Binary grids: blank, binary, l22Binary, darkCount, DarkPixels, BinaryOf.
-/
import Derived.Test.YtfiddbmjgncabaaRast
namespace Go.Proofs.Ytfiddbmjgncabaa
open Go.RowKit
set_option linter.unusedVariables false

/-- The first k cells of a row of n zeros hold v. -/
def fillL (v : Int) (n k : Nat) : List Int := List.replicate k v ++ List.replicate (n - k) 0
theorem fillL_zero (v : Int) (n : Nat) : fillL v n 0 = List.replicate n 0 := by simp [fillL]
theorem fillL_all (v : Int) (n : Nat) : fillL v n n = List.replicate n v := by simp [fillL]
theorem fillL_length (v : Int) (n k : Nat) (h : k ≤ n) : (fillL v n k).length = n := by simp [fillL]; omega
theorem fillL_set (v : Int) (n k : Nat) (h : k < n) : (fillL v n k).set k v = fillL v n (k + 1) := by
  have e : n - k = (n - (k + 1)) + 1 := by omega
  unfold fillL
  rw [List.set_append_right _ _ (by simp), List.length_replicate, Nat.sub_self, e, List.replicate_succ, List.replicate_succ']
  simp
theorem only_cell {a w : World} {g b o : Nat} (h : a.grownBy w (some g)) (hb : b < a.heap.size) (hne : b ≠ g) : w.cell? ⟨b, o, none⟩ = a.cell? ⟨b, o, none⟩ :=
  World.cell?_of_block (a := ⟨b, o, none⟩) (h.block b hb (by intro e; injection e with e; exact hne e))
theorem only_frozen {a w : World} {g b o : Nat} (h : a.grownBy w (some g)) (hb : b < a.heap.size) (hne : b ≠ g) : w.frozen? ⟨b, o, none⟩ = a.frozen? ⟨b, o, none⟩ :=
  World.frozen?_of_block (a := ⟨b, o, none⟩) (h.block b hb (by intro e; injection e with e; exact hne e))
theorem only_keep {a w w' : World} {g : Nat} (h : a.grownBy w (some g)) (k : w.grownBy w' (some g)) : a.grownBy w' (some g) :=
  ⟨k.os.trans h.os, k.tape.trans h.tape, k.output.trans h.output, Nat.le_trans h.size k.size, fun i hi hne => (k.block i (Nat.lt_of_lt_of_le hi h.size) hne).trans (h.block i hi hne)⟩
theorem below_only {B g : Nat} {a b w : World} (h : Below B a b) (k : b.grownBy w (some g)) (hB : B ≤ b.heap.size) (hg : B ≤ g) : Below B a w :=
  h.grown k hB (fun j e => by injection e with e; omega)
set_option maxHeartbeats 1000000 in
theorem iBlank (r c v : Int) (n : Nat) (w : World) (hn : n ≤ 1048576) (hnr : (n : Int) = r * c) :
    Calls Try.prog 67 #[.int .i64 r, .int .i64 c, .int .i64 v] w (NewRast w r c n (List.replicate n v)) := by
  have hmk := make_ints n hn
  rw [hnr] at hmk
  have HR := Lib.hid hnr
  have hb1 : 0 ≤ r * c := by omega
  have hb2 : r * c ≤ 1048576 := by omega
  clear hnr
  go_enter Try.func67, Try.ntmps67
  go_wp2
  clear hmk
  obtain ⟨W, hW⟩ : ∃ W, W = (((w.alloc (.cells #[.int .i64 0, .int .i64 0, .slice none 0 0] 29)).alloc (.cells (vals (List.replicate n 0)) 2)).alloc (.cells #[.int .i64 r, .int .i64 c, .slice (some ⟨w.heap.size + 1, 0, none⟩) n n] 29)) := ⟨_, rfl⟩
  have hB : Below w.heap.size w W := by rw [hW]; repeat' (first | (with_reducible exact Below.refl _ _) | (with_reducible assumption) | (with_reducible refine Below.alloc ?_ ?_ _) | (with_reducible refine Below.setCell ?_ ?_ _) | (with_reducible refine Below.drew ?_) | (with_reducible refine below_drewN ?_ _) | (with_reducible refine below_via (by with_reducible assumption) ?_ ?_) | go_size)
  have hs : W.heap.size = w.heap.size + 3 := by rw [hW]; simp
  have hk : Blk W (w.heap.size + 1) 2 (vals (List.replicate n 0)) := by
    rw [hW]
    have := Blk.new (w.alloc (.cells #[.int .i64 0, .int .i64 0, .slice none 0 0] 29)) 2 (vals (List.replicate n 0))
    simp only [World.size_alloc] at this
    exact this.alloc _
  have e0 : W.cell? ⟨w.heap.size + 1 + 1, 0, none⟩ = some (.int .i64 r) := by rw [hW]; simp [go_sem]
  have e1 : W.cell? ⟨w.heap.size + 1 + 1, 1, none⟩ = some (.int .i64 c) := by rw [hW]; simp [go_sem]
  have e2 : W.cell? ⟨w.heap.size + 1 + 1, 2, none⟩ = some (.slice (some ⟨w.heap.size + 1, 0, none⟩) n n) := by rw [hW]; simp [go_sem]
  have x0 : W.cell? ⟨w.heap.size, 0, none⟩ = some (.int .i64 0) := by rw [hW]; simp [go_sem]
  have x1 : W.cell? ⟨w.heap.size, 1, none⟩ = some (.int .i64 0) := by rw [hW]; simp [go_sem]
  have x2 : W.cell? ⟨w.heap.size, 2, none⟩ = some (.slice none 0 0) := by rw [hW]; simp [go_sem]
  have p0 : W.frozen? ⟨w.heap.size, 0, none⟩ = false := by rw [hW]; simp [go_sem]
  have p1 : W.frozen? ⟨w.heap.size, 1, none⟩ = false := by rw [hW]; simp [go_sem]
  have p2 : W.frozen? ⟨w.heap.size, 2, none⟩ = false := by rw [hW]; simp [go_sem]
  have HS := Lib.hid hs
  rw [← hW]
  clear hW hs
  go_loopw [19] (fun i wr => ∃ k : Nat, k ≤ n ∧ i = .int .i64 k ∧ Blk wr (w.heap.size + 1) 2 (vals (fillL v n k)) ∧ W.grownBy wr (some (w.heap.size + 1))) (fun i _ => n - (intOf i).toNat)
  case atStart => exact ⟨0, Nat.zero_le _, rfl, by rw [fillL_zero]; exact hk, World.grownBy.refl W _⟩
  case round =>
    obtain ⟨k, hkn, rfl, hblk, hgr⟩ := hrel
    have hsz : w.heap.size + 2 < wr.heap.size := by have := hgr.size; have := HS.out; omega
    have f2 : wr.cell? ⟨w.heap.size + 1 + 1, 2, none⟩ = some (.slice (some ⟨w.heap.size + 1, 0, none⟩) n n) := (only_cell hgr (by have := HS.out; omega) (by omega)).trans e2
    by_cases hlt : k < n
    · have hy : wr.cell? ⟨w.heap.size + 1, k, none⟩ = some (.int .i64 ((fillL v n k).getD k 0)) := by
        rw [hblk.cell]; exact vals_get _ _ (by rw [fillL_length _ _ _ hkn]; exact hlt)
      have hz : wr.frozen? ⟨w.heap.size + 1, k, none⟩ = false := hblk.frozen k
      have HN : Hid (Blk (wr.setCell ⟨w.heap.size + 1, k, none⟩ (.int .i64 v)) (w.heap.size + 1) 2 (vals (fillL v n (k + 1)))) := by
        have := hblk.set_ k (.int .i64 v)
        rw [vals_set, fillL_set _ _ _ hlt] at this
        exact this
      have HG : Hid (W.grownBy (wr.setCell ⟨w.heap.size + 1, k, none⟩ (.int .i64 v)) (some (w.heap.size + 1))) := only_setCell hgr _
      generalize (fillL v n k).getD k 0 = y at hy
      clear hblk hgr e0 e1 e2 x0 x1 x2 hk p0 p1 p2
      go_wp2
      go_roundw
      case rel => exact ⟨k + 1, by omega, by go_num, HN.out, HG.out⟩
      case measure => simp [intOf]; omega
    · have hke : k = n := by omega
      have HK := Lib.hid hke
      have f0 : wr.cell? ⟨w.heap.size + 1 + 1, 0, none⟩ = some (.int .i64 r) := (only_cell hgr (by have := HS.out; omega) (by omega)).trans e0
      have f1 : wr.cell? ⟨w.heap.size + 1 + 1, 1, none⟩ = some (.int .i64 c) := (only_cell hgr (by have := HS.out; omega) (by omega)).trans e1
      have y0 : wr.cell? ⟨w.heap.size, 0, none⟩ = some (.int .i64 0) := (only_cell hgr (by have := HS.out; omega) (by omega)).trans x0
      have y1 : wr.cell? ⟨w.heap.size, 1, none⟩ = some (.int .i64 0) := (only_cell hgr (by have := HS.out; omega) (by omega)).trans x1
      have y2 : wr.cell? ⟨w.heap.size, 2, none⟩ = some (.slice none 0 0) := (only_cell hgr (by have := HS.out; omega) (by omega)).trans x2
      have z0 : wr.frozen? ⟨w.heap.size, 0, none⟩ = false := (only_frozen hgr (by have := HS.out; omega) (by omega)).trans p0
      have z1 : wr.frozen? ⟨w.heap.size, 1, none⟩ = false := (only_frozen hgr (by have := HS.out; omega) (by omega)).trans p1
      have z2 : wr.frozen? ⟨w.heap.size, 2, none⟩ = false := (only_frozen hgr (by have := HS.out; omega) (by omega)).trans p2
      clear hke e0 e1 e2 x0 x1 x2 p0 p1 p2
      go_wp2
      refine bodyPost_ret (v := .agg #[.int .i64 r, .int .i64 c, .slice (some ⟨w.heap.size + 1, 0, none⟩) n n]) (by simp [results, Try.results67, go_sem, y0, y1, y2]) rfl ?_
      refine ⟨w.heap.size + 1, rfl, by omega, ?_, ?_⟩
      · have e := fillL_all v n
        rw [HK.out, e] at hblk
        exact ((hblk.far (by simp) _).far (by simp) _).far (by simp) _
      · have hb : Below w.heap.size w wr := below_only hB hgr (by have := HS.out; omega) (by omega)
        repeat' (first | (with_reducible exact Below.refl _ _) | (with_reducible assumption) | (with_reducible refine Below.alloc ?_ ?_ _) | (with_reducible refine Below.setCell ?_ ?_ _) | (with_reducible refine Below.drew ?_) | (with_reducible refine below_drewN ?_ _) | (with_reducible refine below_via (by with_reducible assumption) ?_ ?_) | go_size)
/-- The binary cells of a list of grey values. -/
def binF (limit x : Int) : Int := if x < limit then 1 else 0
theorem binF_yes {limit x : Int} (h : x < limit) : binF limit x = 1 := if_pos h
theorem binF_no {limit x : Int} (h : ¬ x < limit) : binF limit x = 0 := if_neg h
def binL (limit : Int) (zs : List Int) : List Int := zs.map (binF limit)
def binP (limit : Int) (zs : List Int) (k : Nat) : List Int := (zs.take k).map (binF limit) ++ List.replicate (zs.length - k) 0
theorem binP_zero (limit : Int) (zs : List Int) : binP limit zs 0 = List.replicate zs.length 0 := by simp [binP]
theorem binP_all (limit : Int) (zs : List Int) : binP limit zs zs.length = binL limit zs := by simp [binP, binL]
theorem binP_length (limit : Int) (zs : List Int) (k : Nat) (h : k ≤ zs.length) : (binP limit zs k).length = zs.length := by simp [binP]; omega
theorem binP_take (limit : Int) (zs : List Int) (k : Nat) (h : k < zs.length) : (zs.take (k + 1)).map (binF limit) = (zs.take k).map (binF limit) ++ [binF limit (zs.getD k 0)] := by
  rw [List.take_succ_eq_append_getElem h, List.map_append, List.map_cons, List.map_nil]
  simp only [List.getD_eq_getElem?_getD, List.getElem?_eq_getElem h, Option.getD_some]
theorem binP_set (limit : Int) (zs : List Int) (k : Nat) (h : k < zs.length) : (binP limit zs k).set k (binF limit (zs.getD k 0)) = binP limit zs (k + 1) := by
  have e : zs.length - k = (zs.length - (k + 1)) + 1 := by omega
  unfold binP
  rw [binP_take _ _ _ h, List.set_append_right _ _ (by simp; omega), e, List.replicate_succ, List.append_assoc]
  simp [Nat.min_eq_left (Nat.le_of_lt h)]
theorem binP_skip (limit : Int) (zs : List Int) (k : Nat) (h : k < zs.length) (hb : binF limit (zs.getD k 0) = 0) : binP limit zs (k + 1) = binP limit zs k := by
  have e : zs.length - k = (zs.length - (k + 1)) + 1 := by omega
  unfold binP
  rw [binP_take _ _ _ h, hb, e, List.replicate_succ, List.append_assoc]
  rfl
def cntV (p : Int → Bool) (zs : List Int) : Nat → Nat
  | 0 => 0
  | k + 1 => cntV p zs k + (if p (zs.getD k 0) then 1 else 0)
theorem cntV_le (p : Int → Bool) (zs : List Int) (k : Nat) : cntV p zs k ≤ k := by
  induction k with
  | zero => simp [cntV]
  | succ k ih => simp only [cntV]; split <;> omega
theorem cntV_bin (limit : Int) (zs : List Int) (k : Nat) (h : k ≤ zs.length) : cntV (fun x => x == 1) (binL limit zs) k = cntV (fun x => decide (x < limit)) zs k := by
  induction k with
  | zero => rfl
  | succ k ih =>
    have hk : k < zs.length := by omega
    simp only [cntV]
    rw [ih (by omega)]
    have e : (binL limit zs).getD k 0 = binF limit (zs.getD k 0) := by
      simp [binL, List.getD_eq_getElem?_getD, List.getElem?_map, List.getElem?_eq_getElem hk]
    rw [e]
    unfold binF
    split <;> simp_all
theorem cntV_yes {p : Int → Bool} {zs : List Int} {k : Nat} {x : Int} (h : zs.getD k 0 = x) (hp : p x = true) : cntV p zs (k + 1) = cntV p zs k + 1 := by simp only [cntV]; rw [h, hp]; rfl
theorem cntV_no {p : Int → Bool} {zs : List Int} {k : Nat} {x : Int} (h : zs.getD k 0 = x) (hp : p x = false) : cntV p zs (k + 1) = cntV p zs k := by simp only [cntV]; rw [h, hp]; rfl
/-- A struct of two numbers and a slice of the call's own. -/
def OwnRast (w : World) (r c : Int) (L : List Int) (e : Ending) (w' : World) : Prop :=
  ∃ a cp, e = .returned (.agg #[.int .i64 r, .int .i64 c, .slice a L.length cp]) ∧ w'.ownsRow w.heap.size 2 1 (.slice a L.length cp) L.length (L.map (Value.int .i64)) ∧ Below w.heap.size w w'
theorem own_shape {w : World} {base n : Nat} {t : TypeId} {v : Value} {xs : List Value} (h : w.ownsRow base t 1 v n xs) : ∃ a cp, v = .slice a n cp := by
  rcases h.2 with ⟨rfl, rfl⟩ | ⟨g, cap, _, rfl, _⟩
  · exact ⟨_, _, rfl⟩
  · exact ⟨_, _, rfl⟩
theorem own_far {w : World} {base n : Nat} {t : TypeId} {v : Value} {xs : List Value} (h : w.ownsRow base t 1 v n xs) {p : Addr} (hp : p.block < base) (u : Value) : (w.setCell p u).ownsRow base t 1 v n xs := ownsRow_setCell_below h hp u
theorem own_mono {w : World} {base base' n : Nat} {t : TypeId} {v : Value} {xs : List Value} (h : w.ownsRow base t 1 v n xs) (hb : base' ≤ base) : w.ownsRow base' t 1 v n xs := by
  refine ⟨h.1, ?_⟩
  rcases h.2 with hv | ⟨g, cap, cur, hv, hg, r⟩
  · exact .inl hv
  · exact .inr ⟨g, cap, cur, hv, by omega, r⟩
theorem NewRast.own {w w' : World} {r c : Int} {n : Nat} {zs : List Int} {e : Ending} (h : NewRast w r c n zs e w') (hl : zs.length = n) (hn : n ≤ 1048576) : OwnRast w r c zs e w' := by
  obtain ⟨g, he, hg, hk, hb⟩ := h
  subst hl
  exact ⟨_, _, he, hk.own hg rfl (by unfold maxLen; omega), hb⟩
end Go.Proofs.Ytfiddbmjgncabaa
