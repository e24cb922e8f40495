/-
  DERIVED. A slice of finders that comes in: copied.
-/
import Derived.Test.YtbcbdphnbfjhoaaFinS
import Derived.Test.YtbcbdphnbfjhoaaFind
import Derived.Deep.MidRow
import Derived.Conc.MuLone
namespace Go.Proofs.Ytbcbdphnbfjhoaa
open Go.RowKit
set_option linter.unusedVariables false
theorem run_make_rowN {P : Program} (t e : TypeId) (i : TypeInfo) (z : Value) (ht : P.underlying t = some (.slice e)) (hi : P.info? e = some i) (hz : i.zero = some z)
    (kl kc : IntKind) (n c : Nat) (hnc : n ≤ c) (hbytes : i.bytes * c ≤ 281474976710656) (h63 : c ≤ 9223372036854775807) (w : World) :
    (Instr.makeSlice t (.int kl (n : Int)) (.int kc (c : Int))).run P w = .ok (.slice (some ⟨w.heap.size, 0, none⟩) n c) (w.alloc (.cells (madeCells z.cells (c * i.size)) e)) := by
  have hb : (i.bytes : Int) * (c : Int) ≤ 281474976710656 := by
    have h : ((i.bytes * c : Nat) : Int) ≤ 281474976710656 := by omega
    rwa [Int.natCast_mul] at h
  have hr := run_make (P := P) w t e i z ht hi hz kl kc n c (by omega) (by omega) hb (by omega)
  simp only [Int.toNat_natCast] at hr
  exact hr
theorem infoFin : (Try.prog.info? 66).map (fun i => (i.zero, i.size, i.bytes)) = some (some (.agg #[.int .i64 0, .int .i64 0, .int .i64 0, .int .i64 0]), 4, 32) := by kernel_rfl
theorem infoFinS : (Try.prog.info? 66).map (·.size) = some 4 := by kernel_rfl
def fpart (L : List F4) (k : Nat) : List F4 := L.take k ++ List.replicate (L.length - k) (0, 0, 0, 0)
theorem fpart_zero (L : List F4) : fpart L 0 = List.replicate L.length (0, 0, 0, 0) := by simp [fpart]
theorem fpart_all (L : List F4) : fpart L L.length = L := by simp [fpart]
theorem fpart_step (L : List F4) (k : Nat) (h : k < L.length) : fpart L k = L.take k ++ (0, 0, 0, 0) :: List.replicate (L.length - (k + 1)) (0, 0, 0, 0) ∧ fpart L (k + 1) = L.take k ++ L.getD k (0, 0, 0, 0) :: List.replicate (L.length - (k + 1)) (0, 0, 0, 0) := by
  refine ⟨?_, ?_⟩
  · have e : L.length - k = (L.length - (k + 1)) + 1 := by omega
    rw [fpart, e, List.replicate_succ]
  · rw [fpart, List.take_succ_eq_append_getElem h, List.append_assoc]
    simp [List.getD_eq_getElem?_getD, List.getElem?_eq_getElem h]
theorem fpart_length (L : List F4) (k : Nat) (h : k ≤ L.length) : (fpart L k).length = L.length := by simp [fpart]; omega
theorem fin_zeros (n : Nat) : madeCells #[Value.int .i64 0, .int .i64 0, .int .i64 0, .int .i64 0] (n * 4) = (finV (List.replicate n (0, 0, 0, 0))).toArray := by
  apply Array.ext
  · simp [madeCells, finV_length]
  · intro i h1 h2
    have hi : i < n * 4 := by simpa [finV_length] using h2
    have e := flat_get finCell 4 (fun _ => rfl) (List.replicate n (0, 0, 0, 0)) (i / 4) (i % 4) (by simp; omega) (by omega)
    rw [show i / 4 * 4 + i % 4 = i by omega, show (List.replicate n ((0, 0, 0, 0) : F4)).flatMap finCell = finV (List.replicate n (0, 0, 0, 0)) from rfl] at e
    have e2 : (finV (List.replicate n (0, 0, 0, 0))).toArray[i] = Value.int .i64 0 := by
      have h3 : i < (finV (List.replicate n (0, 0, 0, 0))).length := by rw [finV_length]; simpa using hi
      rw [List.getElem?_eq_getElem h3] at e
      have hm : i % 4 = 0 ∨ i % 4 = 1 ∨ i % 4 = 2 ∨ i % 4 = 3 := by omega
      rcases hm with h | h | h | h <;> rw [h] at e <;> simpa [finCell] using e
    rw [e2]
    have hm : i % 4 = 0 ∨ i % 4 = 1 ∨ i % 4 = 2 ∨ i % 4 = 3 := by omega
    rcases hm with h | h | h | h <;> simp [madeCells, h]
theorem Blk.fin_set {w w' : World} {g k : Nat} {t : TypeId} {L1 L2 : List F4} {y : F4} (a b c d : Int) (h : Blk w g t (finV (L1 ++ y :: L2)).toArray) (hk : L1.length = k)
    (hw : w.setCells g (k * 4) [.int .i64 a, .int .i64 b, .int .i64 c, .int .i64 d] = w') : Blk w' g t (finV (L1 ++ (a, b, c, d) :: L2)).toArray := by
  subst hw
  subst hk
  simp only [World.setCells]
  have := (((h.set_ (L1.length * 4) (.int .i64 a)).set_ (L1.length * 4 + 1) (.int .i64 b)).set_ (L1.length * 4 + 2) (.int .i64 c)).set_ (L1.length * 4 + 3) (.int .i64 d)
  rw [List.setIfInBounds_toArray, List.setIfInBounds_toArray, List.setIfInBounds_toArray, List.setIfInBounds_toArray, Fin_sets] at this
  exact this
theorem Blk.there {w : World} {g o n : Nat} {t : TypeId} {cs : Array Value} (h : Blk w g t cs) (hn : o + n ≤ cs.size) : w.there g o n := fun j hj => by
  refine ⟨?_, h.frozen _⟩
  rw [h.cell, Array.getElem?_eq_getElem (by omega)]
  rfl
theorem below_setCells {B b : Nat} : ∀ (vs : List Value) (o : Nat) {w w' : World}, Below B w w' → B ≤ b → Below B w (w'.setCells b o vs)
  | [], _, _, _, h, _ => h
  | v :: r, o, _, _, h, hB => by
    rw [World.setCells]
    exact below_setCells r (o + 1) (h.setCell hB v) hB
set_option maxHeartbeats 1000000 in
theorem szFins (a : Option Addr) (n c : Nat) (left : Int) (w : World) (h1 : 0 ≤ left) (h2 : left ≤ 1048576) (h3 : n ≤ maxLen) : Calls Try.prog 43 #[.slice a n c, .int .i64 left] w fun e w' => e = .returned (.int .i64 (szV left n)) ∧ w = w' := by
  unfold maxLen at h3
  rcases Int.lt_or_le left n with h | h
  · have H := Lib.hid (szV_no h)
    go_enter Try.func43, Try.ntmps43
    go_wp2
    go_ret
    exact ⟨ret_int H.out.symm, rfl⟩
  · have H := Lib.hid (szV_yes h)
    go_enter Try.func43, Try.ntmps43
    go_wp2
    go_ret
    exact ⟨ret_int H.out.symm, rfl⟩
def NewFins (w : World) (n : Nat) (L : List F4) (e : Ending) (w' : World) : Prop :=
  ∃ g, e = .returned (.slice (some ⟨g, 0, none⟩) n n) ∧ w.heap.size ≤ g ∧ Blk w' g 66 (finV L).toArray ∧ Below w.heap.size w w'
set_option maxHeartbeats 2000000 in
theorem toFins (a : Option Addr) (n c : Nat) (L : List F4) (w : World) (h : RdV w a 4 n (finV L)) (hn : n ≤ 1048576) :
    Calls Try.prog 45 #[.slice a n c] w (NewFins w n L) := by
  have hl : L.length = n := by have := h.1; rw [finV_length] at this; omega
  obtain ⟨i0, hi, hz0, hz1, hz2⟩ := info_parts infoFin
  have hmk : ∀ W : World, (Instr.makeSlice 52 (.int .i64 (n : Int)) (.int .i64 (n : Int))).run Try.prog W = .ok (.slice (some ⟨W.heap.size, 0, none⟩) n n) (W.alloc (.cells (finV (List.replicate n (0, 0, 0, 0))).toArray 66)) := by
    intro W
    have hr := run_make_rowN (P := Try.prog) 52 66 i0 _ Try.underlying52 hi hz0 .i64 .i64 n n (Nat.le_refl _) (by rw [hz2]; omega) (by omega) W
    rw [hr, hz1]
    simp only [Value.cells, fin_zeros]
  have HH := Lib.hid h
  have HL := Lib.hid hl
  clear h hl hi hz0 hz1 hz2
  go_enter Try.func45, Try.ntmps45
  go_wp2
  clear hmk
  go_loopw [4] (fun i wr => ∃ k : Nat, k ≤ n ∧ i = .int .i64 k ∧ Blk wr w.heap.size 66 (finV (fpart L k)).toArray ∧ Below w.heap.size w wr) (fun i _ => n - (intOf i).toNat)
  case atStart => exact ⟨0, Nat.zero_le _, rfl, by rw [fpart_zero, HL.out]; exact Blk.new _ _ _, by repeat' (first | (with_reducible exact Below.refl _ _) | (with_reducible assumption) | (with_reducible refine Below.alloc ?_ ?_ _) | (with_reducible refine Below.setCell ?_ ?_ _) | (with_reducible refine Below.drew ?_) | (with_reducible refine below_drewN ?_ _) | (with_reducible refine below_via (by with_reducible assumption) ?_ ?_) | go_size)⟩
  case round =>
    obtain ⟨k, hk, rfl, hblk, hbel⟩ := hrel
    have hzz := hbel.size
    by_cases hlt : k < n
    · obtain ⟨b, off, rfl, hb, c0, c1, c2, c3⟩ := (HH.out.below hbel).fin hlt
      have hst := Lib.hid (fpart_step L k (by rw [HL.out]; exact hlt))
      have hsz : Hid (k * 4 + 4 ≤ (finV (fpart L k)).toArray.size) := by
        have e : (finV (fpart L k)).toArray.size = n * 4 := by rw [List.size_toArray, finV_length, fpart_length _ _ (by rw [HL.out]; exact hk), HL.out]
        unfold Hid; omega
      have HB := Lib.hid hblk
      generalize hv0 : (L.getD k (0, 0, 0, 0)).1 = y0 at c0
      generalize hv1 : (L.getD k (0, 0, 0, 0)).2.1 = y1 at c1
      generalize hv2 : (L.getD k (0, 0, 0, 0)).2.2.1 = y2 at c2
      generalize hv3 : (L.getD k (0, 0, 0, 0)).2.2.2 = y3 at c3
      have HY : Hid (L.getD k (0, 0, 0, 0) = (y0, y1, y2, y3)) := by rw [← hv0, ← hv1, ← hv2, ← hv3]; rfl
      clear hv0 hv1 hv2 hv3 hblk
      have hgl := HB.out.lt
      go_wp2_with fail
      refine (toFinder y0 y1 y2 y3 _).mono ?_
      rintro e w1 ⟨rfl, hb1⟩
      have hz1 := hb1.size
      have HB1 := Lib.hid (HB.out.keep hb1)
      go_wp2_with ((with_reducible refine wpList_store_mid ?_ 66 (.tmp 21) (.tmp 20) ?_ w.heap.size (k * 4) #[.int .i64 y0, .int .i64 y1, .int .i64 y2, .int .i64 y3] ?_ ?_ ?_ ?_ ?_ ?_); exact rfl; exact rfl; exact rfl; exact rfl; exact HB1.out.there hsz.out; exact infoFinS; (simp [Value.oneCell']); generalize hW3 : World.setCells _ _ _ _ = W3; have HW3 := Lib.hid hW3; clear hW3)
      go_roundw
      case rel =>
        refine ⟨k + 1, by omega, by go_num, ?_, ?_⟩
        · have hb2 := HB1.out
          rw [hst.out.1] at hb2
          have hb3 := hb2.fin_set y0 y1 y2 y3 (k := k) (by rw [List.length_take, HL.out]; omega) HW3.out
          rw [hst.out.2, HY.out]
          exact hb3
        · have hb3 : Below w.heap.size w w1 := by repeat' (first | (with_reducible exact Below.refl _ _) | (with_reducible assumption) | (with_reducible refine Below.alloc ?_ ?_ _) | (with_reducible refine Below.setCell ?_ ?_ _) | (with_reducible refine Below.drew ?_) | (with_reducible refine below_drewN ?_ _) | (with_reducible refine below_via (by with_reducible assumption) ?_ ?_) | go_size)
          have hb4 := below_setCells [.int .i64 y0, .int .i64 y1, .int .i64 y2, .int .i64 y3] (k * 4) hb3 (Nat.le_refl _)
          have e3 : World.setCells w1 w.heap.size (k * 4) [.int .i64 y0, .int .i64 y1, .int .i64 y2, .int .i64 y3] = W3 := HW3.out
          rw [e3] at hb4
          exact hb4
      case measure => simp [intOf]; omega
    · have hke : k = n := by omega
      have HK := Lib.hid hke
      clear hke
      go_wp2
      go_returns
      refine ⟨_, rfl, Nat.le_refl _, ?_, hbel⟩
      have e2 := fpart_all L
      rw [HL.out, ← HK.out] at e2
      rw [e2] at hblk
      exact hblk
end Go.Proofs.Ytbcbdphnbfjhoaa
