/-
  DERIVED. Slices of int64 of the call's own: marked, held; sizes.
-/
import Derived.Test.YtenelpollcabnaaInts2
namespace Go.Proofs.Ytenelpollcabnaa
open Go.RowKit
set_option linter.unusedVariables false

theorem Blk.own {w : World} {g base n : Nat} {t : TypeId} {zs : List Int} (h : Blk w g t (vals zs)) (hb : base ≤ g) (hn : zs.length = n) (hm : n ≤ maxLen) :
    w.ownsRow base t 1 (.slice (some ⟨g, 0, none⟩) n n) n (zs.map (Value.int .i64)) :=
  ⟨by simp [hn], .inr ⟨g, n, vals zs, rfl, hb, h, Nat.le_refl _, hm, by rw [vals_size]; omega, by rw [← hn]; simp [vals]; rw [List.take_of_length_le (by simp)]⟩⟩

theorem own_rd {w : World} {base n c : Nat} {t : TypeId} {a : Option Addr} {zs : List Int} (h : w.ownsRow base t 1 (.slice a n c) n (zs.map (Value.int .i64))) : Rd w a n zs := by
  refine ⟨by simpa using h.1, fun hn => ?_⟩
  rcases h.2 with ⟨hv, h0⟩ | ⟨g, cap, cur, hv, hg, hh, hnc, hm, hs, ht⟩
  · omega
  · injection hv with hv1 hv2 hv3
    subst hv1 hv3
    have hlt := (h.lt g rfl).2
    refine ⟨g, 0, rfl, hlt, fun i hi => ?_⟩
    rw [Nat.zero_add, h.cellAt i (by omega)]
    have hl : i < zs.length := by have := h.1; simp at this; omega
    simp [List.getElem?_map, List.getElem?_eq_getElem hl, List.getD_eq_getElem?_getD]

/-- k, k + 1, ..: what a row holds behind 'markInt64S'. -/
def markL (k : Int) (n : Nat) : List Int := (List.range n).map fun i : Nat => k + (i : Int)
theorem markL_length (k : Int) (n : Nat) : (markL k n).length = n := by simp [markL]
theorem markL_get (k : Int) (n i : Nat) (h : i < n) : (markL k n).getD i 0 = k + i := by
  simp [markL, List.getD_eq_getElem?_getD, h]

/-- The first j numbers of a row are marked, the others as they were. -/
def halfL (k : Int) (xs : List Int) (j : Nat) : List Int := markL k j ++ xs.drop j
theorem halfL_zero (k : Int) (xs : List Int) : halfL k xs 0 = xs := by simp [halfL, markL]
theorem halfL_all (k : Int) (xs : List Int) : halfL k xs xs.length = markL k xs.length := by simp [halfL]
theorem halfL_length (k : Int) (xs : List Int) (j : Nat) (h : j ≤ xs.length) : (halfL k xs j).length = xs.length := by simp [halfL, markL]; omega
theorem halfL_set (k : Int) (xs : List Int) (j : Nat) (h : j < xs.length) : (halfL k xs j).set j (k + j) = halfL k xs (j + 1) := by
  have e : (List.drop j xs).set 0 (k + j) = (k + j) :: List.drop (j + 1) xs := by rw [List.drop_eq_getElem_cons h]; rfl
  unfold halfL
  rw [List.set_append_right _ _ (by simp [markL]), markL_length, Nat.sub_self, e]
  simp [markL, List.range_succ]

theorem only_of_below {a w : World} (h : Below a.heap.size a w) (row : Option Nat) : a.grownBy w row := ⟨h.os, h.tape, h.output, h.size, fun i hi _ => h.block i hi⟩
theorem only_setCell {a w : World} {g : Nat} (h : a.grownBy w (some g)) {i : Nat} (u : Value) : a.grownBy (w.setCell ⟨g, i, none⟩ u) (some g) :=
  ⟨h.os, h.tape, h.output, by simpa [World.setCell] using h.size, fun i hi hne => (Below.heap_setCell w _ u i (by rintro rfl; exact hne rfl)).trans (h.block i hi hne)⟩
theorem only_below {a b c : World} {row : Option Nat} (h : a.grownBy b row) (k : Below b.heap.size b c) : a.grownBy c row :=
  ⟨k.os.trans h.os, k.tape.trans h.tape, k.output.trans h.output, Nat.le_trans h.size k.size, fun i hi hne => (k.block i (Nat.lt_of_lt_of_le hi h.size)).trans (h.block i hi hne)⟩

/-- A slice of the call's own, kept over a call that writes nothing old; over one that writes another block. -/
theorem own_below {w w' : World} {base n : Nat} {t : TypeId} {v : Value} {xs : List Value} (h : w.ownsRow base t 1 v n xs) (hb : Below w.heap.size w w') : w'.ownsRow base t 1 v n xs := by
  refine ⟨h.1, ?_⟩
  rcases h.2 with hv | ⟨g, cap, cur, hv, hg, hh, r⟩
  · exact .inl hv
  · have hlt := (h.lt g (by rw [hv]; rfl)).2
    exact .inr ⟨g, cap, cur, hv, hg, by rw [hb.block g hlt]; exact hh, r⟩
theorem Rd.only {w w' : World} {a : Option Addr} {n g : Nat} {zs : List Int} (h : Rd w a n zs) (hg : w.grownBy w' (some g)) (hne : ∀ b off, a = some ⟨b, off, none⟩ → b ≠ g) : Rd w' a n zs :=
  ⟨h.1, fun hn => by
    obtain ⟨b, off, e, hlt, hc⟩ := h.2 hn
    exact ⟨b, off, e, Nat.lt_of_lt_of_le hlt hg.size, fun i hi => (World.cell?_of_block (a := ⟨b, off + i, none⟩) (hg.block b hlt (by intro e'; injection e' with e'; exact hne b off e e'))).trans (hc i hi)⟩⟩
def Marked (w : World) (base : Nat) (a : Option Addr) (n c : Nat) (k : Int) (e : Ending) (w' : World) : Prop :=
  e = .returned (.int .i64 (k + n)) ∧ w'.ownsRow base 2 1 (.slice a n c) n ((markL k n).map (Value.int .i64)) ∧ w.grownBy w' (Value.slice a n c).ownBlock
set_option maxHeartbeats 1000000 in
theorem markInts (a : Option Addr) (n c base : Nat) (xs : List Int) (k : Int) (w : World) (h : w.ownsRow base 2 1 (.slice a n c) n (xs.map (Value.int .i64))) (hn : n ≤ 1048576) (hk : 0 ≤ k) (hk2 : k ≤ 1048576) :
    Calls Try.prog 15 #[.slice a n c, .int .i64 k] w (Marked w base a n c k) := by
  have hl : xs.length = n := by simpa using h.1
  rcases Nat.eq_zero_or_pos n with h0 | h0
  · have h1 : n ≤ 0 := by omega
    have H := Lib.hid h
    have E : Hid (markL k n = xs ∧ (n : Int) = 0) := ⟨by subst h0; rw [List.eq_nil_of_length_eq_zero hl]; rfl, by omega⟩
    clear h h0 hl
    go_enter Try.func15, Try.ntmps15
    go_wp2
    refine wp_loop_rounds 1 ?_; rw [rounds_succ]
    go_wp2
    go_returns
    exact ⟨ret_int (by rw [E.out.2]; omega), by rw [E.out.1]; exact H.out, World.grownBy.refl w _⟩
  · obtain ⟨g, rfl⟩ : ∃ g, a = some ⟨g, 0, none⟩ := by
      rcases h.2 with ⟨_, h2⟩ | ⟨g, cap, cur, hv, _⟩
      · omega
      · injection hv with hv1; exact ⟨g, hv1⟩
    have HL := Lib.hid hl
    have HO := Lib.hid h
    clear hl h
    go_enter Try.func15, Try.ntmps15
    go_wp2
    go_loopw [1, 5] (fun q i wr => ∃ j : Nat, j ≤ n ∧ i = .int .i64 j ∧ q = .int .i64 (k + j) ∧ wr.ownsRow base 2 1 (.slice (some ⟨g, 0, none⟩) n c) n ((halfL k xs j).map (Value.int .i64)) ∧ w.grownBy wr (some g)) (fun _ i _ => n - (intOf i).toNat)
    case atStart => exact ⟨0, Nat.zero_le _, rfl, by simp, by rw [halfL_zero]; exact HO.out, World.grownBy.refl w _⟩
    case round =>
      obtain ⟨j, hj, rfl, rfl, hown, hgr⟩ := hrel
      by_cases hlt : j < n
      · have hlen : (halfL k xs j).length = n := by rw [halfL_length _ _ _ (by rw [HL.out]; exact hj), HL.out]
        have hy : wr.cell? ⟨g, j, none⟩ = some (.int .i64 ((halfL k xs j).getD j 0)) := by
          rw [hown.cellAt j (by omega)]
          simp [List.getElem?_map, List.getElem?_eq_getElem (show j < (halfL k xs j).length by omega), List.getD_eq_getElem?_getD]
        have hz : wr.frozen? ⟨g, j, none⟩ = false := hown.frozenAt j
        have HN : Hid ((wr.setCell ⟨g, j, none⟩ (.int .i64 (k + j))).ownsRow base 2 1 (.slice (some ⟨g, 0, none⟩) n c) n ((halfL k xs (j + 1)).map (Value.int .i64))) := by
          have := (hown.stored j (.int .i64 (k + j))).1
          rw [← List.map_set, halfL_set _ _ _ (by rw [HL.out]; exact hlt)] at this
          exact this
        have HG : Hid (w.grownBy (wr.setCell ⟨g, j, none⟩ (.int .i64 (k + j))) (some g)) := only_setCell hgr _
        generalize hyv : (halfL k xs j).getD j 0 = y at hy
        clear hyv hown hgr hlen
        go_wp2
        go_roundw
        case rel => exact ⟨j + 1, by omega, by go_num, by go_num, HN.out, HG.out⟩
        case measure => simp [intOf]; omega
      · have hje : j = n := by omega
        have HJ := Lib.hid hje
        clear hje
        go_wp2
        go_returns
        refine ⟨ret_int (by rw [HJ.out]), ?_, hgr⟩
        have e := halfL_all k xs
        rw [HL.out, ← HJ.out] at e
        rw [e, HJ.out] at hown
        exact hown
set_option maxHeartbeats 1000000 in
theorem heldInts (a : Option Addr) (n c : Nat) (k : Int) (w : World) (h : Rd w a n (markL k n)) (hn : n ≤ 1048576) (hk : 0 ≤ k) (hk2 : k ≤ 1048576) :
    Calls Try.prog 44 #[.slice a n c, .int .i64 k] w fun e w' => e = .returned (.int .i64 (k + n)) ∧ Below w.heap.size w w' := by
  obtain ⟨hl, hr⟩ := h
  rcases Nat.eq_zero_or_pos n with h0 | h0
  · have h1 : n ≤ 0 := by omega
    have E : Hid ((n : Int) = 0) := (by omega : (n : Int) = 0)
    clear hl hr h0
    go_enter Try.func44, Try.ntmps44
    go_wp2
    refine wp_loop_rounds 1 ?_; rw [rounds_succ]
    go_wp2
    go_returns
    exact ⟨ret_int (by rw [E.out]; omega), by repeat' (first | (with_reducible exact Below.refl _ _) | (with_reducible assumption) | (with_reducible refine Below.alloc ?_ ?_ _) | (with_reducible refine Below.setCell ?_ ?_ _) | (with_reducible refine Below.drew ?_) | (with_reducible refine below_drewN ?_ _) | (with_reducible refine below_via (by with_reducible assumption) ?_ ?_) | go_size)⟩
  · obtain ⟨b, off, rfl, hb, hc⟩ := hr h0
    have HC := Lib.hid hc
    clear hr hl hc
    go_enter Try.func44, Try.ntmps44
    go_wp2
    go_loopw [1, 5] (fun q i wr => ∃ j : Nat, j ≤ n ∧ i = .int .i64 j ∧ q = .int .i64 (k + j) ∧ Below w.heap.size w wr) (fun _ i _ => n - (intOf i).toNat)
    case atStart => exact ⟨0, Nat.zero_le _, rfl, by simp, by repeat' (first | (with_reducible exact Below.refl _ _) | (with_reducible assumption) | (with_reducible refine Below.alloc ?_ ?_ _) | (with_reducible refine Below.setCell ?_ ?_ _) | (with_reducible refine Below.drew ?_) | (with_reducible refine below_drewN ?_ _) | (with_reducible refine below_via (by with_reducible assumption) ?_ ?_) | go_size)⟩
    case round =>
      obtain ⟨j, hj, rfl, rfl, hbel⟩ := hrel
      by_cases hlt : j < n
      · have hx : wr.cell? ⟨b, off + j, none⟩ = some (.int .i64 (k + j)) := by
          have := (hbel.cell (p := ⟨b, off + j, none⟩) hb).trans (HC.out j hlt)
          rw [markL_get _ _ _ hlt] at this
          exact this
        have k0 : (0 : Int) ≤ (j : Int) := Int.natCast_nonneg _
        have k1 : (j : Int) < (n : Int) := by omega
        have kb : ((k + (j : Int)) != (k + (j : Int))) = false := by simp
        go_wp2
        try go_quiet (fail)
        try go_wp2
        go_roundw
        case rel => exact ⟨j + 1, by omega, by go_num, by go_num, by repeat' (first | (with_reducible exact Below.refl _ _) | (with_reducible assumption) | (with_reducible refine Below.alloc ?_ ?_ _) | (with_reducible refine Below.setCell ?_ ?_ _) | (with_reducible refine Below.drew ?_) | (with_reducible refine below_drewN ?_ _) | (with_reducible refine below_via (by with_reducible assumption) ?_ ?_) | go_size)⟩
        case measure => simp [intOf]; omega
      · have hje : j = n := by omega
        have HJ := Lib.hid hje
        clear hje
        go_wp2
        go_returns
        exact ⟨ret_int (by rw [HJ.out]), hbel⟩
def szV (left : Int) (n : Nat) : Int := if left - n < 0 then -1 else left - n
theorem szV_yes {left : Int} {n : Nat} (h : (n : Int) ≤ left) : szV left n = left - n := by unfold szV; rw [if_neg (by omega)]
theorem szV_no {left : Int} {n : Nat} (h : left < (n : Int)) : szV left n = -1 := by unfold szV; rw [if_pos (by omega)]
set_option maxHeartbeats 400000 in
theorem szInts (a : Option Addr) (n c : Nat) (left : Int) (w : World) (h1 : 0 ≤ left) (h2 : left ≤ 1048576) (h3 : n ≤ maxLen) : Calls Try.prog 32 #[.slice a n c, .int .i64 left] w fun e w' => e = .returned (.int .i64 (szV left n)) ∧ w = w' := by
  unfold maxLen at h3
  rcases Int.lt_or_le left n with h | h
  · have H := Lib.hid (szV_no h)
    go_enter Try.func32, Try.ntmps32
    go_wp2
    go_ret
    exact ⟨ret_int H.out.symm, rfl⟩
  · have H := Lib.hid (szV_yes h)
    go_enter Try.func32, Try.ntmps32
    go_wp2
    go_ret
    exact ⟨ret_int H.out.symm, rfl⟩
end Go.Proofs.Ytenelpollcabnaa
