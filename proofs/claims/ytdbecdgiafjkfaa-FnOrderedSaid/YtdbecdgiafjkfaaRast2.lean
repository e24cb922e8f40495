/-
  DERIVED. Helpers of laws over two rasters.
-/
import Derived.Test.YtdbecdgiafjkfaaPasteI
namespace Go.Proofs.Ytdbecdgiafjkfaa
open Go.RowKit
set_option linter.unusedVariables false
set_option maxRecDepth 20000 in
set_option maxHeartbeats 1000000 in
theorem markInts2 (a : Option Addr) (n c base : Nat) (xs : List Int) (k : Int) (w : World) (h : w.ownsRow base 2 1 (.slice a n c) n (xs.map (Value.int .i64))) (hn : n ≤ 1048576) (hk : 0 ≤ k) (hk2 : k ≤ 4194304) :
    Calls Try.prog 61 #[.slice a n c, .int .i64 k] w (Marked w base a n c k) := by
  have hl : xs.length = n := by simpa using h.1
  rcases Nat.eq_zero_or_pos n with h0 | h0
  · have h1 : n ≤ 0 := by omega
    have H := Lib.hid h
    have E : Hid (markL k n = xs ∧ (n : Int) = 0) := ⟨by subst h0; rw [List.eq_nil_of_length_eq_zero hl]; rfl, by omega⟩
    clear h h0 hl
    go_enter Try.func61, Try.ntmps61
    go_wp2
    refine wp_loop_rounds 1 ?_; rw [rounds_succ]
    go_wp2
    go_returns
    exact ⟨ret_int (by rw [E.out.2]; omega), by rw [E.out.1]; exact H.out, World.grownBy.refl w _⟩
  · obtain ⟨g, rfl⟩ : ∃ g, a = some ⟨g, 0, none⟩ := by
      rcases h.2 with ⟨_, h2⟩ | ⟨g, cap, cur, hv, _⟩
      · omega
      · injection hv with hv1; exact ⟨g, hv1⟩
    have HL := Lib.hid hl
    have HO := Lib.hid h
    clear hl h
    go_enter Try.func61, Try.ntmps61
    go_wp2
    go_loopw [1, 5] (fun q i wr => ∃ j : Nat, j ≤ n ∧ i = .int .i64 j ∧ q = .int .i64 (k + j) ∧ wr.ownsRow base 2 1 (.slice (some ⟨g, 0, none⟩) n c) n ((halfL k xs j).map (Value.int .i64)) ∧ w.grownBy wr (some g)) (fun _ i _ => n - (intOf i).toNat)
    case atStart => exact ⟨0, Nat.zero_le _, rfl, by simp, by rw [halfL_zero]; exact HO.out, World.grownBy.refl w _⟩
    case round =>
      obtain ⟨j, hj, rfl, rfl, hown, hgr⟩ := hrel
      by_cases hlt : j < n
      · have hlen : (halfL k xs j).length = n := by rw [halfL_length _ _ _ (by rw [HL.out]; exact hj), HL.out]
        have hy : wr.cell? ⟨g, j, none⟩ = some (.int .i64 ((halfL k xs j).getD j 0)) := by
          rw [hown.cellAt j (by omega)]
          simp [List.getElem?_map, List.getElem?_eq_getElem (show j < (halfL k xs j).length by omega), List.getD_eq_getElem?_getD]
        have hz : wr.frozen? ⟨g, j, none⟩ = false := hown.frozenAt j
        have HN : Hid ((wr.setCell ⟨g, j, none⟩ (.int .i64 (k + j))).ownsRow base 2 1 (.slice (some ⟨g, 0, none⟩) n c) n ((halfL k xs (j + 1)).map (Value.int .i64))) := by
          have := (hown.stored j (.int .i64 (k + j))).1
          rw [← List.map_set, halfL_set _ _ _ (by rw [HL.out]; exact hlt)] at this
          exact this
        have HG : Hid (w.grownBy (wr.setCell ⟨g, j, none⟩ (.int .i64 (k + j))) (some g)) := only_setCell hgr _
        generalize hyv : (halfL k xs j).getD j 0 = y at hy
        clear hyv hown hgr hlen
        go_wp2
        go_roundw
        case rel => exact ⟨j + 1, by omega, by go_num, by go_num, HN.out, HG.out⟩
        case measure => simp [intOf]; omega
      · have hje : j = n := by omega
        have HJ := Lib.hid hje
        clear hje
        go_wp2
        go_returns
        refine ⟨ret_int (by rw [HJ.out]), ?_, hgr⟩
        have e := halfL_all k xs
        rw [HL.out, ← HJ.out] at e
        rw [e, HJ.out] at hown
        exact hown
set_option maxRecDepth 20000 in
set_option maxHeartbeats 400000 in
theorem szRast2 (r c : Int) (a : Option Addr) (n cp : Nat) (left : Int) (w : World) (h1 : 0 ≤ left) (h2 : left ≤ 1048576) (h3 : n ≤ maxLen) :
    Calls Try.prog 12 #[.agg #[.int .i64 r, .int .i64 c, .slice a n cp], .int .i64 left] w fun e w' => e = .returned (.int .i64 (szV left n)) ∧ Below w.heap.size w w' := by
  rcases Int.lt_or_le left n with h | h
  · have H := szV_no h
    have HH := Lib.hid H
    go_enter Try.func12, Try.ntmps12
    go_wp2_with (go_at_call 56; refine (szInts _ _ _ _ _ (by omega) (by omega) h3).mono ?_; rintro e w' ⟨rfl, rfl⟩)
    go_returns
    exact ⟨by simp [H], by repeat' (first | (with_reducible exact Below.refl _ _) | (with_reducible assumption) | (with_reducible refine Below.alloc ?_ ?_ _) | (with_reducible refine Below.setCell ?_ ?_ _) | (with_reducible refine Below.drew ?_) | (with_reducible refine below_drewN ?_ _) | (with_reducible refine below_via (by with_reducible assumption) ?_ ?_) | go_size)⟩
  · have H := szV_yes h
    go_enter Try.func12, Try.ntmps12
    go_wp2_with (go_at_call 56; refine (szInts _ _ _ _ _ (by omega) (by omega) h3).mono ?_; rintro e w' ⟨rfl, rfl⟩)
    go_returns
    exact ⟨by simp [H], by repeat' (first | (with_reducible exact Below.refl _ _) | (with_reducible assumption) | (with_reducible refine Below.alloc ?_ ?_ _) | (with_reducible refine Below.setCell ?_ ?_ _) | (with_reducible refine Below.drew ?_) | (with_reducible refine below_drewN ?_ _) | (with_reducible refine below_via (by with_reducible assumption) ?_ ?_) | go_size)⟩
set_option maxHeartbeats 1000000 in
theorem markRast2 (r c k : Int) (a : Option Addr) (n cp base : Nat) (xs : List Int) (w : World) (h : w.ownsRow base 2 1 (.slice a n cp) n (xs.map (Value.int .i64))) (hn : n ≤ 1048576) (k0 : 1 ≤ k) (k1 : k ≤ 4194304) :
    Calls Try.prog 17 #[.agg #[.int .i64 r, .int .i64 c, .slice a n cp], .int .i64 k] w fun e w' =>
      e = .returned (.int .i64 (k + n)) ∧ w.grownBy w' (Value.slice a n cp).ownBlock := by
  have HH := Lib.hid h
  clear h
  go_enter Try.func17, Try.ntmps17
  go_wp2_with fail
  refine (markInts2 a n cp base xs k _ (HH.out.alloc _) hn (by omega) (by omega)).mono ?_
  rintro e w1 ⟨rfl, ho, hg⟩
  go_wp2
  go_returns
  exact ⟨rfl, (only_of_below ((Below.refl _ _).alloc (Nat.le_refl _) _) _).trans hg⟩
theorem own_ne {w : World} {base n : Nat} {t : TypeId} {v : Value} {xs : List Value} (h : w.ownsRow base t 1 v n xs) {p : Addr} (hp : ∀ k, v.ownBlock = some k → k ≠ p.block) (u : Value) : (w.setCell p u).ownsRow base t 1 v n xs := by
  refine ⟨h.1, ?_⟩
  rcases h.2 with hv | ⟨g, cap, cur, hv, hg, hh, r⟩
  · exact .inl hv
  · exact .inr ⟨g, cap, cur, hv, hg, (Below.heap_setCell w p u g (hp g (by rw [hv]; rfl))).trans hh, r⟩
theorem grow_lt {W w1 : World} (hb : Below W.heap.size W w1) : ∀ b, b < W.heap.size → b < w1.heap.size := fun _ h => Nat.lt_of_lt_of_le h hb.size
theorem store3 {w : World} {b : Nat} {x y z u0 u1 u2 : Value} (hb : b < w.heap.size) (h0 : w.cell? ⟨b, 0, none⟩ = some u0) (h1 : w.cell? ⟨b, 1, none⟩ = some u1) (h2 : w.cell? ⟨b, 2, none⟩ = some u2) : Hid (Box3 (((w.setCell ⟨b, 0, none⟩ x).setCell ⟨b, 1, none⟩ y).setCell ⟨b, 2, none⟩ z) b x y z) := by
  refine ⟨by simpa using hb, ?_, ?_, ?_⟩
  · rw [World.cell?_setCell_other _ _ _ _ (by simp), World.cell?_setCell_other _ _ _ _ (by simp)]
    exact World.cell?_setCell_same w ⟨b, 0, none⟩ x h0
  · rw [World.cell?_setCell_other _ _ _ _ (by simp)]
    exact World.cell?_setCell_same _ ⟨b, 1, none⟩ y ((World.cell?_setCell_other w ⟨b, 0, none⟩ ⟨b, 1, none⟩ x (by simp)).trans h1)
  · exact World.cell?_setCell_same _ ⟨b, 2, none⟩ z ((World.cell?_setCell_other _ ⟨b, 1, none⟩ ⟨b, 2, none⟩ y (by simp)).trans ((World.cell?_setCell_other w ⟨b, 0, none⟩ ⟨b, 2, none⟩ x (by simp)).trans h2))
theorem lq_new (r c r' c' : Int) (a a' : Option Addr) (n n' cp cp' : Nat) (w : World) : ∀ wr, Below (w.heap.size + 2) ((w.alloc (.cells #[.int .i64 r, .int .i64 c, .slice a n cp] 24)).alloc (.cells #[.int .i64 r', .int .i64 c', .slice a' n' cp'] 24)) wr →
    Box3 wr w.heap.size (.int .i64 r) (.int .i64 c) (.slice a n cp) ∧ Box3 wr (w.heap.size + 1) (.int .i64 r') (.int .i64 c') (.slice a' n' cp') := by
  intro wr hb
  have b0 := Box3.new w 24 (.int .i64 r) (.int .i64 c) (.slice a n cp)
  have b1 := Box3.new (w.alloc (.cells #[.int .i64 r, .int .i64 c, .slice a n cp] 24)) 24 (.int .i64 r') (.int .i64 c') (.slice a' n' cp')
  simp only [World.size_alloc] at b1
  have e1 : Below (w.heap.size + 1) (w.alloc (.cells #[.int .i64 r, .int .i64 c, .slice a n cp] 24)) ((w.alloc (.cells #[.int .i64 r, .int .i64 c, .slice a n cp] 24)).alloc (.cells #[.int .i64 r', .int .i64 c', .slice a' n' cp'] 24)) := (Below.refl _ _).alloc (by simp) _
  exact ⟨b0.below (e1.trans (hb.mono (by omega))) (by omega), b1.below hb (by omega)⟩
end Go.Proofs.Ytdbecdgiafjkfaa
