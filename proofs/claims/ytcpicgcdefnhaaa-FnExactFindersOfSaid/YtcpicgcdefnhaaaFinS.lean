/-
  DERIVED. The laws' helpers on slices of finders.
-/
import Derived.Test.YtcpicgcdefnhaaaBas
import Derived.Conc.MuLone
import Derived.BigQuiet
import Derived.Deep.RegionHeld3
namespace Go.Proofs.Ytcpicgcdefnhaaa
open Go.RowKit
set_option linter.unusedVariables false
theorem Fin_sets (L1 L2 : List F4) (y : F4) (a : Int) (b : Int) (c : Int) (d : Int) : (((((finV (L1 ++ y :: L2)).set (L1.length * 4) (.int .i64 a)).set (L1.length * 4 + 1) (.int .i64 b)).set (L1.length * 4 + 2) (.int .i64 c)).set (L1.length * 4 + 3) (.int .i64 d)) = finV (L1 ++ (a, b, c, d) :: L2) := by
  have e : ∀ x : F4, finV (L1 ++ x :: L2) = finV L1 ++ (finCell x ++ finV L2) := fun x => by simp [finV]
  have l : (finV L1).length = L1.length * 4 := finV_length L1
  rw [e, e]
  rw [List.set_append_right _ _ (by omega)]
  rw [List.set_append_right _ _ (by omega)]
  rw [List.set_append_right _ _ (by omega)]
  rw [List.set_append_right _ _ (by omega)]
  simp [finCell, l]
def markFin (kk : Int) (n : Nat) : List F4 := (List.range n).map fun i : Nat => (kk + 4 * (i : Int), kk + 4 * (i : Int) + 1, kk + 4 * (i : Int) + 2, kk + 4 * (i : Int) + 3)
theorem markFin_length (kk : Int) (n : Nat) : (markFin kk n).length = n := by simp [markFin]
theorem markFin_get (kk : Int) (n i : Nat) (h : i < n) : (markFin kk n).getD i (0, 0, 0, 0) = (kk + 4 * (i : Int), kk + 4 * (i : Int) + 1, kk + 4 * (i : Int) + 2, kk + 4 * (i : Int) + 3) := by
  simp [markFin, List.getD_eq_getElem?_getD, h]
def halfFin (kk : Int) (L : List F4) (j : Nat) : List F4 := markFin kk j ++ L.drop j
theorem halfFin_zero (kk : Int) (L : List F4) : halfFin kk L 0 = L := by simp [halfFin, markFin]
theorem halfFin_all (kk : Int) (L : List F4) : halfFin kk L L.length = markFin kk L.length := by simp [halfFin]
theorem halfFin_length (kk : Int) (L : List F4) (j : Nat) (h : j ≤ L.length) : (halfFin kk L j).length = L.length := by simp [halfFin, markFin]; omega
theorem halfFin_step (kk : Int) (L : List F4) (i : Nat) (h : i < L.length) : halfFin kk L i = markFin kk i ++ L[i] :: L.drop (i + 1) ∧ halfFin kk L (i + 1) = markFin kk i ++ (kk + 4 * (i : Int), kk + 4 * (i : Int) + 1, kk + 4 * (i : Int) + 2, kk + 4 * (i : Int) + 3) :: L.drop (i + 1) := by
  refine ⟨by rw [halfFin, List.drop_eq_getElem_cons h], ?_⟩
  simp [halfFin, markFin, List.range_succ]
set_option maxHeartbeats 1000000 in
theorem eqFinderX (y0 : Int) (y1 : Int) (y2 : Int) (y3 : Int) (w : World) : Calls Try.prog 22 #[.agg #[.int .i64 y0, .int .i64 y1, .int .i64 y2, .int .i64 y3], .agg #[.int .i64 y0, .int .i64 y1, .int .i64 y2, .int .i64 y3]] w fun e w' => e = .returned (.bool true) ∧ Below w.heap.size w w' := by
  go_enter Try.func22, Try.ntmps22
  go_wp2
  go_returns
  exact ⟨rfl, by repeat' (first | (with_reducible exact Below.refl _ _) | (with_reducible assumption) | (with_reducible refine Below.alloc ?_ ?_ _) | (with_reducible refine Below.setCell ?_ ?_ _) | (with_reducible refine Below.drew ?_) | (with_reducible refine below_drewN ?_ _) | (with_reducible refine below_via (by with_reducible assumption) ?_ ?_) | go_size)⟩
set_option maxHeartbeats 2000000 in
theorem eqFinT (a a' : Option Addr) (n c c' : Nat) (L : List F4) (w : World) (h : RdV w a 4 n (finV L)) (h' : RdV w a' 4 n (finV L)) (hn : n ≤ 1048576) :
    Calls Try.prog 9 #[.slice a n c, .slice a' n c'] w fun e w' => e = .returned (.bool true) ∧ Below w.heap.size w w' := by
  have HH := Lib.hid h
  have HH' := Lib.hid h'
  clear h h'
  go_enter Try.func9, Try.ntmps9
  go_wp2
  go_loopw [5] (fun i wr => ∃ k : Nat, k ≤ n ∧ i = .int .i64 k ∧ Below w.heap.size w wr) (fun i _ => n - (intOf i).toNat)
  case atStart => exact ⟨0, Nat.zero_le _, rfl, by repeat' (first | (with_reducible exact Below.refl _ _) | (with_reducible assumption) | (with_reducible refine Below.alloc ?_ ?_ _) | (with_reducible refine Below.setCell ?_ ?_ _) | (with_reducible refine Below.drew ?_) | (with_reducible refine below_drewN ?_ _) | (with_reducible refine below_via (by with_reducible assumption) ?_ ?_) | go_size)⟩
  case round =>
    obtain ⟨k, hk, rfl, hbel⟩ := hrel
    have hzz := hbel.size
    by_cases hlt : k < n
    · obtain ⟨b, off, rfl, hb, c0, c1, c2, c3⟩ := (HH.out.below hbel).fin hlt
      obtain ⟨b', off', rfl, hb', d0, d1, d2, d3⟩ := (HH'.out.below hbel).fin hlt
      generalize hv0 : (L.getD k (0, 0, 0, 0)).1 = y0 at c0 d0
      generalize hv1 : (L.getD k (0, 0, 0, 0)).2.1 = y1 at c1 d1
      generalize hv2 : (L.getD k (0, 0, 0, 0)).2.2.1 = y2 at c2 d2
      generalize hv3 : (L.getD k (0, 0, 0, 0)).2.2.2 = y3 at c3 d3
      clear hv0 hv1 hv2 hv3
      have k0 : (0 : Int) ≤ (k : Int) := Int.natCast_nonneg _
      have k1 : (k : Int) < (n : Int) := by omega
      have HS : Hid (∀ w', Below wr.heap.size wr w' → Below wr.heap.size wr w' ∧ wr.heap.size ≤ w'.heap.size ∧ w'.cell? ⟨b, off + k * 4, none⟩ = some (.int .i64 y0) ∧ w'.cell? ⟨b, off + k * 4 + 1, none⟩ = some (.int .i64 y1) ∧ w'.cell? ⟨b, off + k * 4 + 2, none⟩ = some (.int .i64 y2) ∧ w'.cell? ⟨b, off + k * 4 + 3, none⟩ = some (.int .i64 y3) ∧ w'.cell? ⟨b', off' + k * 4, none⟩ = some (.int .i64 y0) ∧ w'.cell? ⟨b', off' + k * 4 + 1, none⟩ = some (.int .i64 y1) ∧ w'.cell? ⟨b', off' + k * 4 + 2, none⟩ = some (.int .i64 y2) ∧ w'.cell? ⟨b', off' + k * 4 + 3, none⟩ = some (.int .i64 y3)) := fun w' h => ⟨h, h.size, (h.cell (p := ⟨_, _, none⟩) hb).trans c0, (h.cell (p := ⟨_, _, none⟩) hb).trans c1, (h.cell (p := ⟨_, _, none⟩) hb).trans c2, (h.cell (p := ⟨_, _, none⟩) hb).trans c3, (h.cell (p := ⟨_, _, none⟩) hb').trans d0, (h.cell (p := ⟨_, _, none⟩) hb').trans d1, (h.cell (p := ⟨_, _, none⟩) hb').trans d2, (h.cell (p := ⟨_, _, none⟩) hb').trans d3⟩
      go_wp2_with fail
      go_region_held3 (fun w' => Below wr.heap.size wr w' ∧ wr.heap.size ≤ w'.heap.size ∧ w'.cell? ⟨b, off + k * 4, none⟩ = some (.int .i64 y0) ∧ w'.cell? ⟨b, off + k * 4 + 1, none⟩ = some (.int .i64 y1) ∧ w'.cell? ⟨b, off + k * 4 + 2, none⟩ = some (.int .i64 y2) ∧ w'.cell? ⟨b, off + k * 4 + 3, none⟩ = some (.int .i64 y3) ∧ w'.cell? ⟨b', off' + k * 4, none⟩ = some (.int .i64 y0) ∧ w'.cell? ⟨b', off' + k * 4 + 1, none⟩ = some (.int .i64 y1) ∧ w'.cell? ⟨b', off' + k * 4 + 2, none⟩ = some (.int .i64 y2) ∧ w'.cell? ⟨b', off' + k * 4 + 3, none⟩ = some (.int .i64 y3)) (exact HS.out _ (by repeat' (first | (with_reducible exact Below.refl _ _) | (with_reducible assumption) | (with_reducible refine Below.alloc ?_ ?_ _) | (with_reducible refine Below.setCell ?_ ?_ _) | (with_reducible refine Below.drew ?_) | (with_reducible refine below_drewN ?_ _) | (with_reducible refine below_via (by with_reducible assumption) ?_ ?_) | go_size))) ((go_at_call 22; refine (eqFinderX _ _ _ _ _).mono ?_; rintro e w2 ⟨rfl, hb2⟩; have hz2 := hb2.size))
      go_wp2
      go_roundw
      case rel => exact ⟨k + 1, by omega, by go_num, by repeat' (first | (with_reducible exact Below.refl _ _) | (with_reducible assumption) | (with_reducible refine Below.alloc ?_ ?_ _) | (with_reducible refine Below.setCell ?_ ?_ _) | (with_reducible refine Below.drew ?_) | (with_reducible refine below_drewN ?_ _) | (with_reducible refine below_via (by with_reducible assumption) ?_ ?_) | go_size)⟩
      case measure => simp [intOf]; omega
    · go_wp2
      go_returns
      exact ⟨rfl, hbel⟩
def MarkedFin (w : World) (base : Nat) (a : Option Addr) (n c : Nat) (kk : Int) (e : Ending) (w' : World) : Prop :=
  e = .returned (.int .i64 (kk + 4 * n)) ∧ w'.ownsRow base 42 4 (.slice a n c) n (finV (markFin kk n)) ∧ w.grownBy w' (Value.slice a n c).ownBlock
set_option maxHeartbeats 2000000 in
theorem markFinS (a : Option Addr) (n c base : Nat) (L : List F4) (kk : Int) (w : World) (h : w.ownsRow base 42 4 (.slice a n c) n (finV L)) (hn : n ≤ 1048576) (hk0 : 0 ≤ kk) (hk2 : kk ≤ 1048576) :
    Calls Try.prog 12 #[.slice a n c, .int .i64 kk] w (MarkedFin w base a n c kk) := by
  have hl : L.length = n := by have := h.1; rw [finV_length] at this; omega
  rcases Nat.eq_zero_or_pos n with h0 | h0
  · have h1 : n ≤ 0 := by omega
    have H := Lib.hid h
    have E : Hid (markFin kk n = L ∧ (n : Int) = 0) := ⟨by subst h0; rw [List.eq_nil_of_length_eq_zero hl]; rfl, by omega⟩
    clear h h0 hl
    go_enter Try.func12, Try.ntmps12
    go_wp2
    refine wp_loop_rounds 1 ?_; rw [rounds_succ]
    go_wp2
    go_returns
    exact ⟨ret_int (by rw [E.out.2]; omega), by rw [E.out.1]; exact H.out, World.grownBy.refl w _⟩
  · obtain ⟨g, rfl⟩ : ∃ g, a = some ⟨g, 0, none⟩ := by
      rcases h.2 with ⟨_, h2⟩ | ⟨g, cap, cur, hv, _⟩
      · omega
      · injection hv with hv1; exact ⟨g, hv1⟩
    have HL := Lib.hid hl
    have HO := Lib.hid h
    clear hl h
    go_enter Try.func12, Try.ntmps12
    go_wp2
    go_loopw [1, 5] (fun q i wr => ∃ k : Nat, k ≤ n ∧ i = .int .i64 k ∧ q = .int .i64 (kk + 4 * (k : Int)) ∧ wr.ownsRow base 42 4 (.slice (some ⟨g, 0, none⟩) n c) n (finV (halfFin kk L k)) ∧ w.grownBy wr (some g)) (fun _ i _ => n - (intOf i).toNat)
    case atStart => exact ⟨0, Nat.zero_le _, rfl, by simp, by rw [halfFin_zero]; exact HO.out, World.grownBy.refl w _⟩
    case round =>
      obtain ⟨k, hk, rfl, rfl, hown, hgr⟩ := hrel
      by_cases hlt : k < n
      · have hlen : (halfFin kk L k).length = n := by rw [halfFin_length _ _ _ (by rw [HL.out]; exact hk), HL.out]
        have HZ : Hid (∀ i, i < 4 → wr.frozen? ⟨g, k * 4 + i, none⟩ = false) := fun i _ => hown.frozenAt _
        obtain ⟨b, off, e, _, c0, c1, c2, c3⟩ := (own_rdV hown).fin hlt
        injection e with e
        injection e with e1 e2
        subst e1 e2
        simp only [Nat.zero_add] at c0 c1 c2 c3
        have f0 : wr.frozen? ⟨g, k * 4, none⟩ = false := HZ.out 0 (by decide)
        have f1 : wr.frozen? ⟨g, k * 4 + 1, none⟩ = false := HZ.out 1 (by decide)
        have f2 : wr.frozen? ⟨g, k * 4 + 2, none⟩ = false := HZ.out 2 (by decide)
        have f3 : wr.frozen? ⟨g, k * 4 + 3, none⟩ = false := HZ.out 3 (by decide)
        generalize hv0 : ((halfFin kk L k).getD k (0, 0, 0, 0)).1 = y0 at c0
        generalize hv1 : ((halfFin kk L k).getD k (0, 0, 0, 0)).2.1 = y1 at c1
        generalize hv2 : ((halfFin kk L k).getD k (0, 0, 0, 0)).2.2.1 = y2 at c2
        generalize hv3 : ((halfFin kk L k).getD k (0, 0, 0, 0)).2.2.2 = y3 at c3
        clear hv0 hv1 hv2 hv3
        have HN : Hid (∀ (x0 : Int) (x1 : Int) (x2 : Int) (x3 : Int), x0 = kk + 4 * (k : Int) → x1 = kk + 4 * (k : Int) + 1 → x2 = kk + 4 * (k : Int) + 2 → x3 = kk + 4 * (k : Int) + 3 → ((((wr.setCell ⟨g, k * 4, none⟩ (.int .i64 x0)).setCell ⟨g, k * 4 + 1, none⟩ (.int .i64 x1)).setCell ⟨g, k * 4 + 2, none⟩ (.int .i64 x2)).setCell ⟨g, k * 4 + 3, none⟩ (.int .i64 x3)).ownsRow base 42 4 (.slice (some ⟨g, 0, none⟩) n c) n (finV (halfFin kk L (k + 1))) ∧ w.grownBy ((((wr.setCell ⟨g, k * 4, none⟩ (.int .i64 x0)).setCell ⟨g, k * 4 + 1, none⟩ (.int .i64 x1)).setCell ⟨g, k * 4 + 2, none⟩ (.int .i64 x2)).setCell ⟨g, k * 4 + 3, none⟩ (.int .i64 x3)) (some g)) := by
          intro x0 x1 x2 x3 ex0 ex1 ex2 ex3
          have s0 := (hown.stored (k * 4) (.int .i64 x0)).1
          have s1 := (s0.stored (k * 4 + 1) (.int .i64 x1)).1
          have s2 := (s1.stored (k * 4 + 2) (.int .i64 x2)).1
          have s3 := (s2.stored (k * 4 + 3) (.int .i64 x3)).1
          obtain ⟨e1, e2⟩ := halfFin_step kk L k (by rw [HL.out]; exact hlt)
          have e3 := Fin_sets (markFin kk k) (L.drop (k + 1)) (L[k]'(by rw [HL.out]; exact hlt)) x0 x1 x2 x3
          rw [markFin_length, ← e1] at e3
          rw [e3, ex0, ex1, ex2, ex3, ← e2] at s3
          subst ex0 ex1 ex2 ex3
          exact ⟨s3, (only_setCell (only_setCell (only_setCell (only_setCell hgr _) _) _) _)⟩
        clear hown hlen
        go_wp2
        go_roundw
        case rel => exact ⟨k + 1, by omega, by go_num, by go_num, (HN.out _ _ _ _ (by omega) (by omega) (by omega) (by omega)).1, (HN.out _ _ _ _ (by omega) (by omega) (by omega) (by omega)).2⟩
        case measure => simp [intOf]; omega
      · have hke : k = n := by omega
        have HJ := Lib.hid hke
        clear hke
        go_wp2
        go_returns
        refine ⟨ret_int (by rw [HJ.out]), ?_, hgr⟩
        have e := halfFin_all kk L
        rw [HL.out, ← HJ.out] at e
        rw [e, HJ.out] at hown
        exact hown
set_option maxHeartbeats 2000000 in
theorem heldFinS (a : Option Addr) (n c : Nat) (kk : Int) (w : World) (h : RdV w a 4 n (finV (markFin kk n))) (hn : n ≤ 1048576) (hk0 : 0 ≤ kk) (hk2 : kk ≤ 1048576) :
    Calls Try.prog 13 #[.slice a n c, .int .i64 kk] w fun e w' => e = .returned (.int .i64 (kk + 4 * n)) ∧ Below w.heap.size w w' := by
  have HH := Lib.hid h
  clear h
  go_enter Try.func13, Try.ntmps13
  go_wp2
  go_loopw [1, 5] (fun q i wr => ∃ k : Nat, k ≤ n ∧ i = .int .i64 k ∧ q = .int .i64 (kk + 4 * (k : Int)) ∧ Below w.heap.size w wr) (fun _ i _ => n - (intOf i).toNat)
  case atStart => exact ⟨0, Nat.zero_le _, rfl, by simp, by repeat' (first | (with_reducible exact Below.refl _ _) | (with_reducible assumption) | (with_reducible refine Below.alloc ?_ ?_ _) | (with_reducible refine Below.setCell ?_ ?_ _) | (with_reducible refine Below.drew ?_) | (with_reducible refine below_drewN ?_ _) | (with_reducible refine below_via (by with_reducible assumption) ?_ ?_) | go_size)⟩
  case round =>
    obtain ⟨k, hk, rfl, rfl, hbel⟩ := hrel
    by_cases hlt : k < n
    · obtain ⟨b, off, rfl, hb, c0, c1, c2, c3⟩ := (HH.out.below hbel).fin hlt
      rw [markFin_get _ _ _ hlt] at c0 c1 c2 c3
      simp only at c0 c1 c2 c3
      have k0 : (0 : Int) ≤ (k : Int) := Int.natCast_nonneg _
      have k1 : (k : Int) < (n : Int) := by omega
      have kb0 : ((kk + 4 * (k : Int)) != (kk + 4 * (k : Int))) = false := by rw [bne_eq_false_iff_eq]
      have kb1 : ((kk + 4 * (k : Int) + 1) != (kk + 4 * (k : Int) + 1)) = false := by rw [bne_eq_false_iff_eq]
      have kb2 : ((kk + 4 * (k : Int) + 2) != (kk + 4 * (k : Int) + 1 + 1)) = false := by rw [bne_eq_false_iff_eq]; omega
      have kb3 : ((kk + 4 * (k : Int) + 3) != (kk + 4 * (k : Int) + 1 + 1 + 1)) = false := by rw [bne_eq_false_iff_eq]; omega
      go_wp2
      go_roundw
      case rel => exact ⟨k + 1, by omega, by go_num, by go_num, by repeat' (first | (with_reducible exact Below.refl _ _) | (with_reducible assumption) | (with_reducible refine Below.alloc ?_ ?_ _) | (with_reducible refine Below.setCell ?_ ?_ _) | (with_reducible refine Below.drew ?_) | (with_reducible refine below_drewN ?_ _) | (with_reducible refine below_via (by with_reducible assumption) ?_ ?_) | go_size)⟩
      case measure => simp [intOf]; omega
    · have hke : k = n := by omega
      have HJ := Lib.hid hke
      clear hke
      go_wp2
      go_returns
      exact ⟨ret_int (by rw [HJ.out]), hbel⟩
end Go.Proofs.Ytcpicgcdefnhaaa
