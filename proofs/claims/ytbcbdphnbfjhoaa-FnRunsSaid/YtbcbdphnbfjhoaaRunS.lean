/-
  DERIVED. The laws' helpers on slices of runs.
-/
import Derived.Test.YtbcbdphnbfjhoaaOwnN
import Derived.Conc.MuLone
import Derived.BigQuiet
import Derived.Deep.RegionHeld3
namespace Go.Proofs.Ytbcbdphnbfjhoaa
open Go.RowKit
set_option linter.unusedVariables false
theorem Run_sets (L1 L2 : List R3) (y : R3) (a : Int) (b : Int) (c : Bool) : ((((runV (L1 ++ y :: L2)).set (L1.length * 3) (.int .i64 a)).set (L1.length * 3 + 1) (.int .i64 b)).set (L1.length * 3 + 2) (.bool c)) = runV (L1 ++ (a, b, c) :: L2) := by
  have e : ∀ x : R3, runV (L1 ++ x :: L2) = runV L1 ++ (runCell x ++ runV L2) := fun x => by simp [runV]
  have l : (runV L1).length = L1.length * 3 := runV_length L1
  rw [e, e]
  rw [List.set_append_right _ _ (by omega)]
  rw [List.set_append_right _ _ (by omega)]
  rw [List.set_append_right _ _ (by omega)]
  simp [runCell, l]
def markRun (kk : Int) (n : Nat) : List R3 := (List.range n).map fun i : Nat => (kk + 3 * (i : Int), kk + 3 * (i : Int) + 1, true)
theorem markRun_length (kk : Int) (n : Nat) : (markRun kk n).length = n := by simp [markRun]
theorem markRun_get (kk : Int) (n i : Nat) (h : i < n) : (markRun kk n).getD i (0, 0, false) = (kk + 3 * (i : Int), kk + 3 * (i : Int) + 1, true) := by
  simp [markRun, List.getD_eq_getElem?_getD, h]
def halfRun (kk : Int) (L : List R3) (j : Nat) : List R3 := markRun kk j ++ L.drop j
theorem halfRun_zero (kk : Int) (L : List R3) : halfRun kk L 0 = L := by simp [halfRun, markRun]
theorem halfRun_all (kk : Int) (L : List R3) : halfRun kk L L.length = markRun kk L.length := by simp [halfRun]
theorem halfRun_length (kk : Int) (L : List R3) (j : Nat) (h : j ≤ L.length) : (halfRun kk L j).length = L.length := by simp [halfRun, markRun]; omega
theorem halfRun_step (kk : Int) (L : List R3) (i : Nat) (h : i < L.length) : halfRun kk L i = markRun kk i ++ L[i] :: L.drop (i + 1) ∧ halfRun kk L (i + 1) = markRun kk i ++ (kk + 3 * (i : Int), kk + 3 * (i : Int) + 1, true) :: L.drop (i + 1) := by
  refine ⟨by rw [halfRun, List.drop_eq_getElem_cons h], ?_⟩
  simp [halfRun, markRun, List.range_succ]
set_option maxHeartbeats 1000000 in
theorem eqRunX (y0 : Int) (y1 : Int) (y2 : Bool) (w : World) : Calls Try.prog 66 #[.agg #[.int .i64 y0, .int .i64 y1, .bool y2], .agg #[.int .i64 y0, .int .i64 y1, .bool y2]] w fun e w' => e = .returned (.bool true) ∧ Below w.heap.size w w' := by
  go_enter Try.func66, Try.ntmps66
  go_wp2
  go_returns
  exact ⟨rfl, by repeat' (first | (with_reducible exact Below.refl _ _) | (with_reducible assumption) | (with_reducible refine Below.alloc ?_ ?_ _) | (with_reducible refine Below.setCell ?_ ?_ _) | (with_reducible refine Below.drew ?_) | (with_reducible refine below_drewN ?_ _) | (with_reducible refine below_via (by with_reducible assumption) ?_ ?_) | go_size)⟩
set_option maxHeartbeats 2000000 in
theorem eqRunT (a a' : Option Addr) (n c c' : Nat) (L : List R3) (w : World) (h : RdV w a 3 n (runV L)) (h' : RdV w a' 3 n (runV L)) (hn : n ≤ 1048576) :
    Calls Try.prog 23 #[.slice a n c, .slice a' n c'] w fun e w' => e = .returned (.bool true) ∧ Below w.heap.size w w' := by
  have HH := Lib.hid h
  have HH' := Lib.hid h'
  clear h h'
  go_enter Try.func23, Try.ntmps23
  go_wp2
  go_loopw [5] (fun i wr => ∃ k : Nat, k ≤ n ∧ i = .int .i64 k ∧ Below w.heap.size w wr) (fun i _ => n - (intOf i).toNat)
  case atStart => exact ⟨0, Nat.zero_le _, rfl, by repeat' (first | (with_reducible exact Below.refl _ _) | (with_reducible assumption) | (with_reducible refine Below.alloc ?_ ?_ _) | (with_reducible refine Below.setCell ?_ ?_ _) | (with_reducible refine Below.drew ?_) | (with_reducible refine below_drewN ?_ _) | (with_reducible refine below_via (by with_reducible assumption) ?_ ?_) | go_size)⟩
  case round =>
    obtain ⟨k, hk, rfl, hbel⟩ := hrel
    have hzz := hbel.size
    by_cases hlt : k < n
    · obtain ⟨b, off, rfl, hb, c0, c1, c2⟩ := (HH.out.below hbel).run hlt
      obtain ⟨b', off', rfl, hb', d0, d1, d2⟩ := (HH'.out.below hbel).run hlt
      generalize hv0 : (L.getD k (0, 0, false)).1 = y0 at c0 d0
      generalize hv1 : (L.getD k (0, 0, false)).2.1 = y1 at c1 d1
      generalize hv2 : (L.getD k (0, 0, false)).2.2 = y2 at c2 d2
      clear hv0 hv1 hv2
      have k0 : (0 : Int) ≤ (k : Int) := Int.natCast_nonneg _
      have k1 : (k : Int) < (n : Int) := by omega
      have HS : Hid (∀ w', Below wr.heap.size wr w' → Below wr.heap.size wr w' ∧ wr.heap.size ≤ w'.heap.size ∧ w'.cell? ⟨b, off + k * 3, none⟩ = some (.int .i64 y0) ∧ w'.cell? ⟨b, off + k * 3 + 1, none⟩ = some (.int .i64 y1) ∧ w'.cell? ⟨b, off + k * 3 + 2, none⟩ = some (.bool y2) ∧ w'.cell? ⟨b', off' + k * 3, none⟩ = some (.int .i64 y0) ∧ w'.cell? ⟨b', off' + k * 3 + 1, none⟩ = some (.int .i64 y1) ∧ w'.cell? ⟨b', off' + k * 3 + 2, none⟩ = some (.bool y2)) := fun w' h => ⟨h, h.size, (h.cell (p := ⟨_, _, none⟩) hb).trans c0, (h.cell (p := ⟨_, _, none⟩) hb).trans c1, (h.cell (p := ⟨_, _, none⟩) hb).trans c2, (h.cell (p := ⟨_, _, none⟩) hb').trans d0, (h.cell (p := ⟨_, _, none⟩) hb').trans d1, (h.cell (p := ⟨_, _, none⟩) hb').trans d2⟩
      go_wp2_with fail
      go_region_held3 (fun w' => Below wr.heap.size wr w' ∧ wr.heap.size ≤ w'.heap.size ∧ w'.cell? ⟨b, off + k * 3, none⟩ = some (.int .i64 y0) ∧ w'.cell? ⟨b, off + k * 3 + 1, none⟩ = some (.int .i64 y1) ∧ w'.cell? ⟨b, off + k * 3 + 2, none⟩ = some (.bool y2) ∧ w'.cell? ⟨b', off' + k * 3, none⟩ = some (.int .i64 y0) ∧ w'.cell? ⟨b', off' + k * 3 + 1, none⟩ = some (.int .i64 y1) ∧ w'.cell? ⟨b', off' + k * 3 + 2, none⟩ = some (.bool y2)) (exact HS.out _ (by repeat' (first | (with_reducible exact Below.refl _ _) | (with_reducible assumption) | (with_reducible refine Below.alloc ?_ ?_ _) | (with_reducible refine Below.setCell ?_ ?_ _) | (with_reducible refine Below.drew ?_) | (with_reducible refine below_drewN ?_ _) | (with_reducible refine below_via (by with_reducible assumption) ?_ ?_) | go_size))) ((go_at_call 66; refine (eqRunX _ _ _ _).mono ?_; rintro e w2 ⟨rfl, hb2⟩; have hz2 := hb2.size))
      go_wp2
      go_roundw
      case rel => exact ⟨k + 1, by omega, by go_num, by repeat' (first | (with_reducible exact Below.refl _ _) | (with_reducible assumption) | (with_reducible refine Below.alloc ?_ ?_ _) | (with_reducible refine Below.setCell ?_ ?_ _) | (with_reducible refine Below.drew ?_) | (with_reducible refine below_drewN ?_ _) | (with_reducible refine below_via (by with_reducible assumption) ?_ ?_) | go_size)⟩
      case measure => simp [intOf]; omega
    · go_wp2
      go_returns
      exact ⟨rfl, hbel⟩
def MarkedRun (w : World) (base : Nat) (a : Option Addr) (n c : Nat) (kk : Int) (e : Ending) (w' : World) : Prop :=
  e = .returned (.int .i64 (kk + 3 * n)) ∧ w'.ownsRow base 77 3 (.slice a n c) n (runV (markRun kk n)) ∧ w.grownBy w' (Value.slice a n c).ownBlock
set_option maxHeartbeats 2000000 in
theorem markRunS (a : Option Addr) (n c base : Nat) (L : List R3) (w : World) (h : w.ownsRow base 77 3 (.slice a n c) n (runV L)) (hn : n ≤ 1048576) :
    Calls Try.prog 26 #[.slice a n c, .int .i64 1] w (MarkedRun w base a n c 1) := by
  have hl : L.length = n := by have := h.1; rw [runV_length] at this; omega
  rcases Nat.eq_zero_or_pos n with h0 | h0
  · have h1 : n ≤ 0 := by omega
    have H := Lib.hid h
    have E : Hid (markRun 1 n = L ∧ (n : Int) = 0) := ⟨by subst h0; rw [List.eq_nil_of_length_eq_zero hl]; rfl, by omega⟩
    clear h h0 hl
    go_enter Try.func26, Try.ntmps26
    go_wp2
    refine wp_loop_rounds 1 ?_; rw [rounds_succ]
    go_wp2
    go_returns
    exact ⟨ret_int (by rw [E.out.2]; omega), by rw [E.out.1]; exact H.out, World.grownBy.refl w _⟩
  · obtain ⟨g, rfl⟩ : ∃ g, a = some ⟨g, 0, none⟩ := by
      rcases h.2 with ⟨_, h2⟩ | ⟨g, cap, cur, hv, _⟩
      · omega
      · injection hv with hv1; exact ⟨g, hv1⟩
    have HL := Lib.hid hl
    have HO := Lib.hid h
    clear hl h
    go_enter Try.func26, Try.ntmps26
    go_wp2
    go_loopw [1, 5] (fun q i wr => ∃ k : Nat, k ≤ n ∧ i = .int .i64 k ∧ q = .int .i64 (1 + 3 * (k : Int)) ∧ wr.ownsRow base 77 3 (.slice (some ⟨g, 0, none⟩) n c) n (runV (halfRun 1 L k)) ∧ w.grownBy wr (some g)) (fun _ i _ => n - (intOf i).toNat)
    case atStart => exact ⟨0, Nat.zero_le _, rfl, by simp, by rw [halfRun_zero]; exact HO.out, World.grownBy.refl w _⟩
    case round =>
      obtain ⟨k, hk, rfl, rfl, hown, hgr⟩ := hrel
      by_cases hlt : k < n
      · have hlen : (halfRun 1 L k).length = n := by rw [halfRun_length _ _ _ (by rw [HL.out]; exact hk), HL.out]
        have HZ : Hid (∀ i, i < 3 → wr.frozen? ⟨g, k * 3 + i, none⟩ = false) := fun i _ => hown.frozenAt _
        obtain ⟨b, off, e, _, c0, c1, c2⟩ := (own_rdV hown).run hlt
        injection e with e
        injection e with e1 e2
        subst e1 e2
        simp only [Nat.zero_add] at c0 c1 c2
        have f0 : wr.frozen? ⟨g, k * 3, none⟩ = false := HZ.out 0 (by decide)
        have f1 : wr.frozen? ⟨g, k * 3 + 1, none⟩ = false := HZ.out 1 (by decide)
        have f2 : wr.frozen? ⟨g, k * 3 + 2, none⟩ = false := HZ.out 2 (by decide)
        generalize hv0 : ((halfRun 1 L k).getD k (0, 0, false)).1 = y0 at c0
        generalize hv1 : ((halfRun 1 L k).getD k (0, 0, false)).2.1 = y1 at c1
        generalize hv2 : ((halfRun 1 L k).getD k (0, 0, false)).2.2 = y2 at c2
        clear hv0 hv1 hv2
        have HN : Hid (∀ (x0 : Int) (x1 : Int) (x2 : Bool), x0 = 1 + 3 * (k : Int) → x1 = 1 + 3 * (k : Int) + 1 → x2 = true → (((wr.setCell ⟨g, k * 3, none⟩ (.int .i64 x0)).setCell ⟨g, k * 3 + 1, none⟩ (.int .i64 x1)).setCell ⟨g, k * 3 + 2, none⟩ (.bool x2)).ownsRow base 77 3 (.slice (some ⟨g, 0, none⟩) n c) n (runV (halfRun 1 L (k + 1))) ∧ w.grownBy (((wr.setCell ⟨g, k * 3, none⟩ (.int .i64 x0)).setCell ⟨g, k * 3 + 1, none⟩ (.int .i64 x1)).setCell ⟨g, k * 3 + 2, none⟩ (.bool x2)) (some g)) := by
          intro x0 x1 x2 ex0 ex1 ex2
          have s0 := (hown.stored (k * 3) (.int .i64 x0)).1
          have s1 := (s0.stored (k * 3 + 1) (.int .i64 x1)).1
          have s2 := (s1.stored (k * 3 + 2) (.bool x2)).1
          obtain ⟨e1, e2⟩ := halfRun_step 1 L k (by rw [HL.out]; exact hlt)
          have e3 := Run_sets (markRun 1 k) (L.drop (k + 1)) (L[k]'(by rw [HL.out]; exact hlt)) x0 x1 x2
          rw [markRun_length, ← e1] at e3
          rw [e3, ex0, ex1, ex2, ← e2] at s2
          subst ex0 ex1 ex2
          exact ⟨s2, (only_setCell (only_setCell (only_setCell hgr _) _) _)⟩
        clear hown hlen
        have k0 : (0 : Int) ≤ (k : Int) := Int.natCast_nonneg _
        have hm3 : (1 + 3 * (k : Int) + 1 + 1) % 3 = 0 := by omega
        go_wp2
        go_roundw
        case rel => exact ⟨k + 1, by omega, by go_num, by go_num, (HN.out _ _ _ (by omega) (by omega) rfl).1, (HN.out _ _ _ (by omega) (by omega) rfl).2⟩
        case measure => simp [intOf]; omega
      · have hke : k = n := by omega
        have HJ := Lib.hid hke
        clear hke
        go_wp2
        go_returns
        refine ⟨ret_int (by rw [HJ.out]), ?_, hgr⟩
        have e := halfRun_all 1 L
        rw [HL.out, ← HJ.out] at e
        rw [e, HJ.out] at hown
        exact hown
set_option maxHeartbeats 2000000 in
theorem heldRunS (a : Option Addr) (n c : Nat) (w : World) (h : RdV w a 3 n (runV (markRun 1 n))) (hn : n ≤ 1048576) :
    Calls Try.prog 27 #[.slice a n c, .int .i64 1] w fun e w' => e = .returned (.int .i64 (1 + 3 * n)) ∧ Below w.heap.size w w' := by
  have HH := Lib.hid h
  clear h
  go_enter Try.func27, Try.ntmps27
  go_wp2
  go_loopw [1, 5] (fun q i wr => ∃ k : Nat, k ≤ n ∧ i = .int .i64 k ∧ q = .int .i64 (1 + 3 * (k : Int)) ∧ Below w.heap.size w wr) (fun _ i _ => n - (intOf i).toNat)
  case atStart => exact ⟨0, Nat.zero_le _, rfl, by simp, by repeat' (first | (with_reducible exact Below.refl _ _) | (with_reducible assumption) | (with_reducible refine Below.alloc ?_ ?_ _) | (with_reducible refine Below.setCell ?_ ?_ _) | (with_reducible refine Below.drew ?_) | (with_reducible refine below_drewN ?_ _) | (with_reducible refine below_via (by with_reducible assumption) ?_ ?_) | go_size)⟩
  case round =>
    obtain ⟨k, hk, rfl, rfl, hbel⟩ := hrel
    by_cases hlt : k < n
    · obtain ⟨b, off, rfl, hb, c0, c1, c2⟩ := (HH.out.below hbel).run hlt
      rw [markRun_get _ _ _ hlt] at c0 c1 c2
      simp only at c0 c1 c2
      have k0 : (0 : Int) ≤ (k : Int) := Int.natCast_nonneg _
      have k1 : (k : Int) < (n : Int) := by omega
      have kb0 : ((1 + 3 * (k : Int)) != (1 + 3 * (k : Int))) = false := by rw [bne_eq_false_iff_eq]
      have kb1 : ((1 + 3 * (k : Int) + 1) != (1 + 3 * (k : Int) + 1)) = false := by rw [bne_eq_false_iff_eq]
      have hm3 : (1 + 3 * (k : Int) + 1 + 1) % 3 = 0 := by omega
      go_wp2
      go_roundw
      case rel => exact ⟨k + 1, by omega, by go_num, by go_num, by repeat' (first | (with_reducible exact Below.refl _ _) | (with_reducible assumption) | (with_reducible refine Below.alloc ?_ ?_ _) | (with_reducible refine Below.setCell ?_ ?_ _) | (with_reducible refine Below.drew ?_) | (with_reducible refine below_drewN ?_ _) | (with_reducible refine below_via (by with_reducible assumption) ?_ ?_) | go_size)⟩
      case measure => simp [intOf]; omega
    · have hke : k = n := by omega
      have HJ := Lib.hid hke
      clear hke
      go_wp2
      go_returns
      exact ⟨ret_int (by rw [HJ.out]), hbel⟩
end Go.Proofs.Ytbcbdphnbfjhoaa
