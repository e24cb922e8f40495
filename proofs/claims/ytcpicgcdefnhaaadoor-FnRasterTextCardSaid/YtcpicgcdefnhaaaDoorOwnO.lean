/-
  DERIVED. Numbers of the call's own behind the head of a row ('list[2:]'); marking them.
-/
import Derived.Test.YtcpicgcdefnhaaaDoorRast
namespace Go.Proofs.YtcpicgcdefnhaaaDoor
open Go.RowKit
set_option linter.unusedVariables false
/-- A slice of numbers that lies behind o cells of a row of the call's own. -/
def OwnO (w : World) (base : Nat) (a : Option Addr) (n : Nat) (zs : List Int) : Prop :=
  zs.length = n ∧ ((a = none ∧ n = 0) ∨ ∃ (g o cp : Nat) (pre : List Int), a = some ⟨g, o, none⟩ ∧ pre.length = o ∧ w.ownsRow base 2 1 (.slice (some ⟨g, 0, none⟩) (o + n) cp) (o + n) ((pre ++ zs).map (Value.int .i64)))
theorem OwnO.of {w : World} {base n c : Nat} {a : Option Addr} {zs : List Int} (h : w.ownsRow base 2 1 (.slice a n c) n (zs.map (Value.int .i64))) : OwnO w base a n zs := by
  have hl : zs.length = n := by simpa using h.1
  refine ⟨hl, ?_⟩
  rcases h.2 with ⟨hv, h0⟩ | ⟨g, cap, cur, hv, r⟩
  · injection hv with h1
    exact .inl ⟨h1, h0⟩
  · have hv2 := hv
    injection hv with h1 h2 h3
    subst h1 h3
    refine .inr ⟨g, 0, c, [], rfl, rfl, ?_⟩
    rw [Nat.zero_add, List.nil_append]
    exact h
theorem OwnO.below {w w' : World} {base n : Nat} {a : Option Addr} {zs : List Int} (h : OwnO w base a n zs) (hb : Below w.heap.size w w') : OwnO w' base a n zs := by
  refine ⟨h.1, ?_⟩
  rcases h.2 with h0 | ⟨g, o, cp, pre, e, hp, ho⟩
  · exact .inl h0
  · exact .inr ⟨g, o, cp, pre, e, hp, ownN_below ho hb⟩
theorem OwnO.mono {w : World} {base b2 n : Nat} {a : Option Addr} {zs : List Int} (h : OwnO w base a n zs) (hb : b2 ≤ base) : OwnO w b2 a n zs := by
  refine ⟨h.1, ?_⟩
  rcases h.2 with h0 | ⟨g, o, cp, pre, e, hp, ho⟩
  · exact .inl h0
  · exact .inr ⟨g, o, cp, pre, e, hp, ownN_mono ho hb⟩
theorem OwnO.block {w : World} {base n c : Nat} {a : Option Addr} {zs : List Int} (h : OwnO w base a n zs) : ∀ k, (Value.slice a n c).ownBlock = some k → base ≤ k ∧ k < w.heap.size := by
  intro k hk
  rcases h.2 with ⟨rfl, _⟩ | ⟨g, o, cp, pre, rfl, hp, ho⟩
  · simp [Value.ownBlock] at hk
  · exact ho.lt k (by simpa [Value.ownBlock] using hk)
theorem OwnO.rd {w : World} {base n : Nat} {a : Option Addr} {zs : List Int} (h : OwnO w base a n zs) : Rd w a n zs := by
  refine ⟨h.1, fun hn => ?_⟩
  rcases h.2 with ⟨_, h0⟩ | ⟨g, o, cp, pre, rfl, hp, ho⟩
  · omega
  · obtain ⟨_, h2⟩ := own_rd ho
    obtain ⟨b, off, e, hlt, hc⟩ := h2 (by omega)
    injection e with e
    injection e with e1 e2
    subst e1 e2
    refine ⟨g, o, rfl, hlt, fun i hi => ?_⟩
    have h3 := hc (o + i) (by omega)
    rw [Nat.zero_add] at h3
    rw [h3, List.getD_eq_getElem?_getD, List.getElem?_append_right (by omega), hp, Nat.add_sub_cancel_left, List.getD_eq_getElem?_getD]
theorem OwnO.nil (w : World) (base : Nat) : OwnO w base none 0 [] := ⟨rfl, .inl ⟨rfl, rfl⟩⟩
set_option maxHeartbeats 2000000 in
theorem markIntsO (a : Option Addr) (n c base : Nat) (xs : List Int) (k : Int) (w : World) (h : OwnO w base a n xs) (hn : n ≤ 1048576) (hk : 0 ≤ k) (hk2 : k ≤ 1048576) :
    Calls Tryd.prog 30 #[.slice a n c, .int .i64 k] w fun e w' => e = .returned (.int .i64 (k + n)) ∧ OwnO w' base a n (markL k n) ∧ w.grownBy w' (Value.slice a n c).ownBlock := by
  have hl := h.1
  rcases Nat.eq_zero_or_pos n with h0 | h0
  · have h1 : n ≤ 0 := by omega
    have H := Lib.hid h
    have E : Hid (markL k n = xs ∧ (n : Int) = 0) := ⟨by subst h0; rw [List.eq_nil_of_length_eq_zero hl]; rfl, by omega⟩
    clear h h0 hl
    go_enter Tryd.func30, Tryd.ntmps30
    go_wp2
    refine wp_loop_rounds 1 ?_; rw [rounds_succ]
    go_wp2
    go_returns
    exact ⟨ret_int (by rw [E.out.2]; omega), by rw [E.out.1]; exact H.out, World.grownBy.refl w _⟩
  · obtain ⟨g, o, cp, pre, rfl, hp, ho⟩ : ∃ (g o cp : Nat) (pre : List Int), a = some ⟨g, o, none⟩ ∧ pre.length = o ∧ w.ownsRow base 2 1 (.slice (some ⟨g, 0, none⟩) (o + n) cp) (o + n) ((pre ++ xs).map (Value.int .i64)) := by
      rcases h.2 with ⟨_, h2⟩ | h2
      · omega
      · exact h2
    have HL := Lib.hid hl
    have HP := Lib.hid hp
    have HO := Lib.hid ho
    clear hl h ho hp
    go_enter Tryd.func30, Tryd.ntmps30
    go_wp2
    go_loopw [1, 5] (fun q i wr => ∃ j : Nat, j ≤ n ∧ i = .int .i64 j ∧ q = .int .i64 (k + j) ∧ wr.ownsRow base 2 1 (.slice (some ⟨g, 0, none⟩) (o + n) cp) (o + n) ((pre ++ halfL k xs j).map (Value.int .i64)) ∧ w.grownBy wr (some g)) (fun _ i _ => n - (intOf i).toNat)
    case atStart => exact ⟨0, Nat.zero_le _, rfl, by simp, by rw [halfL_zero]; exact HO.out, World.grownBy.refl w _⟩
    case round =>
      obtain ⟨j, hj, rfl, rfl, hown, hgr⟩ := hrel
      by_cases hlt : j < n
      · have hlen : (halfL k xs j).length = n := by rw [halfL_length _ _ _ (by rw [HL.out]; exact hj), HL.out]
        have hy : wr.cell? ⟨g, o + j, none⟩ = some (.int .i64 ((halfL k xs j).getD j 0)) := by
          rw [hown.cellAt (o + j) (by omega)]
          have hj2 : j < (halfL k xs j).length := by omega
          rw [List.getElem?_map, List.getElem?_append_right (by rw [HP.out]; omega), HP.out, Nat.add_sub_cancel_left, List.getElem?_eq_getElem hj2, List.getD_eq_getElem?_getD, List.getElem?_eq_getElem hj2]
          rfl
        have hz : wr.frozen? ⟨g, o + j, none⟩ = false := hown.frozenAt (o + j)
        have HN : Hid ((wr.setCell ⟨g, o + j, none⟩ (.int .i64 (k + j))).ownsRow base 2 1 (.slice (some ⟨g, 0, none⟩) (o + n) cp) (o + n) ((pre ++ halfL k xs (j + 1)).map (Value.int .i64))) := by
          have := (hown.stored (o + j) (.int .i64 (k + j))).1
          rw [← List.map_set, List.set_append_right _ _ (by rw [HP.out]; omega), HP.out, Nat.add_sub_cancel_left, halfL_set _ _ _ (by rw [HL.out]; exact hlt)] at this
          exact this
        have HG : Hid (w.grownBy (wr.setCell ⟨g, o + j, none⟩ (.int .i64 (k + j))) (some g)) := only_setCell hgr _
        generalize hyv : (halfL k xs j).getD j 0 = y at hy
        clear hyv hown hgr hlen
        go_wp2
        go_roundw
        case rel => exact ⟨j + 1, by omega, by go_num, by go_num, HN.out, HG.out⟩
        case measure => simp [intOf]; omega
      · have hje : j = n := by omega
        have HJ := Lib.hid hje
        have hje2 : (n : Int) ≤ (j : Int) := by omega
        have HO2 := Lib.hid hown
        have HG2 := Lib.hid hgr
        clear hje hown hgr hlt
        go_wp2
        go_returns
        have hml : halfL k xs n = markL k n := by
          have e := halfL_all k xs
          rw [HL.out] at e
          exact e
        exact ⟨ret_int (by rw [HJ.out]), ⟨by simp [markL], .inr ⟨g, o, cp, pre, rfl, HP.out, by have h := HO2.out; rw [HJ.out, hml] at h; exact h⟩⟩, HG2.out⟩
set_option maxHeartbeats 1000000 in
theorem markRastO (r c : Int) (a : Option Addr) (n cp base : Nat) (xs : List Int) (w : World) (h : OwnO w base a n xs) (hn : n ≤ 1048576) :
    Calls Tryd.prog 9 #[.agg #[.int .i64 r, .int .i64 c, .slice a n cp], .int .i64 1] w fun e w' =>
      e = .returned (.int .i64 (1 + n)) ∧ OwnO w' base a n (markL 1 n) ∧ w.grownBy w' (Value.slice a n cp).ownBlock := by
  have HH := Lib.hid h
  clear h
  go_enter Tryd.func9, Tryd.ntmps9
  go_wp2_with fail
  refine (markIntsO a n cp base xs 1 _ (HH.out.below ((Below.refl _ _).alloc (Nat.le_refl _) _)) hn (by omega) (by omega)).mono ?_
  rintro e w1 ⟨rfl, ho, hg⟩
  go_wp2
  go_returns
  exact ⟨rfl, ho, (only_of_below ((Below.refl _ _).alloc (Nat.le_refl _) _) _).trans hg⟩
end Go.Proofs.YtcpicgcdefnhaaaDoor
