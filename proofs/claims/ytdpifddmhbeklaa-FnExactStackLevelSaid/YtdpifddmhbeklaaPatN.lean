/-
  DERIVED. PatM, PatX.
-/
import Derived.Test.YtdpifddmhbeklaaPatJ
import Derived.WideKeyPair
import Derived.Maps.OwnSet
import Derived.Maps.OwnOps
namespace Go.Proofs.Ytdpifddmhbeklaa
open Go.RowKit Go.Maps Go.WideMaps Go.WideShapes
set_option linter.unusedVariables false
theorem arrW : ArrKey Try.prog 132 2 8 := ⟨by kernel_rfl, by kernel_rfl, by kernel_rfl, by kernel_rfl⟩
theorem lawW : Keyed Try.prog 132 := Keyed.of_law arrW.law
def KL (x : List Int) : Lit := .string (keyBytes (x.map (Lit.int .i64)))
def Wf8 (x : List Int) : Prop := x.length = 8 ∧ ∀ y ∈ x, 0 ≤ y ∧ y ≤ 1000
theorem PATS_wf {x : List Int} (h : x ∈ PATS) : Wf8 x := ⟨PATS_row x h, fun y hy => by have := PATS_pos x h y hy; omega⟩
theorem typesW : ∃ m, Try.prog.types.size = m + 1 := by
  exact ⟨Try.prog.types.size - 1, by kernel_rfl⟩
theorem KL_key (x : List Int) : WideAt.IsKeyLit (KL x) := trivial
theorem keyOf8 {x : List Int} (h : Wf8 x) : keyOf Try.prog 132 (.agg (vals x)) = some (KL x) := by
  obtain ⟨hl, hw⟩ := h
  obtain ⟨a0, a1, a2, a3, a4, a5, a6, a7, rfl⟩ := list8 hl
  have w0 := WalkArith.wf_i64 (n := a0) (by have := hw a0 (by simp); omega)
  have w1 := WalkArith.wf_i64 (n := a1) (by have := hw a1 (by simp); omega)
  have w2 := WalkArith.wf_i64 (n := a2) (by have := hw a2 (by simp); omega)
  have w3 := WalkArith.wf_i64 (n := a3) (by have := hw a3 (by simp); omega)
  have w4 := WalkArith.wf_i64 (n := a4) (by have := hw a4 (by simp); omega)
  have w5 := WalkArith.wf_i64 (n := a5) (by have := hw a5 (by simp); omega)
  have w6 := WalkArith.wf_i64 (n := a6) (by have := hw a6 (by simp); omega)
  have w7 := WalkArith.wf_i64 (n := a7) (by have := hw a7 (by simp); omega)
  have he := Try.underlying2
  have A := arrW
  have hkt := A.keyType typesW
  obtain ⟨m, hm⟩ := typesW
  show keyOf _ _ (.agg #[.int .i64 a0, .int .i64 a1, .int .i64 a2, .int .i64 a3, .int .i64 a4, .int .i64 a5, .int .i64 a6, .int .i64 a7]) = _
  unfold keyOf
  simp only [A.hu]
  rw [if_pos (by simp [hkt, Value.formed, A.hu, A.size]), hm]
  unfold Program.keyLits
  simp only [A.hu, Value.cells]
  rw [if_pos (by rw [A.size]; rfl), show List.range 8 = [0, 1, 2, 3, 4, 5, 6, 7] from rfl]
  simp [A.one, Program.keyLits, he, w0, w1, w2, w3, w4, w5, w6, w7, KL]
theorem KL_inj {x y : List Int} (hx : Wf8 x) (hy : Wf8 y) (h : KL x = KL y) : x = y := by
  have h2 := keyOf8 hy
  rw [← h] at h2
  have e := lawW.inj (keyOf8 hx) h2
  have e2 : x.map (Value.int .i64) = y.map (Value.int .i64) := congrArg Array.toList (Value.agg.inj e)
  exact (List.map_inj_right (fun a b h => by injection h)).1 e2
/-- The map when n patterns are in. -/
def idxD : Nat → DataW Nat
  | 0 => .map []
  | n + 1 => (idxD n).put (KL (PATS.getD n [])) (.lit (.int .i64 (n : Int)))
theorem idxD_map : ∀ n, IsMap (idxD n)
  | 0 => isMap_empty
  | n + 1 => (idxD_map n).put _ _
theorem idxD_has {x : List Int} (hx : Wf8 x) : ∀ n, n ≤ 120 → (Maps.has (idxD n) (KL x) = true ↔ ∃ j, j < n ∧ PATS.getD j [] = x)
  | 0, _ => by simp [idxD, Maps.has]
  | n + 1, h => by
    have ih := idxD_has hx n (by omega)
    have hp := PATS_wf (pat_at (i := n) (by omega))
    unfold idxD
    by_cases e : KL x = KL (PATS.getD n [])
    · rw [e, has_put_same (idxD_map n) (KL_key _)]
      exact ⟨fun _ => ⟨n, by omega, (KL_inj hx hp e).symm⟩, fun _ => rfl⟩
    · rw [has_put_other e, ih]
      constructor
      · rintro ⟨j, h1, h2⟩
        exact ⟨j, by omega, h2⟩
      · rintro ⟨j, h1, h2⟩
        rcases Nat.lt_or_ge j n with h3 | h3
        · exact ⟨j, h3, h2⟩
        · obtain rfl : j = n := by omega
          exact absurd (by rw [h2]) e
theorem idxD_at {x : List Int} (hx : Wf8 x) (z : DataW Nat) : ∀ n, n ≤ 120 → ∀ j, j < n → PATS.getD j [] = x → (idxD n).atKey (KL x) z = .lit (.int .i64 (j : Int))
  | 0, _, j, h, _ => absurd h (by omega)
  | n + 1, h, j, hj, he => by
    have hp := PATS_wf (pat_at (i := n) (by omega))
    unfold idxD
    rcases Nat.lt_or_ge j n with h3 | h3
    · rw [atKey_put_other (fun e => ?_)]
      · exact idxD_at hx z n (by omega) j h3 he
      · have e2 := KL_inj hx hp e
        have a := idx_of (i := j) (by omega)
        have b := idx_of (i := n) (by omega)
        rw [he, e2, b] at a
        omega
    · obtain rfl : j = n := by omega
      rw [← he, atKey_put_same (idxD_map j) (KL_key _)]
/-- What the lookup of a pattern brings. -/
theorem idx_look {x : List Int} (hx : Wf8 x) : (Maps.has (idxD 120) (KL x) = true ∧ x ∈ PATS ∧ (idxD 120).atKey (KL x) (.lit (.int .i64 0)) = .lit (.int .i64 ((PATS.idxOf x : Nat) : Int))) ∨ (Maps.has (idxD 120) (KL x) = false ∧ x ∉ PATS) := by
  by_cases h : x ∈ PATS
  · obtain ⟨a, b⟩ := idx_mem h
    exact .inl ⟨(idxD_has hx 120 (Nat.le_refl _)).2 ⟨_, a, b⟩, h, idxD_at hx _ 120 (Nat.le_refl _) _ a b⟩
  · refine .inr ⟨?_, h⟩
    cases hh : Maps.has (idxD 120) (KL x)
    · rfl
    · obtain ⟨j, h1, h2⟩ := (idxD_has hx 120 (Nat.le_refl _)).1 hh
      exact absurd (h2 ▸ pat_at h1) h
end Go.Proofs.Ytdpifddmhbeklaa
namespace Go.Proofs.Ytdpifddmhbeklaa
open Go.RowKit Go.Maps Go.WideMaps Go.WideShapes
set_option linter.unusedVariables false
set_option maxRecDepth 20000 in
set_option maxHeartbeats 8000000 in
theorem iIdx (w : World) : Calls Try.prog 71 #[] w fun e w' => ∃ b, e = .returned (.map (some b)) ∧ w'.ownsMap Try.prog 132 (plainElem (H := Nat) Try.prog 2) b 120 (idxD 120) ∧ w.heap.size ≤ b ∧ Below w.heap.size w w' := by
  have hmm := @run_makeMap Try.prog
  go_enter Try.func71, Try.ntmps71
  go_wp2_with fail
  refine (iAll _).mono ?_
  rintro e w1 ⟨a, cp, rfl, ho, hb1⟩
  have hz1 := hb1.size
  simp at hz1
  have HO := Lib.hid ho
  have HM0 : Hid (w1.ownsMap Try.prog 132 (plainElem (H := Nat) Try.prog 2) w.heap.size 0 (idxD 0)) :=
    World.ownsMap.kept (World.ownsMap_made w Try.prog 132 (plainElem (H := Nat) Try.prog 2)) (only_of_below hb1 none) (by simp)
  have HB : Hid (Below w.heap.size w w1) := ((Below.refl _ w).alloc (Nat.le_refl _) _).trans (hb1.mono (by simp))
  clear ho hb1
  go_wp2
  go_loopw [7] (fun i wr => ∃ k : Nat, k ≤ 120 ∧ i = .int .i64 k ∧ Hid (wr.ownsMap Try.prog 132 (plainElem (H := Nat) Try.prog 2) w.heap.size k (idxD k)) ∧ Hid (w1.grownBy wr (some w.heap.size))) (fun i _ => 120 - (intOf i).toNat)
  case atStart => exact ⟨0, Nat.zero_le _, rfl, HM0.out, World.grownBy.refl _ _⟩
  case round =>
    clear HM0
    obtain ⟨k, hk, rfl, HM, HG⟩ := hrel
    have hzr := HG.out.size
    by_cases hlt : k < 120
    · obtain ⟨g, a0, a1, a2, a3, a4, a5, a6, a7, rfl, hbg, hgl, hP, c0, c1, c2, c3, c4, c5, c6, c7⟩ := row_cells (ownN_kept HO.out HG.out (fun e => by simp at e; omega)) hlt
      have HP := Lib.hid hP
      simp at hbg
      have hkey : keyOf Try.prog 132 (.agg #[.int .i64 a0, .int .i64 a1, .int .i64 a2, .int .i64 a3, .int .i64 a4, .int .i64 a5, .int .i64 a6, .int .i64 a7]) = some (KL [a0, a1, a2, a3, a4, a5, a6, a7]) := keyOf8 (x := [a0, a1, a2, a3, a4, a5, a6, a7]) (PATS_wf (by rw [← hP]; exact pat_at hlt))
      have HKY := Lib.hid hkey
      have HW : Hid ((Lit.int .i64 (k : Int)).wf = true) := WalkArith.wf_i64 (by omega)
      have q0 : (0 : Int) ≤ (k : Int) := by omega
      have q1 : (k : Int) < 120 := by omega
      clear hP hkey
      go_wp2_with (at_mapUpdate; refine wpList_mapUpdate_own _ rfl _ _ _ 96 rfl 132 2 lawW Try.underlying96 (plainElem (H := Nat) Try.prog 2) w.heap.size k (idxD k) rfl (HM.out.kept (World.grownBy_alloc _ _ none) (by simp)) (by unfold maxLen; omega) _ _ (KL [a0, a1, a2, a3, a4, a5, a6, a7]) rfl rfl HKY.out _ [] (plainElem_int Try.underlying2 HW.out) ?_; intro w2 hown2 hgrow2)
      have HM2 : Hid (w2.ownsMap Try.prog 132 (plainElem (H := Nat) Try.prog 2) w.heap.size (k + 1) (idxD (k + 1))) := by
        show World.ownsMap _ _ _ _ _ _ ((idxD k).put (KL (PATS.getD k [])) (.lit (.int .i64 (k : Int))))
        rw [HP.out]
        exact hown2
      have HG2 : Hid (w1.grownBy w2 (some w.heap.size)) := HG.out.trans ((World.grownBy_alloc _ _ _).trans hgrow2)
      clear hown2 hgrow2 HM HG c0 c1 c2 c3 c4 c5 c6 c7
      go_wp2
      go_roundw
      case rel => exact ⟨k + 1, by omega, by go_num, HM2, HG2⟩
      case measure => simp [intOf]; omega
    · have hke : Hid (k = 120) := (by omega : k = 120)
      have HM9 : Hid (wr.ownsMap Try.prog 132 (plainElem (H := Nat) Try.prog 2) w.heap.size 120 (idxD 120)) := by have := HM.out; rw [hke.out] at this; exact this
      have HB9 : Hid (Below w.heap.size w wr) := HB.out.grown HG.out (by omega) (fun j e => by cases e; exact Nat.le_refl _)
      go_wp2
      go_returns
      exact ⟨_, rfl, HM9.out, Nat.le_refl _, HB9.out⟩
end Go.Proofs.Ytdpifddmhbeklaa
