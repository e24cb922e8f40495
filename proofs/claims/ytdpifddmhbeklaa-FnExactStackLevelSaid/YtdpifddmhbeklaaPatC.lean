/-
  DERIVED. The values of a row: spec.
-/
import Derived.Test.YtdpifddmhbeklaaPatB
import Derived.Test.YtdpifddmhbeklaaPatJ
import Derived.Test.YtdpifddmhbeklaaRast
namespace Go.Proofs.Ytdpifddmhbeklaa
open Go.RowKit
set_option linter.unusedVariables false
def SameR (w : World) (xs ys : List Int) (e : Ending) (w' : World) : Prop := e = .returned (.bool (decide (xs = ys))) ∧ Below w.heap.size w w'
set_option maxHeartbeats 2000000 in
theorem sSame (a a' : Option Addr) (n n' cp cp' : Nat) (xs ys : List Int) (w : World) (h : Rd w a n xs) (h' : Rd w a' n' ys) (hn : n ≤ 1048576) (hn' : n' ≤ 1048576) :
    Calls Try.prog 133 #[.slice a n cp, .slice a' n' cp'] w (SameR w xs ys) := by
  have HH := Lib.hid h
  have HH' := Lib.hid h'
  have HL := Lib.hid h.1
  have HL' := Lib.hid h'.1
  by_cases hnn : n = n'
  case neg =>
    have HE : Hid (decide (xs = ys) = false) := decide_eq_false (fun e => hnn (by rw [← HL.out, ← HL'.out, e]))
    have t1 : ((n : Int) != (n' : Int)) = true := by simp; omega
    clear hnn h h'
    go_enter Try.func133, Try.ntmps133
    go_wp2
    go_returns
    exact ⟨ret_bool HE.out.symm, by repeat' (first | (with_reducible exact Below.refl _ _) | (with_reducible assumption) | (with_reducible refine Below.alloc ?_ ?_ _) | (with_reducible refine Below.setCell ?_ ?_ _) | (with_reducible refine Below.drew ?_) | (with_reducible refine below_drewN ?_ _) | (with_reducible refine below_via (by with_reducible assumption) ?_ ?_) | go_size)⟩
  subst hnn
  have t1 : ((n : Int) != (n : Int)) = false := by simp
  clear h h'
  go_enter Try.func133, Try.ntmps133
  go_wp2
  go_loopw [5] (fun i wr => ∃ k : Nat, k ≤ n ∧ i = .int .i64 k ∧ Hid (∀ j, j < k → xs.getD j 0 = ys.getD j 0) ∧ Hid (Below w.heap.size w wr)) (fun i _ => n - (intOf i).toNat)
  case atStart => exact ⟨0, Nat.zero_le _, rfl, fun j hj => absurd hj (by omega), Below.refl _ _⟩
  case round =>
    obtain ⟨k, hk, rfl, HA, HB⟩ := hrel
    by_cases hlt : k < n
    · obtain ⟨b, off, rfl, hb, hc⟩ := (HH.out.below HB.out).2 (by omega)
      obtain ⟨b', off', rfl, hb', hc'⟩ := (HH'.out.below HB.out).2 (by omega)
      have hx := hc k hlt
      have hy := hc' k hlt
      clear hc hc'
      generalize hxv : xs.getD k 0 = x at hx
      generalize hyv : ys.getD k 0 = y at hy
      have HX := Lib.hid hxv
      have HY := Lib.hid hyv
      clear hxv hyv
      have k0 : (0 : Int) ≤ (k : Int) := by omega
      have k1 : (k : Int) < (n : Int) := by omega
      by_cases hxy : x = y
      · have HA2 : Hid (∀ j, j < k + 1 → xs.getD j 0 = ys.getD j 0) := fun j hj => by
          rcases Nat.lt_or_ge j k with h1 | h1
          · exact HA.out j h1
          · obtain rfl : j = k := by omega
            rw [HX.out, HY.out, hxy]
        have t : (x != y) = false := by simpa using hxy
        clear hxy
        go_wp2
        go_quiet (fail)
        go_wp2
        go_roundw
        case rel => exact ⟨k + 1, by omega, by go_num, HA2, below_drewN HB.out _⟩
        case measure => simp [intOf]; omega
      · have HE : Hid (decide (xs = ys) = false) := decide_eq_false (fun e => hxy (by rw [← HX.out, ← HY.out, e]))
        have t : (x != y) = true := by simpa using hxy
        clear hxy
        go_wp2
        go_quiet (fail)
        go_wp2
        go_returns
        exact ⟨ret_bool HE.out.symm, below_drewN HB.out _⟩
    · have HE : Hid (decide (xs = ys) = true) := decide_eq_true (list_eq_of (HL.out.trans HL'.out.symm) (fun i hi => HA.out i (by have := HL.out; omega)))
      go_wp2
      go_returns
      exact ⟨ret_bool HE.out.symm, HB.out⟩
theorem own_drewN {w : World} {base n m : Nat} {t : TypeId} {v : Value} {xs : List Value} (h : w.ownsRow base t m v n xs) (q : Nat) : (w.drewN q).ownsRow base t m v n xs := h
/-- The widths of the runs, and whether they are good. -/
def WidR (w : World) (c : List Int) (n : Nat) (e : Ending) (w' : World) : Prop :=
  Below w.heap.size w w' ∧ ((okc c = true ∧ ∃ a cp, e = .returned (.tuple #[.slice a (wid c n).length cp, .bool true]) ∧ w'.ownsRow w.heap.size 2 1 (.slice a (wid c n).length cp) (wid c n).length ((wid c n).map (Value.int .i64))) ∨ (okc c = false ∧ e = .returned (.tuple #[.slice none 0 0, .bool false])))
set_option maxRecDepth 20000 in
set_option maxHeartbeats 8000000 in
theorem sWidths (a : Option Addr) (n cp : Nat) (c : List Int) (w : World) (h : Rd w a n c) (hp : 0 < n) (hn : n ≤ 900) :
    Calls Try.prog 132 #[.slice a n cp] w (WidR w c n) := by
  obtain ⟨i0, hi, hiz, hi1, hi2⟩ := info_parts infoInt
  obtain ⟨b, off, rfl, hbl, hc⟩ := h.2 hp
  have HL := Lib.hid h.1
  have HC := Lib.hid hc
  have HC0 : Hid (w.cell? ⟨b, off, none⟩ = some (.int .i64 (c.getD 0 0))) := hc 0 hp
  have HO0 : Hid ((w.alloc (.cells #[] 2)).ownsRow w.heap.size 2 1 (.slice (some ⟨w.heap.size, 0, none⟩) 0 0) 0 []) := by
    have := World.ownsRow_lit (base := w.heap.size) (e := 2) (size := 1) w #[] 0 (by simp) (by unfold maxLen; omega) (by simp)
    simp at this
    exact this
  clear h hc
  go_enter Try.func132, Try.ntmps132
  go_wp2
  go_loopw [4, 5] (fun v i wr => ∃ (k L : Nat), k ≤ n ∧ i = .int .i64 k ∧ Hid ((wid c k).length = L) ∧ L ≤ k ∧ Hid (0 < k → 0 < L) ∧ Hid (wr.ownsRow w.heap.size 2 1 v L ((wid c k).map (Value.int .i64))) ∧ Hid (∀ j, j < k → 0 ≤ c.getD j 0) ∧ Hid (0 < k → c.getD 0 0 ≠ 0) ∧ Hid (Below w.heap.size w wr)) (fun _ i _ => n - (intOf i).toNat)
  case atStart => exact ⟨0, 0, Nat.zero_le _, rfl, rfl, Nat.le_refl _, fun h => absurd h (by omega), HO0.out, fun j hj => absurd hj (by omega), fun h => absurd h (by omega), by unfold Hid; repeat' (first | (with_reducible exact Below.refl _ _) | (with_reducible assumption) | (with_reducible refine Below.alloc ?_ ?_ _) | (with_reducible refine Below.setCell ?_ ?_ _) | (with_reducible refine Below.drew ?_) | (with_reducible refine below_drewN ?_ _) | (with_reducible refine below_via (by with_reducible assumption) ?_ ?_) | go_size)⟩
  case round =>
    clear HO0
    obtain ⟨k, L, hk, rfl, HLn, hLk, HLp, HO, HN, HZ, HB⟩ := hrel
    have hsz := HB.out.size
    by_cases hlt : k < n
    · have hx := (HB.out.cell (p := ⟨b, off + k, none⟩) hbl).trans (HC.out k hlt)
      have hx0 := (HB.out.cell (p := ⟨b, off, none⟩) hbl).trans HC0.out
      generalize hxv : c.getD k 0 = x at hx
      obtain ⟨x0, hxv0⟩ : ∃ x0, c.getD 0 0 = x0 := ⟨_, rfl⟩
      rw [hxv0] at hx0
      have HX := Lib.hid hxv
      have HX0 := Lib.hid hxv0
      have k0 : (0 : Int) ≤ (k : Int) := by omega
      have k1 : (k : Int) < (n : Int) := by omega
      have hkc : k < c.length := by rw [HL.out]; exact hlt
      have hn0 : (0 : Int) < (n : Int) := by omega
      clear hxv hxv0
      by_cases hneg : x < 0
      · have HE : Hid (okc c = false) := okc_neg (x := x) (by rw [← HX.out]; exact getD_mem hkc) hneg
        go_wp2
        go_returns
        exact ⟨HB.out, .inr ⟨HE.out, rfl⟩⟩
      by_cases hz : x0 = 0
      · have HE : Hid (okc c = false) := okc_head (by rw [HX0.out]; exact hz)
        have t : (x0 == 0) = true := by simpa using hz
        clear hz
        have hnn : 0 ≤ x := by omega
        go_wp2
        go_returns
        exact ⟨HB.out, .inr ⟨HE.out, rfl⟩⟩
      have t : (x0 == 0) = false := by simpa using hz
      have hnn : 0 ≤ x := by omega
      have HN2 : Hid (∀ j, j < k + 1 → 0 ≤ c.getD j 0) := fun j hj => by
        rcases Nat.lt_or_ge j k with h1 | h1
        · exact HN.out j h1
        · obtain rfl : j = k := by omega
          rw [HX.out]; exact hnn
      have HZ2 : Hid (0 < k + 1 → c.getD 0 0 ≠ 0) := fun _ => by rw [HX0.out]; exact hz
      obtain ⟨av, cv, rfl⟩ := ownN_shape HO.out
      clear hneg hz HN HZ
      by_cases hk0 : k = 0
      · have HW : Hid (wid c (k + 1) = wid c k ++ [1]) := wid_new (fun h => by omega)
        have dk : decide ((0 : Int) < (k : Int)) = false := by simp; omega
        have dk2 : decide (0 < k) = false := by simp; omega
        have hk9 : k ≤ 0 := by omega
        clear hk0
        go_wp2
        go_quiet (fail)
        generalize hwq : World.drewN wr _ = wq
        have HOq : Hid (wq.ownsRow w.heap.size 2 1 (.slice av L cv) L ((wid c k).map (Value.int .i64))) := by rw [← hwq]; exact own_drewN HO.out _
        have HBq : Hid (Below w.heap.size w wq) := by rw [← hwq]; exact below_drewN HB.out _
        have hsq : w.heap.size ≤ wq.heap.size := HBq.out.size
        clear hwq HO HB hx hx0
        go_wp2_with (at_builtin; refine wpList_append_own _ rfl _ _ 36 rfl w.heap.size 2 i0 _ 1 8 Try.underlying36 hi hiz hi1 hi2 rfl (by decide) _ _ _ rfl (HOq.out.alloc _) ⟨wq.heap.size, 0, none⟩ 1 1 [.int .i64 1] rfl rfl (World.news_of_block (heap_alloc_new wq _)) (by simp [Value.oneCell']) (by unfold maxLen; omega) (by omega) (by simp; omega) ?_; intro v' w2 hown' hgrow _)
        have HO3 : Hid (w2.ownsRow w.heap.size 2 1 v' (L + 1) ((wid c (k + 1)).map (Value.int .i64))) := by
          unfold Hid
          rw [HW.out, List.map_append]
          exact hown'
        have HB3 : Hid (Below w.heap.size w w2) := ((HBq.out.alloc (by omega) _).grown hgrow (by simp; omega) (fun j e => (HOq.out.lt j e).1))
        clear hown' hgrow
        go_wp2
        go_roundw
        case rel => exact ⟨k + 1, L + 1, by omega, by go_num, by unfold Hid; rw [HW.out, List.length_append, HLn.out]; rfl, by omega, fun _ => by omega, HO3, HN2, HZ2, HB3⟩
        case measure => simp [intOf]; omega
      · have hk1 : 0 < k := by omega
        obtain ⟨j, hj⟩ : ∃ j, k = j + 1 := ⟨k - 1, by omega⟩
        have hy := (HB.out.cell (p := ⟨b, off + j, none⟩) hbl).trans (HC.out j (by omega))
        generalize hyv : c.getD j 0 = y at hy
        have HY : Hid (c.getD (k - 1) 0 = y) := by unfold Hid; rw [hj, Nat.add_sub_cancel]; exact hyv
        have dk : decide ((0 : Int) < (k : Int)) = true := by simp; omega
        have dk2 : decide (0 < k) = true := by simp; omega
        have kw : IntKind.i64.wrap ((k : Int) - 1) = (k : Int) - 1 := IntWalk.i64_in _ (by omega)
        have kj : (k : Int) - 1 = (j : Int) := by omega
        have kt : ((k : Int) - 1).toNat = j := by omega
        have j0 : (0 : Int) ≤ (k : Int) - 1 := by omega
        have j1 : (k : Int) - 1 < (n : Int) := by omega
        have j2 : (0 : Int) ≤ (j : Int) := by omega
        have j3 : (j : Int) < (n : Int) := by omega
        have hkI : (0 : Int) < (k : Int) := by omega
        clear hyv hj
        by_cases hxy : x = y
        · have HW : Hid (wid c (k + 1) = incL (wid c k)) := wid_same hk1 (by rw [HX.out, HY.out]; exact hxy)
          have hL0 := HLp.out hk1
          obtain ⟨p, hp'⟩ : ∃ p, L = p + 1 := ⟨L - 1, by omega⟩
          subst hp'
          obtain ⟨g, hg⟩ : ∃ g, av = some ⟨g, 0, none⟩ := by
            obtain ⟨g, cap, hv, _⟩ := HO.out.form (by omega)
            injection hv with hv1
            exact ⟨g, hv1⟩
          subst hg
          obtain ⟨z, hz⟩ : ∃ z, (wid c k).getD p 0 = z := ⟨_, rfl⟩
          have hpl : p < (wid c k).length := by rw [HLn.out]; omega
          have zb : 1 ≤ z ∧ z ≤ (k : Int) := by
            rw [← hz]
            exact wid_bd c k _ (by simp [List.getD_eq_getElem?_getD, List.getElem?_eq_getElem hpl])
          obtain ⟨zb1, zb2⟩ := zb
          have cO : wr.cell? ⟨g, p, none⟩ = some (.int .i64 z) := by
            rw [HO.out.cellAt p (by omega), ← hz]
            simp [List.getD_eq_getElem?_getD, List.getElem?_eq_getElem hpl]
          have fO : wr.frozen? ⟨g, p, none⟩ = false := HO.out.frozenAt p
          have HO2 : Hid (∀ W : World, W.ownsRow w.heap.size 2 1 (.slice (some ⟨g, 0, none⟩) (p + 1) cv) (p + 1) ((wid c k).map (Value.int .i64)) → (W.setCell ⟨g, p, none⟩ (.int .i64 (z + 1))).ownsRow w.heap.size 2 1 (.slice (some ⟨g, 0, none⟩) (p + 1) cv) (p + 1) ((wid c (k + 1)).map (Value.int .i64))) := fun W hW => by
            have := (hW.stored p (.int .i64 (z + 1))).1
            rw [← List.map_set] at this
            rw [HW.out]
            unfold incL
            rw [HLn.out, Nat.add_sub_cancel, hz]
            exact this
          have hgw : w.heap.size ≤ g := (HO.out.lt g rfl).1
          have hidx : ((p + 1 : Nat) : Int) - 1 = (p : Int) := by omega
          have hidx2 : (p : Int) + 1 - 1 = (p : Int) := by omega
          have p0 : (0 : Int) ≤ (p : Int) := by omega
          have p1 : (p : Int) < ((p + 1 : Nat) : Int) := by omega
          have txy : (x == y) = true := by simpa using hxy
          clear hxy hz
          go_wp2
          go_quiet (fail)
          generalize hwq : World.drewN wr _ = wq
          have HOq : Hid (wq.ownsRow w.heap.size 2 1 (.slice (some ⟨g, 0, none⟩) (p + 1) cv) (p + 1) ((wid c k).map (Value.int .i64))) := by rw [← hwq]; exact own_drewN HO.out _
          have HBq : Hid (Below w.heap.size w wq) := by rw [← hwq]; exact below_drewN HB.out _
          replace cO : wq.cell? ⟨g, p, none⟩ = some (.int .i64 z) := by rw [← hwq]; exact cO
          replace fO : wq.frozen? ⟨g, p, none⟩ = false := HOq.out.frozenAt p
          clear hwq HO HB hx hx0 hy kw
          go_wp2
          go_roundw
          case rel => exact ⟨k + 1, p + 1, by omega, by go_num, by unfold Hid; rw [HW.out, incL_len, HLn.out], by omega, fun _ => by omega, HO2.out _ HOq.out, HN2, HZ2, HBq.out.setCell (by simpa using hgw) _⟩
          case measure => simp [intOf]; omega
        · have HW : Hid (wid c (k + 1) = wid c k ++ [1]) := wid_new (fun h => hxy (by rw [← HX.out, ← HY.out]; exact h.2))
          have txy : (x == y) = false := by simpa using hxy
          clear hxy
          go_wp2
          go_quiet (fail)
          clear kw
          generalize hwq : World.drewN wr _ = wq
          have HOq : Hid (wq.ownsRow w.heap.size 2 1 (.slice av L cv) L ((wid c k).map (Value.int .i64))) := by rw [← hwq]; exact own_drewN HO.out _
          have HBq : Hid (Below w.heap.size w wq) := by rw [← hwq]; exact below_drewN HB.out _
          have hsq : w.heap.size ≤ wq.heap.size := HBq.out.size
          clear hwq HO HB hx hx0
          go_wp2_with (at_builtin; refine wpList_append_own _ rfl _ _ 36 rfl w.heap.size 2 i0 _ 1 8 Try.underlying36 hi hiz hi1 hi2 rfl (by decide) _ _ _ rfl (HOq.out.alloc _) ⟨wq.heap.size, 0, none⟩ 1 1 [.int .i64 1] rfl rfl (World.news_of_block (heap_alloc_new wq _)) (by simp [Value.oneCell']) (by unfold maxLen; omega) (by omega) (by simp; omega) ?_; intro v' w2 hown' hgrow _)
          have HO3 : Hid (w2.ownsRow w.heap.size 2 1 v' (L + 1) ((wid c (k + 1)).map (Value.int .i64))) := by
            unfold Hid
            rw [HW.out, List.map_append]
            exact hown'
          have HB3 : Hid (Below w.heap.size w w2) := ((HBq.out.alloc (by omega) _).grown hgrow (by simp; omega) (fun j e => (HOq.out.lt j e).1))
          clear hown' hgrow
          go_wp2
          go_roundw
          case rel => exact ⟨k + 1, L + 1, by omega, by go_num, by unfold Hid; rw [HW.out, List.length_append, HLn.out]; rfl, by omega, fun _ => by omega, HO3, HN2, HZ2, HB3⟩
          case measure => simp [intOf]; omega
    · have hke : Hid (k = n) := (by omega : k = n)
      have HE : Hid (okc c = true) := okc_yes (fun x hx => by
        obtain ⟨j, hj, e⟩ := List.getElem_of_mem hx
        have := HN.out j (by rw [HL.out] at hj; omega)
        have e2 : c.getD j 0 = x := by simp [List.getD_eq_getElem?_getD, List.getElem?_eq_getElem hj, e]
        omega) (HZ.out (by omega))
      obtain ⟨av, cv, rfl⟩ := ownN_shape HO.out
      have HO9 : Hid ((wid c n).length = L) := by rw [← hke.out]; exact HLn.out
      have HO8 : Hid (wr.ownsRow w.heap.size 2 1 (.slice av L cv) L ((wid c n).map (Value.int .i64))) := by rw [← hke.out]; exact HO.out
      go_wp2
      go_returns
      exact ⟨HB.out, .inl ⟨HE.out, av, cv, by rw [HO9.out]; rfl, by rw [HO9.out]; exact HO8.out⟩⟩
end Go.Proofs.Ytdpifddmhbeklaa
