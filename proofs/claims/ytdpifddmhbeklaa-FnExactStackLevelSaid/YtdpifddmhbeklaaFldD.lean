/-
  DERIVED. IsField: (Field).calc and impl.IsField.
-/
import Derived.Test.YtdpifddmhbeklaaFldT
import Derived.Test.YtdpifddmhbeklaaFldS
namespace Go.Proofs.Ytdpifddmhbeklaa
open Go.RowKit
set_option linter.unusedVariables false
def fszZ (p pw : Int) : Int := if pw = 1 then p else 2 ^ pw.toNat
theorem no_one {p : Int} {m : Nat} (hp : 3 ≤ p) (hm : 2 ≤ m) : ¬ Fills (Tp p 1) m := fun h => by
  have := h.1 1 (by omega) (by omega)
  exact this.2 (Tp_one (by omega) (by omega))
def CalcR (p pw po : Int) (w : World) (e : Ending) (w' : World) : Prop := ∃ a, e = .returned (.tuple #[.pointer a, .bool (fldB p pw po)]) ∧ Below w.heap.size w w' ∧ (fldB p pw po = true → ∃ b, a = some ⟨b, 0, none⟩ ∧ w.heap.size ≤ b ∧ CalcB w' b (fszZ p pw))
theorem CalcR.no {p pw po : Int} {w w' : World} (h : false = fldB p pw po) (hb : Below w.heap.size w w') : CalcR p pw po w (.returned (.tuple #[.pointer none, .bool false])) w' :=
  ⟨none, by rw [← h], hb, fun h2 => by rw [← h] at h2; cases h2⟩
set_option maxRecDepth 20000 in
set_option maxHeartbeats 4000000 in
theorem iCalcP (p po : Int) (w : World) : Calls Try.prog 130 #[.agg #[.int .i64 p, .int .i64 1, .int .i64 po]] w (CalcR p 1 po w) := by
  have h138 : inB 1 3 8 = false := by decide
  cases h1 : inB p 3 1021
  · have HE : Hid (false = fldB p 1 po) := fldB_no (fun h => by
      have := inB_no h1
      obtain ⟨a, b, -⟩ := IsFld.one.1 h
      omega)
    by_cases h2 : p = 2
    · subst h2
      go_enter Try.func130, Try.ntmps130
      go_wp2_with (go_at_call 59; refine (iIn _ _ _ _).mono ?_; rintro e w' ⟨rfl, rfl⟩)
      go_returns
      exact CalcR.no HE.out (by repeat' (first | (with_reducible exact Below.refl _ _) | (with_reducible assumption) | (with_reducible refine Below.alloc ?_ ?_ _) | (with_reducible refine Below.setCell ?_ ?_ _) | (with_reducible refine Below.drew ?_) | (with_reducible refine below_drewN ?_ _) | (with_reducible refine below_via (by with_reducible assumption) ?_ ?_) | go_size))
    · have hp2 : (p == 2) = false := by simp [h2]
      go_enter Try.func130, Try.ntmps130
      go_wp2_with (go_at_call 59; refine (iIn _ _ _ _).mono ?_; rintro e w' ⟨rfl, rfl⟩)
      go_returns
      exact CalcR.no HE.out (by repeat' (first | (with_reducible exact Below.refl _ _) | (with_reducible assumption) | (with_reducible refine Below.alloc ?_ ?_ _) | (with_reducible refine Below.setCell ?_ ?_ _) | (with_reducible refine Below.drew ?_) | (with_reducible refine below_drewN ?_ _) | (with_reducible refine below_via (by with_reducible assumption) ?_ ?_) | go_size))
  obtain ⟨b1, b2⟩ := inB_iff.1 h1
  have hp2 : (p == 2) = false := by simp; omega
  cases h2 : prmB p
  · have HE : Hid (false = fldB p 1 po) := fldB_no (fun h => by
      obtain ⟨-, -, c, -⟩ := IsFld.one.1 h
      rw [prmB_yes c] at h2; cases h2)
    go_enter Try.func130, Try.ntmps130
    go_wp2_with (first | (go_at_call 59; refine (iIn _ _ _ _).mono ?_; rintro e w' ⟨rfl, rfl⟩) | (go_at_call 135; refine (iPrm _ _ b1 b2).mono ?_; rintro e w' ⟨rfl, rfl⟩))
    go_returns
    exact CalcR.no HE.out (by repeat' (first | (with_reducible exact Below.refl _ _) | (with_reducible assumption) | (with_reducible refine Below.alloc ?_ ?_ _) | (with_reducible refine Below.setCell ?_ ?_ _) | (with_reducible refine Below.drew ?_) | (with_reducible refine below_drewN ?_ _) | (with_reducible refine below_via (by with_reducible assumption) ?_ ?_) | go_size))
  obtain ⟨m, hm⟩ := Int.eq_ofNat_of_zero_le (show 0 ≤ p - 1 by omega)
  have HPM : Hid (p = (m : Int) + 1) := by unfold Hid; omega
  have hm1 : 2 ≤ m := by omega
  have hm2 : m ≤ 1020 := by omega
  have HT : Hid ((p - 1).toNat = m) := by unfold Hid; omega
  clear hm
  go_enter Try.func130, Try.ntmps130
  go_wp2_with (first | (go_at_call 59; refine (iIn _ _ _ _).mono ?_; rintro e w' ⟨rfl, rfl⟩) | (go_at_call 135; refine (iPrm _ _ b1 b2).mono ?_; rintro e w' ⟨rfl, rfl⟩))
  go_loopw [4] (fun gv wr => ∃ (g : Int), gv = .int .i64 g ∧ 2 ≤ g ∧ g ≤ p ∧ Hid (∀ j : Int, 2 ≤ j → j < g → ¬ Fills (Tp p j) m) ∧ Hid (Below w.heap.size w wr) ∧ w.heap.size < wr.heap.size ∧ wr.cell? ⟨w.heap.size, 0, none⟩ = some (.int .i64 p) ∧ wr.cell? ⟨w.heap.size, 1, none⟩ = some (.int .i64 1) ∧ wr.cell? ⟨w.heap.size, 2, none⟩ = some (.int .i64 po)) (fun g _ => (p - intOf g).toNat)
  case atStart => exact ⟨2, rfl, by omega, by omega, fun j h1 h2 => by omega, by unfold Hid; repeat' (first | (with_reducible exact Below.refl _ _) | (with_reducible assumption) | (with_reducible refine Below.alloc ?_ ?_ _) | (with_reducible refine Below.setCell ?_ ?_ _) | (with_reducible refine Below.drew ?_) | (with_reducible refine below_drewN ?_ _) | (with_reducible refine below_via (by with_reducible assumption) ?_ ?_) | go_size), by simp, by simp [go_sem], by simp [go_sem], by simp [go_sem]⟩
  case round =>
    obtain ⟨g, rfl, g1, g2, HG, HB, z0, z1, z2, z3⟩ := hrel
    have hbel := HB.out
    by_cases hlt : g < p
    · cases h4 : fillB (Tp p g) m
      · have HG' : Hid (∀ j : Int, 2 ≤ j → j < g + 1 → ¬ Fills (Tp p j) m) := fun j j1 j2 => by
          rcases Int.lt_or_le j g with h | h
          · exact HG.out j j1 h
          · obtain rfl : j = g := by omega
            intro hf
            rw [fillB_yes hf] at h4; cases h4
        go_wp2_with (go_at_call 136; refine (iPows p g m HPM.out hm1 hm2 (by omega) hlt _).mono ?_; rintro e w' ⟨bq, rfl, hbq, hcq, hb⟩; obtain ⟨hc, hf⟩ := bcell hb; have hz := hb.size; (try simp at hz))
        go_roundw
        case rel => exact ⟨g + 1, rfl, by omega, by omega, HG', by unfold Hid; repeat' (first | (with_reducible exact Below.refl _ _) | (with_reducible assumption) | (with_reducible refine Below.alloc ?_ ?_ _) | (with_reducible refine Below.setCell ?_ ?_ _) | (with_reducible refine Below.drew ?_) | (with_reducible refine below_drewN ?_ _) | (with_reducible refine below_via (by with_reducible assumption) ?_ ?_) | go_size), by omega, (hc _ _ (by omega)).trans z1, (hc _ _ (by omega)).trans z2, (hc _ _ (by omega)).trans z3⟩
        case measure => simp [intOf]; omega
      · have HE : Hid ((g == po) = fldB p 1 po) := fldB_of (by
          rw [IsFld.one]
          have hfg := fillB_true.1 h4
          constructor
          · intro h
            obtain rfl : g = po := by simpa using h
            refine ⟨b1, b2, prmB_true.1 h2, by omega, hlt, fun j j1 j2 => ?_, by rw [HT.out]; exact hfg⟩
            rw [HT.out]
            by_cases hj : j = 1
            · subst hj; exact no_one b1 hm1
            · exact HG.out j (by omega) j2
          · rintro ⟨-, -, -, c1, c2, c3, c4⟩
            rw [HT.out] at c4
            have h5 : ¬ g < po := fun h => by
              have := c3 g (by omega) h
              rw [HT.out] at this; exact this hfg
            have h6 : ¬ po < g := fun h => by
              by_cases hj : po = 1
              · subst hj; exact no_one b1 hm1 c4
              · exact HG.out po (by omega) h c4
            simp; omega)
        go_wp2_with (go_at_call 136; refine (iPows p g m HPM.out hm1 hm2 (by omega) hlt _).mono ?_; rintro e w' ⟨bq, rfl, hbq, hcq, hb⟩; obtain ⟨hc, hf⟩ := bcell hb; have hz := hb.size; (try simp at hz); have HCQ := Lib.hid hcq; clear hcq; have y0 := (hc w.heap.size 0 (by omega)).trans z1; have y1 := (hc w.heap.size 1 (by omega)).trans z2; have y2 := (hc w.heap.size 2 (by omega)).trans z3)
        have HB2 : Hid (Below w.heap.size w w') := by unfold Hid; repeat' (first | (with_reducible exact Below.refl _ _) | (with_reducible assumption) | (with_reducible refine Below.alloc ?_ ?_ _) | (with_reducible refine Below.setCell ?_ ?_ _) | (with_reducible refine Below.drew ?_) | (with_reducible refine below_drewN ?_ _) | (with_reducible refine below_via (by with_reducible assumption) ?_ ?_) | go_size)
        go_quiet (fail)
        go_wp2
        go_returns
        refine ⟨some ⟨bq, 0, none⟩, by rw [← HE.out]; rfl, below_drewN HB2.out _, fun _ => ⟨bq, rfl, by omega, ?_⟩⟩
        exact HCQ.out
    · obtain rfl : g = p := by omega
      have HE : Hid (false = fldB g 1 po) := fldB_no (fun h => by
        obtain ⟨-, -, -, c1, c2, -, c4⟩ := IsFld.one.1 h
        rw [HT.out] at c4
        by_cases hj : po = 1
        · subst hj; exact no_one b1 hm1 c4
        · exact HG.out po (by omega) c2 c4)
      go_wp2
      go_returns
      exact CalcR.no HE.out (by repeat' (first | (with_reducible exact Below.refl _ _) | (with_reducible assumption) | (with_reducible refine Below.alloc ?_ ?_ _) | (with_reducible refine Below.setCell ?_ ?_ _) | (with_reducible refine Below.drew ?_) | (with_reducible refine below_drewN ?_ _) | (with_reducible refine below_via (by with_reducible assumption) ?_ ?_) | go_size))
set_option maxRecDepth 20000 in
set_option maxHeartbeats 4000000 in
theorem iCalcB3 (po : Int) (w : World) : Calls Try.prog 130 #[.agg #[.int .i64 2, .int .i64 3, .int .i64 po]] w (CalcR 2 3 po w) := by
  have h138 : inB 3 3 8 = true := by decide
  by_cases hq : po / 8 = 1
  rotate_left
  · have HE : Hid (false = fldB 2 3 po) := fldB_no (fun h => by
      obtain ⟨c, d, -⟩ := (IsFld.bin (k := 3) (by decide) (by decide)).1 h
      have e1 : (2 : Int) ^ 3 = 8 := by decide
      have e2 : (2 : Int) ^ (3 + 1) = 16 := by decide
      rw [e1] at c
      rw [e2] at d
      omega)
    have hq1 : (po / 8 == 1) = false := by simp [hq]
    go_enter Try.func130, Try.ntmps130
    go_wp2_with (go_at_call 59; refine (iIn _ _ _ _).mono ?_; rintro e w' ⟨rfl, rfl⟩)
    go_returns
    exact CalcR.no HE.out (by repeat' (first | (with_reducible exact Below.refl _ _) | (with_reducible assumption) | (with_reducible refine Below.alloc ?_ ?_ _) | (with_reducible refine Below.setCell ?_ ?_ _) | (with_reducible refine Below.drew ?_) | (with_reducible refine below_drewN ?_ _) | (with_reducible refine below_via (by with_reducible assumption) ?_ ?_) | go_size))
  · have p0 : 8 ≤ po := by omega
    have p1 : po < 16 := by omega
    have HE : Hid (fillB (Tb 8 po) 7 = fldB 2 3 po) := fldB_of (by
      rw [fillB_true]
      refine Iff.trans ?_ (IsFld.bin (k := 3) (by decide) (by decide)).symm
      exact ⟨fun h => ⟨p0, p1, h⟩, fun h => h.2.2⟩)
    have hq1 : (po / 8 == 1) = true := by simp [hq]
    have HZ : Hid ((8 : Int) = fszZ 2 3) := by unfold Hid fszZ; rfl
    go_enter Try.func130, Try.ntmps130
    go_wp2_with (go_at_call 59; refine (iIn _ _ _ _).mono ?_; rintro e w' ⟨rfl, rfl⟩)
    rw [zcB]
    have hbn := (CalcB.new (w.alloc (.cells #[.int .i64 2, .int .i64 3, .int .i64 po] 27)) true 8 162).below (((Below.refl _ _).alloc (Nat.le_refl _) (.cells #[.pointer (some ⟨w.heap.size + 1, 0, none⟩)] 157))) (by simp)
    have hzz : (w.alloc (.cells #[.int .i64 2, .int .i64 3, .int .i64 po] 27)).heap.size = w.heap.size + 1 := by simp
    rw [hzz] at hbn
    obtain ⟨W, hW⟩ : ∃ W : World, W = (((w.alloc (.cells #[.int .i64 2, .int .i64 3, .int .i64 po] 27)).alloc (.cells (calcCells true 8) 162)).alloc (.cells #[.pointer (some ⟨w.heap.size + 1, 0, none⟩)] 157)) := ⟨_, rfl⟩
    have hk : Below w.heap.size w W := by rw [hW]; repeat' (first | (with_reducible exact Below.refl _ _) | (with_reducible assumption) | (with_reducible refine Below.alloc ?_ ?_ _) | (with_reducible refine Below.setCell ?_ ?_ _) | (with_reducible refine Below.drew ?_) | (with_reducible refine below_drewN ?_ _) | (with_reducible refine below_via (by with_reducible assumption) ?_ ?_) | go_size)
    have hcc : W.cell? ⟨w.heap.size + 1 + 1, 0, none⟩ = some (.pointer (some ⟨w.heap.size + 1, 0, none⟩)) := by rw [hW]; simp [go_sem]
    have hcf : W.cell? ⟨w.heap.size, 2, none⟩ = some (.int .i64 po) := by rw [hW]; simp [go_sem]
    have hsz : W.heap.size = w.heap.size + 3 := by rw [hW]; simp
    rw [← hW] at hbn ⊢
    clear hW
    refine (iFillB3 (w.heap.size + 1) (w.heap.size + 1 + 1) w.heap.size po 7 (by decide) (by decide) (by decide) W hbn p0 p1 (by omega) (by omega) (by omega) (by omega) hcc hcf).mono ?_
    rintro e w' ⟨rfl, hcb, hgr, hz⟩
    have hbel : Hid (Below w.heap.size w w') := hk.grown hgr (by omega) (fun k e => by injection e with e; omega)
    have HCB := Lib.hid hcb
    have hp7 : w'.cell? ⟨w.heap.size + 1 + 1, 0, none⟩ = some (.pointer (some ⟨w.heap.size + 1, 0, none⟩)) := (only_cell hgr (by omega) (by omega)).trans hcc
    clear hbn hk hcc hcf hgr hcb
    go_wp2_with fail
    go_returns
    exact ⟨some ⟨w.heap.size + 1, 0, none⟩, by rw [← HE.out]; rfl, hbel.out, fun _ => ⟨_, rfl, by omega, by rw [← HZ.out]; exact HCB.out⟩⟩
set_option maxRecDepth 20000 in
set_option maxHeartbeats 4000000 in
theorem iCalcB4 (po : Int) (w : World) : Calls Try.prog 130 #[.agg #[.int .i64 2, .int .i64 4, .int .i64 po]] w (CalcR 2 4 po w) := by
  have h138 : inB 4 3 8 = true := by decide
  by_cases hq : po / 16 = 1
  rotate_left
  · have HE : Hid (false = fldB 2 4 po) := fldB_no (fun h => by
      obtain ⟨c, d, -⟩ := (IsFld.bin (k := 4) (by decide) (by decide)).1 h
      have e1 : (2 : Int) ^ 4 = 16 := by decide
      have e2 : (2 : Int) ^ (4 + 1) = 32 := by decide
      rw [e1] at c
      rw [e2] at d
      omega)
    have hq1 : (po / 16 == 1) = false := by simp [hq]
    go_enter Try.func130, Try.ntmps130
    go_wp2_with (go_at_call 59; refine (iIn _ _ _ _).mono ?_; rintro e w' ⟨rfl, rfl⟩)
    go_returns
    exact CalcR.no HE.out (by repeat' (first | (with_reducible exact Below.refl _ _) | (with_reducible assumption) | (with_reducible refine Below.alloc ?_ ?_ _) | (with_reducible refine Below.setCell ?_ ?_ _) | (with_reducible refine Below.drew ?_) | (with_reducible refine below_drewN ?_ _) | (with_reducible refine below_via (by with_reducible assumption) ?_ ?_) | go_size))
  · have p0 : 16 ≤ po := by omega
    have p1 : po < 32 := by omega
    have HE : Hid (fillB (Tb 16 po) 15 = fldB 2 4 po) := fldB_of (by
      rw [fillB_true]
      refine Iff.trans ?_ (IsFld.bin (k := 4) (by decide) (by decide)).symm
      exact ⟨fun h => ⟨p0, p1, h⟩, fun h => h.2.2⟩)
    have hq1 : (po / 16 == 1) = true := by simp [hq]
    have HZ : Hid ((16 : Int) = fszZ 2 4) := by unfold Hid fszZ; rfl
    go_enter Try.func130, Try.ntmps130
    go_wp2_with (go_at_call 59; refine (iIn _ _ _ _).mono ?_; rintro e w' ⟨rfl, rfl⟩)
    rw [zcB]
    have hbn := (CalcB.new (w.alloc (.cells #[.int .i64 2, .int .i64 4, .int .i64 po] 27)) true 16 162).below (((Below.refl _ _).alloc (Nat.le_refl _) (.cells #[.pointer (some ⟨w.heap.size + 1, 0, none⟩)] 157))) (by simp)
    have hzz : (w.alloc (.cells #[.int .i64 2, .int .i64 4, .int .i64 po] 27)).heap.size = w.heap.size + 1 := by simp
    rw [hzz] at hbn
    obtain ⟨W, hW⟩ : ∃ W : World, W = (((w.alloc (.cells #[.int .i64 2, .int .i64 4, .int .i64 po] 27)).alloc (.cells (calcCells true 16) 162)).alloc (.cells #[.pointer (some ⟨w.heap.size + 1, 0, none⟩)] 157)) := ⟨_, rfl⟩
    have hk : Below w.heap.size w W := by rw [hW]; repeat' (first | (with_reducible exact Below.refl _ _) | (with_reducible assumption) | (with_reducible refine Below.alloc ?_ ?_ _) | (with_reducible refine Below.setCell ?_ ?_ _) | (with_reducible refine Below.drew ?_) | (with_reducible refine below_drewN ?_ _) | (with_reducible refine below_via (by with_reducible assumption) ?_ ?_) | go_size)
    have hcc : W.cell? ⟨w.heap.size + 1 + 1, 0, none⟩ = some (.pointer (some ⟨w.heap.size + 1, 0, none⟩)) := by rw [hW]; simp [go_sem]
    have hcf : W.cell? ⟨w.heap.size, 2, none⟩ = some (.int .i64 po) := by rw [hW]; simp [go_sem]
    have hsz : W.heap.size = w.heap.size + 3 := by rw [hW]; simp
    rw [← hW] at hbn ⊢
    clear hW
    refine (iFillB4 (w.heap.size + 1) (w.heap.size + 1 + 1) w.heap.size po 15 (by decide) (by decide) (by decide) W hbn p0 p1 (by omega) (by omega) (by omega) (by omega) hcc hcf).mono ?_
    rintro e w' ⟨rfl, hcb, hgr, hz⟩
    have hbel : Hid (Below w.heap.size w w') := hk.grown hgr (by omega) (fun k e => by injection e with e; omega)
    have HCB := Lib.hid hcb
    have hp7 : w'.cell? ⟨w.heap.size + 1 + 1, 0, none⟩ = some (.pointer (some ⟨w.heap.size + 1, 0, none⟩)) := (only_cell hgr (by omega) (by omega)).trans hcc
    clear hbn hk hcc hcf hgr hcb
    go_wp2_with fail
    go_returns
    exact ⟨some ⟨w.heap.size + 1, 0, none⟩, by rw [← HE.out]; rfl, hbel.out, fun _ => ⟨_, rfl, by omega, by rw [← HZ.out]; exact HCB.out⟩⟩
set_option maxRecDepth 20000 in
set_option maxHeartbeats 4000000 in
theorem iCalcB5 (po : Int) (w : World) : Calls Try.prog 130 #[.agg #[.int .i64 2, .int .i64 5, .int .i64 po]] w (CalcR 2 5 po w) := by
  have h138 : inB 5 3 8 = true := by decide
  by_cases hq : po / 32 = 1
  rotate_left
  · have HE : Hid (false = fldB 2 5 po) := fldB_no (fun h => by
      obtain ⟨c, d, -⟩ := (IsFld.bin (k := 5) (by decide) (by decide)).1 h
      have e1 : (2 : Int) ^ 5 = 32 := by decide
      have e2 : (2 : Int) ^ (5 + 1) = 64 := by decide
      rw [e1] at c
      rw [e2] at d
      omega)
    have hq1 : (po / 32 == 1) = false := by simp [hq]
    go_enter Try.func130, Try.ntmps130
    go_wp2_with (go_at_call 59; refine (iIn _ _ _ _).mono ?_; rintro e w' ⟨rfl, rfl⟩)
    go_returns
    exact CalcR.no HE.out (by repeat' (first | (with_reducible exact Below.refl _ _) | (with_reducible assumption) | (with_reducible refine Below.alloc ?_ ?_ _) | (with_reducible refine Below.setCell ?_ ?_ _) | (with_reducible refine Below.drew ?_) | (with_reducible refine below_drewN ?_ _) | (with_reducible refine below_via (by with_reducible assumption) ?_ ?_) | go_size))
  · have p0 : 32 ≤ po := by omega
    have p1 : po < 64 := by omega
    have HE : Hid (fillB (Tb 32 po) 31 = fldB 2 5 po) := fldB_of (by
      rw [fillB_true]
      refine Iff.trans ?_ (IsFld.bin (k := 5) (by decide) (by decide)).symm
      exact ⟨fun h => ⟨p0, p1, h⟩, fun h => h.2.2⟩)
    have hq1 : (po / 32 == 1) = true := by simp [hq]
    have HZ : Hid ((32 : Int) = fszZ 2 5) := by unfold Hid fszZ; rfl
    go_enter Try.func130, Try.ntmps130
    go_wp2_with (go_at_call 59; refine (iIn _ _ _ _).mono ?_; rintro e w' ⟨rfl, rfl⟩)
    rw [zcB]
    have hbn := (CalcB.new (w.alloc (.cells #[.int .i64 2, .int .i64 5, .int .i64 po] 27)) true 32 162).below (((Below.refl _ _).alloc (Nat.le_refl _) (.cells #[.pointer (some ⟨w.heap.size + 1, 0, none⟩)] 157))) (by simp)
    have hzz : (w.alloc (.cells #[.int .i64 2, .int .i64 5, .int .i64 po] 27)).heap.size = w.heap.size + 1 := by simp
    rw [hzz] at hbn
    obtain ⟨W, hW⟩ : ∃ W : World, W = (((w.alloc (.cells #[.int .i64 2, .int .i64 5, .int .i64 po] 27)).alloc (.cells (calcCells true 32) 162)).alloc (.cells #[.pointer (some ⟨w.heap.size + 1, 0, none⟩)] 157)) := ⟨_, rfl⟩
    have hk : Below w.heap.size w W := by rw [hW]; repeat' (first | (with_reducible exact Below.refl _ _) | (with_reducible assumption) | (with_reducible refine Below.alloc ?_ ?_ _) | (with_reducible refine Below.setCell ?_ ?_ _) | (with_reducible refine Below.drew ?_) | (with_reducible refine below_drewN ?_ _) | (with_reducible refine below_via (by with_reducible assumption) ?_ ?_) | go_size)
    have hcc : W.cell? ⟨w.heap.size + 1 + 1, 0, none⟩ = some (.pointer (some ⟨w.heap.size + 1, 0, none⟩)) := by rw [hW]; simp [go_sem]
    have hcf : W.cell? ⟨w.heap.size, 2, none⟩ = some (.int .i64 po) := by rw [hW]; simp [go_sem]
    have hsz : W.heap.size = w.heap.size + 3 := by rw [hW]; simp
    rw [← hW] at hbn ⊢
    clear hW
    refine (iFillB5 (w.heap.size + 1) (w.heap.size + 1 + 1) w.heap.size po 31 (by decide) (by decide) (by decide) W hbn p0 p1 (by omega) (by omega) (by omega) (by omega) hcc hcf).mono ?_
    rintro e w' ⟨rfl, hcb, hgr, hz⟩
    have hbel : Hid (Below w.heap.size w w') := hk.grown hgr (by omega) (fun k e => by injection e with e; omega)
    have HCB := Lib.hid hcb
    have hp7 : w'.cell? ⟨w.heap.size + 1 + 1, 0, none⟩ = some (.pointer (some ⟨w.heap.size + 1, 0, none⟩)) := (only_cell hgr (by omega) (by omega)).trans hcc
    clear hbn hk hcc hcf hgr hcb
    go_wp2_with fail
    go_returns
    exact ⟨some ⟨w.heap.size + 1, 0, none⟩, by rw [← HE.out]; rfl, hbel.out, fun _ => ⟨_, rfl, by omega, by rw [← HZ.out]; exact HCB.out⟩⟩
set_option maxRecDepth 20000 in
set_option maxHeartbeats 4000000 in
theorem iCalcB6 (po : Int) (w : World) : Calls Try.prog 130 #[.agg #[.int .i64 2, .int .i64 6, .int .i64 po]] w (CalcR 2 6 po w) := by
  have h138 : inB 6 3 8 = true := by decide
  by_cases hq : po / 64 = 1
  rotate_left
  · have HE : Hid (false = fldB 2 6 po) := fldB_no (fun h => by
      obtain ⟨c, d, -⟩ := (IsFld.bin (k := 6) (by decide) (by decide)).1 h
      have e1 : (2 : Int) ^ 6 = 64 := by decide
      have e2 : (2 : Int) ^ (6 + 1) = 128 := by decide
      rw [e1] at c
      rw [e2] at d
      omega)
    have hq1 : (po / 64 == 1) = false := by simp [hq]
    go_enter Try.func130, Try.ntmps130
    go_wp2_with (go_at_call 59; refine (iIn _ _ _ _).mono ?_; rintro e w' ⟨rfl, rfl⟩)
    go_returns
    exact CalcR.no HE.out (by repeat' (first | (with_reducible exact Below.refl _ _) | (with_reducible assumption) | (with_reducible refine Below.alloc ?_ ?_ _) | (with_reducible refine Below.setCell ?_ ?_ _) | (with_reducible refine Below.drew ?_) | (with_reducible refine below_drewN ?_ _) | (with_reducible refine below_via (by with_reducible assumption) ?_ ?_) | go_size))
  · have p0 : 64 ≤ po := by omega
    have p1 : po < 128 := by omega
    have HE : Hid (fillB (Tb 64 po) 63 = fldB 2 6 po) := fldB_of (by
      rw [fillB_true]
      refine Iff.trans ?_ (IsFld.bin (k := 6) (by decide) (by decide)).symm
      exact ⟨fun h => ⟨p0, p1, h⟩, fun h => h.2.2⟩)
    have hq1 : (po / 64 == 1) = true := by simp [hq]
    have HZ : Hid ((64 : Int) = fszZ 2 6) := by unfold Hid fszZ; rfl
    go_enter Try.func130, Try.ntmps130
    go_wp2_with (go_at_call 59; refine (iIn _ _ _ _).mono ?_; rintro e w' ⟨rfl, rfl⟩)
    rw [zcB]
    have hbn := (CalcB.new (w.alloc (.cells #[.int .i64 2, .int .i64 6, .int .i64 po] 27)) true 64 162).below (((Below.refl _ _).alloc (Nat.le_refl _) (.cells #[.pointer (some ⟨w.heap.size + 1, 0, none⟩)] 157))) (by simp)
    have hzz : (w.alloc (.cells #[.int .i64 2, .int .i64 6, .int .i64 po] 27)).heap.size = w.heap.size + 1 := by simp
    rw [hzz] at hbn
    obtain ⟨W, hW⟩ : ∃ W : World, W = (((w.alloc (.cells #[.int .i64 2, .int .i64 6, .int .i64 po] 27)).alloc (.cells (calcCells true 64) 162)).alloc (.cells #[.pointer (some ⟨w.heap.size + 1, 0, none⟩)] 157)) := ⟨_, rfl⟩
    have hk : Below w.heap.size w W := by rw [hW]; repeat' (first | (with_reducible exact Below.refl _ _) | (with_reducible assumption) | (with_reducible refine Below.alloc ?_ ?_ _) | (with_reducible refine Below.setCell ?_ ?_ _) | (with_reducible refine Below.drew ?_) | (with_reducible refine below_drewN ?_ _) | (with_reducible refine below_via (by with_reducible assumption) ?_ ?_) | go_size)
    have hcc : W.cell? ⟨w.heap.size + 1 + 1, 0, none⟩ = some (.pointer (some ⟨w.heap.size + 1, 0, none⟩)) := by rw [hW]; simp [go_sem]
    have hcf : W.cell? ⟨w.heap.size, 2, none⟩ = some (.int .i64 po) := by rw [hW]; simp [go_sem]
    have hsz : W.heap.size = w.heap.size + 3 := by rw [hW]; simp
    rw [← hW] at hbn ⊢
    clear hW
    refine (iFillB6 (w.heap.size + 1) (w.heap.size + 1 + 1) w.heap.size po 63 (by decide) (by decide) (by decide) W hbn p0 p1 (by omega) (by omega) (by omega) (by omega) hcc hcf).mono ?_
    rintro e w' ⟨rfl, hcb, hgr, hz⟩
    have hbel : Hid (Below w.heap.size w w') := hk.grown hgr (by omega) (fun k e => by injection e with e; omega)
    have HCB := Lib.hid hcb
    have hp7 : w'.cell? ⟨w.heap.size + 1 + 1, 0, none⟩ = some (.pointer (some ⟨w.heap.size + 1, 0, none⟩)) := (only_cell hgr (by omega) (by omega)).trans hcc
    clear hbn hk hcc hcf hgr hcb
    go_wp2_with fail
    go_returns
    exact ⟨some ⟨w.heap.size + 1, 0, none⟩, by rw [← HE.out]; rfl, hbel.out, fun _ => ⟨_, rfl, by omega, by rw [← HZ.out]; exact HCB.out⟩⟩
set_option maxRecDepth 20000 in
set_option maxHeartbeats 4000000 in
theorem iCalcB7 (po : Int) (w : World) : Calls Try.prog 130 #[.agg #[.int .i64 2, .int .i64 7, .int .i64 po]] w (CalcR 2 7 po w) := by
  have h138 : inB 7 3 8 = true := by decide
  by_cases hq : po / 128 = 1
  rotate_left
  · have HE : Hid (false = fldB 2 7 po) := fldB_no (fun h => by
      obtain ⟨c, d, -⟩ := (IsFld.bin (k := 7) (by decide) (by decide)).1 h
      have e1 : (2 : Int) ^ 7 = 128 := by decide
      have e2 : (2 : Int) ^ (7 + 1) = 256 := by decide
      rw [e1] at c
      rw [e2] at d
      omega)
    have hq1 : (po / 128 == 1) = false := by simp [hq]
    go_enter Try.func130, Try.ntmps130
    go_wp2_with (go_at_call 59; refine (iIn _ _ _ _).mono ?_; rintro e w' ⟨rfl, rfl⟩)
    go_returns
    exact CalcR.no HE.out (by repeat' (first | (with_reducible exact Below.refl _ _) | (with_reducible assumption) | (with_reducible refine Below.alloc ?_ ?_ _) | (with_reducible refine Below.setCell ?_ ?_ _) | (with_reducible refine Below.drew ?_) | (with_reducible refine below_drewN ?_ _) | (with_reducible refine below_via (by with_reducible assumption) ?_ ?_) | go_size))
  · have p0 : 128 ≤ po := by omega
    have p1 : po < 256 := by omega
    have HE : Hid (fillB (Tb 128 po) 127 = fldB 2 7 po) := fldB_of (by
      rw [fillB_true]
      refine Iff.trans ?_ (IsFld.bin (k := 7) (by decide) (by decide)).symm
      exact ⟨fun h => ⟨p0, p1, h⟩, fun h => h.2.2⟩)
    have hq1 : (po / 128 == 1) = true := by simp [hq]
    have HZ : Hid ((128 : Int) = fszZ 2 7) := by unfold Hid fszZ; rfl
    go_enter Try.func130, Try.ntmps130
    go_wp2_with (go_at_call 59; refine (iIn _ _ _ _).mono ?_; rintro e w' ⟨rfl, rfl⟩)
    rw [zcB]
    have hbn := (CalcB.new (w.alloc (.cells #[.int .i64 2, .int .i64 7, .int .i64 po] 27)) true 128 162).below (((Below.refl _ _).alloc (Nat.le_refl _) (.cells #[.pointer (some ⟨w.heap.size + 1, 0, none⟩)] 157))) (by simp)
    have hzz : (w.alloc (.cells #[.int .i64 2, .int .i64 7, .int .i64 po] 27)).heap.size = w.heap.size + 1 := by simp
    rw [hzz] at hbn
    obtain ⟨W, hW⟩ : ∃ W : World, W = (((w.alloc (.cells #[.int .i64 2, .int .i64 7, .int .i64 po] 27)).alloc (.cells (calcCells true 128) 162)).alloc (.cells #[.pointer (some ⟨w.heap.size + 1, 0, none⟩)] 157)) := ⟨_, rfl⟩
    have hk : Below w.heap.size w W := by rw [hW]; repeat' (first | (with_reducible exact Below.refl _ _) | (with_reducible assumption) | (with_reducible refine Below.alloc ?_ ?_ _) | (with_reducible refine Below.setCell ?_ ?_ _) | (with_reducible refine Below.drew ?_) | (with_reducible refine below_drewN ?_ _) | (with_reducible refine below_via (by with_reducible assumption) ?_ ?_) | go_size)
    have hcc : W.cell? ⟨w.heap.size + 1 + 1, 0, none⟩ = some (.pointer (some ⟨w.heap.size + 1, 0, none⟩)) := by rw [hW]; simp [go_sem]
    have hcf : W.cell? ⟨w.heap.size, 2, none⟩ = some (.int .i64 po) := by rw [hW]; simp [go_sem]
    have hsz : W.heap.size = w.heap.size + 3 := by rw [hW]; simp
    rw [← hW] at hbn ⊢
    clear hW
    refine (iFillB7 (w.heap.size + 1) (w.heap.size + 1 + 1) w.heap.size po 127 (by decide) (by decide) (by decide) W hbn p0 p1 (by omega) (by omega) (by omega) (by omega) hcc hcf).mono ?_
    rintro e w' ⟨rfl, hcb, hgr, hz⟩
    have hbel : Hid (Below w.heap.size w w') := hk.grown hgr (by omega) (fun k e => by injection e with e; omega)
    have HCB := Lib.hid hcb
    have hp7 : w'.cell? ⟨w.heap.size + 1 + 1, 0, none⟩ = some (.pointer (some ⟨w.heap.size + 1, 0, none⟩)) := (only_cell hgr (by omega) (by omega)).trans hcc
    clear hbn hk hcc hcf hgr hcb
    go_wp2_with fail
    go_returns
    exact ⟨some ⟨w.heap.size + 1, 0, none⟩, by rw [← HE.out]; rfl, hbel.out, fun _ => ⟨_, rfl, by omega, by rw [← HZ.out]; exact HCB.out⟩⟩
set_option maxRecDepth 20000 in
set_option maxHeartbeats 4000000 in
theorem iCalcB8 (po : Int) (w : World) : Calls Try.prog 130 #[.agg #[.int .i64 2, .int .i64 8, .int .i64 po]] w (CalcR 2 8 po w) := by
  have h138 : inB 8 3 8 = true := by decide
  by_cases hq : po / 256 = 1
  rotate_left
  · have HE : Hid (false = fldB 2 8 po) := fldB_no (fun h => by
      obtain ⟨c, d, -⟩ := (IsFld.bin (k := 8) (by decide) (by decide)).1 h
      have e1 : (2 : Int) ^ 8 = 256 := by decide
      have e2 : (2 : Int) ^ (8 + 1) = 512 := by decide
      rw [e1] at c
      rw [e2] at d
      omega)
    have hq1 : (po / 256 == 1) = false := by simp [hq]
    go_enter Try.func130, Try.ntmps130
    go_wp2_with (go_at_call 59; refine (iIn _ _ _ _).mono ?_; rintro e w' ⟨rfl, rfl⟩)
    go_returns
    exact CalcR.no HE.out (by repeat' (first | (with_reducible exact Below.refl _ _) | (with_reducible assumption) | (with_reducible refine Below.alloc ?_ ?_ _) | (with_reducible refine Below.setCell ?_ ?_ _) | (with_reducible refine Below.drew ?_) | (with_reducible refine below_drewN ?_ _) | (with_reducible refine below_via (by with_reducible assumption) ?_ ?_) | go_size))
  · have p0 : 256 ≤ po := by omega
    have p1 : po < 512 := by omega
    have HE : Hid (fillB (Tb 256 po) 255 = fldB 2 8 po) := fldB_of (by
      rw [fillB_true]
      refine Iff.trans ?_ (IsFld.bin (k := 8) (by decide) (by decide)).symm
      exact ⟨fun h => ⟨p0, p1, h⟩, fun h => h.2.2⟩)
    have hq1 : (po / 256 == 1) = true := by simp [hq]
    have HZ : Hid ((256 : Int) = fszZ 2 8) := by unfold Hid fszZ; rfl
    go_enter Try.func130, Try.ntmps130
    go_wp2_with (go_at_call 59; refine (iIn _ _ _ _).mono ?_; rintro e w' ⟨rfl, rfl⟩)
    rw [zcB]
    have hbn := (CalcB.new (w.alloc (.cells #[.int .i64 2, .int .i64 8, .int .i64 po] 27)) true 256 162).below (((Below.refl _ _).alloc (Nat.le_refl _) (.cells #[.pointer (some ⟨w.heap.size + 1, 0, none⟩)] 157))) (by simp)
    have hzz : (w.alloc (.cells #[.int .i64 2, .int .i64 8, .int .i64 po] 27)).heap.size = w.heap.size + 1 := by simp
    rw [hzz] at hbn
    obtain ⟨W, hW⟩ : ∃ W : World, W = (((w.alloc (.cells #[.int .i64 2, .int .i64 8, .int .i64 po] 27)).alloc (.cells (calcCells true 256) 162)).alloc (.cells #[.pointer (some ⟨w.heap.size + 1, 0, none⟩)] 157)) := ⟨_, rfl⟩
    have hk : Below w.heap.size w W := by rw [hW]; repeat' (first | (with_reducible exact Below.refl _ _) | (with_reducible assumption) | (with_reducible refine Below.alloc ?_ ?_ _) | (with_reducible refine Below.setCell ?_ ?_ _) | (with_reducible refine Below.drew ?_) | (with_reducible refine below_drewN ?_ _) | (with_reducible refine below_via (by with_reducible assumption) ?_ ?_) | go_size)
    have hcc : W.cell? ⟨w.heap.size + 1 + 1, 0, none⟩ = some (.pointer (some ⟨w.heap.size + 1, 0, none⟩)) := by rw [hW]; simp [go_sem]
    have hcf : W.cell? ⟨w.heap.size, 2, none⟩ = some (.int .i64 po) := by rw [hW]; simp [go_sem]
    have hsz : W.heap.size = w.heap.size + 3 := by rw [hW]; simp
    rw [← hW] at hbn ⊢
    clear hW
    refine (iFillB8 (w.heap.size + 1) (w.heap.size + 1 + 1) w.heap.size po 255 (by decide) (by decide) (by decide) W hbn p0 p1 (by omega) (by omega) (by omega) (by omega) hcc hcf).mono ?_
    rintro e w' ⟨rfl, hcb, hgr, hz⟩
    have hbel : Hid (Below w.heap.size w w') := hk.grown hgr (by omega) (fun k e => by injection e with e; omega)
    have HCB := Lib.hid hcb
    have hp7 : w'.cell? ⟨w.heap.size + 1 + 1, 0, none⟩ = some (.pointer (some ⟨w.heap.size + 1, 0, none⟩)) := (only_cell hgr (by omega) (by omega)).trans hcc
    clear hbn hk hcc hcf hgr hcb
    go_wp2_with fail
    go_returns
    exact ⟨some ⟨w.heap.size + 1, 0, none⟩, by rw [← HE.out]; rfl, hbel.out, fun _ => ⟨_, rfl, by omega, by rw [← HZ.out]; exact HCB.out⟩⟩
theorem iCalc (p pw po : Int) (w : World) : Calls Try.prog 130 #[.agg #[.int .i64 p, .int .i64 pw, .int .i64 po]] w (CalcR p pw po w) := by
  by_cases hw : pw = 1
  · subst hw; exact iCalcP p po w
  have hw1 : (pw == 1) = false := by simp [hw]
  by_cases hp : p = 2
  rotate_left
  · have HE : Hid (false = fldB p pw po) := fldB_no (IsFld.not2 hw (.inl hp))
    have hp1 : (p == 2) = false := by simp [hp]
    go_enter Try.func130, Try.ntmps130
    go_wp2_with (go_at_call 59; refine (iIn _ _ _ _).mono ?_; rintro e w' ⟨rfl, rfl⟩)
    go_returns
    exact CalcR.no HE.out (by repeat' (first | (with_reducible exact Below.refl _ _) | (with_reducible assumption) | (with_reducible refine Below.alloc ?_ ?_ _) | (with_reducible refine Below.setCell ?_ ?_ _) | (with_reducible refine Below.drew ?_) | (with_reducible refine below_drewN ?_ _) | (with_reducible refine below_via (by with_reducible assumption) ?_ ?_) | go_size))
  subst hp
  cases h1 : inB pw 3 8
  · have HE : Hid (false = fldB 2 pw po) := fldB_no (IsFld.not2 hw (.inr (inB_no h1)))
    go_enter Try.func130, Try.ntmps130
    go_wp2_with (go_at_call 59; refine (iIn _ _ _ _).mono ?_; rintro e w' ⟨rfl, rfl⟩)
    go_returns
    exact CalcR.no HE.out (by repeat' (first | (with_reducible exact Below.refl _ _) | (with_reducible assumption) | (with_reducible refine Below.alloc ?_ ?_ _) | (with_reducible refine Below.setCell ?_ ?_ _) | (with_reducible refine Below.drew ?_) | (with_reducible refine below_drewN ?_ _) | (with_reducible refine below_via (by with_reducible assumption) ?_ ?_) | go_size))
  obtain ⟨b1, b2⟩ := inB_iff.1 h1
  obtain rfl | rfl | rfl | rfl | rfl | rfl : pw = 3 ∨ pw = 4 ∨ pw = 5 ∨ pw = 6 ∨ pw = 7 ∨ pw = 8 := by omega
  · exact iCalcB3 po w
  · exact iCalcB4 po w
  · exact iCalcB5 po w
  · exact iCalcB6 po w
  · exact iCalcB7 po w
  · exact iCalcB8 po w
theorem iIsField (p pw po : Int) (w : World) : Calls Try.prog 118 #[.agg #[.int .i64 p, .int .i64 pw, .int .i64 po]] w fun e w' => e = .returned (.bool (fldB p pw po)) ∧ Below w.heap.size w w' := by
  go_enter Try.func118, Try.ntmps118
  go_wp2_with (go_at_call 130; refine (iCalc p pw po _).mono ?_; rintro e w' ⟨a, rfl, hb, -⟩)
  go_returns
  exact ⟨rfl, by repeat' (first | (with_reducible exact Below.refl _ _) | (with_reducible assumption) | (with_reducible refine Below.alloc ?_ ?_ _) | (with_reducible refine Below.setCell ?_ ?_ _) | (with_reducible refine Below.drew ?_) | (with_reducible refine below_drewN ?_ _) | (with_reducible refine below_via (by with_reducible assumption) ?_ ?_) | go_size)⟩
end Go.Proofs.Ytdpifddmhbeklaa
