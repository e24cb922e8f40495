/-
  DERIVED. Runs: the lines, spec.
-/
import Derived.Test.YtcpicgcdefnhaaaRuns0
import Derived.Conc.MuLone
import Derived.Deep.AppendLies
namespace Go.Proofs.Ytcpicgcdefnhaaa
open Go.RowKit
set_option linter.unusedVariables false
theorem infoRun : (Try.prog.info? 51).map (fun i => (i.zero, i.size, i.bytes)) = some (some (.agg #[.int .i64 0, .int .i64 0, .bool false]), 3, 24) := by kernel_rfl
set_option maxRecDepth 100000 in
set_option maxHeartbeats 4000000 in
theorem sRunsL (a : Option Addr) (n cp : Nat) (zs : List Int) (w : World) (h : Rd w a n zs) (hn : n ≤ 40000) :
    Calls Try.prog 28 #[.slice a n cp] w (NewRuns w (runF zs n)) := by
  obtain ⟨i0, hi, hz0, hz1, hz2⟩ := info_parts infoRun
  have HH := Lib.hid h
  clear h
  have HO0 : Hid ((w.alloc (.cells #[] 51)).ownsRow w.heap.size 51 3 (.slice (some ⟨w.heap.size, 0, none⟩) 0 0) 0 []) := by
    have := World.ownsRow_lit (base := w.heap.size) (e := 51) (size := 3) w #[] 0 (by simp) (by unfold maxLen; omega) (by simp)
    simp at this
    exact this
  go_enter Try.func28, Try.ntmps28
  go_wp2
  go_loopw [3, 4] (fun v i wr => ∃ (k m : Nat), k ≤ n ∧ i = .int .i64 k ∧ Hid ((runF zs k).length = m) ∧ m ≤ k ∧ Hid (wr.ownsRow w.heap.size 51 3 v m (runV (runF zs k))) ∧ Below w.heap.size w wr) (fun _ i _ => n - (intOf i).toNat)
  case atStart => exact ⟨0, 0, Nat.zero_le _, rfl, rfl, Nat.le_refl _, HO0.out, by repeat' (first | (with_reducible exact Below.refl _ _) | (with_reducible assumption) | (with_reducible refine Below.alloc ?_ ?_ _) | (with_reducible refine Below.setCell ?_ ?_ _) | (with_reducible refine Below.drew ?_) | (with_reducible refine below_drewN ?_ _) | (with_reducible refine below_via (by with_reducible assumption) ?_ ?_) | go_size)⟩
  case round =>
    obtain ⟨k, m, hk, rfl, HM, hmk, HO, hbel⟩ := hrel
    have hzz := hbel.size
    obtain ⟨av, cv, rfl⟩ := ownN_shape HO.out
    by_cases hlt : k < n
    · obtain ⟨b, off, rfl, hb, hc⟩ := (HH.out.below hbel).2 (by omega)
      have hx := hc k hlt
      clear hc
      have HDK : Hid ((zs.getD k 0 == 1) = dk zs k) := rfl
      generalize zs.getD k 0 = x at hx HDK
      generalize hdv : dk zs k = d at HDK
      have HD := Lib.hid hdv
      have hxd := HDK.out
      clear hdv HDK
      rcases Nat.eq_zero_or_pos k with hk0 | hk0
      · have HV : Hid (runV (runF zs (k + 1)) = runV (runF zs k) ++ [.int .i64 (k : Int), .int .i64 1, .bool d]) := by
          rw [← HD.out]; subst hk0; rfl
        have HL1 : Hid ((runF zs (k + 1)).length = m + 1) := by
          have e : m = 0 := by omega
          rw [e]; subst hk0; rfl
        have hm0 : decide ((0 : Int) < (m : Int)) = false := by simp; omega
        have hk1 : k ≤ 0 := by omega
        clear hk0
        go_wp2_with (at_builtin; refine wpList_append_own _ rfl _ _ 47 rfl w.heap.size 51 i0 _ 3 24 Try.underlying47 hi hz0 hz1 hz2 rfl (by decide) _ _ _ rfl (HO.out.alloc _) ⟨wr.heap.size, 0, none⟩ 1 1 [.int .i64 (k : Int), .int .i64 1, .bool d] rfl rfl (World.news_of_block (heap_alloc_new wr _)) (by simp [Value.oneCell']) (by unfold maxLen; omega) (by omega) (by simp; omega) ?_; intro v' w2 hown' hgrow _)
        have HO2 : Hid (w2.ownsRow w.heap.size 51 3 v' (m + 1) (runV (runF zs (k + 1)))) := by rw [HV.out]; exact hown'
        have HB : Hid (Below w.heap.size w w2) := (hbel.alloc (by omega) _).grown hgrow (by simp; omega) (fun j e => (HO.out.lt j e).1)
        clear hown' hgrow hbel
        go_wp2
        go_roundw
        case rel => exact ⟨k + 1, m + 1, by omega, by go_num, HL1, by omega, HO2, HB.out⟩
        case measure => simp [intOf]; omega
      · obtain ⟨k, rfl⟩ : ∃ j, k = j + 1 := ⟨k - 1, by omega⟩
        obtain ⟨q, s, hq⟩ : ∃ q s, rO zs k = (q, s) := ⟨_, _, rfl⟩
        have hbd := rO_bd zs k
        rw [hq] at hbd
        obtain ⟨bd1, bd2⟩ := hbd
        simp only at bd1 bd2
        have HF : Hid (runF zs (k + 1) = q ++ [((s : Int), (k : Int) + 1 - (s : Int), dk zs k)]) := by rw [runF, hq]; exact rfl
        have hmq : m = q.length + 1 := by have := HM.out; rw [HF.out] at this; simpa using this.symm
        have HQ := Lib.hid hq
        clear hq
        generalize hql : q.length = p at hmq bd2
        have HP := Lib.hid hql
        clear hql
        subst hmq
        obtain ⟨g, rfl⟩ : ∃ g, av = some ⟨g, 0, none⟩ := by
          obtain ⟨g, cap, hv, _⟩ := HO.out.form (by omega)
          injection hv with hv1
          exact ⟨g, hv1⟩
        have HC : Hid (wr.cell? ⟨g, p * 3 + 1, none⟩ = some (.int .i64 ((k : Int) + 1 - (s : Int))) ∧ wr.cell? ⟨g, p * 3 + 2, none⟩ = some (.bool (dk zs k))) := by
          obtain ⟨b', off', e, _, _, e1, e2⟩ := (own_rdV HO.out).run (k := p) (by omega)
          injection e with e
          injection e with ea eb
          subst ea eb
          rw [HF.out, ← HP.out, run_last] at e1 e2
          rw [← HP.out]
          simp only [Nat.zero_add] at e1 e2
          exact ⟨e1, e2⟩
        obtain ⟨e1, e2⟩ := HC.out
        have f1 : wr.frozen? ⟨g, p * 3 + 1, none⟩ = false := HO.out.frozenAt _
        generalize hpv : dk zs k = pd at e2
        have HPD := Lib.hid hpv
        generalize hyv : (k : Int) + 1 - (s : Int) = y at e1
        have HY := Lib.hid hyv
        have y1 : 1 ≤ y := by omega
        have y2 : y ≤ 40000 := by omega
        clear hpv hyv
        have hidx : ((p + 1 : Nat) : Int) - 1 = (p : Int) := by omega
        have hidx2 : (p : Int) + 1 - 1 = (p : Int) := by omega
        have p0 : (0 : Int) ≤ (p : Int) := Int.natCast_nonneg _
        have p1 : (p : Int) < ((p + 1 : Nat) : Int) := by omega
        by_cases hsame : d = pd
        · subst hsame
          have HN : Hid ((wr.setCell ⟨g, p * 3 + 1, none⟩ (.int .i64 (y + 1))).ownsRow w.heap.size 51 3 (.slice (some ⟨g, 0, none⟩) (p + 1) cv) (p + 1) (runV (runF zs (k + 1 + 1)))) := by
            have hs := (HO.out.stored (p * 3 + 1) (.int .i64 (y + 1))).1
            have e3 := runF_same (zs := zs) (k := k) (by rw [HD.out, HPD.out])
            rw [HQ.out, HPD.out, HY.out] at e3
            simp only at e3
            rw [HF.out, HPD.out, HY.out, ← HP.out, run_set1, ← e3] at hs
            rw [← HP.out]
            exact hs
          have HL1 : Hid ((runF zs (k + 1 + 1)).length = p + 1) := by
            have h1 := HN.out.1
            rw [runV_length] at h1
            unfold Hid; omega
          have HB : Hid (Below w.heap.size w (wr.setCell ⟨g, p * 3 + 1, none⟩ (.int .i64 (y + 1)))) := hbel.setCell (HO.out.lt g rfl).1 _
          cases d
          all_goals
            go_wp2
            go_roundw
            case rel => exact ⟨k + 1 + 1, p + 1, by omega, by go_num, HL1, by omega, HN, HB.out⟩
            case measure => simp [intOf]; omega
        · have HV : Hid (runV (runF zs (k + 1 + 1)) = runV (runF zs (k + 1)) ++ [.int .i64 ((k + 1 : Nat) : Int), .int .i64 1, .bool d]) := by
            have e3 := runF_new (zs := zs) (k := k) (by rw [HD.out, HPD.out]; exact hsame)
            rw [HD.out] at e3
            unfold Hid
            rw [e3, runV_app]; rfl
          have hne : (pd == d) = false := by cases pd <;> cases d <;> simp at hsame ⊢
          go_wp2_with (at_builtin; refine wpList_append_own _ rfl _ _ 47 rfl w.heap.size 51 i0 _ 3 24 Try.underlying47 hi hz0 hz1 hz2 rfl (by decide) _ _ _ rfl (HO.out.alloc _) ⟨wr.heap.size, 0, none⟩ 1 1 [.int .i64 ((k + 1 : Nat) : Int), .int .i64 1, .bool d] rfl rfl (World.news_of_block (heap_alloc_new wr _)) (by simp [Value.oneCell']) (by unfold maxLen; omega) (by omega) (by simp; omega) ?_; intro v' w2 hown' hgrow _)
          have HO2 : Hid (w2.ownsRow w.heap.size 51 3 v' (p + 1 + 1) (runV (runF zs (k + 1 + 1)))) := by rw [HV.out]; exact hown'
          have HL1 : Hid ((runF zs (k + 1 + 1)).length = p + 1 + 1) := by
            have h1 := HO2.out.1
            rw [runV_length] at h1
            unfold Hid; omega
          have HB : Hid (Below w.heap.size w w2) := (hbel.alloc (by omega) _).grown hgrow (by simp; omega) (fun j e => (HO.out.lt j e).1)
          clear hown' hgrow hbel
          go_wp2
          go_roundw
          case rel => exact ⟨k + 1 + 1, p + 1 + 1, by omega, by go_num, HL1, by omega, HO2, HB.out⟩
          case measure => simp [intOf]; omega
    · have hke : k = n := by omega
      have HK := Lib.hid hke
      have hbig : m ≤ 1048576 := by omega
      clear hke
      go_wp2
      go_returns
      have e1 := HM.out
      have ho := HO.out
      rw [HK.out] at e1 ho
      refine ⟨av, cv, by rw [e1]; rfl, ?_, by repeat' (first | (with_reducible exact Below.refl _ _) | (with_reducible assumption) | (with_reducible refine Below.alloc ?_ ?_ _) | (with_reducible refine Below.setCell ?_ ?_ _) | (with_reducible refine Below.drew ?_) | (with_reducible refine below_drewN ?_ _) | (with_reducible refine below_via (by with_reducible assumption) ?_ ?_) | go_size), by rw [e1]; exact hbig⟩
      rw [e1]
      exact ho
end Go.Proofs.Ytcpicgcdefnhaaa
