/-
  DERIVED. The walk of FnRuns.
-/
import Derived.Test.YtbcbdphnbfjhoaaDSecIn
import Derived.Test.YtbcbdphnbfjhoaaSecI
import Derived.Test.YtbcbdphnbfjhoaaSecS
import Derived.Test.YtbcbdphnbfjhoaaWSections
import Derived.Conc.MuLone
import Derived.Laws.StructEq
import Derived.BigQuiet
namespace Go.Proofs.Ytbcbdphnbfjhoaa
open Go.RowKit
set_option linter.unusedVariables false
theorem neqRun (x y : Int) (z : Bool) (W : World) : (binOp .neq 77 (.agg #[.int .i64 x, .int .i64 y, .bool z]) (.agg #[.int .i64 x, .int .i64 y, .bool z])).run Try.prog W = .ok (.bool false) W := by
  have hS : Try.prog.underlying 77 = some (.struct (Try.prog.fieldsOf 77)) := by kernel_rfl
  have hp : Try.prog.stoodInHeld 77 = false := by kernel_rfl
  have u2 := Try.underlying2
  have u4 := Try.underlying4
  rw [run_neq_struct, show (10000 : Nat) = 9999 + 1 from rfl, run_equalIn_agg W 9999 77 _ _ hS hp]
  simp only [Program.fieldsOf, Try.underlying77]
  have i2 := Try.isAgg2
  have i4 := Try.isAgg4
  have z2 := Try.sizeOf2
  have z4 := Try.sizeOf4
  go_simp
theorem grdRun : Try.prog.eqGuardType Try.prog.depth 77 = false := by kernel_rfl
theorem own_runs {w : World} {base n c : Nat} {a : Option Addr} {L : List R3} (h : w.ownsRow base 77 3 (.slice a n c) n (runV L)) : RdV w a 3 n (runV L) := own_rdV h
set_option maxRecDepth 100000 in
set_option maxHeartbeats 8000000 in
theorem walk_FnRuns (code_a : Option Addr) (code_n code_c : Nat) (code_z : List Int) (w : World) (h_code : Ints .u8 w code_a code_n code_c code_z) :
    Calls Try.prog 14 #[.slice code_a code_n code_c] w fun e w' => e = .returned (.bool true) ∧ Below w.heap.size w w' := by
  have hmx := h_code.max
  have HBY := Lib.hid h_code.bytes
  clear h_code
  by_cases hbig : 4096 < code_n
  · have tb : decide ((4096 : Int) < (code_n : Int)) = true := by simp; omega
    go_enter Try.func14, Try.ntmps14
    go_wp2_with fail
    refine (lBig _ _ _ _ hmx).mono ?_
    rintro e w' ⟨rfl, rfl⟩
    rw [tb]
    go_wp2
    go_returns
    exact ⟨rfl, by repeat' (first | (with_reducible exact Below.refl _ _) | (with_reducible assumption) | (with_reducible refine Below.alloc ?_ ?_ _) | (with_reducible refine Below.setCell ?_ ?_ _) | (with_reducible refine Below.drew ?_) | (with_reducible refine below_drewN ?_ _) | (with_reducible refine below_via (by with_reducible assumption) ?_ ?_) | go_size)⟩
  have tb : decide ((4096 : Int) < (code_n : Int)) = false := by simp; omega
  go_enter Try.func14, Try.ntmps14
  go_wp2_with fail
  refine (lBig _ _ _ _ hmx).mono ?_
  rintro e w' ⟨rfl, rfl⟩
  rw [tb]
  go_wp2_with fail
  refine (dSectionsIn _ _ _ _ HBY.out (by omega)).mono ?_
  rintro e w1 ⟨aw, nw, cw, zs, rfl, hnw, hcw, hrd, hb1⟩
  have hz1 := hb1.size
  obtain ⟨L, M, code, HI, HS, JI, JS, HC, HE⟩ : ∃ (L M : List R3) (code : Int),
      Hid (∀ (W : World), Rd W aw nw zs → Calls Try.prog 22 #[.slice aw nw cw] W (ResRun W L code)) ∧
      Hid (∀ (W : World), Rd W aw nw zs → Calls Try.prog 20 #[.slice aw nw cw] W (ResRun W L code)) ∧
      Hid (∀ (W : World), Rd W aw nw zs → Calls Try.prog 29 #[.slice aw nw cw] W (ResRun W M code)) ∧
      Hid (∀ (W : World), Rd W aw nw zs → Calls Try.prog 28 #[.slice aw nw cw] W (ResRun W M code)) ∧
      Hid (∃ m, m ≤ 1000 ∧ Chain L m) ∧ Hid ((code = 1 ∧ L.length = 0) ∨ (code = 0 ∧ totR L L.length = (nw : Int))) := by
    cases hl : lineB nw zs
    · exact ⟨[], [], 1, fun W h => iRunsOf_no _ _ _ _ _ h (by omega) hl, fun W h => sRunsOf_no _ _ _ _ _ h (by omega) hl, fun W h => iSectionsIn_no _ _ _ _ _ h (by omega) hl, fun W h => sSectionsIn_no _ _ _ _ _ h (by omega) hl,
        ⟨0, by omega, runF_chain zs 0⟩, .inl ⟨rfl, rfl⟩⟩
    · exact ⟨runF zs nw, _, 0, fun W h => iRunsOf_ok _ _ _ _ _ h (by omega) hl, fun W h => sRunsOf_ok _ _ _ _ _ h (by omega) hl, fun W h => iSectionsIn_ok _ _ _ _ _ h (by omega) hl, fun W h => sSectionsIn_ok _ _ _ _ _ h (by omega) hl,
        ⟨nw, hnw, runF_chain zs nw⟩, .inr ⟨rfl, (runF_chain zs nw).2.1⟩⟩
  have HR := Lib.hid hrd
  clear hrd
  go_wp2_with fail
  refine (HI.out _ HR.out).mono ?_
  rintro e w2 ⟨a2, c2, rfl, ho2, hb2, hLn⟩
  have hz2 := hb2.size
  go_wp2_with fail
  refine (HS.out _ (HR.out.below hb2)).mono ?_
  rintro e w3 ⟨a3, c3, rfl, ho3, hb3, -⟩
  have hz3 := hb3.size
  have HR3 := Lib.hid ((HR.out.below hb2).below hb3)
  have HL2 := Lib.hid ((own_runs ho2).below hb3)
  have HL3 := Lib.hid (own_runs ho3)
  have hB3 : Below w.heap.size w w3 := by repeat' (first | (with_reducible exact Below.refl _ _) | (with_reducible assumption) | (with_reducible refine Below.alloc ?_ ?_ _) | (with_reducible refine Below.setCell ?_ ?_ _) | (with_reducible refine Below.drew ?_) | (with_reducible refine below_drewN ?_ _) | (with_reducible refine below_via (by with_reducible assumption) ?_ ?_) | go_size)
  clear hb1 hb2 hb3 ho2 ho3
  have tc : (code != code) = false := by simp
  have tl : ((L.length : Int) != (L.length : Int)) = false := by simp
  have hN := neqRun
  have hG := grdRun
  obtain ⟨m, hm, hch⟩ := HC.out
  have HCH := Lib.hid hch
  clear hch
  go_wp2
  go_loopw [8, 9] (fun q i wr => ∃ k : Nat, k ≤ L.length ∧ i = .int .i64 k ∧ q = .int .i64 (totR L k) ∧ Below w3.heap.size w3 wr) (fun _ i _ => L.length - (intOf i).toNat)
  case atStart => exact ⟨0, Nat.zero_le _, rfl, rfl, by repeat' (first | (with_reducible exact Below.refl _ _) | (with_reducible assumption) | (with_reducible refine Below.alloc ?_ ?_ _) | (with_reducible refine Below.setCell ?_ ?_ _) | (with_reducible refine Below.drew ?_) | (with_reducible refine below_drewN ?_ _) | (with_reducible refine below_via (by with_reducible assumption) ?_ ?_) | go_size)⟩
  case round =>
    obtain ⟨k, hk, rfl, rfl, hbel⟩ := hrel
    have hzz := hbel.size
    by_cases hlt : k < L.length
    · obtain ⟨b, off, rfl, hb, c0, c1, c2⟩ := (HL2.out.below hbel).run hlt
      obtain ⟨b', off', rfl, hb', d0, d1, d2⟩ := (HL3.out.below hbel).run hlt
      obtain ⟨e1, e2, e3, e4, e5⟩ := HCH.out.bd hlt
      have HT : Hid (totR L (k + 1) = totR L k + lnR L k) := rfl
      have HD : Hid (∀ q, q + 1 = k → dkR L k ≠ dkR L q) := fun q e => by subst e; exact HCH.out.2.2 q hlt
      rw [show (L.getD k (0, 0, false)).1 = stR L k from rfl] at c0 d0
      rw [show (L.getD k (0, 0, false)).2.1 = lnR L k from rfl] at c1 d1
      rw [show (L.getD k (0, 0, false)).2.2 = dkR L k from rfl] at c2 d2
      rw [e1] at c0 d0 e4 e5
      clear e1
      generalize hT : totR L k = t at c0 d0 e4 e5 HT ⊢
      generalize hl : lnR L k = l at c1 d1 e2 e3 e5 HT
      clear hl hT
      have t1 : (t != t) = false := by simp
      have t2 : decide (l < 1) = false := by simp; omega
      have k0 : (0 : Int) ≤ (k : Int) := Int.natCast_nonneg _
      have k1 : (k : Int) < (L.length : Int) := by omega
      rcases Nat.eq_zero_or_pos k with h0 | h0
      · have hle : k ≤ 0 := by omega
        have t4 : decide ((0 : Int) < (k : Int)) = false := by simp; omega
        have t5 : decide (0 < k) = false := by simp; omega
        have hk0 := Lib.hid h0
        clear h0 hle
        generalize dkR L k = d at c2 d2 HD
        clear HD
        go_wp2_with fail
        go_quiet (fail)
        go_wp2
        go_roundw
        case rel => exact ⟨k + 1, by omega, by go_num, by rw [HT.out], by repeat' (first | (with_reducible exact Below.refl _ _) | (with_reducible assumption) | (with_reducible refine Below.alloc ?_ ?_ _) | (with_reducible refine Below.setCell ?_ ?_ _) | (with_reducible refine Below.drew ?_) | (with_reducible refine below_drewN ?_ _) | (with_reducible refine below_via (by with_reducible assumption) ?_ ?_) | go_size)⟩
        case measure => simp [intOf]; omega
      · obtain ⟨q, rfl⟩ : ∃ q, k = q + 1 := ⟨k - 1, by omega⟩
        obtain ⟨bq, offq, e, _, _, _, p2⟩ := (HL2.out.below hbel).run (show q < L.length by omega)
        injection e with e
        injection e with ee1 ee2
        subst ee1 ee2
        rw [show (L.getD q (0, 0, false)).2.2 = dkR L q from rfl] at p2
        have HDQ := HD.out q rfl
        generalize dkR L (q + 1) = d at c2 d2 HD HDQ
        generalize dkR L q = dq at p2 HDQ
        have t3 : (d == dq) = false := by simpa using HDQ
        clear HD HDQ
        go_wp2_with fail
        go_quiet (fail)
        go_wp2
        go_roundw
        case rel => exact ⟨q + 1 + 1, by omega, by go_num, by rw [HT.out], by repeat' (first | (with_reducible exact Below.refl _ _) | (with_reducible assumption) | (with_reducible refine Below.alloc ?_ ?_ _) | (with_reducible refine Below.setCell ?_ ?_ _) | (with_reducible refine Below.drew ?_) | (with_reducible refine below_drewN ?_ _) | (with_reducible refine below_via (by with_reducible assumption) ?_ ?_) | go_size)⟩
        case measure => simp [intOf]; omega
    · have hkn : k = L.length := by omega
      subst hkn
      have hBr : Below w.heap.size w wr := hB3.trans (hbel.mono (by omega))
      have HRr := Lib.hid (HR3.out.below hbel)
      clear hbel
      go_wp2_with fail
      refine (JI.out _ HRr.out).mono ?_
      rintro e w4 ⟨a4, c4, rfl, ho4, hb4, hMn⟩
      have hz4 := hb4.size
      go_wp2_with fail
      refine (JS.out _ (HRr.out.below hb4)).mono ?_
      rintro e w5 ⟨a5, c5, rfl, ho5, hb5, -⟩
      have hz5 := hb5.size
      have HL4 := Lib.hid ((own_runs ho4).below hb5)
      have HL5 := Lib.hid (own_runs ho5)
      have hB5 : Below w.heap.size w w5 := by repeat' (first | (with_reducible exact Below.refl _ _) | (with_reducible assumption) | (with_reducible refine Below.alloc ?_ ?_ _) | (with_reducible refine Below.setCell ?_ ?_ _) | (with_reducible refine Below.drew ?_) | (with_reducible refine below_drewN ?_ _) | (with_reducible refine below_via (by with_reducible assumption) ?_ ?_) | go_size)
      clear hb4 hb5 ho4 ho5
      have tm : ((M.length : Int) != (M.length : Int)) = false := by simp
      go_wp2
      go_loopw [14] (fun i wr => ∃ k : Nat, k ≤ M.length ∧ i = .int .i64 k ∧ Below w5.heap.size w5 wr) (fun i _ => M.length - (intOf i).toNat)
      case atStart => exact ⟨0, Nat.zero_le _, rfl, by repeat' (first | (with_reducible exact Below.refl _ _) | (with_reducible assumption) | (with_reducible refine Below.alloc ?_ ?_ _) | (with_reducible refine Below.setCell ?_ ?_ _) | (with_reducible refine Below.drew ?_) | (with_reducible refine below_drewN ?_ _) | (with_reducible refine below_via (by with_reducible assumption) ?_ ?_) | go_size)⟩
      case round =>
        obtain ⟨k, hk, rfl, hbel⟩ := hrel
        have hzz := hbel.size
        by_cases hlt : k < M.length
        · obtain ⟨b, off, rfl, hb, c0, c1, c2⟩ := (HL4.out.below hbel).run hlt
          obtain ⟨b', off', rfl, hb', d0, d1, d2⟩ := (HL5.out.below hbel).run hlt
          have k0 : (0 : Int) ≤ (k : Int) := Int.natCast_nonneg _
          have k1 : (k : Int) < (M.length : Int) := by omega
          generalize (M.getD k (0, 0, false)).1 = y0 at c0 d0
          generalize (M.getD k (0, 0, false)).2.1 = y1 at c1 d1
          generalize (M.getD k (0, 0, false)).2.2 = y2 at c2 d2
          go_wp2_with fail
          go_quiet (fail)
          go_wp2
          go_roundw
          case rel => exact ⟨k + 1, by omega, by go_num, by repeat' (first | (with_reducible exact Below.refl _ _) | (with_reducible assumption) | (with_reducible refine Below.alloc ?_ ?_ _) | (with_reducible refine Below.setCell ?_ ?_ _) | (with_reducible refine Below.drew ?_) | (with_reducible refine below_drewN ?_ _) | (with_reducible refine below_via (by with_reducible assumption) ?_ ?_) | go_size)⟩
          case measure => simp [intOf]; omega
        · rcases HE.out with ⟨rfl, -⟩ | ⟨rfl, h2⟩
          · go_wp2
            go_returns
            exact ⟨rfl, by repeat' (first | (with_reducible exact Below.refl _ _) | (with_reducible assumption) | (with_reducible refine Below.alloc ?_ ?_ _) | (with_reducible refine Below.setCell ?_ ?_ _) | (with_reducible refine Below.drew ?_) | (with_reducible refine below_drewN ?_ _) | (with_reducible refine below_via (by with_reducible assumption) ?_ ?_) | go_size)⟩
          · rw [h2]
            go_wp2
            go_returns
            exact ⟨by simp, by repeat' (first | (with_reducible exact Below.refl _ _) | (with_reducible assumption) | (with_reducible refine Below.alloc ?_ ?_ _) | (with_reducible refine Below.setCell ?_ ?_ _) | (with_reducible refine Below.drew ?_) | (with_reducible refine below_drewN ?_ _) | (with_reducible refine below_via (by with_reducible assumption) ?_ ?_) | go_size)⟩
end Go.Proofs.Ytbcbdphnbfjhoaa
