/-
  DERIVED. The walk of FnOrdered.
-/
import Derived.Test.YtdbecdgiafjkfaaOrd4
import Derived.Test.YtdbecdgiafjkfaaOrdP
import Derived.Test.YtdbecdgiafjkfaaDOrd
import Derived.Test.YtdbecdgiafjkfaaLike
namespace Go.Proofs.Ytdbecdgiafjkfaa
open Go.RowKit
set_option linter.unusedVariables false
theorem three (w W : World) (x1 y1 x2 y2 x3 y3 : Int) (hW : W = (((w.alloc (.cells #[.int .i64 x1, .int .i64 y1] 35)).alloc (.cells #[.int .i64 x2, .int .i64 y2] 35)).alloc (.cells #[.int .i64 x3, .int .i64 y3] 35))) : Box2 W w.heap.size x1 y1 ∧ Box2 W (w.heap.size + 1) x2 y2 ∧ Box2 W (w.heap.size + 1 + 1) x3 y3 ∧ Below w.heap.size w W ∧ W.heap.size = w.heap.size + 3 := by
  subst hW
  have al := fun (W : World) (o : Obj) => (Below.refl W.heap.size W).alloc (Nat.le_refl _) o
  have k1 := Box2.new w 35 x1 y1
  have k2 := Box2.new (w.alloc (.cells #[.int .i64 x1, .int .i64 y1] 35)) 35 x2 y2
  have k3 := Box2.new ((w.alloc (.cells #[.int .i64 x1, .int .i64 y1] 35)).alloc (.cells #[.int .i64 x2, .int .i64 y2] 35)) 35 x3 y3
  simp only [World.size_alloc] at k2 k3
  exact ⟨(k1.keep (al _ _)).keep (al _ _), k2.keep (al _ _), k3, by repeat' (first | (with_reducible exact Below.refl _ _) | (with_reducible assumption) | (with_reducible refine Below.alloc ?_ ?_ _) | (with_reducible refine Below.setCell ?_ ?_ _) | (with_reducible refine Below.drew ?_) | (with_reducible refine below_drewN ?_ _) | (with_reducible refine below_via (by with_reducible assumption) ?_ ?_) | go_size), by simp⟩
theorem sp_spot {x y : Int} (h : Sp x y) : spotB x y = true := by
  obtain ⟨a, b, c, d⟩ := h
  simp only [spotB, Bool.and_eq_true, inB_iff]
  omega
theorem ord_code {x1 y1 x2 y2 x3 y3 a1 a2 a3 a4 a5 a6 code : Int} (h : ordOut x1 y1 x2 y2 x3 y3 = (a1, a2, a3, a4, a5, a6, code)) :
    (code = 1 ∨ code = 5) ∨ (code = 0 ∧ spots3B x1 y1 x2 y2 x3 y3 = true ∧ ¬ turnV x1 y1 x2 y2 x3 y3 = 0 ∧ ordOf x1 y1 x2 y2 x3 y3 = (a1, a2, a3, a4, a5, a6)) := by
  unfold ordOut at h
  cases hs : spots3B x1 y1 x2 y2 x3 y3
  · rw [hs] at h
    simp only [Bool.false_eq_true, if_false, Prod.mk.injEq] at h
    exact .inl (.inl (by omega))
  · rw [hs] at h
    by_cases ht : turnV x1 y1 x2 y2 x3 y3 = 0
    · rw [if_pos rfl, if_pos ht] at h
      simp only [Prod.mk.injEq] at h
      exact .inl (.inr (by omega))
    · rw [if_pos rfl, if_neg ht] at h
      simp only [Prod.mk.injEq] at h
      obtain ⟨rfl, rfl, rfl, rfl, rfl, rfl, rfl⟩ := h
      exact .inr ⟨rfl, rfl, ht, rfl⟩
/-- all that the second half of the law wants. -/
theorem ord_facts {x1 y1 x2 y2 x3 y3 a1 a2 a3 a4 a5 a6 : Int} (hs : spots3B x1 y1 x2 y2 x3 y3 = true) (ht : ¬ turnV x1 y1 x2 y2 x3 y3 = 0) (h : ordOf x1 y1 x2 y2 x3 y3 = (a1, a2, a3, a4, a5, a6)) :
    ∃ d1 d2 d3 d4 d5 d6 : Int, ordOut x2 y2 x1 y1 x3 y3 = (d1, d2, d3, d4, d5, d6, 0) ∧ spots3B a1 a2 a3 a4 a5 a6 = true ∧ 0 < turnV a1 a2 a3 a4 a5 a6 ∧ sqV a3 a4 a1 a2 ≤ sqV a5 a6 a3 a4 ∧ sqV a5 a6 a1 a2 ≤ sqV a5 a6 a3 a4 ∧
      (sqV a3 a4 a1 a2 = sqV a5 a6 a3 a4 ∨ sqV a5 a6 a1 a2 = sqV a5 a6 a3 a4 ∨ (d1 = a1 ∧ d2 = a2 ∧ d3 = a3 ∧ d4 = a4 ∧ d5 = a5 ∧ d6 = a6)) := by
  simp only [spots3B, Bool.and_eq_true] at hs
  obtain ⟨h1, h2, h3⟩ := hs
  have s1 := spot_sp h1
  have s2 := spot_sp h2
  have s3 := spot_sp h3
  have hs' : spots3B x2 y2 x1 y1 x3 y3 = true := by simp [spots3B, h1, h2, h3]
  have ht' : ¬ turnV x2 y2 x1 y1 x3 y3 = 0 := by
    have e1 := turn_rot s1 s2 s3
    have e2 := turn_swap s2 s3 s1
    omega
  obtain ⟨d1, d2, d3, d4, d5, d6, hd⟩ : ∃ d1 d2 d3 d4 d5 d6, ordOf x2 y2 x1 y1 x3 y3 = (d1, d2, d3, d4, d5, d6) := ⟨_, _, _, _, _, _, rfl⟩
  obtain ⟨⟨p1, p2, p3⟩, q⟩ := ord_law s1 s2 s3 ht h hd
  refine ⟨d1, d2, d3, d4, d5, d6, by unfold ordOut; rw [hs', if_pos rfl, if_neg ht', hd], by simp [spots3B, sp_spot p1, sp_spot p2, sp_spot p3], q⟩
set_option maxRecDepth 100000 in
set_option maxHeartbeats 8000000 in
theorem walk_FnOrdered (code_a : Option Addr) (code_n code_c : Nat) (code_z : List Int) (w : World) (h_code : Ints .u8 w code_a code_n code_c code_z) :
    Calls Try.prog 7 #[.slice code_a code_n code_c] w fun e w' => e = .returned (.bool true) ∧ Below w.heap.size w w' := by
  have hmx := h_code.max
  have HBY := Lib.hid h_code.bytes
  clear h_code
  by_cases hbig : 4096 < code_n
  · have tb : decide ((4096 : Int) < (code_n : Int)) = true := by simp; omega
    go_enter Try.func7, Try.ntmps7
    go_wp2_with fail
    refine (lBig _ _ _ _ hmx).mono ?_
    rintro e w' ⟨rfl, rfl⟩
    rw [tb]
    go_wp2
    go_returns
    exact ⟨rfl, by repeat' (first | (with_reducible exact Below.refl _ _) | (with_reducible assumption) | (with_reducible refine Below.alloc ?_ ?_ _) | (with_reducible refine Below.setCell ?_ ?_ _) | (with_reducible refine Below.drew ?_) | (with_reducible refine below_drewN ?_ _) | (with_reducible refine below_via (by with_reducible assumption) ?_ ?_) | go_size)⟩
  have tb : decide ((4096 : Int) < (code_n : Int)) = false := by simp; omega
  go_enter Try.func7, Try.ntmps7
  go_wp2_with fail
  refine (lBig _ _ _ _ hmx).mono ?_
  rintro e w' ⟨rfl, rfl⟩
  rw [tb]
  go_wp2_with fail
  refine (dOrd _ _ _ _ HBY.out (by omega)).mono ?_
  rintro e w1 ⟨x1, y1, x2, y2, x3, y3, rfl, hb1⟩
  have hz1 := hb1.size
  obtain ⟨a1, a2, a3, a4, a5, a6, code, hd⟩ : ∃ a1 a2 a3 a4 a5 a6 code, ordOut x1 y1 x2 y2 x3 y3 = (a1, a2, a3, a4, a5, a6, code) := ⟨_, _, _, _, _, _, _, rfl⟩
  have HD := Lib.hid hd
  clear hd HBY tb
  go_wp2_with fail
  obtain ⟨WA, hWA⟩ : ∃ WA : World, WA = (((w1.alloc (.cells #[.int .i64 x1, .int .i64 y1] 35)).alloc (.cells #[.int .i64 x2, .int .i64 y2] 35)).alloc (.cells #[.int .i64 x3, .int .i64 y3] 35)) := ⟨_, rfl⟩
  obtain ⟨p1, p2, p3, pb, pz⟩ := three w1 WA x1 y1 x2 y2 x3 y3 hWA
  rw [← hWA]
  clear hWA
  have P1 := Lib.hid p1
  have P2 := Lib.hid p2
  have P3 := Lib.hid p3
  have HBA := Lib.hid (hb1.trans (pb.mono hz1))
  clear p1 p2 p3 hb1 pb
  refine (iOrderSpots x1 y1 x2 y2 x3 y3 _ a1 a2 a3 a4 a5 a6 code HD.out).mono ?_
  rintro e w2 ⟨rfl, hb2⟩
  have hz2 := hb2.size
  obtain ⟨_, _, _⟩ := P1.out.keep hb2
  obtain ⟨_, _, _⟩ := P2.out.keep hb2
  obtain ⟨_, _, _⟩ := P3.out.keep hb2
  have P1 := Lib.hid (P1.out.keep hb2)
  have P2 := Lib.hid (P2.out.keep hb2)
  have P3 := Lib.hid (P3.out.keep hb2)
  have HB2 := Lib.hid (HBA.out.trans (hb2.mono HBA.out.size))
  clear hb2 HBA
  have l1 : w1.heap.size < w2.heap.size := by omega
  have l2 : w1.heap.size + 1 < w2.heap.size := by omega
  have l3 : w1.heap.size + 1 + 1 < w2.heap.size := by omega
  have l4 : w1.heap.size < w2.heap.size + 1 := by omega
  have l5 : w1.heap.size < w2.heap.size + 1 + 1 := by omega
  have l6 : w1.heap.size + 1 < w2.heap.size + 1 := by omega
  have l7 : w1.heap.size + 1 + 1 < w2.heap.size + 1 := by omega
  go_wp2_with fail
  obtain ⟨WB, hWB⟩ : ∃ WB : World, WB = (((w2.alloc (.cells #[.int .i64 a1, .int .i64 a2] 35)).alloc (.cells #[.int .i64 a3, .int .i64 a4] 35)).alloc (.cells #[.int .i64 a5, .int .i64 a6] 35)) := ⟨_, rfl⟩
  obtain ⟨q1, q2, q3, qb, qz⟩ := three w2 WB a1 a2 a3 a4 a5 a6 hWB
  rw [← hWB]
  clear hWB
  have P1 := Lib.hid (P1.out.keep qb)
  have P2 := Lib.hid (P2.out.keep qb)
  have P3 := Lib.hid (P3.out.keep qb)
  have Q1 := Lib.hid q1
  have Q2 := Lib.hid q2
  have Q3 := Lib.hid q3
  have HBB := Lib.hid (HB2.out.trans (qb.mono HB2.out.size))
  clear q1 q2 q3 qb HB2
  refine (sOrderSpots x1 y1 x2 y2 x3 y3 _ a1 a2 a3 a4 a5 a6 code HD.out).mono ?_
  rintro e w3 ⟨rfl, hb3⟩
  have hz3 := hb3.size
  have P1 := Lib.hid (P1.out.keep hb3)
  have P2 := Lib.hid (P2.out.keep hb3)
  have P3 := Lib.hid (P3.out.keep hb3)
  have Q1 := Lib.hid (Q1.out.keep hb3)
  have Q2 := Lib.hid (Q2.out.keep hb3)
  have Q3 := Lib.hid (Q3.out.keep hb3)
  have HB3 := Lib.hid (HBB.out.trans (hb3.mono HBB.out.size))
  clear hb3 HBB
  have q1 := Q1.out
  have q2 := Q2.out
  have q3 := Q3.out
  obtain ⟨_, _, _⟩ := q1
  obtain ⟨_, _, _⟩ := q2
  obtain ⟨_, _, _⟩ := q3
  have l1 : w2.heap.size < w3.heap.size := by omega
  have l2 : w2.heap.size + 1 < w3.heap.size := by omega
  have l3 : w2.heap.size + 1 + 1 < w3.heap.size := by omega
  have l4 : w2.heap.size < w3.heap.size + 1 := by omega
  have l5 : w2.heap.size < w3.heap.size + 1 + 1 := by omega
  have l6 : w2.heap.size + 1 < w3.heap.size + 1 := by omega
  have l7 : w2.heap.size + 1 + 1 < w3.heap.size + 1 := by omega
  rcases ord_code HD.out with hc | ⟨rfl, hs, ht, ho⟩
  · rcases hc with rfl | rfl
    · go_wp2
      go_returns
      exact ⟨rfl, by have hbo := HB3.out; repeat' (first | (with_reducible exact Below.refl _ _) | (with_reducible assumption) | (with_reducible refine Below.alloc ?_ ?_ _) | (with_reducible refine Below.setCell ?_ ?_ _) | (with_reducible refine Below.drew ?_) | (with_reducible refine below_drewN ?_ _) | (with_reducible refine below_via (by with_reducible assumption) ?_ ?_) | go_size)⟩
    · go_wp2
      go_returns
      exact ⟨rfl, by have hbo := HB3.out; repeat' (first | (with_reducible exact Below.refl _ _) | (with_reducible assumption) | (with_reducible refine Below.alloc ?_ ?_ _) | (with_reducible refine Below.setCell ?_ ?_ _) | (with_reducible refine Below.drew ?_) | (with_reducible refine below_drewN ?_ _) | (with_reducible refine below_via (by with_reducible assumption) ?_ ?_) | go_size)⟩
  obtain ⟨d1, d2, d3, d4, d5, d6, hd', hs', ht', hL, hR, hE⟩ := ord_facts hs ht ho
  have HD' := Lib.hid hd'
  have HE := Lib.hid hE
  have hL' := Lib.hid hL
  have hR' := Lib.hid hR
  have ht2 := Lib.hid ht'
  clear hd' hE hs ht ho hL hR ht'
  obtain ⟨L, hLv⟩ : ∃ L, sqV a3 a4 a1 a2 = L := ⟨_, rfl⟩
  obtain ⟨R, hRv⟩ : ∃ R, sqV a5 a6 a1 a2 = R := ⟨_, rfl⟩
  obtain ⟨F, hFv⟩ : ∃ F, sqV a5 a6 a3 a4 = F := ⟨_, rfl⟩
  obtain ⟨T, hTv⟩ : ∃ T, turnV a1 a2 a3 a4 a5 a6 = T := ⟨_, rfl⟩
  have hl := hL'.out
  have hr := hR'.out
  have he := HE.out
  have h0 := ht2.out
  rw [hLv, hFv] at hl
  rw [hRv, hFv] at hr
  rw [hLv, hRv, hFv] at he
  rw [hTv] at h0
  have HE := Lib.hid he
  have eL : wrap64 (wrap64 (wrap64 (a3 - a1) * wrap64 (a3 - a1)) + wrap64 (wrap64 (a4 - a2) * wrap64 (a4 - a2))) = L := hLv
  have eR : wrap64 (wrap64 (wrap64 (a5 - a1) * wrap64 (a5 - a1)) + wrap64 (wrap64 (a6 - a2) * wrap64 (a6 - a2))) = R := hRv
  have eF : wrap64 (wrap64 (wrap64 (a5 - a3) * wrap64 (a5 - a3)) + wrap64 (wrap64 (a6 - a4) * wrap64 (a6 - a4))) = F := hFv
  have HTV := Lib.hid hTv
  have c1 : ¬ T ≤ 0 := by omega
  have c2 : ¬ F < L := by omega
  have c3 : ¬ F < R := by omega
  clear he hL' hR' ht2 hTv
  go_wp2_with fail
  have hw3 := (three w3 _ a1 a2 a3 a4 a5 a6 rfl).2.2.2.1
  refine (iTurnOf _ _ _ _ _ _ _).mono ?_
  rw [hs', HTV.out]
  simp only [selI_true]
  rintro e w4 ⟨rfl, hb4⟩
  have hb34 : Below w3.heap.size w3 w4 := hw3.trans (hb4.mono hw3.size)
  have hz4 := hb34.size
  have hz4' := hb4.size
  simp only [World.size_alloc] at hz4'
  have P1 := Lib.hid (P1.out.keep hb34)
  have P2 := Lib.hid (P2.out.keep hb34)
  have P3 := Lib.hid (P3.out.keep hb34)
  have Q1 := Lib.hid (Q1.out.keep hb34)
  have Q2 := Lib.hid (Q2.out.keep hb34)
  have Q3 := Lib.hid (Q3.out.keep hb34)
  have HB4 := Lib.hid (HB3.out.trans (hb34.mono HB3.out.size))
  have p1 := P1.out
  have p2 := P2.out
  have p3 := P3.out
  obtain ⟨_, _, _⟩ := p1
  obtain ⟨_, _, _⟩ := p2
  obtain ⟨_, _, _⟩ := p3
  clear hw3 hb4 hb34 HB3
  go_wp2_with fail
  refine (iOrderSpots x2 y2 x1 y1 x3 y3 _ d1 d2 d3 d4 d5 d6 0 HD'.out).mono ?_
  rintro e w5 ⟨rfl, hb5⟩
  have hz5 := hb5.size
  have q1 := Q1.out.keep hb5
  have q2 := Q2.out.keep hb5
  have q3 := Q3.out.keep hb5
  obtain ⟨_, _, _⟩ := q1
  obtain ⟨_, _, _⟩ := q2
  obtain ⟨_, _, _⟩ := q3
  have HB5 := Lib.hid (HB4.out.trans (hb5.mono HB4.out.size))
  clear hb5 HB4 P1 P2 P3 Q1 Q2 Q3
  have m1 : w2.heap.size < w5.heap.size := by omega
  have m2 : w2.heap.size + 1 < w5.heap.size := by omega
  have m3 : w2.heap.size + 1 + 1 < w5.heap.size := by omega
  have m4 : w2.heap.size < w5.heap.size + 1 := by omega
  have m5 : w2.heap.size < w5.heap.size + 1 + 1 := by omega
  have m6 : w2.heap.size + 1 < w5.heap.size + 1 := by omega
  have m7 : w2.heap.size + 1 + 1 < w5.heap.size + 1 := by omega
  by_cases hLF : L = F
  · have b1 : (L == F) = true := by simpa using hLF
    go_wp2
    go_returns
    exact ⟨rfl, by have hbo := HB5.out; repeat' (first | (with_reducible exact Below.refl _ _) | (with_reducible assumption) | (with_reducible refine Below.alloc ?_ ?_ _) | (with_reducible refine Below.setCell ?_ ?_ _) | (with_reducible refine Below.drew ?_) | (with_reducible refine below_drewN ?_ _) | (with_reducible refine below_via (by with_reducible assumption) ?_ ?_) | go_size)⟩
  by_cases hRF : R = F
  · have b1 : (L == F) = false := by simpa using hLF
    have b2 : (R == F) = true := by simpa using hRF
    go_wp2
    go_returns
    exact ⟨rfl, by have hbo := HB5.out; repeat' (first | (with_reducible exact Below.refl _ _) | (with_reducible assumption) | (with_reducible refine Below.alloc ?_ ?_ _) | (with_reducible refine Below.setCell ?_ ?_ _) | (with_reducible refine Below.drew ?_) | (with_reducible refine below_drewN ?_ _) | (with_reducible refine below_via (by with_reducible assumption) ?_ ?_) | go_size)⟩
  · obtain ⟨rfl, rfl, rfl, rfl, rfl, rfl⟩ : d1 = a1 ∧ d2 = a2 ∧ d3 = a3 ∧ d4 = a4 ∧ d5 = a5 ∧ d6 = a6 := by
      rcases HE.out with h | h | h
      · exact absurd h hLF
      · exact absurd h hRF
      · exact h
    have b1 : (L == F) = false := by simpa using hLF
    have b2 : (R == F) = false := by simpa using hRF
    go_wp2
    go_returns
    exact ⟨rfl, by have hbo := HB5.out; repeat' (first | (with_reducible exact Below.refl _ _) | (with_reducible assumption) | (with_reducible refine Below.alloc ?_ ?_ _) | (with_reducible refine Below.setCell ?_ ?_ _) | (with_reducible refine Below.drew ?_) | (with_reducible refine below_drewN ?_ _) | (with_reducible refine below_via (by with_reducible assumption) ?_ ?_) | go_size)⟩
end Go.Proofs.Ytdbecdgiafjkfaa
