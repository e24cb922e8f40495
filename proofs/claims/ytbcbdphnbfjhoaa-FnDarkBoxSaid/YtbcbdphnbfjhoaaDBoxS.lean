/-
  DERIVED. DarkBox: spec.
-/
import Derived.Test.YtbcbdphnbfjhoaaDBox
import Derived.Conc.MuLone
import Derived.BigQuiet
namespace Go.Proofs.Ytbcbdphnbfjhoaa
open Go.RowKit
set_option linter.unusedVariables false
set_option maxHeartbeats 4000000 in
theorem sDarkBox_ok (r c : Int) (a : Option Addr) (n cp : Nat) (zs : List Int) (w : World) (h : Rd w a n zs) (hn : n ≤ 1048576) (hr : gridB r c n zs = true) (a1 a2 a3 a4 a5 a6 a7 a8 code : Int) (hd : dbOut r c n zs = (a1, a2, a3, a4, a5, a6, a7, a8, code)) :
    Calls Try.prog 30 #[.agg #[.int .i64 r, .int .i64 c, .slice a n cp]] w fun e w' => e = .returned (.tuple #[.agg #[.int .i64 a1, .int .i64 a2, .int .i64 a3, .int .i64 a4, .int .i64 a5, .int .i64 a6, .int .i64 a7, .int .i64 a8], .int .i64 code]) ∧ Below w.heap.size w w' := by
  have HH := Lib.hid h
  have HL := Lib.hid h.1
  clear h
  have HD := Lib.hid hd
  clear hd
  obtain ⟨g1, g2, g3, g4, g5, g6, g7, g8⟩ := gridB_yes hr
  obtain ⟨rows, rfl⟩ := Int.eq_ofNat_of_zero_le (show 0 ≤ r by omega)
  obtain ⟨cols, rfl⟩ := Int.eq_ofNat_of_zero_le (show 0 ≤ c by omega)
  have hnn : n = rows * cols := by
    have : ((rows : Int) * (cols : Int)) = ((rows * cols : Nat) : Int) := by simp
    omega
  have hn4 : n ≤ 40000 := by
    have : ((rows : Int) * (cols : Int)) = ((rows * cols : Nat) : Int) := by simp
    omega
  have hp : 0 < n := by omega
  have HR := Lib.hid hr
  have HI := Lib.hid (fun (k : Nat) (hk : k ≤ n) (t b l r : Int) (hs : boxS zs rows cols k = (t, b, l, r)) => boxS_inv zs rows cols (by omega) k (by omega) hs)
  have HNN := Lib.hid hnn
  clear g5 g6 g7 g8 hnn
  have hB3 := Lib.hid (Box3.new w 28 (.int .i64 (rows : Int)) (.int .i64 (cols : Int)) (.slice a n cp))
  have bO := Lib.hid (Out8.new (w.alloc (.cells #[.int .i64 (rows : Int), .int .i64 (cols : Int), .slice a n cp] 28)) 44)
  go_enter Try.func30, Try.ntmps30
  go_wp2_with fail
  refine (sIsGrid (rows : Int) (cols : Int) a n cp zs _ (HH.out.below (by repeat' (first | (with_reducible exact Below.refl _ _) | (with_reducible assumption) | (with_reducible refine Below.alloc ?_ ?_ _) | (with_reducible refine Below.setCell ?_ ?_ _) | (with_reducible refine Below.drew ?_) | (with_reducible refine below_drewN ?_ _) | (with_reducible refine below_via (by with_reducible assumption) ?_ ?_) | go_size))) hn).mono ?_
  rintro e w1 ⟨rfl, hb1⟩
  have hz1 := hb1.size; try simp at hz1
  have HB2 : Hid (∀ wr, Below w1.heap.size w1 wr → Below w.heap.size w wr ∧ Box3 wr w.heap.size (.int .i64 (rows : Int)) (.int .i64 (cols : Int)) (.slice a n cp) ∧ Out8 wr (w.heap.size + 1)) := by
    intro wr hwr
    have x1 : Box3 wr w.heap.size (.int .i64 (rows : Int)) (.int .i64 (cols : Int)) (.slice a n cp) := hB3.out.keep (by repeat' (first | (with_reducible exact Below.refl _ _) | (with_reducible assumption) | (with_reducible refine Below.alloc ?_ ?_ _) | (with_reducible refine Below.setCell ?_ ?_ _) | (with_reducible refine Below.drew ?_) | (with_reducible refine below_drewN ?_ _) | (with_reducible refine below_via (by with_reducible assumption) ?_ ?_) | go_size))
    have x2 := bO.out.keep (by repeat' (first | (with_reducible exact Below.refl _ _) | (with_reducible assumption) | (with_reducible refine Below.alloc ?_ ?_ _) | (with_reducible refine Below.setCell ?_ ?_ _) | (with_reducible refine Below.drew ?_) | (with_reducible refine below_drewN ?_ _) | (with_reducible refine below_via (by with_reducible assumption) ?_ ?_) | go_size) : Below _ _ wr)
    simp only [World.size_alloc] at x2
    exact ⟨by repeat' (first | (with_reducible exact Below.refl _ _) | (with_reducible assumption) | (with_reducible refine Below.alloc ?_ ?_ _) | (with_reducible refine Below.setCell ?_ ?_ _) | (with_reducible refine Below.drew ?_) | (with_reducible refine below_drewN ?_ _) | (with_reducible refine below_via (by with_reducible assumption) ?_ ?_) | go_size), x1, x2⟩
  obtain ⟨_, _, _, _⟩ := (HB2.out w1 (Below.refl _ _)).2.1
  have hs0 : w.heap.size + 2 ≤ w1.heap.size := by omega
  obtain ⟨ba, off, rfl, hba, hcell⟩ := HH.out.2 hp
  have HC := Lib.hid hcell
  clear hcell hB3 bO hb1
  rw [hr]
  clear hr
  go_wp2
  go_quiet (fail)
  go_wp2
  go_loopw [4, 5, 6, 7, 8] (fun v4 v5 v6 v7 i wr => ∃ (k : Nat) (t b l r : Int), k ≤ n ∧ Hid (boxS zs rows cols k = (t, b, l, r)) ∧ i = .int .i64 k ∧ v4 = .int .i64 t ∧ v5 = .int .i64 b ∧ v6 = .int .i64 l ∧ v7 = .int .i64 r ∧ Below w1.heap.size w1 wr) (fun _ _ _ _ i _ => n - (intOf i).toNat)
  case atStart => exact ⟨0, _, _, _, _, Nat.zero_le _, rfl, rfl, rfl, rfl, rfl, rfl, by repeat' (first | (with_reducible exact Below.refl _ _) | (with_reducible assumption) | (with_reducible refine Below.alloc ?_ ?_ _) | (with_reducible refine Below.setCell ?_ ?_ _) | (with_reducible refine Below.drew ?_) | (with_reducible refine below_drewN ?_ _) | (with_reducible refine below_via (by with_reducible assumption) ?_ ?_) | go_size)⟩
  case round =>
    obtain ⟨k, t, b, l, r, hk, HSs, rfl, rfl, rfl, rfl, rfl, hbel⟩ := hrel
    obtain ⟨⟨t1, t2, t3, t4⟩, ⟨t5, t6, t7, t8⟩, t9⟩ := HI.out k hk t b l r HSs
    obtain ⟨_, _, _, _⟩ := (HB2.out wr hbel).2.1
    by_cases hlt : k < n
    · have hx : wr.cell? ⟨ba, off + k, none⟩ = some (.int .i64 (zs.getD k 0)) := ((HB2.out wr hbel).1.cell (p := ⟨ba, off + k, none⟩) hba).trans (HC.out k hlt)
      generalize hxv : zs.getD k 0 = x at hx
      have HX := Lib.hid hxv
      clear hxv
      cases hone : (x == 1)
      · have HN : Hid (boxS zs rows cols (k + 1) = (t, b, l, r)) := (boxS_no HX.out hone).trans HSs
        go_wp2
        go_roundw
        case rel => exact ⟨k + 1, t, b, l, r, by omega, HN, by go_num, rfl, rfl, rfl, rfl, by repeat' (first | (with_reducible exact Below.refl _ _) | (with_reducible assumption) | (with_reducible refine Below.alloc ?_ ?_ _) | (with_reducible refine Below.setCell ?_ ?_ _) | (with_reducible refine Below.drew ?_) | (with_reducible refine below_drewN ?_ _) | (with_reducible refine below_via (by with_reducible assumption) ?_ ?_) | go_size)⟩
        case measure => simp [intOf]; omega
      · have hq : Int.tdiv (k : Int) (cols : Int) = ((k / cols : Nat) : Int) := (Int.ofNat_tdiv k cols).symm
        have hm : Int.tmod (k : Int) (cols : Int) = ((k % cols : Nat) : Int) := (Int.ofNat_tmod k cols).symm
        have b1 : k / cols ≤ k := Nat.div_le_self _ _
        have b2 : k % cols ≤ k := Nat.mod_le _ _
        generalize hqv : k / cols = q at hq b1
        generalize hmv : k % cols = m at hm b2
        have HN2 := boxS_yes HX.out hone HSs (q : Int) (m : Int) (by rw [hqv]) (by rw [hmv])
        have w1' : IntKind.i64.wrap (q : Int) = (q : Int) := IntWalk.i64_in _ (by omega)
        have w2' : IntKind.i64.wrap (m : Int) = (m : Int) := IntWalk.i64_in _ (by omega)
        have hne : ¬ (cols : Int) = 0 := by omega
        clear hqv hmv
        obtain ⟨T1, hT1⟩ : ∃ T : Int, T = if (q : Int) < t then (q : Int) else t := ⟨_, rfl⟩
        have hM1 : ∀ w : World, (Builtin.min_ #[2, 2] 2 #[.int .i64 t, .int .i64 (q : Int)]).run Try.prog w = .ok (.int .i64 T1) w := fun w => by rw [hT1]; exact run_min_int2 _ _ _ _ _ _ _
        obtain ⟨T2, hT2⟩ : ∃ T : Int, T = if b < (q : Int) then (q : Int) else b := ⟨_, rfl⟩
        have hM2 : ∀ w : World, (Builtin.max_ #[2, 2] 2 #[.int .i64 b, .int .i64 (q : Int)]).run Try.prog w = .ok (.int .i64 T2) w := fun w => by rw [hT2]; exact run_max_int2 _ _ _ _ _ _ _
        obtain ⟨T3, hT3⟩ : ∃ T : Int, T = if (m : Int) < l then (m : Int) else l := ⟨_, rfl⟩
        have hM3 : ∀ w : World, (Builtin.min_ #[2, 2] 2 #[.int .i64 l, .int .i64 (m : Int)]).run Try.prog w = .ok (.int .i64 T3) w := fun w => by rw [hT3]; exact run_min_int2 _ _ _ _ _ _ _
        obtain ⟨T4, hT4⟩ : ∃ T : Int, T = if r < (m : Int) then (m : Int) else r := ⟨_, rfl⟩
        have hM4 : ∀ w : World, (Builtin.max_ #[2, 2] 2 #[.int .i64 r, .int .i64 (m : Int)]).run Try.prog w = .ok (.int .i64 T4) w := fun w => by rw [hT4]; exact run_max_int2 _ _ _ _ _ _ _
        rw [← hT1, ← hT2, ← hT3, ← hT4] at HN2
        have HN := Lib.hid HN2
        clear HN2 hT1 hT2 hT3 hT4 t1 t2 t3 t4 t5 t6 t7 t8 t9
        go_wp2
        go_region
        go_wp2
        go_region
        go_wp2
        go_roundw
        case rel => exact ⟨k + 1, _, _, _, _, by omega, HN, by go_num, rfl, rfl, rfl, rfl, by repeat' (first | (with_reducible exact Below.refl _ _) | (with_reducible assumption) | (with_reducible refine Below.alloc ?_ ?_ _) | (with_reducible refine Below.setCell ?_ ?_ _) | (with_reducible refine Below.drew ?_) | (with_reducible refine below_drewN ?_ _) | (with_reducible refine below_via (by with_reducible assumption) ?_ ?_) | go_size)⟩
        case measure => simp [intOf]; omega
    · have hke : k = n := by omega
      have o1 := (HB2.out wr hbel).2.2
      have hwr := (HB2.out wr hbel).1
      obtain ⟨o0, o8⟩ := o1
      obtain ⟨c0, f0⟩ := o8 0 (by decide)
      obtain ⟨c1, f1⟩ := o8 1 (by decide)
      obtain ⟨c2, f2⟩ := o8 2 (by decide)
      obtain ⟨c3, f3⟩ := o8 3 (by decide)
      obtain ⟨c4, f4⟩ := o8 4 (by decide)
      obtain ⟨c5, f5⟩ := o8 5 (by decide)
      obtain ⟨c6, f6⟩ := o8 6 (by decide)
      obtain ⟨c7, f7⟩ := o8 7 (by decide)
      clear o8
      rw [hke] at HSs
      have HK := Lib.hid hke
      clear hke
      by_cases hb0 : b < 0
      · have HE := Lib.hid (dbOut_none HR.out HSs hb0)
        go_wp2
        refine bodyPost_ret (v := .tuple #[.agg #[.int .i64 0, .int .i64 0, .int .i64 0, .int .i64 0, .int .i64 0, .int .i64 0, .int .i64 0, .int .i64 0], .int .i64 4]) (by simp [results, Try.results30, go_sem, c0, c1, c2, c3, c4, c5, c6, c7]) rfl ?_
        exact ⟨ret_quad (HE.out.symm.trans HD.out), by repeat' (first | (with_reducible exact Below.refl _ _) | (with_reducible assumption) | (with_reducible refine Below.alloc ?_ ?_ _) | (with_reducible refine Below.setCell ?_ ?_ _) | (with_reducible refine Below.drew ?_) | (with_reducible refine below_drewN ?_ _) | (with_reducible refine below_via (by with_reducible assumption) ?_ ?_) | go_size)⟩
      by_cases hf : 4000 < 2 * (r + 1)
      · have HE := Lib.hid (dbOut_far HR.out HSs hb0 (.inl hf))
        go_wp2
        refine bodyPost_ret (v := .tuple #[.agg #[.int .i64 0, .int .i64 0, .int .i64 0, .int .i64 0, .int .i64 0, .int .i64 0, .int .i64 0, .int .i64 0], .int .i64 3]) (by simp [results, Try.results30, go_sem, c0, c1, c2, c3, c4, c5, c6, c7]) rfl ?_
        exact ⟨ret_quad (HE.out.symm.trans HD.out), by repeat' (first | (with_reducible exact Below.refl _ _) | (with_reducible assumption) | (with_reducible refine Below.alloc ?_ ?_ _) | (with_reducible refine Below.setCell ?_ ?_ _) | (with_reducible refine Below.drew ?_) | (with_reducible refine below_drewN ?_ _) | (with_reducible refine below_via (by with_reducible assumption) ?_ ?_) | go_size)⟩
      by_cases hf2 : 4000 < 2 * (b + 1)
      · have HE := Lib.hid (dbOut_far HR.out HSs hb0 (.inr hf2))
        go_wp2
        refine bodyPost_ret (v := .tuple #[.agg #[.int .i64 0, .int .i64 0, .int .i64 0, .int .i64 0, .int .i64 0, .int .i64 0, .int .i64 0, .int .i64 0], .int .i64 3]) (by simp [results, Try.results30, go_sem, c0, c1, c2, c3, c4, c5, c6, c7]) rfl ?_
        exact ⟨ret_quad (HE.out.symm.trans HD.out), by repeat' (first | (with_reducible exact Below.refl _ _) | (with_reducible assumption) | (with_reducible refine Below.alloc ?_ ?_ _) | (with_reducible refine Below.setCell ?_ ?_ _) | (with_reducible refine Below.drew ?_) | (with_reducible refine below_drewN ?_ _) | (with_reducible refine below_via (by with_reducible assumption) ?_ ?_) | go_size)⟩
      have HE := Lib.hid (dbOut_ok HR.out HSs hb0 (by omega))
      go_wp2
      refine bodyPost_ret (v := .tuple #[.agg #[.int .i64 (2 * l), .int .i64 (2 * t), .int .i64 (2 * (r + 1)), .int .i64 (2 * t), .int .i64 (2 * (r + 1)), .int .i64 (2 * (b + 1)), .int .i64 (2 * l), .int .i64 (2 * (b + 1))], .int .i64 0]) (by simp [results, Try.results30, go_sem, c0, c1, c2, c3, c4, c5, c6, c7]) rfl ?_
      exact ⟨ret_quad (HE.out.symm.trans HD.out), by repeat' (first | (with_reducible exact Below.refl _ _) | (with_reducible assumption) | (with_reducible refine Below.alloc ?_ ?_ _) | (with_reducible refine Below.setCell ?_ ?_ _) | (with_reducible refine Below.drew ?_) | (with_reducible refine below_drewN ?_ _) | (with_reducible refine below_via (by with_reducible assumption) ?_ ?_) | go_size)⟩
end Go.Proofs.Ytbcbdphnbfjhoaa
