/-
  DERIVED. DarkBox: impl.
-/
import Derived.Test.YtbcbdphnbfjhoaaDBox
import Derived.Test.YtbcbdphnbfjhoaaSpot
import Derived.Conc.MuLone
import Derived.BigQuiet
namespace Go.Proofs.Ytbcbdphnbfjhoaa
open Go.RowKit
set_option linter.unusedVariables false
set_option maxHeartbeats 4000000 in
theorem iDarkBoxL_no (rows cols : Nat) (a : Option Addr) (n cp : Nat) (zs : List Int) (w : World) (h : Rd w a n zs) (hn : n ≤ 1048576) (hr : gridB rows cols n zs = true) (T B L R : Int) (hs : boxS zs rows cols n = (T, B, L, R)) (hb : B < 0) :
    Calls Try.prog 70 #[.agg #[.int .i64 (rows : Int), .int .i64 (cols : Int), .slice a n cp]] w fun e w' => e = .returned (.tuple #[.agg #[.int .i64 0, .int .i64 0, .int .i64 0, .int .i64 0, .int .i64 0, .int .i64 0, .int .i64 0, .int .i64 0], .bool false]) ∧ Below w.heap.size w w' := by
  obtain ⟨g1, g2, g3, g4, g5, g6, g7, g8⟩ := gridB_yes hr
  have hnn : n = rows * cols := by
    have : ((rows : Int) * (cols : Int)) = ((rows * cols : Nat) : Int) := by simp
    omega
  have hn4 : n ≤ 40000 := by
    have : ((rows : Int) * (cols : Int)) = ((rows * cols : Nat) : Int) := by simp
    omega
  have hp : 0 < n := by omega
  have HI := Lib.hid (fun (k : Nat) (hk : k ≤ n) (t b l r : Int) (hs : boxS zs rows cols k = (t, b, l, r)) => boxS_inv zs rows cols (by omega) k (by omega) hs)
  have HNN := Lib.hid hnn
  have HSN := Lib.hid hs
  have HBB := Lib.hid hb
  clear g5 g6 g7 g8 hnn hs hb hr
  obtain ⟨ba, off, rfl, hba, hcell⟩ := h.2 hp
  have HC := Lib.hid hcell
  clear hcell h
  have hB3 := Lib.hid (Box3.new w 28 (.int .i64 (rows : Int)) (.int .i64 (cols : Int)) (.slice (some ⟨ba, off, none⟩) n cp))
  have bO := Lib.hid (Out8.new (w.alloc (.cells #[.int .i64 (rows : Int), .int .i64 (cols : Int), .slice (some ⟨ba, off, none⟩) n cp] 28)) 44)
  go_enter Try.func70, Try.ntmps70
  go_wp2
  go_quiet (fail)
  go_wp2
  obtain ⟨W, hW⟩ : ∃ W, W = ((w.alloc (.cells #[.int .i64 (rows : Int), .int .i64 (cols : Int), .slice (some ⟨ba, off, none⟩) n cp] 28)).alloc (.cells #[.int .i64 0, .int .i64 0, .int .i64 0, .int .i64 0, .int .i64 0, .int .i64 0, .int .i64 0, .int .i64 0] 44)) := ⟨_, rfl⟩
  have hB : Below w.heap.size w W := by rw [hW]; repeat' (first | (with_reducible exact Below.refl _ _) | (with_reducible assumption) | (with_reducible refine Below.alloc ?_ ?_ _) | (with_reducible refine Below.setCell ?_ ?_ _) | (with_reducible refine Below.drew ?_) | (with_reducible refine below_drewN ?_ _) | (with_reducible refine below_via (by with_reducible assumption) ?_ ?_) | go_size)
  have hs2 : W.heap.size = w.heap.size + 2 := by rw [hW]; simp
  have x3 : Box3 W w.heap.size (.int .i64 (rows : Int)) (.int .i64 (cols : Int)) (.slice (some ⟨ba, off, none⟩) n cp) := by rw [hW]; exact hB3.out.keep (by repeat' (first | (with_reducible exact Below.refl _ _) | (with_reducible assumption) | (with_reducible refine Below.alloc ?_ ?_ _) | (with_reducible refine Below.setCell ?_ ?_ _) | (with_reducible refine Below.drew ?_) | (with_reducible refine below_drewN ?_ _) | (with_reducible refine below_via (by with_reducible assumption) ?_ ?_) | go_size))
  have x8 : Out8 W (w.heap.size + 1) := by
    have := bO.out
    simp only [World.size_alloc] at this
    rw [hW]; exact this
  have HB2 : Hid (∀ wr, Below W.heap.size W wr → Below w.heap.size w wr ∧ Box3 wr w.heap.size (.int .i64 (rows : Int)) (.int .i64 (cols : Int)) (.slice (some ⟨ba, off, none⟩) n cp) ∧ Out8 wr (w.heap.size + 1)) := fun wr hwr => ⟨hB.trans (hwr.mono (by omega)), x3.keep hwr, x8.keep hwr⟩
  rw [← hW]
  have HS2 := Lib.hid hs2
  clear hW hB3 bO hB x3 x8 hs2
  go_loopw [4, 5, 6, 7, 23] (fun v4 v5 v6 v7 i wr => ∃ (k : Nat) (t b l r : Int), k ≤ n ∧ Hid (boxS zs rows cols k = (t, b, l, r)) ∧ i = .int .i64 k ∧ v4 = .int .i64 t ∧ v5 = .int .i64 b ∧ v6 = .int .i64 l ∧ v7 = .int .i64 r ∧ Below W.heap.size W wr) (fun _ _ _ _ i _ => n - (intOf i).toNat)
  case atStart => exact ⟨0, _, _, _, _, Nat.zero_le _, rfl, rfl, rfl, rfl, rfl, rfl, by repeat' (first | (with_reducible exact Below.refl _ _) | (with_reducible assumption) | (with_reducible refine Below.alloc ?_ ?_ _) | (with_reducible refine Below.setCell ?_ ?_ _) | (with_reducible refine Below.drew ?_) | (with_reducible refine below_drewN ?_ _) | (with_reducible refine below_via (by with_reducible assumption) ?_ ?_) | go_size)⟩
  case round =>
    obtain ⟨k, t, b, l, r, hk, HSs, rfl, rfl, rfl, rfl, rfl, hbel⟩ := hrel
    obtain ⟨⟨t1, t2, t3, t4⟩, ⟨t5, t6, t7, t8⟩, t9⟩ := HI.out k hk t b l r HSs
    obtain ⟨_, _, _, _⟩ := (HB2.out wr hbel).2.1
    by_cases hlt : k < n
    · have hx : wr.cell? ⟨ba, off + k, none⟩ = some (.int .i64 (zs.getD k 0)) := ((HB2.out wr hbel).1.cell (p := ⟨ba, off + k, none⟩) hba).trans (HC.out k hlt)
      generalize hxv : zs.getD k 0 = x at hx
      have HX := Lib.hid hxv
      clear hxv
      by_cases hone : x = 1
      · subst hone
        have hq : Int.tdiv (k : Int) (cols : Int) = ((k / cols : Nat) : Int) := (Int.ofNat_tdiv k cols).symm
        have hm : Int.tmod (k : Int) (cols : Int) = ((k % cols : Nat) : Int) := (Int.ofNat_tmod k cols).symm
        have b1 : k / cols ≤ k := Nat.div_le_self _ _
        have b2 : k % cols ≤ k := Nat.mod_le _ _
        generalize hqv : k / cols = q at hq b1
        generalize hmv : k % cols = m at hm b2
        have w1' : IntKind.i64.wrap (q : Int) = (q : Int) := IntWalk.i64_in _ (by omega)
        have w2' : IntKind.i64.wrap (m : Int) = (m : Int) := IntWalk.i64_in _ (by omega)
        have hne : ¬ (cols : Int) = 0 := by omega
        have HN2 := boxS_yes HX.out rfl HSs (q : Int) (m : Int) (by rw [hqv]) (by rw [hmv])
        clear hqv hmv
        obtain ⟨T1, hT1⟩ : ∃ T : Int, T = if (q : Int) < t then (q : Int) else t := ⟨_, rfl⟩
        have hM1 : ∀ w : World, (Builtin.min_ #[2, 2] 2 #[.int .i64 t, .int .i64 (q : Int)]).run Try.prog w = .ok (.int .i64 T1) w := fun w => by rw [hT1]; exact run_min_int2 _ _ _ _ _ _ _
        obtain ⟨T2, hT2⟩ : ∃ T : Int, T = if b < (q : Int) then (q : Int) else b := ⟨_, rfl⟩
        have hM2 : ∀ w : World, (Builtin.max_ #[2, 2] 2 #[.int .i64 b, .int .i64 (q : Int)]).run Try.prog w = .ok (.int .i64 T2) w := fun w => by rw [hT2]; exact run_max_int2 _ _ _ _ _ _ _
        obtain ⟨T3, hT3⟩ : ∃ T : Int, T = if (m : Int) < l then (m : Int) else l := ⟨_, rfl⟩
        have hM3 : ∀ w : World, (Builtin.min_ #[2, 2] 2 #[.int .i64 l, .int .i64 (m : Int)]).run Try.prog w = .ok (.int .i64 T3) w := fun w => by rw [hT3]; exact run_min_int2 _ _ _ _ _ _ _
        obtain ⟨T4, hT4⟩ : ∃ T : Int, T = if r < (m : Int) then (m : Int) else r := ⟨_, rfl⟩
        have hM4 : ∀ w : World, (Builtin.max_ #[2, 2] 2 #[.int .i64 r, .int .i64 (m : Int)]).run Try.prog w = .ok (.int .i64 T4) w := fun w => by rw [hT4]; exact run_max_int2 _ _ _ _ _ _ _
        rw [← hT1, ← hT2, ← hT3, ← hT4] at HN2
        have HN := Lib.hid HN2
        clear HN2 hT1 hT2 hT3 hT4 t1 t2 t3 t4 t5 t6 t7 t8 t9
        go_wp2
        go_region
        go_wp2
        try go_region
        try go_wp2
        go_roundw
        case rel => exact ⟨k + 1, _, _, _, _, by omega, HN, by go_num, rfl, rfl, rfl, rfl, by repeat' (first | (with_reducible exact Below.refl _ _) | (with_reducible assumption) | (with_reducible refine Below.alloc ?_ ?_ _) | (with_reducible refine Below.setCell ?_ ?_ _) | (with_reducible refine Below.drew ?_) | (with_reducible refine below_drewN ?_ _) | (with_reducible refine below_via (by with_reducible assumption) ?_ ?_) | go_size)⟩
        case measure => simp [intOf]; omega
      · have hne : (x != 1) = true := by simpa using hone
        have HN : Hid (boxS zs rows cols (k + 1) = (t, b, l, r)) := (boxS_no HX.out (by simpa using hone)).trans HSs
        clear hone
        go_wp2
        go_roundw
        case rel => exact ⟨k + 1, t, b, l, r, by omega, HN, by go_num, rfl, rfl, rfl, rfl, by repeat' (first | (with_reducible exact Below.refl _ _) | (with_reducible assumption) | (with_reducible refine Below.alloc ?_ ?_ _) | (with_reducible refine Below.setCell ?_ ?_ _) | (with_reducible refine Below.drew ?_) | (with_reducible refine below_drewN ?_ _) | (with_reducible refine below_via (by with_reducible assumption) ?_ ?_) | go_size)⟩
        case measure => simp [intOf]; omega
    · have hke : k = n := by omega
      have o1 := (HB2.out wr hbel).2.2
      have hwr := (HB2.out wr hbel).1
      obtain ⟨o0, o8⟩ := o1
      obtain ⟨c0, f0⟩ := o8 0 (by decide)
      obtain ⟨c1, f1⟩ := o8 1 (by decide)
      obtain ⟨c2, f2⟩ := o8 2 (by decide)
      obtain ⟨c3, f3⟩ := o8 3 (by decide)
      obtain ⟨c4, f4⟩ := o8 4 (by decide)
      obtain ⟨c5, f5⟩ := o8 5 (by decide)
      obtain ⟨c6, f6⟩ := o8 6 (by decide)
      obtain ⟨c7, f7⟩ := o8 7 (by decide)
      clear o8
      rw [hke] at HSs
      have HE := Lib.hid (HSs.symm.trans HSN.out)
      clear hke
      have e := HE.out
      injection e with e1 e; injection e with e2 e; injection e with e3 e4
      subst e1 e2 e3 e4
      have hbb := HBB.out
      clear HE
      go_wp2
      refine bodyPost_ret (v := .tuple #[.agg #[.int .i64 0, .int .i64 0, .int .i64 0, .int .i64 0, .int .i64 0, .int .i64 0, .int .i64 0, .int .i64 0], .bool false]) (by simp [results, Try.results70, go_sem, c0, c1, c2, c3, c4, c5, c6, c7]) rfl ?_
      exact ⟨rfl, by repeat' (first | (with_reducible exact Below.refl _ _) | (with_reducible assumption) | (with_reducible refine Below.alloc ?_ ?_ _) | (with_reducible refine Below.setCell ?_ ?_ _) | (with_reducible refine Below.drew ?_) | (with_reducible refine below_drewN ?_ _) | (with_reducible refine below_via (by with_reducible assumption) ?_ ?_) | go_size)⟩
set_option maxHeartbeats 4000000 in
theorem iDarkBoxL_ok (rows cols : Nat) (a : Option Addr) (n cp : Nat) (zs : List Int) (w : World) (h : Rd w a n zs) (hn : n ≤ 1048576) (hr : gridB rows cols n zs = true) (T B L R : Int) (hs : boxS zs rows cols n = (T, B, L, R)) (hb : ¬ B < 0) :
    Calls Try.prog 70 #[.agg #[.int .i64 (rows : Int), .int .i64 (cols : Int), .slice a n cp]] w fun e w' => e = .returned (.tuple #[.agg #[.int .i64 (2 * L), .int .i64 (2 * T), .int .i64 (2 * R + 2), .int .i64 (2 * T), .int .i64 (2 * R + 2), .int .i64 (2 * B + 2), .int .i64 (2 * L), .int .i64 (2 * B + 2)], .bool true]) ∧ Below w.heap.size w w' := by
  obtain ⟨g1, g2, g3, g4, g5, g6, g7, g8⟩ := gridB_yes hr
  have hnn : n = rows * cols := by
    have : ((rows : Int) * (cols : Int)) = ((rows * cols : Nat) : Int) := by simp
    omega
  have hn4 : n ≤ 40000 := by
    have : ((rows : Int) * (cols : Int)) = ((rows * cols : Nat) : Int) := by simp
    omega
  have hp : 0 < n := by omega
  have HI := Lib.hid (fun (k : Nat) (hk : k ≤ n) (t b l r : Int) (hs : boxS zs rows cols k = (t, b, l, r)) => boxS_inv zs rows cols (by omega) k (by omega) hs)
  have HNN := Lib.hid hnn
  have HSN := Lib.hid hs
  have HBB := Lib.hid hb
  clear g5 g6 g7 g8 hnn hs hb hr
  obtain ⟨ba, off, rfl, hba, hcell⟩ := h.2 hp
  have HC := Lib.hid hcell
  clear hcell h
  have hB3 := Lib.hid (Box3.new w 28 (.int .i64 (rows : Int)) (.int .i64 (cols : Int)) (.slice (some ⟨ba, off, none⟩) n cp))
  have bO := Lib.hid (Out8.new (w.alloc (.cells #[.int .i64 (rows : Int), .int .i64 (cols : Int), .slice (some ⟨ba, off, none⟩) n cp] 28)) 44)
  go_enter Try.func70, Try.ntmps70
  go_wp2
  go_quiet (fail)
  go_wp2
  obtain ⟨W, hW⟩ : ∃ W, W = ((w.alloc (.cells #[.int .i64 (rows : Int), .int .i64 (cols : Int), .slice (some ⟨ba, off, none⟩) n cp] 28)).alloc (.cells #[.int .i64 0, .int .i64 0, .int .i64 0, .int .i64 0, .int .i64 0, .int .i64 0, .int .i64 0, .int .i64 0] 44)) := ⟨_, rfl⟩
  have hB : Below w.heap.size w W := by rw [hW]; repeat' (first | (with_reducible exact Below.refl _ _) | (with_reducible assumption) | (with_reducible refine Below.alloc ?_ ?_ _) | (with_reducible refine Below.setCell ?_ ?_ _) | (with_reducible refine Below.drew ?_) | (with_reducible refine below_drewN ?_ _) | (with_reducible refine below_via (by with_reducible assumption) ?_ ?_) | go_size)
  have hs2 : W.heap.size = w.heap.size + 2 := by rw [hW]; simp
  have x3 : Box3 W w.heap.size (.int .i64 (rows : Int)) (.int .i64 (cols : Int)) (.slice (some ⟨ba, off, none⟩) n cp) := by rw [hW]; exact hB3.out.keep (by repeat' (first | (with_reducible exact Below.refl _ _) | (with_reducible assumption) | (with_reducible refine Below.alloc ?_ ?_ _) | (with_reducible refine Below.setCell ?_ ?_ _) | (with_reducible refine Below.drew ?_) | (with_reducible refine below_drewN ?_ _) | (with_reducible refine below_via (by with_reducible assumption) ?_ ?_) | go_size))
  have x8 : Out8 W (w.heap.size + 1) := by
    have := bO.out
    simp only [World.size_alloc] at this
    rw [hW]; exact this
  have HB2 : Hid (∀ wr, Below W.heap.size W wr → Below w.heap.size w wr ∧ Box3 wr w.heap.size (.int .i64 (rows : Int)) (.int .i64 (cols : Int)) (.slice (some ⟨ba, off, none⟩) n cp) ∧ Out8 wr (w.heap.size + 1)) := fun wr hwr => ⟨hB.trans (hwr.mono (by omega)), x3.keep hwr, x8.keep hwr⟩
  rw [← hW]
  have HS2 := Lib.hid hs2
  clear hW hB3 bO hB x3 x8 hs2
  go_loopw [4, 5, 6, 7, 23] (fun v4 v5 v6 v7 i wr => ∃ (k : Nat) (t b l r : Int), k ≤ n ∧ Hid (boxS zs rows cols k = (t, b, l, r)) ∧ i = .int .i64 k ∧ v4 = .int .i64 t ∧ v5 = .int .i64 b ∧ v6 = .int .i64 l ∧ v7 = .int .i64 r ∧ Below W.heap.size W wr) (fun _ _ _ _ i _ => n - (intOf i).toNat)
  case atStart => exact ⟨0, _, _, _, _, Nat.zero_le _, rfl, rfl, rfl, rfl, rfl, rfl, by repeat' (first | (with_reducible exact Below.refl _ _) | (with_reducible assumption) | (with_reducible refine Below.alloc ?_ ?_ _) | (with_reducible refine Below.setCell ?_ ?_ _) | (with_reducible refine Below.drew ?_) | (with_reducible refine below_drewN ?_ _) | (with_reducible refine below_via (by with_reducible assumption) ?_ ?_) | go_size)⟩
  case round =>
    obtain ⟨k, t, b, l, r, hk, HSs, rfl, rfl, rfl, rfl, rfl, hbel⟩ := hrel
    obtain ⟨⟨t1, t2, t3, t4⟩, ⟨t5, t6, t7, t8⟩, t9⟩ := HI.out k hk t b l r HSs
    obtain ⟨_, _, _, _⟩ := (HB2.out wr hbel).2.1
    by_cases hlt : k < n
    · have hx : wr.cell? ⟨ba, off + k, none⟩ = some (.int .i64 (zs.getD k 0)) := ((HB2.out wr hbel).1.cell (p := ⟨ba, off + k, none⟩) hba).trans (HC.out k hlt)
      generalize hxv : zs.getD k 0 = x at hx
      have HX := Lib.hid hxv
      clear hxv
      by_cases hone : x = 1
      · subst hone
        have hq : Int.tdiv (k : Int) (cols : Int) = ((k / cols : Nat) : Int) := (Int.ofNat_tdiv k cols).symm
        have hm : Int.tmod (k : Int) (cols : Int) = ((k % cols : Nat) : Int) := (Int.ofNat_tmod k cols).symm
        have b1 : k / cols ≤ k := Nat.div_le_self _ _
        have b2 : k % cols ≤ k := Nat.mod_le _ _
        generalize hqv : k / cols = q at hq b1
        generalize hmv : k % cols = m at hm b2
        have w1' : IntKind.i64.wrap (q : Int) = (q : Int) := IntWalk.i64_in _ (by omega)
        have w2' : IntKind.i64.wrap (m : Int) = (m : Int) := IntWalk.i64_in _ (by omega)
        have hne : ¬ (cols : Int) = 0 := by omega
        have HN2 := boxS_yes HX.out rfl HSs (q : Int) (m : Int) (by rw [hqv]) (by rw [hmv])
        clear hqv hmv
        obtain ⟨T1, hT1⟩ : ∃ T : Int, T = if (q : Int) < t then (q : Int) else t := ⟨_, rfl⟩
        have hM1 : ∀ w : World, (Builtin.min_ #[2, 2] 2 #[.int .i64 t, .int .i64 (q : Int)]).run Try.prog w = .ok (.int .i64 T1) w := fun w => by rw [hT1]; exact run_min_int2 _ _ _ _ _ _ _
        obtain ⟨T2, hT2⟩ : ∃ T : Int, T = if b < (q : Int) then (q : Int) else b := ⟨_, rfl⟩
        have hM2 : ∀ w : World, (Builtin.max_ #[2, 2] 2 #[.int .i64 b, .int .i64 (q : Int)]).run Try.prog w = .ok (.int .i64 T2) w := fun w => by rw [hT2]; exact run_max_int2 _ _ _ _ _ _ _
        obtain ⟨T3, hT3⟩ : ∃ T : Int, T = if (m : Int) < l then (m : Int) else l := ⟨_, rfl⟩
        have hM3 : ∀ w : World, (Builtin.min_ #[2, 2] 2 #[.int .i64 l, .int .i64 (m : Int)]).run Try.prog w = .ok (.int .i64 T3) w := fun w => by rw [hT3]; exact run_min_int2 _ _ _ _ _ _ _
        obtain ⟨T4, hT4⟩ : ∃ T : Int, T = if r < (m : Int) then (m : Int) else r := ⟨_, rfl⟩
        have hM4 : ∀ w : World, (Builtin.max_ #[2, 2] 2 #[.int .i64 r, .int .i64 (m : Int)]).run Try.prog w = .ok (.int .i64 T4) w := fun w => by rw [hT4]; exact run_max_int2 _ _ _ _ _ _ _
        rw [← hT1, ← hT2, ← hT3, ← hT4] at HN2
        have HN := Lib.hid HN2
        clear HN2 hT1 hT2 hT3 hT4 t1 t2 t3 t4 t5 t6 t7 t8 t9
        go_wp2
        go_region
        go_wp2
        try go_region
        try go_wp2
        go_roundw
        case rel => exact ⟨k + 1, _, _, _, _, by omega, HN, by go_num, rfl, rfl, rfl, rfl, by repeat' (first | (with_reducible exact Below.refl _ _) | (with_reducible assumption) | (with_reducible refine Below.alloc ?_ ?_ _) | (with_reducible refine Below.setCell ?_ ?_ _) | (with_reducible refine Below.drew ?_) | (with_reducible refine below_drewN ?_ _) | (with_reducible refine below_via (by with_reducible assumption) ?_ ?_) | go_size)⟩
        case measure => simp [intOf]; omega
      · have hne : (x != 1) = true := by simpa using hone
        have HN : Hid (boxS zs rows cols (k + 1) = (t, b, l, r)) := (boxS_no HX.out (by simpa using hone)).trans HSs
        clear hone
        go_wp2
        go_roundw
        case rel => exact ⟨k + 1, t, b, l, r, by omega, HN, by go_num, rfl, rfl, rfl, rfl, by repeat' (first | (with_reducible exact Below.refl _ _) | (with_reducible assumption) | (with_reducible refine Below.alloc ?_ ?_ _) | (with_reducible refine Below.setCell ?_ ?_ _) | (with_reducible refine Below.drew ?_) | (with_reducible refine below_drewN ?_ _) | (with_reducible refine below_via (by with_reducible assumption) ?_ ?_) | go_size)⟩
        case measure => simp [intOf]; omega
    · have hke : k = n := by omega
      have o1 := (HB2.out wr hbel).2.2
      have hwr := (HB2.out wr hbel).1
      obtain ⟨o0, o8⟩ := o1
      obtain ⟨c0, f0⟩ := o8 0 (by decide)
      obtain ⟨c1, f1⟩ := o8 1 (by decide)
      obtain ⟨c2, f2⟩ := o8 2 (by decide)
      obtain ⟨c3, f3⟩ := o8 3 (by decide)
      obtain ⟨c4, f4⟩ := o8 4 (by decide)
      obtain ⟨c5, f5⟩ := o8 5 (by decide)
      obtain ⟨c6, f6⟩ := o8 6 (by decide)
      obtain ⟨c7, f7⟩ := o8 7 (by decide)
      clear o8
      rw [hke] at HSs
      have HE := Lib.hid (HSs.symm.trans HSN.out)
      clear hke
      have e := HE.out
      injection e with e1 e; injection e with e2 e; injection e with e3 e4
      subst e1 e2 e3 e4
      have hbb := HBB.out
      clear HE
      go_wp2
      refine bodyPost_ret (v := .tuple #[.agg #[.int .i64 (2 * l), .int .i64 (2 * t), .int .i64 (2 * r + 2), .int .i64 (2 * t), .int .i64 (2 * r + 2), .int .i64 (2 * b + 2), .int .i64 (2 * l), .int .i64 (2 * b + 2)], .bool true]) (by simp [results, Try.results70, go_sem, c0, c1, c2, c3, c4, c5, c6, c7]) rfl ?_
      exact ⟨rfl, by repeat' (first | (with_reducible exact Below.refl _ _) | (with_reducible assumption) | (with_reducible refine Below.alloc ?_ ?_ _) | (with_reducible refine Below.setCell ?_ ?_ _) | (with_reducible refine Below.drew ?_) | (with_reducible refine below_drewN ?_ _) | (with_reducible refine below_via (by with_reducible assumption) ?_ ?_) | go_size)⟩
end Go.Proofs.Ytbcbdphnbfjhoaa
