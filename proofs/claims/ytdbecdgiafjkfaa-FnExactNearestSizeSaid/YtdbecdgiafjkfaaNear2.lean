/-
  DERIVED. NearestSize: the contracts.
-/
import Derived.Test.YtdbecdgiafjkfaaNear
namespace Go.Proofs.Ytdbecdgiafjkfaa
open Go.RowKit
set_option linter.unusedVariables false
noncomputable def nearOut (ax ay bx bY num den : Int) (n : Nat) (zs : List Int) : Int × Int :=
  if (spotB ax ay && spotB bx bY) = true then (if (inB num 1 1000000 && inB den 1 1000) = true then (if (inB (n : Int) 1 8 && sizesB zs n) = true then (pickZ (wantZ (sqV ax ay bx bY) num den) zs n, 0) else (0, 3)) else (0, 2)) else (0, 1)
section
variable {ax ay bx bY num den : Int} {n : Nat} {zs : List Int}
theorem nearOut_1 (h : (spotB ax ay && spotB bx bY) = false) : nearOut ax ay bx bY num den n zs = (0, 1) := by simp [nearOut, h]
theorem nearOut_2 (h1 : spotB ax ay = true) (h2 : spotB bx bY = true) (h : (inB num 1 1000000 && inB den 1 1000) = false) : nearOut ax ay bx bY num den n zs = (0, 2) := by simp [nearOut, h1, h2, h]
theorem nearOut_3 (h1 : spotB ax ay = true) (h2 : spotB bx bY = true) (h3 : inB num 1 1000000 = true) (h4 : inB den 1 1000 = true) (h : (inB (n : Int) 1 8 && sizesB zs n) = false) : nearOut ax ay bx bY num den n zs = (0, 3) := by simp [nearOut, h1, h2, h3, h4, h]
theorem nearOut_0 (h1 : spotB ax ay = true) (h2 : spotB bx bY = true) (h3 : inB num 1 1000000 = true) (h4 : inB den 1 1000 = true) (h : (inB (n : Int) 1 8 && sizesB zs n) = true) : nearOut ax ay bx bY num den n zs = (pickZ (wantZ (sqV ax ay bx bY) num den) zs n, 0) := by simp [nearOut, h1, h2, h3, h4, h]
end
theorem ret2_of {x y a b : Int} (h : ((x, y) : Int × Int) = (a, b)) : Ending.returned (.tuple #[.int .i64 x, .int .i64 y]) = .returned (.tuple #[.int .i64 a, .int .i64 b]) := by
  injection h with h1 h2; rw [h1, h2]
set_option maxRecDepth 20000 in
set_option maxHeartbeats 2000000 in
theorem iSpots2 (g : Nat) (px py qx qy : Int) (w : World) (hg : g < w.heap.size)
    (c0 : w.cell? ⟨g, 0, none⟩ = some (.int .i64 px)) (c1 : w.cell? ⟨g, 1, none⟩ = some (.int .i64 py)) (c2 : w.cell? ⟨g, 2, none⟩ = some (.int .i64 qx)) (c3 : w.cell? ⟨g, 3, none⟩ = some (.int .i64 qy)) :
    Calls Try.prog 65 #[.slice (some ⟨g, 0, none⟩) 2 2] w fun e w' => e = .returned (.bool (spotB px py && spotB qx qy)) ∧ Below w.heap.size w w' := by
  rcases and2 (spotB px py) (spotB qx qy) with h1 | ⟨h1, h2⟩ | ⟨h1, h2⟩
  all_goals
    go_enter Try.func65, Try.ntmps65
    go_wp2_with fail
    refine wp_loop_rounds 3 ?_
    repeat any_goals (rw [rounds_succ]; go_wp2_with (go_at_call 104; refine (iIsSpot _ _ _).mono ?_; rintro e w' ⟨rfl, hb⟩; obtain ⟨hc, hf⟩ := bcell hb; have hz := hb.size; (try simp at hz); have hg : g < w'.heap.size := (by omega)))
    go_returns
    exact ⟨ret_bool (by simp [*]), by repeat' (first | (with_reducible exact Below.refl _ _) | (with_reducible assumption) | (with_reducible refine Below.alloc ?_ ?_ _) | (with_reducible refine Below.setCell ?_ ?_ _) | (with_reducible refine Below.drew ?_) | (with_reducible refine below_drewN ?_ _) | (with_reducible refine below_via (by with_reducible assumption) ?_ ?_) | go_size)⟩
theorem held_n2 (ax ay bx bY : Int) (w : World) : ∀ w', Below (w.heap.size + 2) ((w.alloc (.cells #[.int .i64 ax, .int .i64 ay] 35)).alloc (.cells #[.int .i64 bx, .int .i64 bY] 35)) w' → Below (w.heap.size + 2) ((w.alloc (.cells #[.int .i64 ax, .int .i64 ay] 35)).alloc (.cells #[.int .i64 bx, .int .i64 bY] 35)) w' ∧ w.heap.size < w'.heap.size ∧ w.heap.size + 1 < w'.heap.size ∧ w'.cell? ⟨w.heap.size, 0, none⟩ = some (.int .i64 ax) ∧ w'.cell? ⟨w.heap.size, 1, none⟩ = some (.int .i64 ay) ∧ w'.cell? ⟨w.heap.size + 1, 0, none⟩ = some (.int .i64 bx) ∧ w'.cell? ⟨w.heap.size + 1, 1, none⟩ = some (.int .i64 bY) := by
  intro w' h
  have hs := h.size
  simp at hs
  refine ⟨h, by omega, by omega, ?_, ?_, ?_, ?_⟩ <;> (refine (h.cell (p := ⟨_, _, none⟩) (by simp)).trans ?_; simp [go_sem])
set_option maxRecDepth 20000 in
set_option maxHeartbeats 4000000 in
theorem sNearestSize (ax ay bx bY num den : Int) (a : Option Addr) (n cp : Nat) (zs : List Int) (w : World) (h : Rd w a n zs) (hn : n ≤ 1048576) (o1 o2 : Int) (hd : nearOut ax ay bx bY num den n zs = (o1, o2)) :
    Calls Try.prog 26 #[.agg #[.int .i64 ax, .int .i64 ay], .agg #[.int .i64 bx, .int .i64 bY], .int .i64 num, .int .i64 den, .slice a n cp] w fun e w' => e = .returned (.tuple #[.int .i64 o1, .int .i64 o2]) ∧ Below w.heap.size w w' := by
  have HD := Lib.hid hd
  have HH := Lib.hid h
  clear hd h
  rcases and2 (spotB ax ay) (spotB bx bY) with h1 | ⟨h1, h2⟩ | ⟨h1, h2⟩
  rotate_right
  · rcases and2 (inB num 1 1000000) (inB den 1 1000) with h3 | ⟨h3, h4⟩ | ⟨h3, h4⟩
    rotate_right
    · cases h5 : inB (n : Int) 1 8
      · have HE := Lib.hid (nearOut_3 (zs := zs) h1 h2 h3 h4 (by rw [h5]; rfl))
        go_enter Try.func26, Try.ntmps26
        go_wp2_with (first | (go_at_call 75; refine (sIn _ _ _ _).mono ?_; rintro e w' ⟨rfl, rfl⟩) | (go_at_call 68; refine (sIsSpot _ _ _).mono ?_; rintro e w' ⟨rfl, hb⟩; obtain ⟨hc, hf⟩ := bcell hb; have hz := hb.size; (try simp at hz); have hz0 : w.heap.size < w'.heap.size := (by omega); have hz1 : w.heap.size + 1 < w'.heap.size := (by omega)))
        go_returns
        exact ⟨ret2_of (HE.out.symm.trans HD.out), by repeat' (first | (with_reducible exact Below.refl _ _) | (with_reducible assumption) | (with_reducible refine Below.alloc ?_ ?_ _) | (with_reducible refine Below.setCell ?_ ?_ _) | (with_reducible refine Below.drew ?_) | (with_reducible refine below_drewN ?_ _) | (with_reducible refine below_via (by with_reducible assumption) ?_ ?_) | go_size)⟩
      · obtain ⟨i1, i2⟩ := inB_iff.1 h5
        have hp : 0 < n := by omega
        have HS := Lib.hid (held_n2 ax ay bx bY w)
        go_enter Try.func26, Try.ntmps26
        go_wp2_with (first | (go_at_call 75; refine (sIn _ _ _ _).mono ?_; rintro e w' ⟨rfl, rfl⟩) | (go_at_call 68; refine (sIsSpot _ _ _).mono ?_; rintro e w' ⟨rfl, hb⟩; obtain ⟨hc, hf⟩ := bcell hb; have hz := hb.size; (try simp at hz); have hz0 : w.heap.size < w'.heap.size := (by omega); have hz1 : w.heap.size + 1 < w'.heap.size := (by omega)))
        go_loopw [12] (fun i wr => ∃ (k : Nat), k ≤ n ∧ i = .int .i64 k ∧ Hid (∀ j, j < k → inB (zs.getD j 0) 1 400 = true) ∧ Hid (Below w.heap.size w wr) ∧ w.heap.size + 1 < wr.heap.size ∧ wr.cell? ⟨w.heap.size, 0, none⟩ = some (.int .i64 ax) ∧ wr.cell? ⟨w.heap.size, 1, none⟩ = some (.int .i64 ay) ∧ wr.cell? ⟨w.heap.size + 1, 0, none⟩ = some (.int .i64 bx) ∧ wr.cell? ⟨w.heap.size + 1, 1, none⟩ = some (.int .i64 bY)) (fun i _ => n - (intOf i).toNat)
        case atStart =>
          obtain ⟨-, -, y1, y2, y3, y4, y5⟩ := HS.out w' (by repeat' (first | (with_reducible exact Below.refl _ _) | (with_reducible assumption) | (with_reducible refine Below.alloc ?_ ?_ _) | (with_reducible refine Below.setCell ?_ ?_ _) | (with_reducible refine Below.drew ?_) | (with_reducible refine below_drewN ?_ _) | (with_reducible refine below_via (by with_reducible assumption) ?_ ?_) | go_size))
          exact ⟨0, Nat.zero_le _, rfl, fun j hj => absurd hj (by omega), by unfold Hid; repeat' (first | (with_reducible exact Below.refl _ _) | (with_reducible assumption) | (with_reducible refine Below.alloc ?_ ?_ _) | (with_reducible refine Below.setCell ?_ ?_ _) | (with_reducible refine Below.drew ?_) | (with_reducible refine below_drewN ?_ _) | (with_reducible refine below_via (by with_reducible assumption) ?_ ?_) | go_size), y1, y2, y3, y4, y5⟩
        case round =>
          obtain ⟨k, hk, rfl, HA, HBel, z1, z2, z3, z4, z5⟩ := hrel
          by_cases hlt : k < n
          · obtain ⟨b, off, rfl, hb, hcell⟩ := (HH.out.below HBel.out).2 hp
            have hc := hcell k hlt
            generalize hzk : zs.getD k 0 = zk at hc
            have HK := Lib.hid hzk
            clear hzk hcell
            have k0 : (0 : Int) ≤ (k : Int) := Int.natCast_nonneg _
            have k1 : (k : Int) < (n : Int) := by omega
            cases h6 : inB zk 1 400
            · have HE := Lib.hid (nearOut_3 (num := num) (den := den) (zs := zs) (n := n) h1 h2 h3 h4 (by rw [sizesB_no hlt (by rw [HK.out]; exact h6)]; simp))
              have hbel := HBel.out
              go_wp2_with (go_at_call 75; refine (sIn _ _ _ _).mono ?_; rintro e w' ⟨rfl, rfl⟩)
              go_returns
              exact ⟨ret2_of (HE.out.symm.trans HD.out), by repeat' (first | (with_reducible exact Below.refl _ _) | (with_reducible assumption) | (with_reducible refine Below.alloc ?_ ?_ _) | (with_reducible refine Below.setCell ?_ ?_ _) | (with_reducible refine Below.drew ?_) | (with_reducible refine below_drewN ?_ _) | (with_reducible refine below_via (by with_reducible assumption) ?_ ?_) | go_size)⟩
            · have HE : Hid (∀ j, j < k + 1 → inB (zs.getD j 0) 1 400 = true) := fun j hj => by
                rcases Nat.lt_or_ge j k with h9 | h9
                · exact HA.out j h9
                · obtain rfl : j = k := by omega
                  rw [HK.out]; exact h6
              go_wp2_with (go_at_call 75; refine (sIn _ _ _ _).mono ?_; rintro e w' ⟨rfl, rfl⟩)
              go_roundw
              case rel => exact ⟨k + 1, by omega, by go_num, HE.out, HBel, z1, z2, z3, z4, z5⟩
              case measure => simp [intOf]; omega
          · have hke : k = n := by omega
            have HZ : Hid (sizesB zs n = true) := sizesB_yes (fun j hj => HA.out j (by omega))
            clear hke
            obtain ⟨m1, m2⟩ := inB_iff.1 h3
            obtain ⟨m3, m4⟩ := inB_iff.1 h4
            have HE := Lib.hid (nearOut_0 (zs := zs) h1 h2 h3 h4 (by rw [h5, HZ.out]; rfl))
            have HR : Hid (Rd wr a n zs) := HH.out.below HBel.out
            have HD1 : Hid (pickZ (wantZ (sqV ax ay bx bY) num den) zs n = o1) := congrArg Prod.fst (HE.out.symm.trans HD.out)
            have HD2 : Hid ((0 : Int) = o2) := congrArg Prod.snd (HE.out.symm.trans HD.out)
            have hbel := HBel.out
            go_wp2_with fail
            refine (sNearest ax ay bx bY num den a n cp zs _ HR.out h1 h2 m1 m2 m3 m4 hp (by omega) HZ.out o1 HD1.out).mono ?_
            rintro e w2 ⟨rfl, hb2⟩
            have hz2 := hb2.size
            go_wp2
            go_returns
            exact ⟨ret_ints2 rfl HD2.out, by repeat' (first | (with_reducible exact Below.refl _ _) | (with_reducible assumption) | (with_reducible refine Below.alloc ?_ ?_ _) | (with_reducible refine Below.setCell ?_ ?_ _) | (with_reducible refine Below.drew ?_) | (with_reducible refine below_drewN ?_ _) | (with_reducible refine below_via (by with_reducible assumption) ?_ ?_) | go_size)⟩
    all_goals
      have HE := Lib.hid (nearOut_2 (n := n) (zs := zs) (num := num) (den := den) h1 h2 (by simp [*]))
      go_enter Try.func26, Try.ntmps26
      go_wp2_with (first | (go_at_call 75; refine (sIn _ _ _ _).mono ?_; rintro e w' ⟨rfl, rfl⟩) | (go_at_call 68; refine (sIsSpot _ _ _).mono ?_; rintro e w' ⟨rfl, hb⟩; obtain ⟨hc, hf⟩ := bcell hb; have hz := hb.size; (try simp at hz); have hz0 : w.heap.size < w'.heap.size := (by omega); have hz1 : w.heap.size + 1 < w'.heap.size := (by omega)))
      go_returns
      exact ⟨ret2_of (HE.out.symm.trans HD.out), by repeat' (first | (with_reducible exact Below.refl _ _) | (with_reducible assumption) | (with_reducible refine Below.alloc ?_ ?_ _) | (with_reducible refine Below.setCell ?_ ?_ _) | (with_reducible refine Below.drew ?_) | (with_reducible refine below_drewN ?_ _) | (with_reducible refine below_via (by with_reducible assumption) ?_ ?_) | go_size)⟩
  all_goals
    have HE := Lib.hid (nearOut_1 (ax := ax) (ay := ay) (bx := bx) (bY := bY) (n := n) (zs := zs) (num := num) (den := den) (by simp [*]))
    go_enter Try.func26, Try.ntmps26
    go_wp2_with (first | (go_at_call 75; refine (sIn _ _ _ _).mono ?_; rintro e w' ⟨rfl, rfl⟩) | (go_at_call 68; refine (sIsSpot _ _ _).mono ?_; rintro e w' ⟨rfl, hb⟩; obtain ⟨hc, hf⟩ := bcell hb; have hz := hb.size; (try simp at hz); have hz0 : w.heap.size < w'.heap.size := (by omega); have hz1 : w.heap.size + 1 < w'.heap.size := (by omega)))
    go_returns
    exact ⟨ret2_of (HE.out.symm.trans HD.out), by repeat' (first | (with_reducible exact Below.refl _ _) | (with_reducible assumption) | (with_reducible refine Below.alloc ?_ ?_ _) | (with_reducible refine Below.setCell ?_ ?_ _) | (with_reducible refine Below.drew ?_) | (with_reducible refine below_drewN ?_ _) | (with_reducible refine below_via (by with_reducible assumption) ?_ ?_) | go_size)⟩
set_option maxRecDepth 20000 in
set_option maxHeartbeats 4000000 in
theorem iNearestSize (ax ay bx bY num den : Int) (a : Option Addr) (n cp : Nat) (zs : List Int) (w : World) (h : Rd w a n zs) (hn : n ≤ 1048576) (o1 o2 : Int) (hd : nearOut ax ay bx bY num den n zs = (o1, o2)) :
    Calls Try.prog 28 #[.agg #[.int .i64 ax, .int .i64 ay], .agg #[.int .i64 bx, .int .i64 bY], .int .i64 num, .int .i64 den, .slice a n cp] w fun e w' => e = .returned (.tuple #[.int .i64 o1, .int .i64 o2]) ∧ Below w.heap.size w w' := by
  have HD := Lib.hid hd
  have HH := Lib.hid h
  clear hd h
  rcases and2 (spotB ax ay) (spotB bx bY) with h1 | ⟨h1, h2⟩ | ⟨h1, h2⟩
  rotate_right
  · rcases and2 (inB num 1 1000000) (inB den 1 1000) with h3 | ⟨h3, h4⟩ | ⟨h3, h4⟩
    rotate_right
    · cases h5 : inB (n : Int) 1 8
      · have HE := Lib.hid (nearOut_3 (zs := zs) h1 h2 h3 h4 (by rw [h5]; rfl))
        go_enter Try.func28, Try.ntmps28
        go_wp2_with (first | (go_at_call 77; refine (iIn _ _ _ _).mono ?_; rintro e w' ⟨rfl, rfl⟩) | (go_at_call 65; go_call (iSpots2 _ ax ay bx bY _) as e w' ⟨rfl, hb⟩; obtain ⟨hc, hf⟩ := bcell hb; have hz := hb.size; (try simp at hz); have hz0 : w.heap.size < w'.heap.size := (by omega); have hz1 : w.heap.size + 1 < w'.heap.size := (by omega)))
        go_returns
        exact ⟨ret2_of (HE.out.symm.trans HD.out), by repeat' (first | (with_reducible exact Below.refl _ _) | (with_reducible assumption) | (with_reducible refine Below.alloc ?_ ?_ _) | (with_reducible refine Below.setCell ?_ ?_ _) | (with_reducible refine Below.drew ?_) | (with_reducible refine below_drewN ?_ _) | (with_reducible refine below_via (by with_reducible assumption) ?_ ?_) | go_size)⟩
      · obtain ⟨i1, i2⟩ := inB_iff.1 h5
        have hp : 0 < n := by omega
        have HS := Lib.hid (held_n2 ax ay bx bY w)
        go_enter Try.func28, Try.ntmps28
        go_wp2_with (first | (go_at_call 77; refine (iIn _ _ _ _).mono ?_; rintro e w' ⟨rfl, rfl⟩) | (go_at_call 65; go_call (iSpots2 _ ax ay bx bY _) as e w' ⟨rfl, hb⟩; obtain ⟨hc, hf⟩ := bcell hb; have hz := hb.size; (try simp at hz); have hz0 : w.heap.size < w'.heap.size := (by omega); have hz1 : w.heap.size + 1 < w'.heap.size := (by omega)))
        go_loopw [33] (fun i wr => ∃ (k : Nat), k ≤ n ∧ i = .int .i64 k ∧ Hid (∀ j, j < k → inB (zs.getD j 0) 1 400 = true) ∧ Hid (Below w.heap.size w wr) ∧ w.heap.size + 1 < wr.heap.size ∧ wr.cell? ⟨w.heap.size, 0, none⟩ = some (.int .i64 ax) ∧ wr.cell? ⟨w.heap.size, 1, none⟩ = some (.int .i64 ay) ∧ wr.cell? ⟨w.heap.size + 1, 0, none⟩ = some (.int .i64 bx) ∧ wr.cell? ⟨w.heap.size + 1, 1, none⟩ = some (.int .i64 bY)) (fun i _ => n - (intOf i).toNat)
        case atStart =>
          obtain ⟨-, -, y1, y2, y3, y4, y5⟩ := HS.out w' (by repeat' (first | (with_reducible exact Below.refl _ _) | (with_reducible assumption) | (with_reducible refine Below.alloc ?_ ?_ _) | (with_reducible refine Below.setCell ?_ ?_ _) | (with_reducible refine Below.drew ?_) | (with_reducible refine below_drewN ?_ _) | (with_reducible refine below_via (by with_reducible assumption) ?_ ?_) | go_size))
          exact ⟨0, Nat.zero_le _, rfl, fun j hj => absurd hj (by omega), by unfold Hid; repeat' (first | (with_reducible exact Below.refl _ _) | (with_reducible assumption) | (with_reducible refine Below.alloc ?_ ?_ _) | (with_reducible refine Below.setCell ?_ ?_ _) | (with_reducible refine Below.drew ?_) | (with_reducible refine below_drewN ?_ _) | (with_reducible refine below_via (by with_reducible assumption) ?_ ?_) | go_size), y1, y2, y3, y4, y5⟩
        case round =>
          obtain ⟨k, hk, rfl, HA, HBel, z1, z2, z3, z4, z5⟩ := hrel
          by_cases hlt : k < n
          · obtain ⟨b, off, rfl, hb, hcell⟩ := (HH.out.below HBel.out).2 hp
            have hc := hcell k hlt
            generalize hzk : zs.getD k 0 = zk at hc
            have HK := Lib.hid hzk
            clear hzk hcell
            have k0 : (0 : Int) ≤ (k : Int) := Int.natCast_nonneg _
            have k1 : (k : Int) < (n : Int) := by omega
            cases h6 : inB zk 1 400
            · have HE := Lib.hid (nearOut_3 (num := num) (den := den) (zs := zs) (n := n) h1 h2 h3 h4 (by rw [sizesB_no hlt (by rw [HK.out]; exact h6)]; simp))
              have hbel := HBel.out
              go_wp2_with (go_at_call 77; refine (iIn _ _ _ _).mono ?_; rintro e w' ⟨rfl, rfl⟩)
              go_returns
              exact ⟨ret2_of (HE.out.symm.trans HD.out), by repeat' (first | (with_reducible exact Below.refl _ _) | (with_reducible assumption) | (with_reducible refine Below.alloc ?_ ?_ _) | (with_reducible refine Below.setCell ?_ ?_ _) | (with_reducible refine Below.drew ?_) | (with_reducible refine below_drewN ?_ _) | (with_reducible refine below_via (by with_reducible assumption) ?_ ?_) | go_size)⟩
            · have HE : Hid (∀ j, j < k + 1 → inB (zs.getD j 0) 1 400 = true) := fun j hj => by
                rcases Nat.lt_or_ge j k with h9 | h9
                · exact HA.out j h9
                · obtain rfl : j = k := by omega
                  rw [HK.out]; exact h6
              go_wp2_with (go_at_call 77; refine (iIn _ _ _ _).mono ?_; rintro e w' ⟨rfl, rfl⟩)
              go_roundw
              case rel => exact ⟨k + 1, by omega, by go_num, HE.out, HBel, z1, z2, z3, z4, z5⟩
              case measure => simp [intOf]; omega
          · have hke : k = n := by omega
            have HZ : Hid (sizesB zs n = true) := sizesB_yes (fun j hj => HA.out j (by omega))
            clear hke
            obtain ⟨m1, m2⟩ := inB_iff.1 h3
            obtain ⟨m3, m4⟩ := inB_iff.1 h4
            have HE := Lib.hid (nearOut_0 (zs := zs) h1 h2 h3 h4 (by rw [h5, HZ.out]; rfl))
            have HR : Hid (Rd wr a n zs) := HH.out.below HBel.out
            have HD1 : Hid (pickZ (wantZ (sqV ax ay bx bY) num den) zs n = o1) := congrArg Prod.fst (HE.out.symm.trans HD.out)
            have HD2 : Hid ((0 : Int) = o2) := congrArg Prod.snd (HE.out.symm.trans HD.out)
            have hbel := HBel.out
            go_wp2_with fail
            refine (iNearest ax ay bx bY num den a n cp zs _ HR.out h1 h2 m1 m2 m3 m4 hp (by omega) HZ.out o1 HD1.out).mono ?_
            rintro e w2 ⟨rfl, hb2⟩
            have hz2 := hb2.size
            go_wp2
            go_returns
            exact ⟨ret_ints2 rfl HD2.out, by repeat' (first | (with_reducible exact Below.refl _ _) | (with_reducible assumption) | (with_reducible refine Below.alloc ?_ ?_ _) | (with_reducible refine Below.setCell ?_ ?_ _) | (with_reducible refine Below.drew ?_) | (with_reducible refine below_drewN ?_ _) | (with_reducible refine below_via (by with_reducible assumption) ?_ ?_) | go_size)⟩
    all_goals
      have HE := Lib.hid (nearOut_2 (n := n) (zs := zs) (num := num) (den := den) h1 h2 (by simp [*]))
      go_enter Try.func28, Try.ntmps28
      go_wp2_with (first | (go_at_call 77; refine (iIn _ _ _ _).mono ?_; rintro e w' ⟨rfl, rfl⟩) | (go_at_call 65; go_call (iSpots2 _ ax ay bx bY _) as e w' ⟨rfl, hb⟩; obtain ⟨hc, hf⟩ := bcell hb; have hz := hb.size; (try simp at hz); have hz0 : w.heap.size < w'.heap.size := (by omega); have hz1 : w.heap.size + 1 < w'.heap.size := (by omega)))
      go_returns
      exact ⟨ret2_of (HE.out.symm.trans HD.out), by repeat' (first | (with_reducible exact Below.refl _ _) | (with_reducible assumption) | (with_reducible refine Below.alloc ?_ ?_ _) | (with_reducible refine Below.setCell ?_ ?_ _) | (with_reducible refine Below.drew ?_) | (with_reducible refine below_drewN ?_ _) | (with_reducible refine below_via (by with_reducible assumption) ?_ ?_) | go_size)⟩
  all_goals
    have HE := Lib.hid (nearOut_1 (ax := ax) (ay := ay) (bx := bx) (bY := bY) (n := n) (zs := zs) (num := num) (den := den) (by simp [*]))
    go_enter Try.func28, Try.ntmps28
    go_wp2_with (first | (go_at_call 77; refine (iIn _ _ _ _).mono ?_; rintro e w' ⟨rfl, rfl⟩) | (go_at_call 65; go_call (iSpots2 _ ax ay bx bY _) as e w' ⟨rfl, hb⟩; obtain ⟨hc, hf⟩ := bcell hb; have hz := hb.size; (try simp at hz); have hz0 : w.heap.size < w'.heap.size := (by omega); have hz1 : w.heap.size + 1 < w'.heap.size := (by omega)))
    go_returns
    exact ⟨ret2_of (HE.out.symm.trans HD.out), by repeat' (first | (with_reducible exact Below.refl _ _) | (with_reducible assumption) | (with_reducible refine Below.alloc ?_ ?_ _) | (with_reducible refine Below.setCell ?_ ?_ _) | (with_reducible refine Below.drew ?_) | (with_reducible refine below_drewN ?_ _) | (with_reducible refine below_via (by with_reducible assumption) ?_ ?_) | go_size)⟩
end Go.Proofs.Ytdbecdgiafjkfaa
