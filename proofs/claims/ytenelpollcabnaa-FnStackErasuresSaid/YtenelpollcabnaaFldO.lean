/-
  DERIVED. spec.FieldOf at whatever size.
-/
import Derived.Test.YtenelpollcabnaaFamF
namespace Go.Proofs.Ytenelpollcabnaa
open Go.RowKit
set_option linter.unusedVariables false
def AnyField (w : World) (e : Ending) (w' : World) : Prop := ∃ p pw po c : Int, e = .returned (.tuple #[.agg #[.int .i64 p, .int .i64 pw, .int .i64 po], .int .i64 c]) ∧ Below w.heap.size w w'
set_option maxRecDepth 20000 in
set_option maxHeartbeats 8000000 in
theorem sFieldAny (n : Int) (h3 : 3 ≤ n) (h1 : n ≤ 1021) (w : World) : Calls Try.prog 84 #[.int .i64 n] w (AnyField w) := by
  have hin : inB n 3 1021 = true := inB_yes h3 h1
  have r0 := Lib.hid (Res3.new w 32)
  cases hpr : prmB n
  · go_enter Try.func84, Try.ntmps84
    go_wp2_with (first | (go_at_call 35; refine (sIn _ _ _ _).mono ?_; rintro e w' ⟨rfl, rfl⟩) | (go_at_call 96; refine (sPrm _ _ h3 h1).mono ?_; rintro e w' ⟨rfl, rfl⟩))
    have HR := r0
    have HB : Hid (Below w.heap.size w (w.alloc (.cells #[.int .i64 0, .int .i64 0, .int .i64 0] 32))) := by unfold Hid; repeat' (first | (with_reducible exact Below.refl _ _) | (with_reducible assumption) | (with_reducible refine Below.alloc ?_ ?_ _) | (with_reducible refine Below.setCell ?_ ?_ _) | (with_reducible refine Below.drew ?_) | (with_reducible refine below_drewN ?_ _) | (with_reducible refine below_via (by with_reducible assumption) ?_ ?_) | go_size)
    clear r0
    go_loopw [6] (fun v wr => ∃ (k : Int), v = .int .i64 k ∧ 3 ≤ k ∧ k ≤ 9 ∧ Hid (Res3 wr w.heap.size) ∧ Hid (Below w.heap.size w wr)) (fun v _ => 10 - (intOf v).toNat)
    case atStart => exact ⟨3, rfl, by omega, by omega, HR, HB⟩
    case round =>
      clear HR HB
      obtain ⟨k, rfl, k3, k9, HR, HB⟩ := hrel
      rcases (by omega : k = 9 ∨ k = 3 ∨ k = 4 ∨ k = 5 ∨ k = 6 ∨ k = 7 ∨ k = 8) with rfl | rfl | rfl | rfl | rfl | rfl | rfl
      · obtain ⟨_, ⟨_, _, _⟩, ⟨_, _, _⟩⟩ := HR.out
        have HB2 := HB
        go_wp2_with fail
        refine bodyPost_ret (v := .tuple #[.agg #[.int .i64 (0), .int .i64 (0), .int .i64 (0)], .int .i64 (4)]) (by simp [results, Try.results84, go_sem, *]) rfl ?_
        have hb2 := HB2.out
        exact ⟨_, _, _, _, rfl, by repeat' (first | (with_reducible exact Below.refl _ _) | (with_reducible assumption) | (with_reducible refine Below.alloc ?_ ?_ _) | (with_reducible refine Below.setCell ?_ ?_ _) | (with_reducible refine Below.drew ?_) | (with_reducible refine below_drewN ?_ _) | (with_reducible refine below_via (by with_reducible assumption) ?_ ?_) | go_size)⟩
      · by_cases hn : n = 8
        · have hn2 : (n != 8) = false := by simp [hn]
          have hn3 : n ≤ 8 := by omega
          have hn4 : 8 ≤ n := by omega
          clear hn
          go_wp2
          go_loopw [7] (fun v wr => ∃ (q : Int), v = .int .i64 q ∧ n ≤ q ∧ q ≤ 2 * n ∧ Hid (Res3 wr w.heap.size) ∧ Hid (Below w.heap.size w wr)) (fun v _ => (2 * n - intOf v).toNat)
          case atStart => exact ⟨n, rfl, by omega, by omega, HR, HB⟩
          case round =>
            clear HR HB
            obtain ⟨q, rfl, q1, q2, HR, HB⟩ := hrel
            have hsz := HR.out.1
            by_cases hlt : q < 2 * n
            · generalize hg : fldB 2 3 q = hB
              go_wp2_with fail
              refine (sIsField 2 3 q _).mono ?_
              rintro e w' ⟨rfl, hb⟩
              rw [hg]
              clear hg
              have HB2 : Hid (Below w.heap.size w w') := by
                unfold Hid
                have hbel := HB.out
                repeat' (first | (with_reducible exact Below.refl _ _) | (with_reducible assumption) | (with_reducible refine Below.alloc ?_ ?_ _) | (with_reducible refine Below.setCell ?_ ?_ _) | (with_reducible refine Below.drew ?_) | (with_reducible refine below_drewN ?_ _) | (with_reducible refine below_via (by with_reducible assumption) ?_ ?_) | go_size)
              have HR2 : Hid (Res3 w' w.heap.size) := (HR.out.keep ((Below.refl _ _).alloc (Nat.le_refl _) _)).keep hb
              have y0 : w'.cell? ⟨wr.heap.size, 0, none⟩ = some (.int .i64 (2)) := (hb.cell (p := ⟨_, _, none⟩) (by simp)).trans (by simp [go_sem])
              have y1 : w'.cell? ⟨wr.heap.size, 1, none⟩ = some (.int .i64 (3)) := (hb.cell (p := ⟨_, _, none⟩) (by simp)).trans (by simp [go_sem])
              have y2 : w'.cell? ⟨wr.heap.size, 2, none⟩ = some (.int .i64 (q)) := (hb.cell (p := ⟨_, _, none⟩) (by simp)).trans (by simp [go_sem])
              have hR2 := HR2.out
              clear HR HB hb
              cases hB
              · clear y0 y1 y2 hR2
                go_wp2_with fail
                go_roundw
                case rel => exact ⟨q + 1, rfl, by omega, by omega, HR2, HB2⟩
                case measure => simp [intOf]; omega
              · obtain ⟨_, ⟨_, _, _⟩, ⟨_, _, _⟩⟩ := hR2
                go_wp2_with fail
                refine bodyPost_ret (v := .tuple #[.agg #[.int .i64 (2), .int .i64 (3), .int .i64 (q)], .int .i64 (0)]) (by simp [results, Try.results84, go_sem, *]) rfl ?_
                have hb2 := HB2.out
                exact ⟨_, _, _, _, rfl, by repeat' (first | (with_reducible exact Below.refl _ _) | (with_reducible assumption) | (with_reducible refine Below.alloc ?_ ?_ _) | (with_reducible refine Below.setCell ?_ ?_ _) | (with_reducible refine Below.drew ?_) | (with_reducible refine below_drewN ?_ _) | (with_reducible refine below_via (by with_reducible assumption) ?_ ?_) | go_size)⟩
            · go_wp2
              go_roundw
              case rel => exact ⟨4, rfl, by omega, by omega, HR, HB⟩
              case measure => simp [intOf]
        · have hn2 : (n != 8) = true := by simp [hn]
          clear hn
          go_wp2
          go_roundw
          case rel => exact ⟨4, rfl, by omega, by omega, HR, HB⟩
          case measure => simp [intOf]
      · by_cases hn : n = 16
        · have hn2 : (n != 16) = false := by simp [hn]
          have hn3 : n ≤ 16 := by omega
          have hn4 : 16 ≤ n := by omega
          clear hn
          go_wp2
          go_loopw [7] (fun v wr => ∃ (q : Int), v = .int .i64 q ∧ n ≤ q ∧ q ≤ 2 * n ∧ Hid (Res3 wr w.heap.size) ∧ Hid (Below w.heap.size w wr)) (fun v _ => (2 * n - intOf v).toNat)
          case atStart => exact ⟨n, rfl, by omega, by omega, HR, HB⟩
          case round =>
            clear HR HB
            obtain ⟨q, rfl, q1, q2, HR, HB⟩ := hrel
            have hsz := HR.out.1
            by_cases hlt : q < 2 * n
            · generalize hg : fldB 2 4 q = hB
              go_wp2_with fail
              refine (sIsField 2 4 q _).mono ?_
              rintro e w' ⟨rfl, hb⟩
              rw [hg]
              clear hg
              have HB2 : Hid (Below w.heap.size w w') := by
                unfold Hid
                have hbel := HB.out
                repeat' (first | (with_reducible exact Below.refl _ _) | (with_reducible assumption) | (with_reducible refine Below.alloc ?_ ?_ _) | (with_reducible refine Below.setCell ?_ ?_ _) | (with_reducible refine Below.drew ?_) | (with_reducible refine below_drewN ?_ _) | (with_reducible refine below_via (by with_reducible assumption) ?_ ?_) | go_size)
              have HR2 : Hid (Res3 w' w.heap.size) := (HR.out.keep ((Below.refl _ _).alloc (Nat.le_refl _) _)).keep hb
              have y0 : w'.cell? ⟨wr.heap.size, 0, none⟩ = some (.int .i64 (2)) := (hb.cell (p := ⟨_, _, none⟩) (by simp)).trans (by simp [go_sem])
              have y1 : w'.cell? ⟨wr.heap.size, 1, none⟩ = some (.int .i64 (4)) := (hb.cell (p := ⟨_, _, none⟩) (by simp)).trans (by simp [go_sem])
              have y2 : w'.cell? ⟨wr.heap.size, 2, none⟩ = some (.int .i64 (q)) := (hb.cell (p := ⟨_, _, none⟩) (by simp)).trans (by simp [go_sem])
              have hR2 := HR2.out
              clear HR HB hb
              cases hB
              · clear y0 y1 y2 hR2
                go_wp2_with fail
                go_roundw
                case rel => exact ⟨q + 1, rfl, by omega, by omega, HR2, HB2⟩
                case measure => simp [intOf]; omega
              · obtain ⟨_, ⟨_, _, _⟩, ⟨_, _, _⟩⟩ := hR2
                go_wp2_with fail
                refine bodyPost_ret (v := .tuple #[.agg #[.int .i64 (2), .int .i64 (4), .int .i64 (q)], .int .i64 (0)]) (by simp [results, Try.results84, go_sem, *]) rfl ?_
                have hb2 := HB2.out
                exact ⟨_, _, _, _, rfl, by repeat' (first | (with_reducible exact Below.refl _ _) | (with_reducible assumption) | (with_reducible refine Below.alloc ?_ ?_ _) | (with_reducible refine Below.setCell ?_ ?_ _) | (with_reducible refine Below.drew ?_) | (with_reducible refine below_drewN ?_ _) | (with_reducible refine below_via (by with_reducible assumption) ?_ ?_) | go_size)⟩
            · go_wp2
              go_roundw
              case rel => exact ⟨5, rfl, by omega, by omega, HR, HB⟩
              case measure => simp [intOf]
        · have hn2 : (n != 16) = true := by simp [hn]
          clear hn
          go_wp2
          go_roundw
          case rel => exact ⟨5, rfl, by omega, by omega, HR, HB⟩
          case measure => simp [intOf]
      · by_cases hn : n = 32
        · have hn2 : (n != 32) = false := by simp [hn]
          have hn3 : n ≤ 32 := by omega
          have hn4 : 32 ≤ n := by omega
          clear hn
          go_wp2
          go_loopw [7] (fun v wr => ∃ (q : Int), v = .int .i64 q ∧ n ≤ q ∧ q ≤ 2 * n ∧ Hid (Res3 wr w.heap.size) ∧ Hid (Below w.heap.size w wr)) (fun v _ => (2 * n - intOf v).toNat)
          case atStart => exact ⟨n, rfl, by omega, by omega, HR, HB⟩
          case round =>
            clear HR HB
            obtain ⟨q, rfl, q1, q2, HR, HB⟩ := hrel
            have hsz := HR.out.1
            by_cases hlt : q < 2 * n
            · generalize hg : fldB 2 5 q = hB
              go_wp2_with fail
              refine (sIsField 2 5 q _).mono ?_
              rintro e w' ⟨rfl, hb⟩
              rw [hg]
              clear hg
              have HB2 : Hid (Below w.heap.size w w') := by
                unfold Hid
                have hbel := HB.out
                repeat' (first | (with_reducible exact Below.refl _ _) | (with_reducible assumption) | (with_reducible refine Below.alloc ?_ ?_ _) | (with_reducible refine Below.setCell ?_ ?_ _) | (with_reducible refine Below.drew ?_) | (with_reducible refine below_drewN ?_ _) | (with_reducible refine below_via (by with_reducible assumption) ?_ ?_) | go_size)
              have HR2 : Hid (Res3 w' w.heap.size) := (HR.out.keep ((Below.refl _ _).alloc (Nat.le_refl _) _)).keep hb
              have y0 : w'.cell? ⟨wr.heap.size, 0, none⟩ = some (.int .i64 (2)) := (hb.cell (p := ⟨_, _, none⟩) (by simp)).trans (by simp [go_sem])
              have y1 : w'.cell? ⟨wr.heap.size, 1, none⟩ = some (.int .i64 (5)) := (hb.cell (p := ⟨_, _, none⟩) (by simp)).trans (by simp [go_sem])
              have y2 : w'.cell? ⟨wr.heap.size, 2, none⟩ = some (.int .i64 (q)) := (hb.cell (p := ⟨_, _, none⟩) (by simp)).trans (by simp [go_sem])
              have hR2 := HR2.out
              clear HR HB hb
              cases hB
              · clear y0 y1 y2 hR2
                go_wp2_with fail
                go_roundw
                case rel => exact ⟨q + 1, rfl, by omega, by omega, HR2, HB2⟩
                case measure => simp [intOf]; omega
              · obtain ⟨_, ⟨_, _, _⟩, ⟨_, _, _⟩⟩ := hR2
                go_wp2_with fail
                refine bodyPost_ret (v := .tuple #[.agg #[.int .i64 (2), .int .i64 (5), .int .i64 (q)], .int .i64 (0)]) (by simp [results, Try.results84, go_sem, *]) rfl ?_
                have hb2 := HB2.out
                exact ⟨_, _, _, _, rfl, by repeat' (first | (with_reducible exact Below.refl _ _) | (with_reducible assumption) | (with_reducible refine Below.alloc ?_ ?_ _) | (with_reducible refine Below.setCell ?_ ?_ _) | (with_reducible refine Below.drew ?_) | (with_reducible refine below_drewN ?_ _) | (with_reducible refine below_via (by with_reducible assumption) ?_ ?_) | go_size)⟩
            · go_wp2
              go_roundw
              case rel => exact ⟨6, rfl, by omega, by omega, HR, HB⟩
              case measure => simp [intOf]
        · have hn2 : (n != 32) = true := by simp [hn]
          clear hn
          go_wp2
          go_roundw
          case rel => exact ⟨6, rfl, by omega, by omega, HR, HB⟩
          case measure => simp [intOf]
      · by_cases hn : n = 64
        · have hn2 : (n != 64) = false := by simp [hn]
          have hn3 : n ≤ 64 := by omega
          have hn4 : 64 ≤ n := by omega
          clear hn
          go_wp2
          go_loopw [7] (fun v wr => ∃ (q : Int), v = .int .i64 q ∧ n ≤ q ∧ q ≤ 2 * n ∧ Hid (Res3 wr w.heap.size) ∧ Hid (Below w.heap.size w wr)) (fun v _ => (2 * n - intOf v).toNat)
          case atStart => exact ⟨n, rfl, by omega, by omega, HR, HB⟩
          case round =>
            clear HR HB
            obtain ⟨q, rfl, q1, q2, HR, HB⟩ := hrel
            have hsz := HR.out.1
            by_cases hlt : q < 2 * n
            · generalize hg : fldB 2 6 q = hB
              go_wp2_with fail
              refine (sIsField 2 6 q _).mono ?_
              rintro e w' ⟨rfl, hb⟩
              rw [hg]
              clear hg
              have HB2 : Hid (Below w.heap.size w w') := by
                unfold Hid
                have hbel := HB.out
                repeat' (first | (with_reducible exact Below.refl _ _) | (with_reducible assumption) | (with_reducible refine Below.alloc ?_ ?_ _) | (with_reducible refine Below.setCell ?_ ?_ _) | (with_reducible refine Below.drew ?_) | (with_reducible refine below_drewN ?_ _) | (with_reducible refine below_via (by with_reducible assumption) ?_ ?_) | go_size)
              have HR2 : Hid (Res3 w' w.heap.size) := (HR.out.keep ((Below.refl _ _).alloc (Nat.le_refl _) _)).keep hb
              have y0 : w'.cell? ⟨wr.heap.size, 0, none⟩ = some (.int .i64 (2)) := (hb.cell (p := ⟨_, _, none⟩) (by simp)).trans (by simp [go_sem])
              have y1 : w'.cell? ⟨wr.heap.size, 1, none⟩ = some (.int .i64 (6)) := (hb.cell (p := ⟨_, _, none⟩) (by simp)).trans (by simp [go_sem])
              have y2 : w'.cell? ⟨wr.heap.size, 2, none⟩ = some (.int .i64 (q)) := (hb.cell (p := ⟨_, _, none⟩) (by simp)).trans (by simp [go_sem])
              have hR2 := HR2.out
              clear HR HB hb
              cases hB
              · clear y0 y1 y2 hR2
                go_wp2_with fail
                go_roundw
                case rel => exact ⟨q + 1, rfl, by omega, by omega, HR2, HB2⟩
                case measure => simp [intOf]; omega
              · obtain ⟨_, ⟨_, _, _⟩, ⟨_, _, _⟩⟩ := hR2
                go_wp2_with fail
                refine bodyPost_ret (v := .tuple #[.agg #[.int .i64 (2), .int .i64 (6), .int .i64 (q)], .int .i64 (0)]) (by simp [results, Try.results84, go_sem, *]) rfl ?_
                have hb2 := HB2.out
                exact ⟨_, _, _, _, rfl, by repeat' (first | (with_reducible exact Below.refl _ _) | (with_reducible assumption) | (with_reducible refine Below.alloc ?_ ?_ _) | (with_reducible refine Below.setCell ?_ ?_ _) | (with_reducible refine Below.drew ?_) | (with_reducible refine below_drewN ?_ _) | (with_reducible refine below_via (by with_reducible assumption) ?_ ?_) | go_size)⟩
            · go_wp2
              go_roundw
              case rel => exact ⟨7, rfl, by omega, by omega, HR, HB⟩
              case measure => simp [intOf]
        · have hn2 : (n != 64) = true := by simp [hn]
          clear hn
          go_wp2
          go_roundw
          case rel => exact ⟨7, rfl, by omega, by omega, HR, HB⟩
          case measure => simp [intOf]
      · by_cases hn : n = 128
        · have hn2 : (n != 128) = false := by simp [hn]
          have hn3 : n ≤ 128 := by omega
          have hn4 : 128 ≤ n := by omega
          clear hn
          go_wp2
          go_loopw [7] (fun v wr => ∃ (q : Int), v = .int .i64 q ∧ n ≤ q ∧ q ≤ 2 * n ∧ Hid (Res3 wr w.heap.size) ∧ Hid (Below w.heap.size w wr)) (fun v _ => (2 * n - intOf v).toNat)
          case atStart => exact ⟨n, rfl, by omega, by omega, HR, HB⟩
          case round =>
            clear HR HB
            obtain ⟨q, rfl, q1, q2, HR, HB⟩ := hrel
            have hsz := HR.out.1
            by_cases hlt : q < 2 * n
            · generalize hg : fldB 2 7 q = hB
              go_wp2_with fail
              refine (sIsField 2 7 q _).mono ?_
              rintro e w' ⟨rfl, hb⟩
              rw [hg]
              clear hg
              have HB2 : Hid (Below w.heap.size w w') := by
                unfold Hid
                have hbel := HB.out
                repeat' (first | (with_reducible exact Below.refl _ _) | (with_reducible assumption) | (with_reducible refine Below.alloc ?_ ?_ _) | (with_reducible refine Below.setCell ?_ ?_ _) | (with_reducible refine Below.drew ?_) | (with_reducible refine below_drewN ?_ _) | (with_reducible refine below_via (by with_reducible assumption) ?_ ?_) | go_size)
              have HR2 : Hid (Res3 w' w.heap.size) := (HR.out.keep ((Below.refl _ _).alloc (Nat.le_refl _) _)).keep hb
              have y0 : w'.cell? ⟨wr.heap.size, 0, none⟩ = some (.int .i64 (2)) := (hb.cell (p := ⟨_, _, none⟩) (by simp)).trans (by simp [go_sem])
              have y1 : w'.cell? ⟨wr.heap.size, 1, none⟩ = some (.int .i64 (7)) := (hb.cell (p := ⟨_, _, none⟩) (by simp)).trans (by simp [go_sem])
              have y2 : w'.cell? ⟨wr.heap.size, 2, none⟩ = some (.int .i64 (q)) := (hb.cell (p := ⟨_, _, none⟩) (by simp)).trans (by simp [go_sem])
              have hR2 := HR2.out
              clear HR HB hb
              cases hB
              · clear y0 y1 y2 hR2
                go_wp2_with fail
                go_roundw
                case rel => exact ⟨q + 1, rfl, by omega, by omega, HR2, HB2⟩
                case measure => simp [intOf]; omega
              · obtain ⟨_, ⟨_, _, _⟩, ⟨_, _, _⟩⟩ := hR2
                go_wp2_with fail
                refine bodyPost_ret (v := .tuple #[.agg #[.int .i64 (2), .int .i64 (7), .int .i64 (q)], .int .i64 (0)]) (by simp [results, Try.results84, go_sem, *]) rfl ?_
                have hb2 := HB2.out
                exact ⟨_, _, _, _, rfl, by repeat' (first | (with_reducible exact Below.refl _ _) | (with_reducible assumption) | (with_reducible refine Below.alloc ?_ ?_ _) | (with_reducible refine Below.setCell ?_ ?_ _) | (with_reducible refine Below.drew ?_) | (with_reducible refine below_drewN ?_ _) | (with_reducible refine below_via (by with_reducible assumption) ?_ ?_) | go_size)⟩
            · go_wp2
              go_roundw
              case rel => exact ⟨8, rfl, by omega, by omega, HR, HB⟩
              case measure => simp [intOf]
        · have hn2 : (n != 128) = true := by simp [hn]
          clear hn
          go_wp2
          go_roundw
          case rel => exact ⟨8, rfl, by omega, by omega, HR, HB⟩
          case measure => simp [intOf]
      · by_cases hn : n = 256
        · have hn2 : (n != 256) = false := by simp [hn]
          have hn3 : n ≤ 256 := by omega
          have hn4 : 256 ≤ n := by omega
          clear hn
          go_wp2
          go_loopw [7] (fun v wr => ∃ (q : Int), v = .int .i64 q ∧ n ≤ q ∧ q ≤ 2 * n ∧ Hid (Res3 wr w.heap.size) ∧ Hid (Below w.heap.size w wr)) (fun v _ => (2 * n - intOf v).toNat)
          case atStart => exact ⟨n, rfl, by omega, by omega, HR, HB⟩
          case round =>
            clear HR HB
            obtain ⟨q, rfl, q1, q2, HR, HB⟩ := hrel
            have hsz := HR.out.1
            by_cases hlt : q < 2 * n
            · generalize hg : fldB 2 8 q = hB
              go_wp2_with fail
              refine (sIsField 2 8 q _).mono ?_
              rintro e w' ⟨rfl, hb⟩
              rw [hg]
              clear hg
              have HB2 : Hid (Below w.heap.size w w') := by
                unfold Hid
                have hbel := HB.out
                repeat' (first | (with_reducible exact Below.refl _ _) | (with_reducible assumption) | (with_reducible refine Below.alloc ?_ ?_ _) | (with_reducible refine Below.setCell ?_ ?_ _) | (with_reducible refine Below.drew ?_) | (with_reducible refine below_drewN ?_ _) | (with_reducible refine below_via (by with_reducible assumption) ?_ ?_) | go_size)
              have HR2 : Hid (Res3 w' w.heap.size) := (HR.out.keep ((Below.refl _ _).alloc (Nat.le_refl _) _)).keep hb
              have y0 : w'.cell? ⟨wr.heap.size, 0, none⟩ = some (.int .i64 (2)) := (hb.cell (p := ⟨_, _, none⟩) (by simp)).trans (by simp [go_sem])
              have y1 : w'.cell? ⟨wr.heap.size, 1, none⟩ = some (.int .i64 (8)) := (hb.cell (p := ⟨_, _, none⟩) (by simp)).trans (by simp [go_sem])
              have y2 : w'.cell? ⟨wr.heap.size, 2, none⟩ = some (.int .i64 (q)) := (hb.cell (p := ⟨_, _, none⟩) (by simp)).trans (by simp [go_sem])
              have hR2 := HR2.out
              clear HR HB hb
              cases hB
              · clear y0 y1 y2 hR2
                go_wp2_with fail
                go_roundw
                case rel => exact ⟨q + 1, rfl, by omega, by omega, HR2, HB2⟩
                case measure => simp [intOf]; omega
              · obtain ⟨_, ⟨_, _, _⟩, ⟨_, _, _⟩⟩ := hR2
                go_wp2_with fail
                refine bodyPost_ret (v := .tuple #[.agg #[.int .i64 (2), .int .i64 (8), .int .i64 (q)], .int .i64 (0)]) (by simp [results, Try.results84, go_sem, *]) rfl ?_
                have hb2 := HB2.out
                exact ⟨_, _, _, _, rfl, by repeat' (first | (with_reducible exact Below.refl _ _) | (with_reducible assumption) | (with_reducible refine Below.alloc ?_ ?_ _) | (with_reducible refine Below.setCell ?_ ?_ _) | (with_reducible refine Below.drew ?_) | (with_reducible refine below_drewN ?_ _) | (with_reducible refine below_via (by with_reducible assumption) ?_ ?_) | go_size)⟩
            · go_wp2
              go_roundw
              case rel => exact ⟨9, rfl, by omega, by omega, HR, HB⟩
              case measure => simp [intOf]
        · have hn2 : (n != 256) = true := by simp [hn]
          clear hn
          go_wp2
          go_roundw
          case rel => exact ⟨9, rfl, by omega, by omega, HR, HB⟩
          case measure => simp [intOf]
  · obtain ⟨m, hm⟩ := Int.eq_ofNat_of_zero_le (show 0 ≤ n - 1 by omega)
    have hm1 : 2 ≤ m := by omega
    have hm2 : m ≤ 1020 := by omega
    have hm3 : n ≤ (m : Int) + 1 := by omega
    have hm4 : (m : Int) + 1 ≤ n := by omega
    clear hm
    go_enter Try.func84, Try.ntmps84
    go_wp2_with (first | (go_at_call 35; refine (sIn _ _ _ _).mono ?_; rintro e w' ⟨rfl, rfl⟩) | (go_at_call 96; refine (sPrm _ _ h3 h1).mono ?_; rintro e w' ⟨rfl, rfl⟩))
    go_loopw [4] (fun v wr => ∃ (k : Int), v = .int .i64 k ∧ 1 ≤ k ∧ k ≤ n ∧ Hid (Res3 wr w.heap.size) ∧ Hid (Below w.heap.size w wr)) (fun v _ => (n - intOf v).toNat)
    case atStart => exact ⟨1, rfl, by omega, by omega, r0, by unfold Hid; repeat' (first | (with_reducible exact Below.refl _ _) | (with_reducible assumption) | (with_reducible refine Below.alloc ?_ ?_ _) | (with_reducible refine Below.setCell ?_ ?_ _) | (with_reducible refine Below.drew ?_) | (with_reducible refine below_drewN ?_ _) | (with_reducible refine below_via (by with_reducible assumption) ?_ ?_) | go_size)⟩
    case round =>
      clear r0
      obtain ⟨k, rfl, k1, k2, HR, HB⟩ := hrel
      have hsz := HR.out.1
      by_cases hlt : k < n
      · generalize hg : fillB (Tp n k) m = hB
        go_wp2_with fail
        refine (sRunsP n k k m (by omega) (by omega) (by omega) (by omega) (by omega) _).mono ?_
        rintro e w' ⟨rfl, hb⟩
        rw [hg]
        clear hg
        have HB2 : Hid (Below w.heap.size w w') := by
          unfold Hid
          have hbel := HB.out
          repeat' (first | (with_reducible exact Below.refl _ _) | (with_reducible assumption) | (with_reducible refine Below.alloc ?_ ?_ _) | (with_reducible refine Below.setCell ?_ ?_ _) | (with_reducible refine Below.drew ?_) | (with_reducible refine below_drewN ?_ _) | (with_reducible refine below_via (by with_reducible assumption) ?_ ?_) | go_size)
        have HR2 : Hid (Res3 w' w.heap.size) := (HR.out.keep ((Below.refl _ _).alloc (Nat.le_refl _) _)).keep hb
        have y0 : w'.cell? ⟨wr.heap.size, 0, none⟩ = some (.int .i64 (n)) := (hb.cell (p := ⟨_, _, none⟩) (by simp)).trans (by simp [go_sem])
        have y1 : w'.cell? ⟨wr.heap.size, 1, none⟩ = some (.int .i64 (1)) := (hb.cell (p := ⟨_, _, none⟩) (by simp)).trans (by simp [go_sem])
        have y2 : w'.cell? ⟨wr.heap.size, 2, none⟩ = some (.int .i64 (k)) := (hb.cell (p := ⟨_, _, none⟩) (by simp)).trans (by simp [go_sem])
        have hR2 := HR2.out
        clear HR HB hb
        cases hB
        · clear y0 y1 y2 hR2
          go_wp2_with fail
          go_roundw
          case rel => exact ⟨k + 1, rfl, by omega, by omega, HR2, HB2⟩
          case measure => simp [intOf]; omega
        · obtain ⟨_, ⟨_, _, _⟩, ⟨_, _, _⟩⟩ := hR2
          go_wp2_with fail
          refine bodyPost_ret (v := .tuple #[.agg #[.int .i64 (n), .int .i64 (1), .int .i64 (k)], .int .i64 (0)]) (by simp [results, Try.results84, go_sem, *]) rfl ?_
          have hb2 := HB2.out
          exact ⟨_, _, _, _, rfl, by repeat' (first | (with_reducible exact Below.refl _ _) | (with_reducible assumption) | (with_reducible refine Below.alloc ?_ ?_ _) | (with_reducible refine Below.setCell ?_ ?_ _) | (with_reducible refine Below.drew ?_) | (with_reducible refine below_drewN ?_ _) | (with_reducible refine below_via (by with_reducible assumption) ?_ ?_) | go_size)⟩
      · go_wp2
        go_loopw [6] (fun v wr => ∃ (k : Int), v = .int .i64 k ∧ 3 ≤ k ∧ k ≤ 9 ∧ Hid (Res3 wr w.heap.size) ∧ Hid (Below w.heap.size w wr)) (fun v _ => 10 - (intOf v).toNat)
        case atStart => exact ⟨3, rfl, by omega, by omega, HR, HB⟩
        case round =>
          clear HR HB
          obtain ⟨k, rfl, k3, k9, HR, HB⟩ := hrel
          rcases (by omega : k = 9 ∨ k = 3 ∨ k = 4 ∨ k = 5 ∨ k = 6 ∨ k = 7 ∨ k = 8) with rfl | rfl | rfl | rfl | rfl | rfl | rfl
          · obtain ⟨_, ⟨_, _, _⟩, ⟨_, _, _⟩⟩ := HR.out
            have HB2 := HB
            go_wp2_with fail
            refine bodyPost_ret (v := .tuple #[.agg #[.int .i64 (0), .int .i64 (0), .int .i64 (0)], .int .i64 (4)]) (by simp [results, Try.results84, go_sem, *]) rfl ?_
            have hb2 := HB2.out
            exact ⟨_, _, _, _, rfl, by repeat' (first | (with_reducible exact Below.refl _ _) | (with_reducible assumption) | (with_reducible refine Below.alloc ?_ ?_ _) | (with_reducible refine Below.setCell ?_ ?_ _) | (with_reducible refine Below.drew ?_) | (with_reducible refine below_drewN ?_ _) | (with_reducible refine below_via (by with_reducible assumption) ?_ ?_) | go_size)⟩
          · by_cases hn : n = 8
            · have hn2 : (n != 8) = false := by simp [hn]
              have hn3 : n ≤ 8 := by omega
              have hn4 : 8 ≤ n := by omega
              clear hn
              go_wp2
              go_loopw [7] (fun v wr => ∃ (q : Int), v = .int .i64 q ∧ n ≤ q ∧ q ≤ 2 * n ∧ Hid (Res3 wr w.heap.size) ∧ Hid (Below w.heap.size w wr)) (fun v _ => (2 * n - intOf v).toNat)
              case atStart => exact ⟨n, rfl, by omega, by omega, HR, HB⟩
              case round =>
                clear HR HB
                obtain ⟨q, rfl, q1, q2, HR, HB⟩ := hrel
                have hsz := HR.out.1
                by_cases hlt : q < 2 * n
                · generalize hg : fldB 2 3 q = hB
                  go_wp2_with fail
                  refine (sIsField 2 3 q _).mono ?_
                  rintro e w' ⟨rfl, hb⟩
                  rw [hg]
                  clear hg
                  have HB2 : Hid (Below w.heap.size w w') := by
                    unfold Hid
                    have hbel := HB.out
                    repeat' (first | (with_reducible exact Below.refl _ _) | (with_reducible assumption) | (with_reducible refine Below.alloc ?_ ?_ _) | (with_reducible refine Below.setCell ?_ ?_ _) | (with_reducible refine Below.drew ?_) | (with_reducible refine below_drewN ?_ _) | (with_reducible refine below_via (by with_reducible assumption) ?_ ?_) | go_size)
                  have HR2 : Hid (Res3 w' w.heap.size) := (HR.out.keep ((Below.refl _ _).alloc (Nat.le_refl _) _)).keep hb
                  have y0 : w'.cell? ⟨wr.heap.size, 0, none⟩ = some (.int .i64 (2)) := (hb.cell (p := ⟨_, _, none⟩) (by simp)).trans (by simp [go_sem])
                  have y1 : w'.cell? ⟨wr.heap.size, 1, none⟩ = some (.int .i64 (3)) := (hb.cell (p := ⟨_, _, none⟩) (by simp)).trans (by simp [go_sem])
                  have y2 : w'.cell? ⟨wr.heap.size, 2, none⟩ = some (.int .i64 (q)) := (hb.cell (p := ⟨_, _, none⟩) (by simp)).trans (by simp [go_sem])
                  have hR2 := HR2.out
                  clear HR HB hb
                  cases hB
                  · clear y0 y1 y2 hR2
                    go_wp2_with fail
                    go_roundw
                    case rel => exact ⟨q + 1, rfl, by omega, by omega, HR2, HB2⟩
                    case measure => simp [intOf]; omega
                  · obtain ⟨_, ⟨_, _, _⟩, ⟨_, _, _⟩⟩ := hR2
                    go_wp2_with fail
                    refine bodyPost_ret (v := .tuple #[.agg #[.int .i64 (2), .int .i64 (3), .int .i64 (q)], .int .i64 (0)]) (by simp [results, Try.results84, go_sem, *]) rfl ?_
                    have hb2 := HB2.out
                    exact ⟨_, _, _, _, rfl, by repeat' (first | (with_reducible exact Below.refl _ _) | (with_reducible assumption) | (with_reducible refine Below.alloc ?_ ?_ _) | (with_reducible refine Below.setCell ?_ ?_ _) | (with_reducible refine Below.drew ?_) | (with_reducible refine below_drewN ?_ _) | (with_reducible refine below_via (by with_reducible assumption) ?_ ?_) | go_size)⟩
                · go_wp2
                  go_roundw
                  case rel => exact ⟨4, rfl, by omega, by omega, HR, HB⟩
                  case measure => simp [intOf]
            · have hn2 : (n != 8) = true := by simp [hn]
              clear hn
              go_wp2
              go_roundw
              case rel => exact ⟨4, rfl, by omega, by omega, HR, HB⟩
              case measure => simp [intOf]
          · by_cases hn : n = 16
            · have hn2 : (n != 16) = false := by simp [hn]
              have hn3 : n ≤ 16 := by omega
              have hn4 : 16 ≤ n := by omega
              clear hn
              go_wp2
              go_loopw [7] (fun v wr => ∃ (q : Int), v = .int .i64 q ∧ n ≤ q ∧ q ≤ 2 * n ∧ Hid (Res3 wr w.heap.size) ∧ Hid (Below w.heap.size w wr)) (fun v _ => (2 * n - intOf v).toNat)
              case atStart => exact ⟨n, rfl, by omega, by omega, HR, HB⟩
              case round =>
                clear HR HB
                obtain ⟨q, rfl, q1, q2, HR, HB⟩ := hrel
                have hsz := HR.out.1
                by_cases hlt : q < 2 * n
                · generalize hg : fldB 2 4 q = hB
                  go_wp2_with fail
                  refine (sIsField 2 4 q _).mono ?_
                  rintro e w' ⟨rfl, hb⟩
                  rw [hg]
                  clear hg
                  have HB2 : Hid (Below w.heap.size w w') := by
                    unfold Hid
                    have hbel := HB.out
                    repeat' (first | (with_reducible exact Below.refl _ _) | (with_reducible assumption) | (with_reducible refine Below.alloc ?_ ?_ _) | (with_reducible refine Below.setCell ?_ ?_ _) | (with_reducible refine Below.drew ?_) | (with_reducible refine below_drewN ?_ _) | (with_reducible refine below_via (by with_reducible assumption) ?_ ?_) | go_size)
                  have HR2 : Hid (Res3 w' w.heap.size) := (HR.out.keep ((Below.refl _ _).alloc (Nat.le_refl _) _)).keep hb
                  have y0 : w'.cell? ⟨wr.heap.size, 0, none⟩ = some (.int .i64 (2)) := (hb.cell (p := ⟨_, _, none⟩) (by simp)).trans (by simp [go_sem])
                  have y1 : w'.cell? ⟨wr.heap.size, 1, none⟩ = some (.int .i64 (4)) := (hb.cell (p := ⟨_, _, none⟩) (by simp)).trans (by simp [go_sem])
                  have y2 : w'.cell? ⟨wr.heap.size, 2, none⟩ = some (.int .i64 (q)) := (hb.cell (p := ⟨_, _, none⟩) (by simp)).trans (by simp [go_sem])
                  have hR2 := HR2.out
                  clear HR HB hb
                  cases hB
                  · clear y0 y1 y2 hR2
                    go_wp2_with fail
                    go_roundw
                    case rel => exact ⟨q + 1, rfl, by omega, by omega, HR2, HB2⟩
                    case measure => simp [intOf]; omega
                  · obtain ⟨_, ⟨_, _, _⟩, ⟨_, _, _⟩⟩ := hR2
                    go_wp2_with fail
                    refine bodyPost_ret (v := .tuple #[.agg #[.int .i64 (2), .int .i64 (4), .int .i64 (q)], .int .i64 (0)]) (by simp [results, Try.results84, go_sem, *]) rfl ?_
                    have hb2 := HB2.out
                    exact ⟨_, _, _, _, rfl, by repeat' (first | (with_reducible exact Below.refl _ _) | (with_reducible assumption) | (with_reducible refine Below.alloc ?_ ?_ _) | (with_reducible refine Below.setCell ?_ ?_ _) | (with_reducible refine Below.drew ?_) | (with_reducible refine below_drewN ?_ _) | (with_reducible refine below_via (by with_reducible assumption) ?_ ?_) | go_size)⟩
                · go_wp2
                  go_roundw
                  case rel => exact ⟨5, rfl, by omega, by omega, HR, HB⟩
                  case measure => simp [intOf]
            · have hn2 : (n != 16) = true := by simp [hn]
              clear hn
              go_wp2
              go_roundw
              case rel => exact ⟨5, rfl, by omega, by omega, HR, HB⟩
              case measure => simp [intOf]
          · by_cases hn : n = 32
            · have hn2 : (n != 32) = false := by simp [hn]
              have hn3 : n ≤ 32 := by omega
              have hn4 : 32 ≤ n := by omega
              clear hn
              go_wp2
              go_loopw [7] (fun v wr => ∃ (q : Int), v = .int .i64 q ∧ n ≤ q ∧ q ≤ 2 * n ∧ Hid (Res3 wr w.heap.size) ∧ Hid (Below w.heap.size w wr)) (fun v _ => (2 * n - intOf v).toNat)
              case atStart => exact ⟨n, rfl, by omega, by omega, HR, HB⟩
              case round =>
                clear HR HB
                obtain ⟨q, rfl, q1, q2, HR, HB⟩ := hrel
                have hsz := HR.out.1
                by_cases hlt : q < 2 * n
                · generalize hg : fldB 2 5 q = hB
                  go_wp2_with fail
                  refine (sIsField 2 5 q _).mono ?_
                  rintro e w' ⟨rfl, hb⟩
                  rw [hg]
                  clear hg
                  have HB2 : Hid (Below w.heap.size w w') := by
                    unfold Hid
                    have hbel := HB.out
                    repeat' (first | (with_reducible exact Below.refl _ _) | (with_reducible assumption) | (with_reducible refine Below.alloc ?_ ?_ _) | (with_reducible refine Below.setCell ?_ ?_ _) | (with_reducible refine Below.drew ?_) | (with_reducible refine below_drewN ?_ _) | (with_reducible refine below_via (by with_reducible assumption) ?_ ?_) | go_size)
                  have HR2 : Hid (Res3 w' w.heap.size) := (HR.out.keep ((Below.refl _ _).alloc (Nat.le_refl _) _)).keep hb
                  have y0 : w'.cell? ⟨wr.heap.size, 0, none⟩ = some (.int .i64 (2)) := (hb.cell (p := ⟨_, _, none⟩) (by simp)).trans (by simp [go_sem])
                  have y1 : w'.cell? ⟨wr.heap.size, 1, none⟩ = some (.int .i64 (5)) := (hb.cell (p := ⟨_, _, none⟩) (by simp)).trans (by simp [go_sem])
                  have y2 : w'.cell? ⟨wr.heap.size, 2, none⟩ = some (.int .i64 (q)) := (hb.cell (p := ⟨_, _, none⟩) (by simp)).trans (by simp [go_sem])
                  have hR2 := HR2.out
                  clear HR HB hb
                  cases hB
                  · clear y0 y1 y2 hR2
                    go_wp2_with fail
                    go_roundw
                    case rel => exact ⟨q + 1, rfl, by omega, by omega, HR2, HB2⟩
                    case measure => simp [intOf]; omega
                  · obtain ⟨_, ⟨_, _, _⟩, ⟨_, _, _⟩⟩ := hR2
                    go_wp2_with fail
                    refine bodyPost_ret (v := .tuple #[.agg #[.int .i64 (2), .int .i64 (5), .int .i64 (q)], .int .i64 (0)]) (by simp [results, Try.results84, go_sem, *]) rfl ?_
                    have hb2 := HB2.out
                    exact ⟨_, _, _, _, rfl, by repeat' (first | (with_reducible exact Below.refl _ _) | (with_reducible assumption) | (with_reducible refine Below.alloc ?_ ?_ _) | (with_reducible refine Below.setCell ?_ ?_ _) | (with_reducible refine Below.drew ?_) | (with_reducible refine below_drewN ?_ _) | (with_reducible refine below_via (by with_reducible assumption) ?_ ?_) | go_size)⟩
                · go_wp2
                  go_roundw
                  case rel => exact ⟨6, rfl, by omega, by omega, HR, HB⟩
                  case measure => simp [intOf]
            · have hn2 : (n != 32) = true := by simp [hn]
              clear hn
              go_wp2
              go_roundw
              case rel => exact ⟨6, rfl, by omega, by omega, HR, HB⟩
              case measure => simp [intOf]
          · by_cases hn : n = 64
            · have hn2 : (n != 64) = false := by simp [hn]
              have hn3 : n ≤ 64 := by omega
              have hn4 : 64 ≤ n := by omega
              clear hn
              go_wp2
              go_loopw [7] (fun v wr => ∃ (q : Int), v = .int .i64 q ∧ n ≤ q ∧ q ≤ 2 * n ∧ Hid (Res3 wr w.heap.size) ∧ Hid (Below w.heap.size w wr)) (fun v _ => (2 * n - intOf v).toNat)
              case atStart => exact ⟨n, rfl, by omega, by omega, HR, HB⟩
              case round =>
                clear HR HB
                obtain ⟨q, rfl, q1, q2, HR, HB⟩ := hrel
                have hsz := HR.out.1
                by_cases hlt : q < 2 * n
                · generalize hg : fldB 2 6 q = hB
                  go_wp2_with fail
                  refine (sIsField 2 6 q _).mono ?_
                  rintro e w' ⟨rfl, hb⟩
                  rw [hg]
                  clear hg
                  have HB2 : Hid (Below w.heap.size w w') := by
                    unfold Hid
                    have hbel := HB.out
                    repeat' (first | (with_reducible exact Below.refl _ _) | (with_reducible assumption) | (with_reducible refine Below.alloc ?_ ?_ _) | (with_reducible refine Below.setCell ?_ ?_ _) | (with_reducible refine Below.drew ?_) | (with_reducible refine below_drewN ?_ _) | (with_reducible refine below_via (by with_reducible assumption) ?_ ?_) | go_size)
                  have HR2 : Hid (Res3 w' w.heap.size) := (HR.out.keep ((Below.refl _ _).alloc (Nat.le_refl _) _)).keep hb
                  have y0 : w'.cell? ⟨wr.heap.size, 0, none⟩ = some (.int .i64 (2)) := (hb.cell (p := ⟨_, _, none⟩) (by simp)).trans (by simp [go_sem])
                  have y1 : w'.cell? ⟨wr.heap.size, 1, none⟩ = some (.int .i64 (6)) := (hb.cell (p := ⟨_, _, none⟩) (by simp)).trans (by simp [go_sem])
                  have y2 : w'.cell? ⟨wr.heap.size, 2, none⟩ = some (.int .i64 (q)) := (hb.cell (p := ⟨_, _, none⟩) (by simp)).trans (by simp [go_sem])
                  have hR2 := HR2.out
                  clear HR HB hb
                  cases hB
                  · clear y0 y1 y2 hR2
                    go_wp2_with fail
                    go_roundw
                    case rel => exact ⟨q + 1, rfl, by omega, by omega, HR2, HB2⟩
                    case measure => simp [intOf]; omega
                  · obtain ⟨_, ⟨_, _, _⟩, ⟨_, _, _⟩⟩ := hR2
                    go_wp2_with fail
                    refine bodyPost_ret (v := .tuple #[.agg #[.int .i64 (2), .int .i64 (6), .int .i64 (q)], .int .i64 (0)]) (by simp [results, Try.results84, go_sem, *]) rfl ?_
                    have hb2 := HB2.out
                    exact ⟨_, _, _, _, rfl, by repeat' (first | (with_reducible exact Below.refl _ _) | (with_reducible assumption) | (with_reducible refine Below.alloc ?_ ?_ _) | (with_reducible refine Below.setCell ?_ ?_ _) | (with_reducible refine Below.drew ?_) | (with_reducible refine below_drewN ?_ _) | (with_reducible refine below_via (by with_reducible assumption) ?_ ?_) | go_size)⟩
                · go_wp2
                  go_roundw
                  case rel => exact ⟨7, rfl, by omega, by omega, HR, HB⟩
                  case measure => simp [intOf]
            · have hn2 : (n != 64) = true := by simp [hn]
              clear hn
              go_wp2
              go_roundw
              case rel => exact ⟨7, rfl, by omega, by omega, HR, HB⟩
              case measure => simp [intOf]
          · by_cases hn : n = 128
            · have hn2 : (n != 128) = false := by simp [hn]
              have hn3 : n ≤ 128 := by omega
              have hn4 : 128 ≤ n := by omega
              clear hn
              go_wp2
              go_loopw [7] (fun v wr => ∃ (q : Int), v = .int .i64 q ∧ n ≤ q ∧ q ≤ 2 * n ∧ Hid (Res3 wr w.heap.size) ∧ Hid (Below w.heap.size w wr)) (fun v _ => (2 * n - intOf v).toNat)
              case atStart => exact ⟨n, rfl, by omega, by omega, HR, HB⟩
              case round =>
                clear HR HB
                obtain ⟨q, rfl, q1, q2, HR, HB⟩ := hrel
                have hsz := HR.out.1
                by_cases hlt : q < 2 * n
                · generalize hg : fldB 2 7 q = hB
                  go_wp2_with fail
                  refine (sIsField 2 7 q _).mono ?_
                  rintro e w' ⟨rfl, hb⟩
                  rw [hg]
                  clear hg
                  have HB2 : Hid (Below w.heap.size w w') := by
                    unfold Hid
                    have hbel := HB.out
                    repeat' (first | (with_reducible exact Below.refl _ _) | (with_reducible assumption) | (with_reducible refine Below.alloc ?_ ?_ _) | (with_reducible refine Below.setCell ?_ ?_ _) | (with_reducible refine Below.drew ?_) | (with_reducible refine below_drewN ?_ _) | (with_reducible refine below_via (by with_reducible assumption) ?_ ?_) | go_size)
                  have HR2 : Hid (Res3 w' w.heap.size) := (HR.out.keep ((Below.refl _ _).alloc (Nat.le_refl _) _)).keep hb
                  have y0 : w'.cell? ⟨wr.heap.size, 0, none⟩ = some (.int .i64 (2)) := (hb.cell (p := ⟨_, _, none⟩) (by simp)).trans (by simp [go_sem])
                  have y1 : w'.cell? ⟨wr.heap.size, 1, none⟩ = some (.int .i64 (7)) := (hb.cell (p := ⟨_, _, none⟩) (by simp)).trans (by simp [go_sem])
                  have y2 : w'.cell? ⟨wr.heap.size, 2, none⟩ = some (.int .i64 (q)) := (hb.cell (p := ⟨_, _, none⟩) (by simp)).trans (by simp [go_sem])
                  have hR2 := HR2.out
                  clear HR HB hb
                  cases hB
                  · clear y0 y1 y2 hR2
                    go_wp2_with fail
                    go_roundw
                    case rel => exact ⟨q + 1, rfl, by omega, by omega, HR2, HB2⟩
                    case measure => simp [intOf]; omega
                  · obtain ⟨_, ⟨_, _, _⟩, ⟨_, _, _⟩⟩ := hR2
                    go_wp2_with fail
                    refine bodyPost_ret (v := .tuple #[.agg #[.int .i64 (2), .int .i64 (7), .int .i64 (q)], .int .i64 (0)]) (by simp [results, Try.results84, go_sem, *]) rfl ?_
                    have hb2 := HB2.out
                    exact ⟨_, _, _, _, rfl, by repeat' (first | (with_reducible exact Below.refl _ _) | (with_reducible assumption) | (with_reducible refine Below.alloc ?_ ?_ _) | (with_reducible refine Below.setCell ?_ ?_ _) | (with_reducible refine Below.drew ?_) | (with_reducible refine below_drewN ?_ _) | (with_reducible refine below_via (by with_reducible assumption) ?_ ?_) | go_size)⟩
                · go_wp2
                  go_roundw
                  case rel => exact ⟨8, rfl, by omega, by omega, HR, HB⟩
                  case measure => simp [intOf]
            · have hn2 : (n != 128) = true := by simp [hn]
              clear hn
              go_wp2
              go_roundw
              case rel => exact ⟨8, rfl, by omega, by omega, HR, HB⟩
              case measure => simp [intOf]
          · by_cases hn : n = 256
            · have hn2 : (n != 256) = false := by simp [hn]
              have hn3 : n ≤ 256 := by omega
              have hn4 : 256 ≤ n := by omega
              clear hn
              go_wp2
              go_loopw [7] (fun v wr => ∃ (q : Int), v = .int .i64 q ∧ n ≤ q ∧ q ≤ 2 * n ∧ Hid (Res3 wr w.heap.size) ∧ Hid (Below w.heap.size w wr)) (fun v _ => (2 * n - intOf v).toNat)
              case atStart => exact ⟨n, rfl, by omega, by omega, HR, HB⟩
              case round =>
                clear HR HB
                obtain ⟨q, rfl, q1, q2, HR, HB⟩ := hrel
                have hsz := HR.out.1
                by_cases hlt : q < 2 * n
                · generalize hg : fldB 2 8 q = hB
                  go_wp2_with fail
                  refine (sIsField 2 8 q _).mono ?_
                  rintro e w' ⟨rfl, hb⟩
                  rw [hg]
                  clear hg
                  have HB2 : Hid (Below w.heap.size w w') := by
                    unfold Hid
                    have hbel := HB.out
                    repeat' (first | (with_reducible exact Below.refl _ _) | (with_reducible assumption) | (with_reducible refine Below.alloc ?_ ?_ _) | (with_reducible refine Below.setCell ?_ ?_ _) | (with_reducible refine Below.drew ?_) | (with_reducible refine below_drewN ?_ _) | (with_reducible refine below_via (by with_reducible assumption) ?_ ?_) | go_size)
                  have HR2 : Hid (Res3 w' w.heap.size) := (HR.out.keep ((Below.refl _ _).alloc (Nat.le_refl _) _)).keep hb
                  have y0 : w'.cell? ⟨wr.heap.size, 0, none⟩ = some (.int .i64 (2)) := (hb.cell (p := ⟨_, _, none⟩) (by simp)).trans (by simp [go_sem])
                  have y1 : w'.cell? ⟨wr.heap.size, 1, none⟩ = some (.int .i64 (8)) := (hb.cell (p := ⟨_, _, none⟩) (by simp)).trans (by simp [go_sem])
                  have y2 : w'.cell? ⟨wr.heap.size, 2, none⟩ = some (.int .i64 (q)) := (hb.cell (p := ⟨_, _, none⟩) (by simp)).trans (by simp [go_sem])
                  have hR2 := HR2.out
                  clear HR HB hb
                  cases hB
                  · clear y0 y1 y2 hR2
                    go_wp2_with fail
                    go_roundw
                    case rel => exact ⟨q + 1, rfl, by omega, by omega, HR2, HB2⟩
                    case measure => simp [intOf]; omega
                  · obtain ⟨_, ⟨_, _, _⟩, ⟨_, _, _⟩⟩ := hR2
                    go_wp2_with fail
                    refine bodyPost_ret (v := .tuple #[.agg #[.int .i64 (2), .int .i64 (8), .int .i64 (q)], .int .i64 (0)]) (by simp [results, Try.results84, go_sem, *]) rfl ?_
                    have hb2 := HB2.out
                    exact ⟨_, _, _, _, rfl, by repeat' (first | (with_reducible exact Below.refl _ _) | (with_reducible assumption) | (with_reducible refine Below.alloc ?_ ?_ _) | (with_reducible refine Below.setCell ?_ ?_ _) | (with_reducible refine Below.drew ?_) | (with_reducible refine below_drewN ?_ _) | (with_reducible refine below_via (by with_reducible assumption) ?_ ?_) | go_size)⟩
                · go_wp2
                  go_roundw
                  case rel => exact ⟨9, rfl, by omega, by omega, HR, HB⟩
                  case measure => simp [intOf]
            · have hn2 : (n != 256) = true := by simp [hn]
              clear hn
              go_wp2
              go_roundw
              case rel => exact ⟨9, rfl, by omega, by omega, HR, HB⟩
              case measure => simp [intOf]
end Go.Proofs.Ytenelpollcabnaa
