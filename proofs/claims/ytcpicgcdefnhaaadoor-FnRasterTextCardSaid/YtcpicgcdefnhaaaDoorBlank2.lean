/-
  DERIVED. BlankRaster: contracts.
-/
import Derived.Test.YtcpicgcdefnhaaaDoorBlank
import Derived.Conc.MuLone
namespace Go.Proofs.YtcpicgcdefnhaaaDoor
open Go.RowKit
set_option linter.unusedVariables false
theorem entBlank : ∀ (args : Array Value) (w : World), (callFunc 45 args).run Tryd.prog w = .ok (.enter 45 args) w := enters_of Tryd.func45 (by kernel_rfl) rfl
set_option maxHeartbeats 1000000 in
theorem cBlank (b : Nat) (g i j : Int) (w : World) (hc : w.cell? ⟨b, 0, none⟩ = some (.int .i64 g)) (hb : b < w.heap.size) :
    Calls Tryd.prog 45 #[.int .i64 i, .int .i64 j, .pointer (some ⟨b, 0, none⟩)] w fun e w' => e = .returned (.int .i64 g) ∧ Below w.heap.size w w' := by
  go_enter Tryd.func45, Tryd.ntmps45
  go_wp2
  go_returns
  exact ⟨rfl, by repeat' (first | (with_reducible exact Below.refl _ _) | (with_reducible assumption) | (with_reducible refine Below.alloc ?_ ?_ _) | (with_reducible refine Below.setCell ?_ ?_ _) | (with_reducible refine Below.drew ?_) | (with_reducible refine below_drewN ?_ _) | (with_reducible refine below_via (by with_reducible assumption) ?_ ?_) | go_size)⟩
set_option maxHeartbeats 2000000 in
theorem sBlankRaster_no (r c g : Int) (w : World) (hr : blankB r c g = false) :
    Calls Tryd.prog 21 #[.int .i64 r, .int .i64 c, .int .i64 g] w (ResG w 0 0 [] 2) := by
  rcases blank_no hr with h1 | ⟨h1, h2⟩
  all_goals
    have bO := Lib.hid (Out3.new w 24)
    go_enter Tryd.func21, Tryd.ntmps21
    have o1 := bO.out
    try simp only [World.size_alloc] at o1
    obtain ⟨o2, o3, o4, o5, o6, o7, o8⟩ := o1
    go_wp2_with (first | (go_at_call 38; refine (sSize _ _ _).mono ?_; rintro e w' ⟨rfl, rfl⟩) | (go_at_call 39; refine (sGrey _ _).mono ?_; rintro e w' ⟨rfl, rfl⟩))
    refine bodyPost_ret (v := .tuple #[.agg #[.int .i64 0, .int .i64 0, .slice none 0 0], .int .i64 2]) (by simp [results, Tryd.results21, go_sem, o3, o4, o5]) rfl ?_
    exact ⟨none, 0, rfl, World.ownsRow_nil _ _ _ _, by repeat' (first | (with_reducible exact Below.refl _ _) | (with_reducible assumption) | (with_reducible refine Below.alloc ?_ ?_ _) | (with_reducible refine Below.setCell ?_ ?_ _) | (with_reducible refine Below.drew ?_) | (with_reducible refine below_drewN ?_ _) | (with_reducible refine below_via (by with_reducible assumption) ?_ ?_) | go_size), by simp⟩
set_option maxHeartbeats 2000000 in
theorem iBlankRaster_no (r c g : Int) (w : World) (hr : blankB r c g = false) :
    Calls Tryd.prog 20 #[.int .i64 r, .int .i64 c, .int .i64 g] w (ResG w 0 0 [] 2) := by
  rcases blank_no hr with h1 | ⟨h1, h2⟩
  all_goals
    have bO := Lib.hid (Out3.new (w.alloc (.cells #[.int .i64 g] 2)) 24)
    go_enter Tryd.func20, Tryd.ntmps20
    have o1 := bO.out
    try simp only [World.size_alloc] at o1
    obtain ⟨o2, o3, o4, o5, o6, o7, o8⟩ := o1
    go_wp2_with (first | (go_at_call 42; refine (iSize _ _ _).mono ?_; rintro e w' ⟨rfl, rfl⟩) | (go_at_call 43; refine (iIn _ _ _ _).mono ?_; rintro e w' ⟨rfl, rfl⟩))
    refine bodyPost_ret (v := .tuple #[.agg #[.int .i64 0, .int .i64 0, .slice none 0 0], .int .i64 2]) (by simp [results, Tryd.results20, go_sem, o3, o4, o5]) rfl ?_
    exact ⟨none, 0, rfl, World.ownsRow_nil _ _ _ _, by repeat' (first | (with_reducible exact Below.refl _ _) | (with_reducible assumption) | (with_reducible refine Below.alloc ?_ ?_ _) | (with_reducible refine Below.setCell ?_ ?_ _) | (with_reducible refine Below.drew ?_) | (with_reducible refine below_drewN ?_ _) | (with_reducible refine below_via (by with_reducible assumption) ?_ ?_) | go_size), by simp⟩
set_option maxHeartbeats 2000000 in
theorem sBlankRaster_ok (r c g : Int) (w : World) (hr : blankB r c g = true) :
    Calls Tryd.prog 21 #[.int .i64 r, .int .i64 c, .int .i64 g] w (ResG w r c (List.replicate (r * c).toNat g) 0) := by
  obtain ⟨h1, h2⟩ : sizeB r c = true ∧ inB g 0 255 = true := by simpa [blankB] using hr
  obtain ⟨a1, a2, a3, a4, a5, a6⟩ := sizeB_yes h1
  obtain ⟨n, hn⟩ := Int.eq_ofNat_of_zero_le (show 0 ≤ r * c by omega)
  have hnl : n ≤ 40000 := by omega
  have hlen : (List.replicate (r * c).toNat g).length = n := by simp [hn]
  have HL := Lib.hid hlen
  have HN := Lib.hid hn
  clear hr hlen hn a5 a6
  have bO := Lib.hid (Out3.new w 24)
  go_enter Tryd.func21, Tryd.ntmps21
  go_wp2_with (first | (go_at_call 38; refine (sSize _ _ _).mono ?_; rintro e w' ⟨rfl, rfl⟩) | (go_at_call 39; refine (sGrey _ _).mono ?_; rintro e w' ⟨rfl, rfl⟩))
  refine (sBlankL r c g n _ (by omega) HN.out.symm).mono ?_
  rintro e w1 h3
  replace h3 := h3.own (by simp) (by omega)
  obtain ⟨av, cv, rfl, ho, hb3⟩ := h3
  simp only [List.length_replicate] at ho
  have hz3 := hb3.size
  have o1 := bO.out.keep (by repeat' (first | (with_reducible exact Below.refl _ _) | (with_reducible assumption) | (with_reducible refine Below.alloc ?_ ?_ _) | (with_reducible refine Below.setCell ?_ ?_ _) | (with_reducible refine Below.drew ?_) | (with_reducible refine below_drewN ?_ _) | (with_reducible refine below_via (by with_reducible assumption) ?_ ?_) | go_size) : Below _ _ w1)
  try simp only [World.size_alloc] at o1
  obtain ⟨o2, o3, o4, o5, o6, o7, o8⟩ := o1
  go_wp2
  refine bodyPost_ret (v := .tuple #[.agg #[.int .i64 r, .int .i64 c, .slice av n cv], .int .i64 0]) (by simp [results, Tryd.results21, go_sem, o3, o4, o5]) rfl ?_
  have hT : (r * c).toNat = n := by have := HN.out; omega
  have ho1 : w1.ownsRow (w.heap.size + 1) 2 1 (.slice av n cv) n ((List.replicate n g).map (Value.int .i64)) := own_mono ho (by simp)
  rw [hT]
  exact ⟨av, cv, by simp, by rw [List.length_replicate]; exact own_mono (own_far (own_far (own_far ho1 (by simp) _) (by simp) _) (by simp) _) (by omega), by repeat' (first | (with_reducible exact Below.refl _ _) | (with_reducible assumption) | (with_reducible refine Below.alloc ?_ ?_ _) | (with_reducible refine Below.setCell ?_ ?_ _) | (with_reducible refine Below.drew ?_) | (with_reducible refine below_drewN ?_ _) | (with_reducible refine below_via (by with_reducible assumption) ?_ ?_) | go_size), by rw [List.length_replicate]; omega⟩
set_option maxHeartbeats 2000000 in
theorem iBlankRaster_ok (r c g : Int) (w : World) (hr : blankB r c g = true) :
    Calls Tryd.prog 20 #[.int .i64 r, .int .i64 c, .int .i64 g] w (ResG w r c (List.replicate (r * c).toNat g) 0) := by
  obtain ⟨h1, h2⟩ : sizeB r c = true ∧ inB g 0 255 = true := by simpa [blankB] using hr
  obtain ⟨a1, a2, a3, a4, a5, a6⟩ := sizeB_yes h1
  obtain ⟨n, hn⟩ := Int.eq_ofNat_of_zero_le (show 0 ≤ r * c by omega)
  have hnl : n ≤ 40000 := by omega
  have hlen : (List.replicate (r * c).toNat g).length = n := by simp [hn]
  have HL := Lib.hid hlen
  have HN := Lib.hid hn
  clear hr hlen hn a5 a6
  have bO := Lib.hid (Out3.new (w.alloc (.cells #[.int .i64 g] 2)) 24)
  go_enter Tryd.func20, Tryd.ntmps20
  go_wp2_with (first | (go_at_call 42; refine (iSize _ _ _).mono ?_; rintro e w' ⟨rfl, rfl⟩) | (go_at_call 43; refine (iIn _ _ _ _).mono ?_; rintro e w' ⟨rfl, rfl⟩))
  obtain ⟨rows, rfl⟩ := Int.eq_ofNat_of_zero_le (show 0 ≤ r by omega)
  obtain ⟨cols, rfl⟩ := Int.eq_ofNat_of_zero_le (show 0 ≤ c by omega)
  have hrc : n = rows * cols := by
    have : ((rows : Int) * (cols : Int)) = ((rows * cols : Nat) : Int) := by simp
    have := HN.out
    omega
  refine (iRaster 45 #[.pointer (some ⟨w.heap.size, 0, none⟩)] rows cols (fun _ _ => g) _ entBlank ?_ (by omega) (by omega) (by omega) (by omega)).mono ?_
  · intro i j W hi hj hW
    exact cBlank w.heap.size g i j W ((hW.cell (p := ⟨w.heap.size, 0, none⟩) (by simp; try omega)).trans (by simp [go_sem])) (by have := hW.size; simp at this; omega)
  rintro e w1 h3
  rw [rastL_const, ← hrc] at h3
  obtain ⟨av, cv, rfl, ho, hb3⟩ := h3
  simp only [List.length_replicate] at ho
  have hz3 := hb3.size
  have o1 := bO.out.keep (by repeat' (first | (with_reducible exact Below.refl _ _) | (with_reducible assumption) | (with_reducible refine Below.alloc ?_ ?_ _) | (with_reducible refine Below.setCell ?_ ?_ _) | (with_reducible refine Below.drew ?_) | (with_reducible refine below_drewN ?_ _) | (with_reducible refine below_via (by with_reducible assumption) ?_ ?_) | go_size) : Below _ _ w1)
  try simp only [World.size_alloc] at o1
  obtain ⟨o2, o3, o4, o5, o6, o7, o8⟩ := o1
  go_wp2
  refine bodyPost_ret (v := .tuple #[.agg #[.int .i64 (rows : Int), .int .i64 (cols : Int), .slice av n cv], .int .i64 0]) (by simp [results, Tryd.results20, go_sem, o3, o4, o5, hrc]) rfl ?_
  have hT : ((rows : Int) * (cols : Int)).toNat = n := by have := HN.out; omega
  have ho1 : w1.ownsRow (w.heap.size + 2) 2 1 (.slice av n cv) n ((List.replicate n g).map (Value.int .i64)) := own_mono ho (by simp)
  rw [hT]
  exact ⟨av, cv, by simp, by rw [List.length_replicate]; exact own_mono (own_far (own_far (own_far ho1 (by simp) _) (by simp) _) (by simp) _) (by omega), by repeat' (first | (with_reducible exact Below.refl _ _) | (with_reducible assumption) | (with_reducible refine Below.alloc ?_ ?_ _) | (with_reducible refine Below.setCell ?_ ?_ _) | (with_reducible refine Below.drew ?_) | (with_reducible refine below_drewN ?_ _) | (with_reducible refine below_via (by with_reducible assumption) ?_ ?_) | go_size), by rw [List.length_replicate]; omega⟩
end Go.Proofs.YtcpicgcdefnhaaaDoor
