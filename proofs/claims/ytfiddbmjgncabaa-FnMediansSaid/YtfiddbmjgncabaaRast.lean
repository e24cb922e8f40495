/-
  DERIVED. RASTERS: the laws' helpers (toRaster, eqRaster, markRaster, heldRaster, szRaster), IsRaster.
-/
import Derived.Test.YtfiddbmjgncabaaBas
namespace Go.Proofs.Ytfiddbmjgncabaa
open Go.RowKit
set_option linter.unusedVariables false

def rasterB (r c : Int) (n : Nat) (zs : List Int) : Bool := sizeB r c && (decide ((n : Int) = r * c) && zs.all fun x => inB x 0 255)
theorem rasterB_yes {r c : Int} {n : Nat} {zs : List Int} (h : rasterB r c n zs = true) : 1 ≤ r ∧ r ≤ 400 ∧ 1 ≤ c ∧ c ≤ 400 ∧ 1 ≤ r * c ∧ r * c ≤ 40000 ∧ (n : Int) = r * c ∧ ∀ x ∈ zs, 0 ≤ x ∧ x ≤ 255 := by
  simp only [rasterB, Bool.and_eq_true, decide_eq_true_eq, List.all_eq_true] at h
  obtain ⟨h1, h2, h3⟩ := h
  obtain ⟨a, b, c', d, e, f⟩ := sizeB_yes h1
  exact ⟨a, b, c', d, e, f, h2, fun x hx => inB_iff.1 (h3 x hx)⟩
theorem getD_mem {zs : List Int} {i : Nat} (h : i < zs.length) : zs.getD i 0 ∈ zs := by
  simp [List.getD_eq_getElem?_getD, List.getElem?_eq_getElem h]
theorem all_no {zs : List Int} {i : Nat} {p : Int → Bool} (h : i < zs.length) (hp : p (zs.getD i 0) = false) : zs.all p = false := by
  rw [List.all_eq_false]
  exact ⟨_, getD_mem h, by rw [hp]; decide⟩
theorem all_yes {zs : List Int} {p : Int → Bool} (h : ∀ i, i < zs.length → p (zs.getD i 0) = true) : zs.all p = true := by
  rw [List.all_eq_true]
  intro x hx
  obtain ⟨i, hi, rfl⟩ := List.getElem_of_mem hx
  have := h i hi
  simpa [List.getD_eq_getElem?_getD, List.getElem?_eq_getElem hi] using this
theorem rast_cases (r c : Int) (n : Nat) : sizeB r c = false ∨ (sizeB r c = true ∧ (1 ≤ r ∧ r ≤ 400 ∧ 1 ≤ c ∧ c ≤ 400 ∧ 1 ≤ r * c ∧ r * c ≤ 40000) ∧ ((n : Int) != r * c) = true) ∨
    (sizeB r c = true ∧ (1 ≤ r ∧ r ≤ 400 ∧ 1 ≤ c ∧ c ≤ 400 ∧ 1 ≤ r * c ∧ r * c ≤ 40000) ∧ ((n : Int) != r * c) = false) := by
  cases h : sizeB r c
  · exact .inl rfl
  · cases k : ((n : Int) != r * c)
    · exact .inr (.inr ⟨rfl, sizeB_yes h, rfl⟩)
    · exact .inr (.inl ⟨rfl, sizeB_yes h, rfl⟩)
set_option maxHeartbeats 400000 in
theorem sGrey (n : Int) (w : World) : Calls Try.prog 105 #[.int .i64 n] w fun e w' => e = .returned (.bool (inB n 0 255)) ∧ w = w' := by
  go_enter Try.func105, Try.ntmps105
  go_wp2_with (go_at_call 95; refine (sIn _ _ _ _).mono ?_; rintro e w' ⟨rfl, rfl⟩)
  go_ret
  exact ⟨rfl, rfl⟩
set_option maxHeartbeats 1000000 in
theorem sIsRaster (r c : Int) (a : Option Addr) (n cp : Nat) (zs : List Int) (w : World) (h : Rd w a n zs) (hn : n ≤ 1048576) :
    Calls Try.prog 60 #[.agg #[.int .i64 r, .int .i64 c, .slice a n cp]] w fun e w' => e = .returned (.bool (rasterB r c n zs)) ∧ Below w.heap.size w w' := by
  rcases rast_cases r c n with h1 | ⟨h1, ⟨_, _, _, _, _, _⟩, h2⟩ | ⟨h1, ⟨_, _, _, _, _, _⟩, h2⟩
  · clear h
    go_enter Try.func60, Try.ntmps60
    go_wp2_with (go_at_call 104; refine (sSize _ _ _).mono ?_; rintro e w' ⟨rfl, rfl⟩)
    go_returns
    exact ⟨ret_bool (by simp [rasterB, h1]), by repeat' (first | (with_reducible exact Below.refl _ _) | (with_reducible assumption) | (with_reducible refine Below.alloc ?_ ?_ _) | (with_reducible refine Below.setCell ?_ ?_ _) | (with_reducible refine Below.drew ?_) | (with_reducible refine below_drewN ?_ _) | (with_reducible refine below_via (by with_reducible assumption) ?_ ?_) | go_size)⟩
  · clear h
    go_enter Try.func60, Try.ntmps60
    go_wp2_with (go_at_call 104; refine (sSize _ _ _).mono ?_; rintro e w' ⟨rfl, rfl⟩)
    go_returns
    exact ⟨ret_bool (by simp at h2; simp [rasterB, h2]), by repeat' (first | (with_reducible exact Below.refl _ _) | (with_reducible assumption) | (with_reducible refine Below.alloc ?_ ?_ _) | (with_reducible refine Below.setCell ?_ ?_ _) | (with_reducible refine Below.drew ?_) | (with_reducible refine below_drewN ?_ _) | (with_reducible refine below_via (by with_reducible assumption) ?_ ?_) | go_size)⟩
  · have hnr : (n : Int) = r * c := by simpa using h2
    have hpos : 0 < n := by omega
    obtain ⟨b, off, rfl, hb, hc⟩ := h.2 hpos
    have HL := Lib.hid h.1
    have HC := Lib.hid hc
    have HR := Lib.hid hnr
    have hb1 : b < w.heap.size + 1 := by omega
    clear h hc hnr
    go_enter Try.func60, Try.ntmps60
    go_wp2_with (go_at_call 104; refine (sSize _ _ _).mono ?_; rintro e w' ⟨rfl, rfl⟩)
    go_loop [3] (fun i => ∃ k : Nat, k ≤ n ∧ i = .int .i64 k ∧ Hid (∀ j, j < k → inB (zs.getD j 0) 0 255 = true)) (fun i => n - (intOf i).toNat)
    case atStart => exact ⟨0, Nat.zero_le _, rfl, fun j hj => absurd hj (by omega)⟩
    case round =>
      obtain ⟨k, hk, rfl, hall⟩ := hrel
      by_cases hlt : k < n
      · have hx : w.cell? ⟨b, off + k, none⟩ = some (.int .i64 (zs.getD k 0)) := HC.out k hlt
        generalize hxv : zs.getD k 0 = x at hx
        have HX := Lib.hid hxv
        clear hxv
        cases hg : inB x 0 255
        · have HE : Hid (zs.all (fun x => inB x 0 255) = false) := all_no (i := k) (by rw [HL.out]; exact hlt) (by rw [HX.out]; exact hg)
          go_wp2_with (go_at_call 105; refine (sGrey _ _).mono ?_; rintro e w' ⟨rfl, rfl⟩)
          go_returns
          exact ⟨ret_bool (by simp [rasterB, HE.out]), by repeat' (first | (with_reducible exact Below.refl _ _) | (with_reducible assumption) | (with_reducible refine Below.alloc ?_ ?_ _) | (with_reducible refine Below.setCell ?_ ?_ _) | (with_reducible refine Below.drew ?_) | (with_reducible refine below_drewN ?_ _) | (with_reducible refine below_via (by with_reducible assumption) ?_ ?_) | go_size)⟩
        · have HA : Hid (∀ j, j < k + 1 → inB (zs.getD j 0) 0 255 = true) := fun j hj => by
            rcases Nat.lt_or_ge j k with h3 | h3
            · exact hall j h3
            · obtain rfl : j = k := by omega
              rw [HX.out]; exact hg
          go_wp2_with (go_at_call 105; refine (sGrey _ _).mono ?_; rintro e w' ⟨rfl, rfl⟩)
          go_round
          case rel => exact ⟨k + 1, by omega, by go_num, HA⟩
          case measure => simp [intOf]; omega
      · have HE : Hid (zs.all (fun x => inB x 0 255) = true) := all_yes fun i hi => hall i (by have := HL.out; omega)
        go_wp2
        go_returns
        exact ⟨ret_bool (by simp [rasterB, h1, HE.out, HR.out]), by repeat' (first | (with_reducible exact Below.refl _ _) | (with_reducible assumption) | (with_reducible refine Below.alloc ?_ ?_ _) | (with_reducible refine Below.setCell ?_ ?_ _) | (with_reducible refine Below.drew ?_) | (with_reducible refine below_drewN ?_ _) | (with_reducible refine below_via (by with_reducible assumption) ?_ ?_) | go_size)⟩
set_option maxHeartbeats 1000000 in
theorem iIsRaster (r c : Int) (a : Option Addr) (n cp : Nat) (zs : List Int) (w : World) (h : Rd w a n zs) (hn : n ≤ 1048576) :
    Calls Try.prog 64 #[.agg #[.int .i64 r, .int .i64 c, .slice a n cp]] w fun e w' => e = .returned (.bool (rasterB r c n zs)) ∧ Below w.heap.size w w' := by
  rcases rast_cases r c n with h1 | ⟨h1, ⟨_, _, _, _, _, _⟩, h2⟩ | ⟨h1, ⟨_, _, _, _, _, _⟩, h2⟩
  · clear h
    go_enter Try.func64, Try.ntmps64
    go_wp2_with (go_at_call 106; refine (iSize _ _ _).mono ?_; rintro e w' ⟨rfl, rfl⟩)
    go_returns
    exact ⟨ret_bool (by simp [rasterB, h1]), by repeat' (first | (with_reducible exact Below.refl _ _) | (with_reducible assumption) | (with_reducible refine Below.alloc ?_ ?_ _) | (with_reducible refine Below.setCell ?_ ?_ _) | (with_reducible refine Below.drew ?_) | (with_reducible refine below_drewN ?_ _) | (with_reducible refine below_via (by with_reducible assumption) ?_ ?_) | go_size)⟩
  · clear h
    go_enter Try.func64, Try.ntmps64
    go_wp2_with (go_at_call 106; refine (iSize _ _ _).mono ?_; rintro e w' ⟨rfl, rfl⟩)
    go_returns
    exact ⟨ret_bool (by simp at h2; simp [rasterB, h2]), by repeat' (first | (with_reducible exact Below.refl _ _) | (with_reducible assumption) | (with_reducible refine Below.alloc ?_ ?_ _) | (with_reducible refine Below.setCell ?_ ?_ _) | (with_reducible refine Below.drew ?_) | (with_reducible refine below_drewN ?_ _) | (with_reducible refine below_via (by with_reducible assumption) ?_ ?_) | go_size)⟩
  · have hnr : (n : Int) = r * c := by simpa using h2
    have hpos : 0 < n := by omega
    obtain ⟨b, off, rfl, hb, hc⟩ := h.2 hpos
    have HL := Lib.hid h.1
    have HC := Lib.hid hc
    have HR := Lib.hid hnr
    have hb1 : b < w.heap.size + 1 := by omega
    clear h hc hnr
    go_enter Try.func64, Try.ntmps64
    go_wp2_with (go_at_call 106; refine (iSize _ _ _).mono ?_; rintro e w' ⟨rfl, rfl⟩)
    go_loop [25] (fun i => ∃ k : Nat, k ≤ n ∧ i = .int .i64 k ∧ Hid (∀ j, j < k → inB (zs.getD j 0) 0 255 = true)) (fun i => n - (intOf i).toNat)
    case atStart => exact ⟨0, Nat.zero_le _, rfl, fun j hj => absurd hj (by omega)⟩
    case round =>
      obtain ⟨k, hk, rfl, hall⟩ := hrel
      by_cases hlt : k < n
      · have hx : w.cell? ⟨b, off + k, none⟩ = some (.int .i64 (zs.getD k 0)) := HC.out k hlt
        generalize hxv : zs.getD k 0 = x at hx
        have HX := Lib.hid hxv
        clear hxv
        cases hg : inB x 0 255
        · have HE : Hid (zs.all (fun x => inB x 0 255) = false) := all_no (i := k) (by rw [HL.out]; exact hlt) (by rw [HX.out]; exact hg)
          go_wp2_with (go_at_call 80; refine (iIn _ _ _ _).mono ?_; rintro e w' ⟨rfl, rfl⟩)
          go_returns
          exact ⟨ret_bool (by simp [rasterB, HE.out]), by repeat' (first | (with_reducible exact Below.refl _ _) | (with_reducible assumption) | (with_reducible refine Below.alloc ?_ ?_ _) | (with_reducible refine Below.setCell ?_ ?_ _) | (with_reducible refine Below.drew ?_) | (with_reducible refine below_drewN ?_ _) | (with_reducible refine below_via (by with_reducible assumption) ?_ ?_) | go_size)⟩
        · have HA : Hid (∀ j, j < k + 1 → inB (zs.getD j 0) 0 255 = true) := fun j hj => by
            rcases Nat.lt_or_ge j k with h3 | h3
            · exact hall j h3
            · obtain rfl : j = k := by omega
              rw [HX.out]; exact hg
          go_wp2_with (go_at_call 80; refine (iIn _ _ _ _).mono ?_; rintro e w' ⟨rfl, rfl⟩)
          go_round
          case rel => exact ⟨k + 1, by omega, by go_num, HA⟩
          case measure => simp [intOf]; omega
      · have HE : Hid (zs.all (fun x => inB x 0 255) = true) := all_yes fun i hi => hall i (by have := HL.out; omega)
        go_wp2
        go_returns
        exact ⟨ret_bool (by simp [rasterB, h1, HE.out, HR.out]), by repeat' (first | (with_reducible exact Below.refl _ _) | (with_reducible assumption) | (with_reducible refine Below.alloc ?_ ?_ _) | (with_reducible refine Below.setCell ?_ ?_ _) | (with_reducible refine Below.drew ?_) | (with_reducible refine below_drewN ?_ _) | (with_reducible refine below_via (by with_reducible assumption) ?_ ?_) | go_size)⟩
set_option maxHeartbeats 400000 in
theorem szRast (r c : Int) (a : Option Addr) (n cp : Nat) (w : World) (h3 : n ≤ maxLen) :
    Calls Try.prog 12 #[.agg #[.int .i64 r, .int .i64 c, .slice a n cp], .int .i64 1048576] w fun e w' => e = .returned (.int .i64 (szV 1048576 n)) ∧ Below w.heap.size w w' := by
  rcases Int.lt_or_le (1048576 : Int) n with h | h
  · have H := szV_no h
    go_enter Try.func12, Try.ntmps12
    go_wp2_with (go_at_call 59; refine (szInts _ _ _ _ _ (by omega) (by omega) h3).mono ?_; rintro e w' ⟨rfl, rfl⟩)
    go_returns
    exact ⟨by simp [H], by repeat' (first | (with_reducible exact Below.refl _ _) | (with_reducible assumption) | (with_reducible refine Below.alloc ?_ ?_ _) | (with_reducible refine Below.setCell ?_ ?_ _) | (with_reducible refine Below.drew ?_) | (with_reducible refine below_drewN ?_ _) | (with_reducible refine below_via (by with_reducible assumption) ?_ ?_) | go_size)⟩
  · have H := szV_yes h
    have hu : n ≤ 1048576 := by omega
    go_enter Try.func12, Try.ntmps12
    go_wp2_with (go_at_call 59; refine (szInts _ _ _ _ _ (by omega) (by omega) h3).mono ?_; rintro e w' ⟨rfl, rfl⟩)
    go_returns
    exact ⟨by simp [H], by repeat' (first | (with_reducible exact Below.refl _ _) | (with_reducible assumption) | (with_reducible refine Below.alloc ?_ ?_ _) | (with_reducible refine Below.setCell ?_ ?_ _) | (with_reducible refine Below.drew ?_) | (with_reducible refine below_drewN ?_ _) | (with_reducible refine below_via (by with_reducible assumption) ?_ ?_) | go_size)⟩
def NewRast (w : World) (r c : Int) (n : Nat) (zs : List Int) (e : Ending) (w' : World) : Prop :=
  ∃ g, e = .returned (.agg #[.int .i64 r, .int .i64 c, .slice (some ⟨g, 0, none⟩) n n]) ∧ w.heap.size ≤ g ∧ Blk w' g 2 (vals zs) ∧ Below w.heap.size w w'
set_option maxHeartbeats 1000000 in
theorem toRast (r c : Int) (a : Option Addr) (n cp : Nat) (zs : List Int) (w : World) (h : Rd w a n zs) (hn : n ≤ 1048576) :
    Calls Try.prog 14 #[.agg #[.int .i64 r, .int .i64 c, .slice a n cp]] w (NewRast w r c n zs) := by
  have HH := Lib.hid h
  clear h
  go_enter Try.func14, Try.ntmps14
  go_wp2_with fail
  refine (toInts a n cp zs _ (HH.out.below (by repeat' (first | (with_reducible exact Below.refl _ _) | (with_reducible assumption) | (with_reducible refine Below.alloc ?_ ?_ _) | (with_reducible refine Below.setCell ?_ ?_ _) | (with_reducible refine Below.drew ?_) | (with_reducible refine below_drewN ?_ _) | (with_reducible refine below_via (by with_reducible assumption) ?_ ?_) | go_size))) hn).mono ?_
  rintro e w1 ⟨g, rfl, hg, hblk, hb⟩
  obtain ⟨hc, hf⟩ := bcell hb
  have hz := hb.size
  simp at hz hg
  have hz0 : w.heap.size < w1.heap.size := by omega
  have hz1 : w.heap.size + 1 < w1.heap.size := by omega
  have hz2 : w.heap.size + 1 + 1 < w1.heap.size := by omega
  have c10 : w1.cell? ⟨w.heap.size + 1, 0, none⟩ = some (.int .i64 0) := by rw [hc (w.heap.size + 1) 0 (by simp; try omega)]; simp [go_sem]
  have c11 : w1.cell? ⟨w.heap.size + 1, 1, none⟩ = some (.int .i64 0) := by rw [hc (w.heap.size + 1) 1 (by simp; try omega)]; simp [go_sem]
  have c12 : w1.cell? ⟨w.heap.size + 1, 2, none⟩ = some (.slice none 0 0) := by rw [hc (w.heap.size + 1) 2 (by simp; try omega)]; simp [go_sem]
  go_wp2
  refine bodyPost_ret (v := .agg #[.int .i64 r, .int .i64 c, .slice (some ⟨g, 0, none⟩) n n]) (by simp [results, Try.results14, go_sem, c10, c11, c12]) rfl ?_
  refine ⟨g, rfl, by omega, ?_, by repeat' (first | (with_reducible exact Below.refl _ _) | (with_reducible assumption) | (with_reducible refine Below.alloc ?_ ?_ _) | (with_reducible refine Below.setCell ?_ ?_ _) | (with_reducible refine Below.drew ?_) | (with_reducible refine below_drewN ?_ _) | (with_reducible refine below_via (by with_reducible assumption) ?_ ?_) | go_size)⟩
  exact (((hblk.far (by simp; omega) _).far (by simp; omega) _).far (by simp; omega) _).far (by simp; omega) _
def eqR (r c : Int) (xs : List Int) (r' c' : Int) (ys : List Int) : Bool := decide (r = r') && (decide (c = c') && eqL xs ys)
theorem eqR_same (r c : Int) (xs : List Int) : eqR r c xs r c xs = true := by simp [eqR, eqL]
set_option maxHeartbeats 1000000 in
theorem eqRast (r c r' c' : Int) (a a' : Option Addr) (n n' cp cp' : Nat) (xs ys : List Int) (w : World) (h : Rd w a n xs) (h' : Rd w a' n' ys) (hn : n ≤ 1048576) (hn' : n' ≤ 1048576) :
    Calls Try.prog 18 #[.agg #[.int .i64 r, .int .i64 c, .slice a n cp], .agg #[.int .i64 r', .int .i64 c', .slice a' n' cp']] w fun e w' => e = .returned (.bool (eqR r c xs r' c' ys)) ∧ Below w.heap.size w w' := by
  have HH := Lib.hid h
  have HH' := Lib.hid h'
  clear h h'
  by_cases hr : r = r'
  · subst hr
    by_cases hc : c = c'
    · subst hc
      cases he : eqL xs ys
      all_goals
        go_enter Try.func18, Try.ntmps18
        go_wp2_with fail
        refine (eqInts a a' n n' cp cp' xs ys _ (HH.out.below (by repeat' (first | (with_reducible exact Below.refl _ _) | (with_reducible assumption) | (with_reducible refine Below.alloc ?_ ?_ _) | (with_reducible refine Below.setCell ?_ ?_ _) | (with_reducible refine Below.drew ?_) | (with_reducible refine below_drewN ?_ _) | (with_reducible refine below_via (by with_reducible assumption) ?_ ?_) | go_size))) (HH'.out.below (by repeat' (first | (with_reducible exact Below.refl _ _) | (with_reducible assumption) | (with_reducible refine Below.alloc ?_ ?_ _) | (with_reducible refine Below.setCell ?_ ?_ _) | (with_reducible refine Below.drew ?_) | (with_reducible refine below_drewN ?_ _) | (with_reducible refine below_via (by with_reducible assumption) ?_ ?_) | go_size))) hn hn').mono ?_
        rintro e w1 ⟨rfl, hb⟩
        have hz := hb.size
        simp at hz
        go_wp2
        go_returns
        exact ⟨ret_bool (by simp [eqR, he]), by repeat' (first | (with_reducible exact Below.refl _ _) | (with_reducible assumption) | (with_reducible refine Below.alloc ?_ ?_ _) | (with_reducible refine Below.setCell ?_ ?_ _) | (with_reducible refine Below.drew ?_) | (with_reducible refine below_drewN ?_ _) | (with_reducible refine below_via (by with_reducible assumption) ?_ ?_) | go_size)⟩
    · have h2 : (c != c') = true := by simpa using hc
      go_enter Try.func18, Try.ntmps18
      go_wp2
      go_returns
      exact ⟨ret_bool (by simp [eqR, hc]), by repeat' (first | (with_reducible exact Below.refl _ _) | (with_reducible assumption) | (with_reducible refine Below.alloc ?_ ?_ _) | (with_reducible refine Below.setCell ?_ ?_ _) | (with_reducible refine Below.drew ?_) | (with_reducible refine below_drewN ?_ _) | (with_reducible refine below_via (by with_reducible assumption) ?_ ?_) | go_size)⟩
  · have h2 : (r != r') = true := by simpa using hr
    go_enter Try.func18, Try.ntmps18
    go_wp2
    go_returns
    exact ⟨ret_bool (by simp [eqR, hr]), by repeat' (first | (with_reducible exact Below.refl _ _) | (with_reducible assumption) | (with_reducible refine Below.alloc ?_ ?_ _) | (with_reducible refine Below.setCell ?_ ?_ _) | (with_reducible refine Below.drew ?_) | (with_reducible refine below_drewN ?_ _) | (with_reducible refine below_via (by with_reducible assumption) ?_ ?_) | go_size)⟩
set_option maxHeartbeats 1000000 in
theorem markRast (r c : Int) (a : Option Addr) (n cp base : Nat) (xs : List Int) (w : World) (h : w.ownsRow base 2 1 (.slice a n cp) n (xs.map (Value.int .i64))) (hn : n ≤ 1048576) :
    Calls Try.prog 19 #[.agg #[.int .i64 r, .int .i64 c, .slice a n cp], .int .i64 1] w fun e w' =>
      e = .returned (.int .i64 (1 + n)) ∧ w'.ownsRow base 2 1 (.slice a n cp) n ((markL 1 n).map (Value.int .i64)) ∧ w.grownBy w' (Value.slice a n cp).ownBlock := by
  have HH := Lib.hid h
  clear h
  go_enter Try.func19, Try.ntmps19
  go_wp2_with fail
  refine (markInts a n cp base xs 1 _ (HH.out.alloc _) hn (by omega) (by omega)).mono ?_
  rintro e w1 ⟨rfl, ho, hg⟩
  go_wp2
  go_returns
  exact ⟨rfl, ho, (only_of_below ((Below.refl _ _).alloc (Nat.le_refl _) _) _).trans hg⟩
set_option maxHeartbeats 1000000 in
theorem heldRast (r c : Int) (a : Option Addr) (n cp : Nat) (w : World) (h : Rd w a n (markL 1 n)) (hn : n ≤ 1048576) :
    Calls Try.prog 26 #[.agg #[.int .i64 r, .int .i64 c, .slice a n cp], .int .i64 1] w fun e w' => e = .returned (.int .i64 (1 + n)) ∧ Below w.heap.size w w' := by
  have HH := Lib.hid h
  clear h
  go_enter Try.func26, Try.ntmps26
  go_wp2_with fail
  refine (heldInts a n cp 1 _ (HH.out.below (by repeat' (first | (with_reducible exact Below.refl _ _) | (with_reducible assumption) | (with_reducible refine Below.alloc ?_ ?_ _) | (with_reducible refine Below.setCell ?_ ?_ _) | (with_reducible refine Below.drew ?_) | (with_reducible refine below_drewN ?_ _) | (with_reducible refine below_via (by with_reducible assumption) ?_ ?_) | go_size))) hn (by omega) (by omega)).mono ?_
  rintro e w1 ⟨rfl, hb⟩
  have hz := hb.size
  simp at hz
  go_wp2
  go_returns
  exact ⟨rfl, by repeat' (first | (with_reducible exact Below.refl _ _) | (with_reducible assumption) | (with_reducible refine Below.alloc ?_ ?_ _) | (with_reducible refine Below.setCell ?_ ?_ _) | (with_reducible refine Below.drew ?_) | (with_reducible refine below_drewN ?_ _) | (with_reducible refine below_via (by with_reducible assumption) ?_ ?_) | go_size)⟩
theorem eqRastS (r c : Int) (a a' : Option Addr) (n n' cp cp' : Nat) (xs : List Int) (w : World) (h : Rd w a n xs) (h' : Rd w a' n' xs) (hn : n ≤ 1048576) (hn' : n' ≤ 1048576) :
    Calls Try.prog 18 #[.agg #[.int .i64 r, .int .i64 c, .slice a n cp], .agg #[.int .i64 r, .int .i64 c, .slice a' n' cp']] w fun e w' => e = .returned (.bool true) ∧ Below w.heap.size w w' :=
  (eqRast r c r c a a' n n' cp cp' xs xs w h h' hn hn').mono fun _ _ ⟨h1, h2⟩ => ⟨by rw [h1, eqR_same], h2⟩
/-- A struct of three cells in a block of its own. -/
def Box3 (w : World) (b : Nat) (x y z : Value) : Prop := b < w.heap.size ∧ w.cell? ⟨b, 0, none⟩ = some x ∧ w.cell? ⟨b, 1, none⟩ = some y ∧ w.cell? ⟨b, 2, none⟩ = some z
theorem Box3.keep {w w' : World} {b : Nat} {x y z : Value} (h : Box3 w b x y z) (hb : Below w.heap.size w w') : Box3 w' b x y z :=
  ⟨Nat.lt_of_lt_of_le h.1 hb.size, (hb.cell (p := ⟨b, 0, none⟩) h.1).trans h.2.1, (hb.cell (p := ⟨b, 1, none⟩) h.1).trans h.2.2.1, (hb.cell (p := ⟨b, 2, none⟩) h.1).trans h.2.2.2⟩
theorem Box3.new (w : World) (t : TypeId) (x y z : Value) : Box3 (w.alloc (.cells #[x, y, z] t)) w.heap.size x y z := ⟨by simp, by simp, by simp, by simp⟩
theorem Ints.max {k : IntKind} {w : World} {a : Option Addr} {n c : Nat} {zs : List Int} (h : Ints k w a n c zs) : n ≤ maxLen := Nat.le_trans h.2.1 h.2.2.1
end Go.Proofs.Ytfiddbmjgncabaa
