/-
  DERIVED. The least and the greatest grey value: slices.Min, slices.Max, l22Ends, rangeLimit, RangeLimit, ContrastOf.
-/
import Derived.Test.YtfiddbmjgncabaaRast
import Derived.IntWalk
namespace Go.Proofs.Ytfiddbmjgncabaa
open Go.RowKit
set_option linter.unusedVariables false

/-- The least (greatest) of the first k numbers. -/
def loV (zs : List Int) : Nat → Int
  | 0 => 0
  | 1 => zs.getD 0 0
  | k + 2 => min (loV zs (k + 1)) (zs.getD (k + 1) 0)
def hiV (zs : List Int) : Nat → Int
  | 0 => 0
  | 1 => zs.getD 0 0
  | k + 2 => max (hiV zs (k + 1)) (zs.getD (k + 1) 0)
theorem loV_one (zs : List Int) : loV zs 1 = zs.getD 0 0 := rfl
theorem hiV_one (zs : List Int) : hiV zs 1 = zs.getD 0 0 := rfl
theorem loV_succ (zs : List Int) (j : Nat) (h : 1 ≤ j) : loV zs (j + 1) = min (loV zs j) (zs.getD j 0) := by
  obtain ⟨k, rfl⟩ : ∃ k, j = k + 1 := ⟨j - 1, by omega⟩
  rfl
theorem hiV_succ (zs : List Int) (j : Nat) (h : 1 ≤ j) : hiV zs (j + 1) = max (hiV zs j) (zs.getD j 0) := by
  obtain ⟨k, rfl⟩ : ∃ k, j = k + 1 := ⟨j - 1, by omega⟩
  rfl
theorem ends_in {zs : List Int} {A B : Int} (h : ∀ x ∈ zs, A ≤ x ∧ x ≤ B) : ∀ k, 1 ≤ k → k ≤ zs.length → (A ≤ loV zs k ∧ loV zs k ≤ B) ∧ (A ≤ hiV zs k ∧ hiV zs k ≤ B) := by
  intro k h1
  induction k with
  | zero => omega
  | succ k ih =>
    intro h2
    have hx := h _ (getD_mem (zs := zs) (i := k) (by omega))
    rcases Nat.eq_zero_or_pos k with h0 | h0
    · subst h0
      exact ⟨hx, hx⟩
    · have := ih h0 (by omega)
      rw [loV_succ _ _ h0, hiV_succ _ _ h0]
      omega
set_option maxHeartbeats 1000000 in
theorem iMin (a : Option Addr) (n c : Nat) (zs : List Int) (w : World) (h : Rd w a n zs) (h0 : 0 < n) (hn : n ≤ 1048576) :
    Calls Try.prog 92 #[.slice a n c] w fun e w' => e = .returned (.int .i64 (loV zs n)) ∧ w' = w := by
  obtain ⟨b, off, rfl, hb, hc⟩ := h.2 h0
  have HL := Lib.hid h.1
  have HC := Lib.hid hc
  have c0 : w.cell? ⟨b, off, none⟩ = some (.int .i64 (loV zs 1)) := by have := hc 0 h0; simp only [Nat.add_zero] at this; exact this
  generalize hm : loV zs 1 = m at c0
  have HM := Lib.hid hm
  clear h hc hm
  go_enter Try.func92, Try.ntmps92
  go_wp2
  go_loop [3, 4] (fun m i => ∃ j : Nat, 1 ≤ j ∧ j ≤ n ∧ i = .int .i64 j ∧ m = .int .i64 (loV zs j)) (fun _ i => n - (intOf i).toNat)
  case atStart => exact ⟨1, by omega, h0, rfl, by rw [HM.out]⟩
  case round =>
    obtain ⟨j, hj1, hj, rfl, rfl⟩ := hrel
    by_cases hlt : j < n
    · have hx : w.cell? ⟨b, off + j, none⟩ = some (.int .i64 (zs.getD j 0)) := HC.out j hlt
      have hs := loV_succ zs j hj1
      generalize hxv : zs.getD j 0 = x at hx hs
      generalize hyv : loV zs j = y at hs
      have HS := Lib.hid hs
      clear hs hxv hyv
      go_wp2
      all_goals
        go_round
        case rel => exact ⟨j + 1, by omega, by omega, by go_num, by rw [HS.out]; go_num⟩
        case measure => simp [intOf]; omega
    · have hje : j = n := by omega
      have HJ := Lib.hid hje
      clear hje
      go_wp2
      go_ret
      exact ⟨ret_int (by rw [HJ.out]), rfl⟩
set_option maxHeartbeats 1000000 in
theorem iMax (a : Option Addr) (n c : Nat) (zs : List Int) (w : World) (h : Rd w a n zs) (h0 : 0 < n) (hn : n ≤ 1048576) :
    Calls Try.prog 91 #[.slice a n c] w fun e w' => e = .returned (.int .i64 (hiV zs n)) ∧ w' = w := by
  obtain ⟨b, off, rfl, hb, hc⟩ := h.2 h0
  have HL := Lib.hid h.1
  have HC := Lib.hid hc
  have c0 : w.cell? ⟨b, off, none⟩ = some (.int .i64 (hiV zs 1)) := by have := hc 0 h0; simp only [Nat.add_zero] at this; exact this
  generalize hm : hiV zs 1 = m at c0
  have HM := Lib.hid hm
  clear h hc hm
  go_enter Try.func91, Try.ntmps91
  go_wp2
  go_loop [3, 4] (fun m i => ∃ j : Nat, 1 ≤ j ∧ j ≤ n ∧ i = .int .i64 j ∧ m = .int .i64 (hiV zs j)) (fun _ i => n - (intOf i).toNat)
  case atStart => exact ⟨1, by omega, h0, rfl, by rw [HM.out]⟩
  case round =>
    obtain ⟨j, hj1, hj, rfl, rfl⟩ := hrel
    by_cases hlt : j < n
    · have hx : w.cell? ⟨b, off + j, none⟩ = some (.int .i64 (zs.getD j 0)) := HC.out j hlt
      have hs := hiV_succ zs j hj1
      generalize hxv : zs.getD j 0 = x at hx hs
      generalize hyv : hiV zs j = y at hs
      have HS := Lib.hid hs
      clear hs hxv hyv
      go_wp2
      all_goals
        go_round
        case rel => exact ⟨j + 1, by omega, by omega, by go_num, by rw [HS.out]; go_num⟩
        case measure => simp [intOf]; omega
    · have hje : j = n := by omega
      have HJ := Lib.hid hje
      clear hje
      go_wp2
      go_ret
      exact ⟨ret_int (by rw [HJ.out]), rfl⟩
theorem iMinV (a : Option Addr) (n c : Nat) (zs : List Int) (m : Int) (w : World) (h : Rd w a n zs) (h0 : 0 < n) (hn : n ≤ 1048576) (hv : loV zs n = m) :
    Calls Try.prog 92 #[.slice a n c] w fun e w' => e = .returned (.int .i64 m) ∧ w' = w := by subst hv; exact iMin a n c zs w h h0 hn
theorem iMaxV (a : Option Addr) (n c : Nat) (zs : List Int) (m : Int) (w : World) (h : Rd w a n zs) (h0 : 0 < n) (hn : n ≤ 1048576) (hv : hiV zs n = m) :
    Calls Try.prog 91 #[.slice a n c] w fun e w' => e = .returned (.int .i64 m) ∧ w' = w := by subst hv; exact iMax a n c zs w h h0 hn
theorem quiet_w {P : Program} {f : FuncId} {args : Array Value} {w : World} {n : Nat} {v : Value}
    (h : Calls P f args (w.drewN n) fun e w' => e = .returned v ∧ w' = w.drewN n) : Calls P f args (w.drewN n) fun e w'' => e = .returned v ∧ ∃ m, w'' = w.drewN m :=
  h.mono fun _ _ ⟨he, hm⟩ => ⟨he, n, hm⟩
/-- What the walks need of the ends of a valid raster. -/
theorem ends_bounds {r c : Int} {n : Nat} {zs : List Int} (hl : zs.length = n) (h : rasterB r c n zs = true) : 0 < n ∧ n ≤ 40000 ∧ (0 ≤ loV zs n ∧ loV zs n ≤ 255) ∧ (0 ≤ hiV zs n ∧ hiV zs n ≤ 255) := by
  obtain ⟨_, _, _, _, h5, h6, h7, h8⟩ := rasterB_yes h
  have hp : 0 < n := by omega
  have := ends_in h8 n hp (by omega)
  exact ⟨hp, by omega, this.1, this.2⟩
def limO (r c : Int) (n : Nat) (zs : List Int) : Int := selI (rasterB r c n zs) ((loV zs n + hiV zs n + 1) / 2) 0
def conO (r c : Int) (n : Nat) (zs : List Int) : Int := selI (rasterB r c n zs) (hiV zs n - loV zs n) 0
def okE (r c : Int) (n : Nat) (zs : List Int) : Int := selI (rasterB r c n zs) 0 1
set_option maxHeartbeats 2000000 in
theorem iContrastOf (r c : Int) (a : Option Addr) (n cp : Nat) (zs : List Int) (w : World) (h : Rd w a n zs) (hn : n ≤ 1048576) :
    Calls Try.prog 44 #[.agg #[.int .i64 r, .int .i64 c, .slice a n cp]] w fun e w' => e = .returned (.tuple #[.int .i64 (conO r c n zs), .int .i64 (okE r c n zs)]) ∧ Below w.heap.size w w' := by
  cases hr : rasterB r c n zs
  · have HH := Lib.hid h
    clear h
    go_enter Try.func44, Try.ntmps44
    go_wp2_with (go_at_call 64; refine (iIsRaster r c a n cp zs _ (HH.out.below (by repeat' (first | (with_reducible exact Below.refl _ _) | (with_reducible assumption) | (with_reducible refine Below.alloc ?_ ?_ _) | (with_reducible refine Below.setCell ?_ ?_ _) | (with_reducible refine Below.drew ?_) | (with_reducible refine below_drewN ?_ _) | (with_reducible refine below_via (by with_reducible assumption) ?_ ?_) | go_size))) hn).mono ?_; rintro e w1 ⟨rfl, hb⟩; have hz := hb.size; (try simp at hz))
    go_returns
    exact ⟨ret_ints2 (by simp [conO, hr, selI]) (by simp [okE, hr, selI]), by repeat' (first | (with_reducible exact Below.refl _ _) | (with_reducible assumption) | (with_reducible refine Below.alloc ?_ ?_ _) | (with_reducible refine Below.setCell ?_ ?_ _) | (with_reducible refine Below.drew ?_) | (with_reducible refine below_drewN ?_ _) | (with_reducible refine below_via (by with_reducible assumption) ?_ ?_) | go_size)⟩
  · obtain ⟨h0, _, ⟨b1, b2⟩, ⟨b3, b4⟩⟩ := ends_bounds h.1 hr
    have HH := Lib.hid h
    have HV : Hid (conO r c n zs = hiV zs n - loV zs n ∧ okE r c n zs = 0) := by constructor <;> simp [conO, okE, hr, selI]
    rw [HV.out.1, HV.out.2]
    clear h HV
    generalize hlo : loV zs n = lo at b1 b2 ⊢
    generalize hhi : hiV zs n = hi at b3 b4 ⊢
    have HLO := Lib.hid hlo
    have HHI := Lib.hid hhi
    clear hlo hhi
    have e1 : IntKind.i64.wrap (hi - lo) = hi - lo := IntWalk.i64_in _ (by omega)
    go_enter Try.func44, Try.ntmps44
    go_wp2_with fail
    refine (iIsRaster r c a n cp zs _ (HH.out.below (by repeat' (first | (with_reducible exact Below.refl _ _) | (with_reducible assumption) | (with_reducible refine Below.alloc ?_ ?_ _) | (with_reducible refine Below.setCell ?_ ?_ _) | (with_reducible refine Below.drew ?_) | (with_reducible refine below_drewN ?_ _) | (with_reducible refine below_via (by with_reducible assumption) ?_ ?_) | go_size))) hn).mono ?_
    rintro e w1 ⟨rfl, hb⟩
    obtain ⟨hc, hf⟩ := bcell hb
    have hz := hb.size
    simp at hz
    have hz0 : w.heap.size < w1.heap.size := by omega
    rw [hr]
    go_wp2_with fail
    go_quiet ((first | (go_at_call 92; exact Calls.quiet_of_same (iMinV a n cp zs lo _ (HH.out.below (by repeat' (first | (with_reducible exact Below.refl _ _) | (with_reducible assumption) | (with_reducible refine Below.alloc ?_ ?_ _) | (with_reducible refine Below.setCell ?_ ?_ _) | (with_reducible refine Below.drew ?_) | (with_reducible refine below_drewN ?_ _) | (with_reducible refine below_via (by with_reducible assumption) ?_ ?_) | go_size))) h0 hn HLO.out)) | (go_at_call 91; exact Calls.quiet_of_same (iMaxV a n cp zs hi _ (HH.out.below (by repeat' (first | (with_reducible exact Below.refl _ _) | (with_reducible assumption) | (with_reducible refine Below.alloc ?_ ?_ _) | (with_reducible refine Below.setCell ?_ ?_ _) | (with_reducible refine Below.drew ?_) | (with_reducible refine below_drewN ?_ _) | (with_reducible refine below_via (by with_reducible assumption) ?_ ?_) | go_size))) h0 hn HHI.out))))
    go_wp2
    go_returns
    exact ⟨rfl, by repeat' (first | (with_reducible exact Below.refl _ _) | (with_reducible assumption) | (with_reducible refine Below.alloc ?_ ?_ _) | (with_reducible refine Below.setCell ?_ ?_ _) | (with_reducible refine Below.drew ?_) | (with_reducible refine below_drewN ?_ _) | (with_reducible refine below_via (by with_reducible assumption) ?_ ?_) | go_size)⟩
end Go.Proofs.Ytfiddbmjgncabaa
