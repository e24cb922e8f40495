/-
  DERIVED. PixelAt, ContrastOf, RangeLimit, DarkPixels: contracts.
-/
import Derived.Test.YtcpicgcdefnhaaaDoorRast
namespace Go.Proofs.YtcpicgcdefnhaaaDoor
open Go.RowKit
set_option linter.unusedVariables false

/-- What a valid raster's walk needs of a pixel: its place. -/
theorem pix_place {row col r c : Int} {n : Nat} (h1 : 0 ≤ row) (h2 : row < r) (h3 : 0 ≤ col) (h4 : col < c) (hr : r ≤ 400) (hc : c ≤ 400) (hn : (n : Int) = r * c) :
    0 ≤ row * c ∧ row * c ≤ 160000 ∧ 0 ≤ row * c + col ∧ row * c + col < (n : Int) := by
  have a := prod_le h1 (show row ≤ 400 by omega) (show 0 ≤ c by omega) hc
  have b : (row + 1) * c ≤ r * c := Int.mul_le_mul_of_nonneg_right (by omega) (by omega)
  rw [Int.add_mul, Int.one_mul] at b
  exact ⟨a.1, by omega, by omega, by omega⟩
def pixV (c : Int) (zs : List Int) (row col : Int) : Int := zs.getD (row * c + col).toNat 0
set_option maxHeartbeats 1000000 in
theorem iPix (r c : Int) (a : Option Addr) (n cp : Nat) (zs : List Int) (row col : Int) (w : World) (h : Rd w a n zs)
    (h1 : 0 ≤ row) (h2 : row < r) (h3 : 0 ≤ col) (h4 : col < c) (hr : r ≤ 400) (hc : c ≤ 400) (hn : (n : Int) = r * c) :
    Calls Tryd.prog 47 #[.agg #[.int .i64 r, .int .i64 c, .slice a n cp], .int .i64 row, .int .i64 col] w fun e w' => e = .returned (.int .i64 (pixV c zs row col)) ∧ Below w.heap.size w w' := by
  obtain ⟨p1, p2, p3, p4⟩ := pix_place h1 h2 h3 h4 hr hc hn
  obtain ⟨b, off, rfl, hb, hcell⟩ := h.2 (by omega)
  have HN := Lib.hid hn
  clear h
  have hx : w.cell? ⟨b, off + (row * c + col).toNat, none⟩ = some (.int .i64 (pixV c zs row col)) := hcell _ (by omega)
  have hb1 : b < w.heap.size + 1 := by omega
  clear hcell hn
  go_enter Tryd.func47, Tryd.ntmps47
  go_wp2
  go_returns
  exact ⟨rfl, by repeat' (first | (with_reducible exact Below.refl _ _) | (with_reducible assumption) | (with_reducible refine Below.alloc ?_ ?_ _) | (with_reducible refine Below.setCell ?_ ?_ _) | (with_reducible refine Below.drew ?_) | (with_reducible refine below_drewN ?_ _) | (with_reducible refine below_via (by with_reducible assumption) ?_ ?_) | go_size)⟩
def pixE (r c : Int) (n : Nat) (zs : List Int) (row col : Int) : Int := selI (rasterB r c n zs) (selI (inB row 0 (r - 1) && inB col 0 (c - 1)) 0 2) 1
def pixO (r c : Int) (n : Nat) (zs : List Int) (row col : Int) : Int := selI (rasterB r c n zs && (inB row 0 (r - 1) && inB col 0 (c - 1))) (pixV c zs row col) 0
set_option maxHeartbeats 1000000 in
theorem iPixelAt (r c : Int) (a : Option Addr) (n cp : Nat) (zs : List Int) (row col : Int) (w : World) (h : Rd w a n zs) (hn : n ≤ 1048576) :
    Calls Tryd.prog 22 #[.agg #[.int .i64 r, .int .i64 c, .slice a n cp], .int .i64 row, .int .i64 col] w fun e w' => e = .returned (.tuple #[.int .i64 (pixO r c n zs row col), .int .i64 (pixE r c n zs row col)]) ∧ Below w.heap.size w w' := by
  have HH := Lib.hid h
  clear h
  cases hr : rasterB r c n zs
  · go_enter Tryd.func22, Tryd.ntmps22
    go_wp2_with (go_at_call 28; refine (iIsRaster r c a n cp zs _ (HH.out.below (by repeat' (first | (with_reducible exact Below.refl _ _) | (with_reducible assumption) | (with_reducible refine Below.alloc ?_ ?_ _) | (with_reducible refine Below.setCell ?_ ?_ _) | (with_reducible refine Below.drew ?_) | (with_reducible refine below_drewN ?_ _) | (with_reducible refine below_via (by with_reducible assumption) ?_ ?_) | go_size))) hn).mono ?_; rintro e w1 ⟨rfl, hb⟩; have hz := hb.size; (try simp at hz))
    go_returns
    exact ⟨ret_ints2 (by simp [pixO, hr, selI]) (by simp [pixE, hr, selI]), by repeat' (first | (with_reducible exact Below.refl _ _) | (with_reducible assumption) | (with_reducible refine Below.alloc ?_ ?_ _) | (with_reducible refine Below.setCell ?_ ?_ _) | (with_reducible refine Below.drew ?_) | (with_reducible refine below_drewN ?_ _) | (with_reducible refine below_via (by with_reducible assumption) ?_ ?_) | go_size)⟩
  · obtain ⟨a1, a2, a3, a4, _, _, a7, _⟩ := rasterB_yes hr
    have H7 := Lib.hid a7
    clear a7
    rcases inCases row 0 (r - 1) with h2 | ⟨h2, _, _⟩ <;> rcases inCases col 0 (c - 1) with h3 | ⟨h3, _, _⟩
    all_goals
      go_enter Tryd.func22, Tryd.ntmps22
      go_wp2_with fail
      refine (iIsRaster r c _ n cp zs _ (HH.out.below (by repeat' (first | (with_reducible exact Below.refl _ _) | (with_reducible assumption) | (with_reducible refine Below.alloc ?_ ?_ _) | (with_reducible refine Below.setCell ?_ ?_ _) | (with_reducible refine Below.drew ?_) | (with_reducible refine below_drewN ?_ _) | (with_reducible refine below_via (by with_reducible assumption) ?_ ?_) | go_size))) hn).mono ?_
      rintro e w1 ⟨rfl, hb⟩
      obtain ⟨hc, hf⟩ := bcell hb
      have hz := hb.size
      simp at hz
      have hz0 : w.heap.size < w1.heap.size := by omega
      rw [hr]
      go_wp2_with (first | (go_at_call 43; refine (iIn _ _ _ _).mono ?_; rintro e w' ⟨rfl, rfl⟩) | (go_at_call 47; refine (iPix r c a n cp zs row col _ (HH.out.below (by repeat' (first | (with_reducible exact Below.refl _ _) | (with_reducible assumption) | (with_reducible refine Below.alloc ?_ ?_ _) | (with_reducible refine Below.setCell ?_ ?_ _) | (with_reducible refine Below.drew ?_) | (with_reducible refine below_drewN ?_ _) | (with_reducible refine below_via (by with_reducible assumption) ?_ ?_) | go_size))) (by omega) (by omega) (by omega) (by omega) (by omega) (by omega) H7.out).mono ?_; rintro e w2 ⟨rfl, hb2⟩; have hz2 := hb2.size; (try simp at hz2)))
      go_returns
      exact ⟨ret_ints2 (by simp [pixO, selI, *]) (by simp [pixE, selI, *]), by repeat' (first | (with_reducible exact Below.refl _ _) | (with_reducible assumption) | (with_reducible refine Below.alloc ?_ ?_ _) | (with_reducible refine Below.setCell ?_ ?_ _) | (with_reducible refine Below.drew ?_) | (with_reducible refine below_drewN ?_ _) | (with_reducible refine below_via (by with_reducible assumption) ?_ ?_) | go_size)⟩
end Go.Proofs.YtcpicgcdefnhaaaDoor
