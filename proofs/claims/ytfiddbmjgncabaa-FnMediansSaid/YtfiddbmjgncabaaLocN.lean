/-
  DERIVED. LocalBinary where it refuses: spec and impl.
-/
import Derived.Test.YtfiddbmjgncabaaResQ
import Derived.Test.YtfiddbmjgncabaaBas
import Derived.Conc.MuLone
namespace Go.Proofs.Ytfiddbmjgncabaa
open Go.RowKit
set_option linter.unusedVariables false
set_option maxHeartbeats 4000000 in
theorem sLocal_no (r c : Int) (a : Option Addr) (n cp : Nat) (zs : List Int) (rad off : Int) (w : World) (h : Rd w a n zs) (hn : n ≤ 1048576) (hr : rasterB r c n zs = false) :
    Calls Try.prog 47 #[.agg #[.int .i64 r, .int .i64 c, .slice a n cp], .int .i64 rad, .int .i64 off] w (ResG w 0 0 [] 1) := by
  have HH := Lib.hid h
  clear h
  have bO := Lib.hid (Out3.new (w.alloc (.cells #[.int .i64 r, .int .i64 c, .slice a n cp] 32)) 29)
  go_enter Try.func47, Try.ntmps47
  go_wp2_with fail
  refine (sIsRaster r c a n cp zs _ (HH.out.below (by repeat' (first | (with_reducible exact Below.refl _ _) | (with_reducible assumption) | (with_reducible refine Below.alloc ?_ ?_ _) | (with_reducible refine Below.setCell ?_ ?_ _) | (with_reducible refine Below.drew ?_) | (with_reducible refine below_drewN ?_ _) | (with_reducible refine below_via (by with_reducible assumption) ?_ ?_) | go_size))) hn).mono ?_
  rintro e w1 ⟨rfl, hb1⟩
  have hz1 := hb1.size; try simp at hz1
  have o1 := bO.out.keep (by repeat' (first | (with_reducible exact Below.refl _ _) | (with_reducible assumption) | (with_reducible refine Below.alloc ?_ ?_ _) | (with_reducible refine Below.setCell ?_ ?_ _) | (with_reducible refine Below.drew ?_) | (with_reducible refine below_drewN ?_ _) | (with_reducible refine below_via (by with_reducible assumption) ?_ ?_) | go_size) : Below _ _ w1)
  simp only [World.size_alloc] at o1
  obtain ⟨o2, o3, o4, o5, o6, o7, o8⟩ := o1
  rw [hr]
  go_wp2
  refine bodyPost_ret (v := .tuple #[.agg #[.int .i64 0, .int .i64 0, .slice none 0 0], .int .i64 1]) (by simp [results, Try.results47, go_sem, o3, o4, o5]) rfl ?_
  exact ⟨none, 0, rfl, World.ownsRow_nil _ _ _ _, by repeat' (first | (with_reducible exact Below.refl _ _) | (with_reducible assumption) | (with_reducible refine Below.alloc ?_ ?_ _) | (with_reducible refine Below.setCell ?_ ?_ _) | (with_reducible refine Below.drew ?_) | (with_reducible refine below_drewN ?_ _) | (with_reducible refine below_via (by with_reducible assumption) ?_ ?_) | go_size), by simp⟩
set_option maxHeartbeats 4000000 in
theorem sLocal_rng (r c : Int) (a : Option Addr) (n cp : Nat) (zs : List Int) (rad off : Int) (w : World) (h : Rd w a n zs) (hn : n ≤ 1048576) (hr : rasterB r c n zs = true) (hw : (inB rad 0 20 && inB off (-255) 255) = false) :
    Calls Try.prog 47 #[.agg #[.int .i64 r, .int .i64 c, .slice a n cp], .int .i64 rad, .int .i64 off] w (ResG w 0 0 [] 2) := by
  have HH := Lib.hid h
  clear h
  have bO := Lib.hid (Out3.new (w.alloc (.cells #[.int .i64 r, .int .i64 c, .slice a n cp] 32)) 29)
  rcases (show inB rad 0 20 = false ∨ (inB rad 0 20 = true ∧ inB off (-255) 255 = false) by cases h1 : inB rad 0 20 <;> simp [h1] at hw ⊢; exact hw) with h1 | ⟨h1, h2⟩
  all_goals
    clear hw
    go_enter Try.func47, Try.ntmps47
    go_wp2_with fail
    refine (sIsRaster r c a n cp zs _ (HH.out.below (by repeat' (first | (with_reducible exact Below.refl _ _) | (with_reducible assumption) | (with_reducible refine Below.alloc ?_ ?_ _) | (with_reducible refine Below.setCell ?_ ?_ _) | (with_reducible refine Below.drew ?_) | (with_reducible refine below_drewN ?_ _) | (with_reducible refine below_via (by with_reducible assumption) ?_ ?_) | go_size))) hn).mono ?_
    rintro e w1 ⟨rfl, hb1⟩
    have hz1 := hb1.size; try simp at hz1
    have o1 := bO.out.keep (by repeat' (first | (with_reducible exact Below.refl _ _) | (with_reducible assumption) | (with_reducible refine Below.alloc ?_ ?_ _) | (with_reducible refine Below.setCell ?_ ?_ _) | (with_reducible refine Below.drew ?_) | (with_reducible refine below_drewN ?_ _) | (with_reducible refine below_via (by with_reducible assumption) ?_ ?_) | go_size) : Below _ _ w1)
    simp only [World.size_alloc] at o1
    obtain ⟨o2, o3, o4, o5, o6, o7, o8⟩ := o1
    rw [hr]
    go_wp2_with (go_at_call 95; refine (sIn _ _ _ _).mono ?_; rintro e w' ⟨rfl, rfl⟩)
    refine bodyPost_ret (v := .tuple #[.agg #[.int .i64 0, .int .i64 0, .slice none 0 0], .int .i64 2]) (by simp [results, Try.results47, go_sem, o3, o4, o5]) rfl ?_
    exact ⟨none, 0, rfl, World.ownsRow_nil _ _ _ _, by repeat' (first | (with_reducible exact Below.refl _ _) | (with_reducible assumption) | (with_reducible refine Below.alloc ?_ ?_ _) | (with_reducible refine Below.setCell ?_ ?_ _) | (with_reducible refine Below.drew ?_) | (with_reducible refine below_drewN ?_ _) | (with_reducible refine below_via (by with_reducible assumption) ?_ ?_) | go_size), by simp⟩
set_option maxHeartbeats 4000000 in
theorem iLocal_no (r c : Int) (a : Option Addr) (n cp : Nat) (zs : List Int) (rad off : Int) (w : World) (h : Rd w a n zs) (hn : n ≤ 1048576) (hr : rasterB r c n zs = false) :
    Calls Try.prog 46 #[.agg #[.int .i64 r, .int .i64 c, .slice a n cp], .int .i64 rad, .int .i64 off] w (ResG w 0 0 [] 1) := by
  have HH := Lib.hid h
  clear h
  have bO := Lib.hid (Out3.new (w.alloc (.cells #[.int .i64 r, .int .i64 c, .slice a n cp] 32)) 29)
  go_enter Try.func46, Try.ntmps46
  go_wp2_with fail
  refine (iIsRaster r c a n cp zs _ (HH.out.below (by repeat' (first | (with_reducible exact Below.refl _ _) | (with_reducible assumption) | (with_reducible refine Below.alloc ?_ ?_ _) | (with_reducible refine Below.setCell ?_ ?_ _) | (with_reducible refine Below.drew ?_) | (with_reducible refine below_drewN ?_ _) | (with_reducible refine below_via (by with_reducible assumption) ?_ ?_) | go_size))) hn).mono ?_
  rintro e w1 ⟨rfl, hb1⟩
  have hz1 := hb1.size; try simp at hz1
  have o1 := bO.out.keep (by repeat' (first | (with_reducible exact Below.refl _ _) | (with_reducible assumption) | (with_reducible refine Below.alloc ?_ ?_ _) | (with_reducible refine Below.setCell ?_ ?_ _) | (with_reducible refine Below.drew ?_) | (with_reducible refine below_drewN ?_ _) | (with_reducible refine below_via (by with_reducible assumption) ?_ ?_) | go_size) : Below _ _ w1)
  simp only [World.size_alloc] at o1
  obtain ⟨o2, o3, o4, o5, o6, o7, o8⟩ := o1
  rw [hr]
  go_wp2
  refine bodyPost_ret (v := .tuple #[.agg #[.int .i64 0, .int .i64 0, .slice none 0 0], .int .i64 1]) (by simp [results, Try.results46, go_sem, o3, o4, o5]) rfl ?_
  exact ⟨none, 0, rfl, World.ownsRow_nil _ _ _ _, by repeat' (first | (with_reducible exact Below.refl _ _) | (with_reducible assumption) | (with_reducible refine Below.alloc ?_ ?_ _) | (with_reducible refine Below.setCell ?_ ?_ _) | (with_reducible refine Below.drew ?_) | (with_reducible refine below_drewN ?_ _) | (with_reducible refine below_via (by with_reducible assumption) ?_ ?_) | go_size), by simp⟩
set_option maxHeartbeats 4000000 in
theorem iLocal_rng (r c : Int) (a : Option Addr) (n cp : Nat) (zs : List Int) (rad off : Int) (w : World) (h : Rd w a n zs) (hn : n ≤ 1048576) (hr : rasterB r c n zs = true) (hw : (inB rad 0 20 && inB off (-255) 255) = false) :
    Calls Try.prog 46 #[.agg #[.int .i64 r, .int .i64 c, .slice a n cp], .int .i64 rad, .int .i64 off] w (ResG w 0 0 [] 2) := by
  have HH := Lib.hid h
  clear h
  have bO := Lib.hid (Out3.new (w.alloc (.cells #[.int .i64 r, .int .i64 c, .slice a n cp] 32)) 29)
  rcases (show inB rad 0 20 = false ∨ (inB rad 0 20 = true ∧ inB off (-255) 255 = false) by cases h1 : inB rad 0 20 <;> simp [h1] at hw ⊢; exact hw) with h1 | ⟨h1, h2⟩
  all_goals
    clear hw
    go_enter Try.func46, Try.ntmps46
    go_wp2_with fail
    refine (iIsRaster r c a n cp zs _ (HH.out.below (by repeat' (first | (with_reducible exact Below.refl _ _) | (with_reducible assumption) | (with_reducible refine Below.alloc ?_ ?_ _) | (with_reducible refine Below.setCell ?_ ?_ _) | (with_reducible refine Below.drew ?_) | (with_reducible refine below_drewN ?_ _) | (with_reducible refine below_via (by with_reducible assumption) ?_ ?_) | go_size))) hn).mono ?_
    rintro e w1 ⟨rfl, hb1⟩
    have hz1 := hb1.size; try simp at hz1
    have o1 := bO.out.keep (by repeat' (first | (with_reducible exact Below.refl _ _) | (with_reducible assumption) | (with_reducible refine Below.alloc ?_ ?_ _) | (with_reducible refine Below.setCell ?_ ?_ _) | (with_reducible refine Below.drew ?_) | (with_reducible refine below_drewN ?_ _) | (with_reducible refine below_via (by with_reducible assumption) ?_ ?_) | go_size) : Below _ _ w1)
    simp only [World.size_alloc] at o1
    obtain ⟨o2, o3, o4, o5, o6, o7, o8⟩ := o1
    rw [hr]
    go_wp2_with (go_at_call 80; refine (iIn _ _ _ _).mono ?_; rintro e w' ⟨rfl, rfl⟩)
    refine bodyPost_ret (v := .tuple #[.agg #[.int .i64 0, .int .i64 0, .slice none 0 0], .int .i64 2]) (by simp [results, Try.results46, go_sem, o3, o4, o5]) rfl ?_
    exact ⟨none, 0, rfl, World.ownsRow_nil _ _ _ _, by repeat' (first | (with_reducible exact Below.refl _ _) | (with_reducible assumption) | (with_reducible refine Below.alloc ?_ ?_ _) | (with_reducible refine Below.setCell ?_ ?_ _) | (with_reducible refine Below.drew ?_) | (with_reducible refine below_drewN ?_ _) | (with_reducible refine below_via (by with_reducible assumption) ?_ ?_) | go_size), by simp⟩
end Go.Proofs.Ytfiddbmjgncabaa
