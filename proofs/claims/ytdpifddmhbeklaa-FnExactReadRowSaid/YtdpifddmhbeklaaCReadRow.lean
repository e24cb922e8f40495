/-
  DERIVED. The walk of FnExactReadRow, whatever the function computes.
-/
import Derived.Test.YtdpifddmhbeklaaPatE
namespace Go.Proofs.Ytdpifddmhbeklaa
open Go.RowKit
set_option linter.unusedVariables false
set_option maxRecDepth 10000 in
set_option maxHeartbeats 8000000 in
theorem core_FnExactReadRow (aCells_a : Option Addr) (aCells_n aCells_c : Nat) (aCells_z : List Int) (aCluster : Int) (w : World) (hR : Rd w aCells_a aCells_n aCells_z) (hn : aCells_n ≤ 1048576) (L : List Int) (code : Int)
    (hS : ∀ (a : Option Addr) (cp : Nat) (W : World), aCells_n = cp → Rd W a aCells_n aCells_z → Calls Try.prog 21 #[.slice a aCells_n cp, .int .i64 aCluster] W (ResI W L code))
    (hI : ∀ (a : Option Addr) (cp : Nat) (W : World), aCells_n = cp → Rd W a aCells_n aCells_z → Calls Try.prog 23 #[.slice a aCells_n cp, .int .i64 aCluster] W (ResI W L code))
    : Calls Try.prog 6 #[.slice aCells_a aCells_n aCells_c, .int .i64 aCluster] w fun e w' => e = .returned (.bool true) ∧ Below w.heap.size w w' := by
  have HR := Lib.hid hR
  have hl := Lib.hid hR.1
  have HS := Lib.hid hS
  have HI := Lib.hid hI
  have HLT := Lib.hid hR.lt
  clear hR hS hI
  have hm : aCells_n ≤ maxLen := by unfold maxLen; omega
  have hshort : decide ((1048576 : Int) < (aCells_n : Int)) = false := by simp; omega
  go_enter Try.func6, Try.ntmps6
  go_wp2_with fail
  refine (toInts aCells_a aCells_n aCells_c aCells_z _ (HR.out.below (by repeat' (first | (with_reducible exact Below.refl _ _) | (with_reducible assumption) | (with_reducible refine Below.alloc ?_ ?_ _) | (with_reducible refine Below.setCell ?_ ?_ _) | (with_reducible refine Below.drew ?_) | (with_reducible refine below_drewN ?_ _) | (with_reducible refine below_via (by with_reducible assumption) ?_ ?_) | go_size))) hn).mono ?_
  rintro e w1 ⟨g1, rfl, hg1, hk1, hb1⟩
  have hz1 := hb1.size
  go_wp2_with fail
  refine (HS.out _ _ _ rfl ((hk1.keep (by repeat' (first | (with_reducible exact Below.refl _ _) | (with_reducible assumption) | (with_reducible refine Below.alloc ?_ ?_ _) | (with_reducible refine Below.setCell ?_ ?_ _) | (with_reducible refine Below.drew ?_) | (with_reducible refine below_drewN ?_ _) | (with_reducible refine below_via (by with_reducible assumption) ?_ ?_) | go_size))).rd hl.out)).mono ?_
  rintro e w2 ⟨aw, cw, rfl, how, hb2, hLn⟩
  have hz2 := hb2.size
  go_wp2_with fail
  refine (toInts aCells_a aCells_n aCells_c aCells_z _ (HR.out.below (by repeat' (first | (with_reducible exact Below.refl _ _) | (with_reducible assumption) | (with_reducible refine Below.alloc ?_ ?_ _) | (with_reducible refine Below.setCell ?_ ?_ _) | (with_reducible refine Below.drew ?_) | (with_reducible refine below_drewN ?_ _) | (with_reducible refine below_via (by with_reducible assumption) ?_ ?_) | go_size))) hn).mono ?_
  rintro e w3 ⟨g3, rfl, hg3, hk3, hb3⟩
  have hz3 := hb3.size
  go_wp2_with fail
  refine (HI.out _ _ _ rfl ((hk3.keep (by repeat' (first | (with_reducible exact Below.refl _ _) | (with_reducible assumption) | (with_reducible refine Below.alloc ?_ ?_ _) | (with_reducible refine Below.setCell ?_ ?_ _) | (with_reducible refine Below.drew ?_) | (with_reducible refine below_drewN ?_ _) | (with_reducible refine below_via (by with_reducible assumption) ?_ ?_) | go_size))).rd hl.out)).mono ?_
  rintro e w4 ⟨ag, cg, rfl, hog, hb4, _⟩
  have hz4 := hb4.size
  have hg3l := hk3.lt
  have HWB := Lib.hid (ownN_block how)
  have HGB := Lib.hid (ownN_block hog)
  go_wp2_with fail
  refine (eqIntsT _ _ _ _ _ _ L _ ((own_rd hog).below (by repeat' (first | (with_reducible exact Below.refl _ _) | (with_reducible assumption) | (with_reducible refine Below.alloc ?_ ?_ _) | (with_reducible refine Below.setCell ?_ ?_ _) | (with_reducible refine Below.drew ?_) | (with_reducible refine below_drewN ?_ _) | (with_reducible refine below_via (by with_reducible assumption) ?_ ?_) | go_size))) ((own_rd how).below (by repeat' (first | (with_reducible exact Below.refl _ _) | (with_reducible assumption) | (with_reducible refine Below.alloc ?_ ?_ _) | (with_reducible refine Below.setCell ?_ ?_ _) | (with_reducible refine Below.drew ?_) | (with_reducible refine below_drewN ?_ _) | (with_reducible refine below_via (by with_reducible assumption) ?_ ?_) | go_size))) hLn hLn).mono ?_
  rintro e w5 ⟨rfl, hb5⟩
  have hz5 := hb5.size
  go_wp2_with fail
  refine (toInts aCells_a aCells_n aCells_c aCells_z _ (HR.out.below (by repeat' (first | (with_reducible exact Below.refl _ _) | (with_reducible assumption) | (with_reducible refine Below.alloc ?_ ?_ _) | (with_reducible refine Below.setCell ?_ ?_ _) | (with_reducible refine Below.drew ?_) | (with_reducible refine below_drewN ?_ _) | (with_reducible refine below_via (by with_reducible assumption) ?_ ?_) | go_size))) hn).mono ?_
  rintro e w6 ⟨g6, rfl, hg6, hk6, hb6⟩
  have hz6 := hb6.size
  go_wp2_with fail
  refine (eqIntsT _ _ _ _ _ _ aCells_z _ ((hk3.keep (by repeat' (first | (with_reducible exact Below.refl _ _) | (with_reducible assumption) | (with_reducible refine Below.alloc ?_ ?_ _) | (with_reducible refine Below.setCell ?_ ?_ _) | (with_reducible refine Below.drew ?_) | (with_reducible refine below_drewN ?_ _) | (with_reducible refine below_via (by with_reducible assumption) ?_ ?_) | go_size))).rd hl.out) ((hk6.keep (by repeat' (first | (with_reducible exact Below.refl _ _) | (with_reducible assumption) | (with_reducible refine Below.alloc ?_ ?_ _) | (with_reducible refine Below.setCell ?_ ?_ _) | (with_reducible refine Below.drew ?_) | (with_reducible refine below_drewN ?_ _) | (with_reducible refine below_via (by with_reducible assumption) ?_ ?_) | go_size))).rd hl.out) hn hn).mono ?_
  rintro e w7 ⟨rfl, hb7⟩
  have hz7 := hb7.size
  go_wp2_with fail
  refine (markInts (some ⟨g3, 0, none⟩) aCells_n aCells_n g3 aCells_z 1 w7 (Blk.own (hk3.keep (by repeat' (first | (with_reducible exact Below.refl _ _) | (with_reducible assumption) | (with_reducible refine Below.alloc ?_ ?_ _) | (with_reducible refine Below.setCell ?_ ?_ _) | (with_reducible refine Below.drew ?_) | (with_reducible refine below_drewN ?_ _) | (with_reducible refine below_via (by with_reducible assumption) ?_ ?_) | go_size))) (Nat.le_refl _) hl.out hm) hn (by omega) (by omega)).mono ?_
  rintro e w8 ⟨rfl, _, hgr8⟩
  have hx8 : ∀ k, (Value.slice (some ⟨g3, 0, none⟩) aCells_n aCells_n).ownBlock = some k → k = g3 := fun k e => by simp [Value.ownBlock] at e; omega
  have hz8 := hgr8.size
  have HX8 := Lib.hid hx8
  clear hx8
  have HR8 := Lib.hid (Rd.grown (HR.out.below (by repeat' (first | (with_reducible exact Below.refl _ _) | (with_reducible assumption) | (with_reducible refine Below.alloc ?_ ?_ _) | (with_reducible refine Below.setCell ?_ ?_ _) | (with_reducible refine Below.drew ?_) | (with_reducible refine below_drewN ?_ _) | (with_reducible refine below_via (by with_reducible assumption) ?_ ?_) | go_size)) : Rd w7 _ _ _) HLT.out hgr8 (fun k e => by have := HX8.out k e; omega))
  have how8 := (ownN_below how (by repeat' (first | (with_reducible exact Below.refl _ _) | (with_reducible assumption) | (with_reducible refine Below.alloc ?_ ?_ _) | (with_reducible refine Below.setCell ?_ ?_ _) | (with_reducible refine Below.drew ?_) | (with_reducible refine below_drewN ?_ _) | (with_reducible refine below_via (by with_reducible assumption) ?_ ?_) | go_size)) : w7.ownsRow _ _ 1 _ _ _).kept hgr8 (ownN_apart how (fun k e => by have := HX8.out k e; omega))
  have hog8 := (ownN_below hog (by repeat' (first | (with_reducible exact Below.refl _ _) | (with_reducible assumption) | (with_reducible refine Below.alloc ?_ ?_ _) | (with_reducible refine Below.setCell ?_ ?_ _) | (with_reducible refine Below.drew ?_) | (with_reducible refine below_drewN ?_ _) | (with_reducible refine below_via (by with_reducible assumption) ?_ ?_) | go_size)) : w7.ownsRow _ _ 1 _ _ _).kept hgr8 (ownN_apart hog (fun k e => by have := HX8.out k e; omega))
  have hw8 : Below w.heap.size w w8 := (by repeat' (first | (with_reducible exact Below.refl _ _) | (with_reducible assumption) | (with_reducible refine Below.alloc ?_ ?_ _) | (with_reducible refine Below.setCell ?_ ?_ _) | (with_reducible refine Below.drew ?_) | (with_reducible refine below_drewN ?_ _) | (with_reducible refine below_via (by with_reducible assumption) ?_ ?_) | go_size) : Below w.heap.size w w7).trans (grown_below hgr8 (fun k e => by have := HX8.out k e; omega) (by omega))
  clear hgr8
  go_wp2_with fail
  refine (eqIntsT _ _ _ _ _ _ L _ ((own_rd hog8).below (by repeat' (first | (with_reducible exact Below.refl _ _) | (with_reducible assumption) | (with_reducible refine Below.alloc ?_ ?_ _) | (with_reducible refine Below.setCell ?_ ?_ _) | (with_reducible refine Below.drew ?_) | (with_reducible refine below_drewN ?_ _) | (with_reducible refine below_via (by with_reducible assumption) ?_ ?_) | go_size))) ((own_rd how8).below (by repeat' (first | (with_reducible exact Below.refl _ _) | (with_reducible assumption) | (with_reducible refine Below.alloc ?_ ?_ _) | (with_reducible refine Below.setCell ?_ ?_ _) | (with_reducible refine Below.drew ?_) | (with_reducible refine below_drewN ?_ _) | (with_reducible refine below_via (by with_reducible assumption) ?_ ?_) | go_size))) hLn hLn).mono ?_
  rintro e w9 ⟨rfl, hb9⟩
  have hz9 := hb9.size
  go_wp2_with fail
  refine (markInts ag L.length cg _ L 1 w9 (ownN_below hog8 (by repeat' (first | (with_reducible exact Below.refl _ _) | (with_reducible assumption) | (with_reducible refine Below.alloc ?_ ?_ _) | (with_reducible refine Below.setCell ?_ ?_ _) | (with_reducible refine Below.drew ?_) | (with_reducible refine below_drewN ?_ _) | (with_reducible refine below_via (by with_reducible assumption) ?_ ?_) | go_size))) hLn (by omega) (by omega)).mono ?_
  rintro e w10 ⟨rfl, hom, hgr10⟩
  have hz10 := hgr10.size
  have HR10 := Lib.hid (Rd.grown (HR8.out.below (by repeat' (first | (with_reducible exact Below.refl _ _) | (with_reducible assumption) | (with_reducible refine Below.alloc ?_ ?_ _) | (with_reducible refine Below.setCell ?_ ?_ _) | (with_reducible refine Below.drew ?_) | (with_reducible refine below_drewN ?_ _) | (with_reducible refine below_via (by with_reducible assumption) ?_ ?_) | go_size)) : Rd w9 _ _ _) HLT.out hgr10 (fun k e => by have := HGB.out k e; omega))
  have how10 := (ownN_below how8 (by repeat' (first | (with_reducible exact Below.refl _ _) | (with_reducible assumption) | (with_reducible refine Below.alloc ?_ ?_ _) | (with_reducible refine Below.setCell ?_ ?_ _) | (with_reducible refine Below.drew ?_) | (with_reducible refine below_drewN ?_ _) | (with_reducible refine below_via (by with_reducible assumption) ?_ ?_) | go_size)) : w9.ownsRow _ _ 1 _ _ _).kept hgr10 (ownN_apart how (fun k e => by have := HGB.out k e; omega))
  have hw10 : Below w.heap.size w w10 := (by repeat' (first | (with_reducible exact Below.refl _ _) | (with_reducible assumption) | (with_reducible refine Below.alloc ?_ ?_ _) | (with_reducible refine Below.setCell ?_ ?_ _) | (with_reducible refine Below.drew ?_) | (with_reducible refine below_drewN ?_ _) | (with_reducible refine below_via (by with_reducible assumption) ?_ ?_) | go_size) : Below w.heap.size w w9).trans (grown_below hgr10 (fun k e => by have := HGB.out k e; omega) (by omega))
  clear hgr10
  go_wp2_with fail
  refine (heldInts ag L.length cg 1 _ ((own_rd hom).below (by repeat' (first | (with_reducible exact Below.refl _ _) | (with_reducible assumption) | (with_reducible refine Below.alloc ?_ ?_ _) | (with_reducible refine Below.setCell ?_ ?_ _) | (with_reducible refine Below.drew ?_) | (with_reducible refine below_drewN ?_ _) | (with_reducible refine below_via (by with_reducible assumption) ?_ ?_) | go_size))) hLn (by omega) (by omega)).mono ?_
  rintro e w11 ⟨rfl, hb11⟩
  have hz11 := hb11.size
  go_wp2_with fail
  refine (toInts aCells_a aCells_n aCells_c aCells_z _ (HR10.out.below (by repeat' (first | (with_reducible exact Below.refl _ _) | (with_reducible assumption) | (with_reducible refine Below.alloc ?_ ?_ _) | (with_reducible refine Below.setCell ?_ ?_ _) | (with_reducible refine Below.drew ?_) | (with_reducible refine below_drewN ?_ _) | (with_reducible refine below_via (by with_reducible assumption) ?_ ?_) | go_size))) hn).mono ?_
  rintro e w12 ⟨g12, rfl, hg12, hk12, hb12⟩
  have hz12 := hb12.size
  go_wp2_with fail
  refine (HI.out _ _ _ rfl ((hk12.keep (by repeat' (first | (with_reducible exact Below.refl _ _) | (with_reducible assumption) | (with_reducible refine Below.alloc ?_ ?_ _) | (with_reducible refine Below.setCell ?_ ?_ _) | (with_reducible refine Below.drew ?_) | (with_reducible refine below_drewN ?_ _) | (with_reducible refine below_via (by with_reducible assumption) ?_ ?_) | go_size))).rd hl.out)).mono ?_
  rintro e w13 ⟨ah, ch, rfl, hoh, hb13, _⟩
  have hz13 := hb13.size
  go_wp2_with fail
  refine (eqIntsT _ _ _ _ _ _ L _ ((own_rd hoh).below (by repeat' (first | (with_reducible exact Below.refl _ _) | (with_reducible assumption) | (with_reducible refine Below.alloc ?_ ?_ _) | (with_reducible refine Below.setCell ?_ ?_ _) | (with_reducible refine Below.drew ?_) | (with_reducible refine below_drewN ?_ _) | (with_reducible refine below_via (by with_reducible assumption) ?_ ?_) | go_size))) ((own_rd how10).below (by repeat' (first | (with_reducible exact Below.refl _ _) | (with_reducible assumption) | (with_reducible refine Below.alloc ?_ ?_ _) | (with_reducible refine Below.setCell ?_ ?_ _) | (with_reducible refine Below.drew ?_) | (with_reducible refine below_drewN ?_ _) | (with_reducible refine below_via (by with_reducible assumption) ?_ ?_) | go_size))) hLn hLn).mono ?_
  rintro e w14 ⟨rfl, hb14⟩
  have hz14 := hb14.size
  go_wp2_with fail
  refine (heldInts ag L.length cg 1 _ ((own_rd hom).below (by repeat' (first | (with_reducible exact Below.refl _ _) | (with_reducible assumption) | (with_reducible refine Below.alloc ?_ ?_ _) | (with_reducible refine Below.setCell ?_ ?_ _) | (with_reducible refine Below.drew ?_) | (with_reducible refine below_drewN ?_ _) | (with_reducible refine below_via (by with_reducible assumption) ?_ ?_) | go_size))) hLn (by omega) (by omega)).mono ?_
  rintro e w15 ⟨rfl, hb15⟩
  have hz15 := hb15.size
  go_wp2
  go_returns
  exact ⟨rfl, by repeat' (first | (with_reducible exact Below.refl _ _) | (with_reducible assumption) | (with_reducible refine Below.alloc ?_ ?_ _) | (with_reducible refine Below.setCell ?_ ?_ _) | (with_reducible refine Below.drew ?_) | (with_reducible refine below_drewN ?_ _) | (with_reducible refine below_via (by with_reducible assumption) ?_ ?_) | go_size)⟩

set_option maxHeartbeats 2000000 in
theorem big_FnExactReadRow (aCells_a : Option Addr) (aCells_n aCells_c : Nat) (aCluster : Int) (w : World) (hm : aCells_n ≤ maxLen) (hbig : (1048576 : Int) < aCells_n) :
    Calls Try.prog 6 #[.slice aCells_a aCells_n aCells_c, .int .i64 aCluster] w fun e w' => e = .returned (.bool true) ∧ Below w.heap.size w w' := by
  unfold maxLen at hm
  go_enter Try.func6, Try.ntmps6
  go_wp2
  go_returns
  exact ⟨rfl, by repeat' (first | (with_reducible exact Below.refl _ _) | (with_reducible assumption) | (with_reducible refine Below.alloc ?_ ?_ _) | (with_reducible refine Below.setCell ?_ ?_ _) | (with_reducible refine Below.drew ?_) | (with_reducible refine below_drewN ?_ _) | (with_reducible refine below_via (by with_reducible assumption) ?_ ?_) | go_size)⟩
end Go.Proofs.Ytdpifddmhbeklaa
