/-
  DERIVED. The walk of FnExactFindersOf, whatever the function computes.
-/
import Derived.Test.YtcpicgcdefnhaaaResQ
import Derived.Test.YtcpicgcdefnhaaaFinS
import Derived.Test.YtcpicgcdefnhaaaFinO
import Derived.Deep.RegionHeld3
namespace Go.Proofs.Ytcpicgcdefnhaaa
open Go.RowKit
set_option linter.unusedVariables false
set_option maxRecDepth 10000 in
set_option maxHeartbeats 8000000 in
theorem core_FnExactFindersOf (aG_Rows aG_Cols : Int) (aG_Cells_a : Option Addr) (aG_Cells_n aG_Cells_c : Nat) (aG_Cells_z : List Int) (w : World) (hR : Rd w aG_Cells_a aG_Cells_n aG_Cells_z) (hn : aG_Cells_n ≤ 1048576) (L : List F4) (code : Int)
    (hS : ∀ (a : Option Addr) (cp : Nat) (W : World), aG_Cells_n ≤ cp → Rd W a aG_Cells_n aG_Cells_z → Calls Try.prog 14 #[.agg #[.int .i64 aG_Rows, .int .i64 aG_Cols, .slice a aG_Cells_n cp]] W (ResFin W L code))
    (hI : ∀ (a : Option Addr) (cp : Nat) (W : World), aG_Cells_n ≤ cp → Rd W a aG_Cells_n aG_Cells_z → Calls Try.prog 15 #[.agg #[.int .i64 aG_Rows, .int .i64 aG_Cols, .slice a aG_Cells_n cp]] W (ResFin W L code))
    : Calls Try.prog 4 #[.agg #[.int .i64 aG_Rows, .int .i64 aG_Cols, .slice aG_Cells_a aG_Cells_n aG_Cells_c]] w fun e w' => e = .returned (.bool true) ∧ Below w.heap.size w w' := by
  have HR := Lib.hid hR
  have hl := Lib.hid hR.1
  have HS := Lib.hid hS
  have HI := Lib.hid hI
  have HLT := Lib.hid hR.lt
  clear hR hS hI
  have HZ := szV_yes (show (aG_Cells_n : Int) ≤ 1048576 by omega)
  have hm : aG_Cells_n ≤ maxLen := by unfold maxLen; omega
  have bP := Lib.hid (Box3.new w 24 (.int .i64 aG_Rows) (.int .i64 aG_Cols) (.slice aG_Cells_a aG_Cells_n aG_Cells_c))
  go_enter Try.func4, Try.ntmps4
  go_wp2_with fail
  refine (szGrd _ _ _ _ _ _ hm).mono ?_
  rintro e w1 ⟨rfl, hb1⟩
  have hz1 := hb1.size; try simp at hz1
  obtain ⟨_, _, _, _⟩ := (bP.out.keep (by repeat' (first | (with_reducible exact Below.refl _ _) | (with_reducible assumption) | (with_reducible refine Below.alloc ?_ ?_ _) | (with_reducible refine Below.setCell ?_ ?_ _) | (with_reducible refine Below.drew ?_) | (with_reducible refine below_drewN ?_ _) | (with_reducible refine below_via (by with_reducible assumption) ?_ ?_) | go_size)) : Box3 w1 _ _ _ _)
  rw [HZ]
  clear HZ
  go_wp2_with fail
  refine (toGrd aG_Rows aG_Cols aG_Cells_a aG_Cells_n aG_Cells_c aG_Cells_z _ (HR.out.below (by repeat' (first | (with_reducible exact Below.refl _ _) | (with_reducible assumption) | (with_reducible refine Below.alloc ?_ ?_ _) | (with_reducible refine Below.setCell ?_ ?_ _) | (with_reducible refine Below.drew ?_) | (with_reducible refine below_drewN ?_ _) | (with_reducible refine below_via (by with_reducible assumption) ?_ ?_) | go_size))) hn).mono ?_
  rintro e w2 ⟨g2, rfl, hg2, hk2, hb2⟩
  have hz2 := hb2.size; try simp at hz2
  obtain ⟨_, _, _, _⟩ := (bP.out.keep (by repeat' (first | (with_reducible exact Below.refl _ _) | (with_reducible assumption) | (with_reducible refine Below.alloc ?_ ?_ _) | (with_reducible refine Below.setCell ?_ ?_ _) | (with_reducible refine Below.drew ?_) | (with_reducible refine below_drewN ?_ _) | (with_reducible refine below_via (by with_reducible assumption) ?_ ?_) | go_size)) : Box3 w2 _ _ _ _)
  try simp at hg2
  go_wp2_with fail
  refine (HS.out _ _ _ (Nat.le_refl _) (hk2.rd hl.out)).mono ?_
  rintro e w3 ⟨aw, cw, rfl, how, hb3, hLn⟩
  have hz3 := hb3.size; try simp at hz3
  obtain ⟨_, _, _, _⟩ := (bP.out.keep (by repeat' (first | (with_reducible exact Below.refl _ _) | (with_reducible assumption) | (with_reducible refine Below.alloc ?_ ?_ _) | (with_reducible refine Below.setCell ?_ ?_ _) | (with_reducible refine Below.drew ?_) | (with_reducible refine below_drewN ?_ _) | (with_reducible refine below_via (by with_reducible assumption) ?_ ?_) | go_size)) : Box3 w3 _ _ _ _)
  go_wp2_with fail
  refine (toGrd aG_Rows aG_Cols aG_Cells_a aG_Cells_n aG_Cells_c aG_Cells_z _ (HR.out.below (by repeat' (first | (with_reducible exact Below.refl _ _) | (with_reducible assumption) | (with_reducible refine Below.alloc ?_ ?_ _) | (with_reducible refine Below.setCell ?_ ?_ _) | (with_reducible refine Below.drew ?_) | (with_reducible refine below_drewN ?_ _) | (with_reducible refine below_via (by with_reducible assumption) ?_ ?_) | go_size))) hn).mono ?_
  rintro e w4 ⟨g4, rfl, hg4, hk4, hb4⟩
  have hz4 := hb4.size; try simp at hz4
  obtain ⟨_, _, _, _⟩ := (bP.out.keep (by repeat' (first | (with_reducible exact Below.refl _ _) | (with_reducible assumption) | (with_reducible refine Below.alloc ?_ ?_ _) | (with_reducible refine Below.setCell ?_ ?_ _) | (with_reducible refine Below.drew ?_) | (with_reducible refine below_drewN ?_ _) | (with_reducible refine below_via (by with_reducible assumption) ?_ ?_) | go_size)) : Box3 w4 _ _ _ _)
  try simp at hg4
  go_wp2_with fail
  have bX := Lib.hid (Box3.new w4 29 (.int .i64 aG_Rows) (.int .i64 aG_Cols) (.slice (some ⟨g4, 0, none⟩) aG_Cells_n aG_Cells_n))
  refine (HI.out _ _ _ (Nat.le_refl _) ((hk4.keep (by repeat' (first | (with_reducible exact Below.refl _ _) | (with_reducible assumption) | (with_reducible refine Below.alloc ?_ ?_ _) | (with_reducible refine Below.setCell ?_ ?_ _) | (with_reducible refine Below.drew ?_) | (with_reducible refine below_drewN ?_ _) | (with_reducible refine below_via (by with_reducible assumption) ?_ ?_) | go_size))).rd hl.out)).mono ?_
  rintro e w5 ⟨ag, cg, rfl, hog, hb5, _⟩
  have hz5 := hb5.size; try simp at hz5
  obtain ⟨_, _, _, _⟩ := (bP.out.keep (by repeat' (first | (with_reducible exact Below.refl _ _) | (with_reducible assumption) | (with_reducible refine Below.alloc ?_ ?_ _) | (with_reducible refine Below.setCell ?_ ?_ _) | (with_reducible refine Below.drew ?_) | (with_reducible refine below_drewN ?_ _) | (with_reducible refine below_via (by with_reducible assumption) ?_ ?_) | go_size)) : Box3 w5 _ _ _ _)
  obtain ⟨_, _, _, _⟩ := (bX.out.keep (by repeat' (first | (with_reducible exact Below.refl _ _) | (with_reducible assumption) | (with_reducible refine Below.alloc ?_ ?_ _) | (with_reducible refine Below.setCell ?_ ?_ _) | (with_reducible refine Below.drew ?_) | (with_reducible refine below_drewN ?_ _) | (with_reducible refine below_via (by with_reducible assumption) ?_ ?_) | go_size)) : Box3 w5 _ _ _ _)
  have hg4 := hk4.lt
  have hwB := ownN_block how
  have hgB := ownN_block hog
  simp only [World.size_alloc] at hgB
  have HWB := Lib.hid hwB
  have HGB := Lib.hid hgB
  clear hwB hgB
  go_wp2_with fail
  refine (eqFinT _ _ _ _ _ L _ ((own_rdV hog).below (by repeat' (first | (with_reducible exact Below.refl _ _) | (with_reducible assumption) | (with_reducible refine Below.alloc ?_ ?_ _) | (with_reducible refine Below.setCell ?_ ?_ _) | (with_reducible refine Below.drew ?_) | (with_reducible refine below_drewN ?_ _) | (with_reducible refine below_via (by with_reducible assumption) ?_ ?_) | go_size))) ((own_rdV how).below (by repeat' (first | (with_reducible exact Below.refl _ _) | (with_reducible assumption) | (with_reducible refine Below.alloc ?_ ?_ _) | (with_reducible refine Below.setCell ?_ ?_ _) | (with_reducible refine Below.drew ?_) | (with_reducible refine below_drewN ?_ _) | (with_reducible refine below_via (by with_reducible assumption) ?_ ?_) | go_size))) hLn).mono ?_
  rintro e w6 ⟨rfl, hb6⟩
  have hz6 := hb6.size; try simp at hz6
  obtain ⟨_, _, _, _⟩ := (bP.out.keep (by repeat' (first | (with_reducible exact Below.refl _ _) | (with_reducible assumption) | (with_reducible refine Below.alloc ?_ ?_ _) | (with_reducible refine Below.setCell ?_ ?_ _) | (with_reducible refine Below.drew ?_) | (with_reducible refine below_drewN ?_ _) | (with_reducible refine below_via (by with_reducible assumption) ?_ ?_) | go_size)) : Box3 w6 _ _ _ _)
  obtain ⟨_, _, _, _⟩ := (bX.out.keep (by repeat' (first | (with_reducible exact Below.refl _ _) | (with_reducible assumption) | (with_reducible refine Below.alloc ?_ ?_ _) | (with_reducible refine Below.setCell ?_ ?_ _) | (with_reducible refine Below.drew ?_) | (with_reducible refine below_drewN ?_ _) | (with_reducible refine below_via (by with_reducible assumption) ?_ ?_) | go_size)) : Box3 w6 _ _ _ _)
  have HS6 : Hid (∀ w', Below w6.heap.size w6 w' → Below w6.heap.size w6 w' ∧ w6.heap.size ≤ w'.heap.size ∧ w.heap.size < w'.heap.size ∧ w4.heap.size < w'.heap.size ∧ w'.cell? ⟨w.heap.size, 0, none⟩ = some (.int .i64 aG_Rows) ∧ w'.cell? ⟨w.heap.size, 1, none⟩ = some (.int .i64 aG_Cols) ∧ w'.cell? ⟨w.heap.size, 2, none⟩ = some (.slice aG_Cells_a aG_Cells_n aG_Cells_c) ∧ w'.cell? ⟨w4.heap.size, 0, none⟩ = some (.int .i64 aG_Rows) ∧ w'.cell? ⟨w4.heap.size, 1, none⟩ = some (.int .i64 aG_Cols) ∧ w'.cell? ⟨w4.heap.size, 2, none⟩ = some (.slice (some ⟨g4, 0, none⟩) aG_Cells_n aG_Cells_n)) := fun w' h => ⟨h, h.size, Nat.lt_of_lt_of_le (by assumption) h.size, Nat.lt_of_lt_of_le (by assumption) h.size, (h.cell (p := ⟨_, _, none⟩) (by assumption)).trans (by assumption), (h.cell (p := ⟨_, _, none⟩) (by assumption)).trans (by assumption), (h.cell (p := ⟨_, _, none⟩) (by assumption)).trans (by assumption), (h.cell (p := ⟨_, _, none⟩) (by assumption)).trans (by assumption), (h.cell (p := ⟨_, _, none⟩) (by assumption)).trans (by assumption), (h.cell (p := ⟨_, _, none⟩) (by assumption)).trans (by assumption)⟩
  go_wp2_with fail
  go_region_held3 (fun w' => Below w6.heap.size w6 w' ∧ w6.heap.size ≤ w'.heap.size ∧ w.heap.size < w'.heap.size ∧ w4.heap.size < w'.heap.size ∧ w'.cell? ⟨w.heap.size, 0, none⟩ = some (.int .i64 aG_Rows) ∧ w'.cell? ⟨w.heap.size, 1, none⟩ = some (.int .i64 aG_Cols) ∧ w'.cell? ⟨w.heap.size, 2, none⟩ = some (.slice aG_Cells_a aG_Cells_n aG_Cells_c) ∧ w'.cell? ⟨w4.heap.size, 0, none⟩ = some (.int .i64 aG_Rows) ∧ w'.cell? ⟨w4.heap.size, 1, none⟩ = some (.int .i64 aG_Cols) ∧ w'.cell? ⟨w4.heap.size, 2, none⟩ = some (.slice (some ⟨g4, 0, none⟩) aG_Cells_n aG_Cells_n)) (exact HS6.out _ (by repeat' (first | (with_reducible exact Below.refl _ _) | (with_reducible assumption) | (with_reducible refine Below.alloc ?_ ?_ _) | (with_reducible refine Below.setCell ?_ ?_ _) | (with_reducible refine Below.drew ?_) | (with_reducible refine below_drewN ?_ _) | (with_reducible refine below_via (by with_reducible assumption) ?_ ?_) | go_size))) (first | (go_at_call 7; refine (toGrd aG_Rows aG_Cols aG_Cells_a aG_Cells_n aG_Cells_c aG_Cells_z _ (HR.out.below (by repeat' (first | (with_reducible exact Below.refl _ _) | (with_reducible assumption) | (with_reducible refine Below.alloc ?_ ?_ _) | (with_reducible refine Below.setCell ?_ ?_ _) | (with_reducible refine Below.drew ?_) | (with_reducible refine below_drewN ?_ _) | (with_reducible refine below_via (by with_reducible assumption) ?_ ?_) | go_size))) hn).mono ?_; rintro e wq ⟨gq, rfl, hgq, hkq, hbq⟩; have hzq := hbq.size; (try simp at hzq)) | (go_at_call 10; refine (eqGrdS aG_Rows aG_Cols _ _ _ _ _ _ aG_Cells_z _ ((hk4.keep (by repeat' (first | (with_reducible exact Below.refl _ _) | (with_reducible assumption) | (with_reducible refine Below.alloc ?_ ?_ _) | (with_reducible refine Below.setCell ?_ ?_ _) | (with_reducible refine Below.drew ?_) | (with_reducible refine below_drewN ?_ _) | (with_reducible refine below_via (by with_reducible assumption) ?_ ?_) | go_size))).rd hl.out) (Blk.rd (by assumption) hl.out) hn hn).mono ?_; rintro e w7 ⟨rfl, hb7⟩; have hz7 := hb7.size; (try simp at hz7)))
  go_wp2_with fail
  refine (markGrd aG_Rows aG_Cols (some ⟨g4, 0, none⟩) aG_Cells_n aG_Cells_n g4 aG_Cells_z w7 (Blk.own (hk4.keep (by repeat' (first | (with_reducible exact Below.refl _ _) | (with_reducible assumption) | (with_reducible refine Below.alloc ?_ ?_ _) | (with_reducible refine Below.setCell ?_ ?_ _) | (with_reducible refine Below.drew ?_) | (with_reducible refine below_drewN ?_ _) | (with_reducible refine below_via (by with_reducible assumption) ?_ ?_) | go_size))) (Nat.le_refl _) hl.out hm) hn).mono ?_
  rintro e w8 ⟨rfl, _, hgr8⟩
  have hx8 : ∀ k, (Value.slice (some ⟨g4, 0, none⟩) aG_Cells_n aG_Cells_n).ownBlock = some k → k = g4 := fun k e => by simp [Value.ownBlock] at e; omega
  have hz8 := hgr8.size
  have HX8 := Lib.hid hx8
  clear hx8
  have HR8 := Lib.hid (Rd.grown (HR.out.below (by repeat' (first | (with_reducible exact Below.refl _ _) | (with_reducible assumption) | (with_reducible refine Below.alloc ?_ ?_ _) | (with_reducible refine Below.setCell ?_ ?_ _) | (with_reducible refine Below.drew ?_) | (with_reducible refine below_drewN ?_ _) | (with_reducible refine below_via (by with_reducible assumption) ?_ ?_) | go_size)) : Rd w7 _ _ _) HLT.out hgr8 (fun k e => by have := HX8.out k e; omega))
  have bP8 := Lib.hid (Box3.grown (bP.out.keep (by repeat' (first | (with_reducible exact Below.refl _ _) | (with_reducible assumption) | (with_reducible refine Below.alloc ?_ ?_ _) | (with_reducible refine Below.setCell ?_ ?_ _) | (with_reducible refine Below.drew ?_) | (with_reducible refine below_drewN ?_ _) | (with_reducible refine below_via (by with_reducible assumption) ?_ ?_) | go_size)) : Box3 w7 _ _ _ _) hgr8 (fun k e => by have := HX8.out k e; omega))
  have how8 := (ownN_below how (by repeat' (first | (with_reducible exact Below.refl _ _) | (with_reducible assumption) | (with_reducible refine Below.alloc ?_ ?_ _) | (with_reducible refine Below.setCell ?_ ?_ _) | (with_reducible refine Below.drew ?_) | (with_reducible refine below_drewN ?_ _) | (with_reducible refine below_via (by with_reducible assumption) ?_ ?_) | go_size)) : w7.ownsRow _ _ 4 _ _ _).kept hgr8 (ownN_apart how (fun k e => by have := HX8.out k e; omega))
  have hog8 := (ownN_below hog (by repeat' (first | (with_reducible exact Below.refl _ _) | (with_reducible assumption) | (with_reducible refine Below.alloc ?_ ?_ _) | (with_reducible refine Below.setCell ?_ ?_ _) | (with_reducible refine Below.drew ?_) | (with_reducible refine below_drewN ?_ _) | (with_reducible refine below_via (by with_reducible assumption) ?_ ?_) | go_size)) : w7.ownsRow _ _ 4 _ _ _).kept hgr8 (ownN_apart hog (fun k e => by have := HX8.out k e; simp; omega))
  have hw8 : Below w.heap.size w w8 := (by repeat' (first | (with_reducible exact Below.refl _ _) | (with_reducible assumption) | (with_reducible refine Below.alloc ?_ ?_ _) | (with_reducible refine Below.setCell ?_ ?_ _) | (with_reducible refine Below.drew ?_) | (with_reducible refine below_drewN ?_ _) | (with_reducible refine below_via (by with_reducible assumption) ?_ ?_) | go_size) : Below w.heap.size w w7).trans (grown_below hgr8 (fun k e => by have := HX8.out k e; omega) (by omega))
  obtain ⟨_, _, _, _⟩ := bP8.out
  clear hgr8
  go_wp2_with fail
  refine (eqFinT _ _ _ _ _ L _ ((own_rdV hog8).below (by repeat' (first | (with_reducible exact Below.refl _ _) | (with_reducible assumption) | (with_reducible refine Below.alloc ?_ ?_ _) | (with_reducible refine Below.setCell ?_ ?_ _) | (with_reducible refine Below.drew ?_) | (with_reducible refine below_drewN ?_ _) | (with_reducible refine below_via (by with_reducible assumption) ?_ ?_) | go_size))) ((own_rdV how8).below (by repeat' (first | (with_reducible exact Below.refl _ _) | (with_reducible assumption) | (with_reducible refine Below.alloc ?_ ?_ _) | (with_reducible refine Below.setCell ?_ ?_ _) | (with_reducible refine Below.drew ?_) | (with_reducible refine below_drewN ?_ _) | (with_reducible refine below_via (by with_reducible assumption) ?_ ?_) | go_size))) hLn).mono ?_
  rintro e w9 ⟨rfl, hb9⟩
  have hz9 := hb9.size; try simp at hz9
  obtain ⟨_, _, _, _⟩ := (bP8.out.keep (by repeat' (first | (with_reducible exact Below.refl _ _) | (with_reducible assumption) | (with_reducible refine Below.alloc ?_ ?_ _) | (with_reducible refine Below.setCell ?_ ?_ _) | (with_reducible refine Below.drew ?_) | (with_reducible refine below_drewN ?_ _) | (with_reducible refine below_via (by with_reducible assumption) ?_ ?_) | go_size)) : Box3 w9 _ _ _ _)
  go_wp2_with fail
  refine (markFinS ag L.length cg _ L 1 w9 (ownN_below hog8 (by repeat' (first | (with_reducible exact Below.refl _ _) | (with_reducible assumption) | (with_reducible refine Below.alloc ?_ ?_ _) | (with_reducible refine Below.setCell ?_ ?_ _) | (with_reducible refine Below.drew ?_) | (with_reducible refine below_drewN ?_ _) | (with_reducible refine below_via (by with_reducible assumption) ?_ ?_) | go_size))) hLn (by omega) (by omega)).mono ?_
  rintro e w10 ⟨rfl, hom, hgr10⟩
  have hz10 := hgr10.size
  have HR10 := Lib.hid (Rd.grown (HR8.out.below (by repeat' (first | (with_reducible exact Below.refl _ _) | (with_reducible assumption) | (with_reducible refine Below.alloc ?_ ?_ _) | (with_reducible refine Below.setCell ?_ ?_ _) | (with_reducible refine Below.drew ?_) | (with_reducible refine below_drewN ?_ _) | (with_reducible refine below_via (by with_reducible assumption) ?_ ?_) | go_size)) : Rd w9 _ _ _) HLT.out hgr10 (fun k e => by have := HGB.out k e; omega))
  have bP10 := Lib.hid (Box3.grown (bP8.out.keep (by repeat' (first | (with_reducible exact Below.refl _ _) | (with_reducible assumption) | (with_reducible refine Below.alloc ?_ ?_ _) | (with_reducible refine Below.setCell ?_ ?_ _) | (with_reducible refine Below.drew ?_) | (with_reducible refine below_drewN ?_ _) | (with_reducible refine below_via (by with_reducible assumption) ?_ ?_) | go_size)) : Box3 w9 _ _ _ _) hgr10 (fun k e => by have := HGB.out k e; omega))
  have how10 := (ownN_below how8 (by repeat' (first | (with_reducible exact Below.refl _ _) | (with_reducible assumption) | (with_reducible refine Below.alloc ?_ ?_ _) | (with_reducible refine Below.setCell ?_ ?_ _) | (with_reducible refine Below.drew ?_) | (with_reducible refine below_drewN ?_ _) | (with_reducible refine below_via (by with_reducible assumption) ?_ ?_) | go_size)) : w9.ownsRow _ _ 4 _ _ _).kept hgr10 (ownN_apart how (fun k e => by have := HGB.out k e; omega))
  have hw10 : Below w.heap.size w w10 := (by repeat' (first | (with_reducible exact Below.refl _ _) | (with_reducible assumption) | (with_reducible refine Below.alloc ?_ ?_ _) | (with_reducible refine Below.setCell ?_ ?_ _) | (with_reducible refine Below.drew ?_) | (with_reducible refine below_drewN ?_ _) | (with_reducible refine below_via (by with_reducible assumption) ?_ ?_) | go_size) : Below w.heap.size w w9).trans (grown_below hgr10 (fun k e => by have := HGB.out k e; omega) (by omega))
  obtain ⟨_, _, _, _⟩ := bP10.out
  clear hgr10
  go_wp2_with fail
  refine (heldFinS ag L.length cg 1 _ ((own_rdV hom).below (by repeat' (first | (with_reducible exact Below.refl _ _) | (with_reducible assumption) | (with_reducible refine Below.alloc ?_ ?_ _) | (with_reducible refine Below.setCell ?_ ?_ _) | (with_reducible refine Below.drew ?_) | (with_reducible refine below_drewN ?_ _) | (with_reducible refine below_via (by with_reducible assumption) ?_ ?_) | go_size))) hLn (by omega) (by omega)).mono ?_
  rintro e w11 ⟨rfl, hb11⟩
  have hz11 := hb11.size; try simp at hz11
  obtain ⟨_, _, _, _⟩ := (bP10.out.keep (by repeat' (first | (with_reducible exact Below.refl _ _) | (with_reducible assumption) | (with_reducible refine Below.alloc ?_ ?_ _) | (with_reducible refine Below.setCell ?_ ?_ _) | (with_reducible refine Below.drew ?_) | (with_reducible refine below_drewN ?_ _) | (with_reducible refine below_via (by with_reducible assumption) ?_ ?_) | go_size)) : Box3 w11 _ _ _ _)
  go_wp2_with fail
  refine (toGrd aG_Rows aG_Cols aG_Cells_a aG_Cells_n aG_Cells_c aG_Cells_z _ (HR10.out.below (by repeat' (first | (with_reducible exact Below.refl _ _) | (with_reducible assumption) | (with_reducible refine Below.alloc ?_ ?_ _) | (with_reducible refine Below.setCell ?_ ?_ _) | (with_reducible refine Below.drew ?_) | (with_reducible refine below_drewN ?_ _) | (with_reducible refine below_via (by with_reducible assumption) ?_ ?_) | go_size))) hn).mono ?_
  rintro e w12 ⟨g12, rfl, hg12, hk12, hb12⟩
  have hz12 := hb12.size; try simp at hz12
  obtain ⟨_, _, _, _⟩ := (bP10.out.keep (by repeat' (first | (with_reducible exact Below.refl _ _) | (with_reducible assumption) | (with_reducible refine Below.alloc ?_ ?_ _) | (with_reducible refine Below.setCell ?_ ?_ _) | (with_reducible refine Below.drew ?_) | (with_reducible refine below_drewN ?_ _) | (with_reducible refine below_via (by with_reducible assumption) ?_ ?_) | go_size)) : Box3 w12 _ _ _ _)
  go_wp2_with fail
  refine (HI.out _ _ _ (Nat.le_refl _) (hk12.rd hl.out)).mono ?_
  rintro e w13 ⟨ah, ch, rfl, hoh, hb13, _⟩
  have hz13 := hb13.size; try simp at hz13
  obtain ⟨_, _, _, _⟩ := (bP10.out.keep (by repeat' (first | (with_reducible exact Below.refl _ _) | (with_reducible assumption) | (with_reducible refine Below.alloc ?_ ?_ _) | (with_reducible refine Below.setCell ?_ ?_ _) | (with_reducible refine Below.drew ?_) | (with_reducible refine below_drewN ?_ _) | (with_reducible refine below_via (by with_reducible assumption) ?_ ?_) | go_size)) : Box3 w13 _ _ _ _)
  go_wp2_with fail
  refine (eqFinT _ _ _ _ _ L _ ((own_rdV hoh).below (by repeat' (first | (with_reducible exact Below.refl _ _) | (with_reducible assumption) | (with_reducible refine Below.alloc ?_ ?_ _) | (with_reducible refine Below.setCell ?_ ?_ _) | (with_reducible refine Below.drew ?_) | (with_reducible refine below_drewN ?_ _) | (with_reducible refine below_via (by with_reducible assumption) ?_ ?_) | go_size))) ((own_rdV how10).below (by repeat' (first | (with_reducible exact Below.refl _ _) | (with_reducible assumption) | (with_reducible refine Below.alloc ?_ ?_ _) | (with_reducible refine Below.setCell ?_ ?_ _) | (with_reducible refine Below.drew ?_) | (with_reducible refine below_drewN ?_ _) | (with_reducible refine below_via (by with_reducible assumption) ?_ ?_) | go_size))) hLn).mono ?_
  rintro e w14 ⟨rfl, hb14⟩
  have hz14 := hb14.size; try simp at hz14
  obtain ⟨_, _, _, _⟩ := (bP10.out.keep (by repeat' (first | (with_reducible exact Below.refl _ _) | (with_reducible assumption) | (with_reducible refine Below.alloc ?_ ?_ _) | (with_reducible refine Below.setCell ?_ ?_ _) | (with_reducible refine Below.drew ?_) | (with_reducible refine below_drewN ?_ _) | (with_reducible refine below_via (by with_reducible assumption) ?_ ?_) | go_size)) : Box3 w14 _ _ _ _)
  go_wp2_with fail
  refine (heldFinS ag L.length cg 1 _ ((own_rdV hom).below (by repeat' (first | (with_reducible exact Below.refl _ _) | (with_reducible assumption) | (with_reducible refine Below.alloc ?_ ?_ _) | (with_reducible refine Below.setCell ?_ ?_ _) | (with_reducible refine Below.drew ?_) | (with_reducible refine below_drewN ?_ _) | (with_reducible refine below_via (by with_reducible assumption) ?_ ?_) | go_size))) hLn (by omega) (by omega)).mono ?_
  rintro e w15 ⟨rfl, hb15⟩
  have hz15 := hb15.size; try simp at hz15
  obtain ⟨_, _, _, _⟩ := (bP10.out.keep (by repeat' (first | (with_reducible exact Below.refl _ _) | (with_reducible assumption) | (with_reducible refine Below.alloc ?_ ?_ _) | (with_reducible refine Below.setCell ?_ ?_ _) | (with_reducible refine Below.drew ?_) | (with_reducible refine below_drewN ?_ _) | (with_reducible refine below_via (by with_reducible assumption) ?_ ?_) | go_size)) : Box3 w15 _ _ _ _)
  go_wp2
  go_returns
  exact ⟨rfl, by repeat' (first | (with_reducible exact Below.refl _ _) | (with_reducible assumption) | (with_reducible refine Below.alloc ?_ ?_ _) | (with_reducible refine Below.setCell ?_ ?_ _) | (with_reducible refine Below.drew ?_) | (with_reducible refine below_drewN ?_ _) | (with_reducible refine below_via (by with_reducible assumption) ?_ ?_) | go_size)⟩
set_option maxHeartbeats 2000000 in
theorem big_FnExactFindersOf (aG_Rows aG_Cols : Int) (aG_Cells_a : Option Addr) (aG_Cells_n aG_Cells_c : Nat) (w : World) (hm : aG_Cells_n ≤ maxLen) (hbig : (1048576 : Int) < aG_Cells_n) :
    Calls Try.prog 4 #[.agg #[.int .i64 aG_Rows, .int .i64 aG_Cols, .slice aG_Cells_a aG_Cells_n aG_Cells_c]] w fun e w' => e = .returned (.bool true) ∧ Below w.heap.size w w' := by
  have HS := szV_no hbig
  go_enter Try.func4, Try.ntmps4
  go_wp2_with fail
  refine (szGrd _ _ _ _ _ _ hm).mono ?_
  rintro e w1 ⟨rfl, hb1⟩
  have hz1 := hb1.size; try simp at hz1
  rw [HS]
  go_wp2
  go_returns
  exact ⟨rfl, by repeat' (first | (with_reducible exact Below.refl _ _) | (with_reducible assumption) | (with_reducible refine Below.alloc ?_ ?_ _) | (with_reducible refine Below.setCell ?_ ?_ _) | (with_reducible refine Below.drew ?_) | (with_reducible refine below_drewN ?_ _) | (with_reducible refine below_via (by with_reducible assumption) ?_ ?_) | go_size)⟩
end Go.Proofs.Ytcpicgcdefnhaaa
