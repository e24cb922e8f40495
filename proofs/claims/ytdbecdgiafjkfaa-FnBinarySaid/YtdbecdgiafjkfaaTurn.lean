/-
  DERIVED. TurnRaster: contracts.
-/
import Derived.Test.YtdbecdgiafjkfaaInv
import Derived.Conc.MuLone
namespace Go.Proofs.Ytdbecdgiafjkfaa
open Go.RowKit
set_option linter.unusedVariables false
theorem entTurn : ∀ (args : Array Value) (w : World), (callFunc 87 args).run Try.prog w = .ok (.enter 87 args) w := enters_of Try.func87 (by kernel_rfl) rfl
set_option maxHeartbeats 1000000 in
theorem cTurn (b : Nat) (r c : Int) (a : Option Addr) (n cp : Nat) (zs : List Int) (i j : Int) (w : World) (hB : Box3 w b (.int .i64 r) (.int .i64 c) (.slice a n cp)) (h : Rd w a n zs)
    (h1 : 0 ≤ i) (h2 : i < c) (h3 : 0 ≤ j) (h4 : j < r) (hr : r ≤ 400) (hc : c ≤ 400) (hn : (n : Int) = r * c) :
    Calls Try.prog 87 #[.int .i64 i, .int .i64 j, .pointer (some ⟨b, 0, none⟩)] w fun e w' => e = .returned (.int .i64 (pixV c zs (r - 1 - j) i)) ∧ Below w.heap.size w w' := by
  have HH := Lib.hid h
  have HN := Lib.hid hn
  obtain ⟨b1, b2, b3, b4⟩ := hB
  clear h hn
  go_enter Try.func87, Try.ntmps87
  go_wp2_with fail
  refine (iPix r c a n cp zs (r - 1 - j) i _ (HH.out.below (by repeat' (first | (with_reducible exact Below.refl _ _) | (with_reducible assumption) | (with_reducible refine Below.alloc ?_ ?_ _) | (with_reducible refine Below.setCell ?_ ?_ _) | (with_reducible refine Below.drew ?_) | (with_reducible refine below_drewN ?_ _) | (with_reducible refine below_via (by with_reducible assumption) ?_ ?_) | go_size))) (by omega) (by omega) h1 h2 hr hc HN.out).mono ?_
  rintro e w1 ⟨rfl, hb1⟩
  have hz1 := hb1.size
  go_wp2
  go_returns
  exact ⟨rfl, by repeat' (first | (with_reducible exact Below.refl _ _) | (with_reducible assumption) | (with_reducible refine Below.alloc ?_ ?_ _) | (with_reducible refine Below.setCell ?_ ?_ _) | (with_reducible refine Below.drew ?_) | (with_reducible refine below_drewN ?_ _) | (with_reducible refine below_via (by with_reducible assumption) ?_ ?_) | go_size)⟩
set_option maxHeartbeats 2000000 in
theorem sTurnRaster_no (r c : Int) (a : Option Addr) (n cp : Nat) (zs : List Int) (w : World) (h : Rd w a n zs) (hn : n ≤ 1048576) (hr : rasterB r c n zs = false) :
    Calls Try.prog 38 #[.agg #[.int .i64 r, .int .i64 c, .slice a n cp]] w (ResG w 0 0 [] 1) := by
  have HH := Lib.hid h
  clear h
  have bO := Lib.hid (Out3.new (w.alloc (.cells #[.int .i64 r, .int .i64 c, .slice a n cp] 26)) 26)
  go_enter Try.func38, Try.ntmps38
  go_wp2_with fail
  refine (sIsRaster r c a n cp zs _ (HH.out.below (by repeat' (first | (with_reducible exact Below.refl _ _) | (with_reducible assumption) | (with_reducible refine Below.alloc ?_ ?_ _) | (with_reducible refine Below.setCell ?_ ?_ _) | (with_reducible refine Below.drew ?_) | (with_reducible refine below_drewN ?_ _) | (with_reducible refine below_via (by with_reducible assumption) ?_ ?_) | go_size))) hn).mono ?_
  rintro e w1 ⟨rfl, hb1⟩
  have hz1 := hb1.size; try simp at hz1
  have o1 := bO.out.keep (by repeat' (first | (with_reducible exact Below.refl _ _) | (with_reducible assumption) | (with_reducible refine Below.alloc ?_ ?_ _) | (with_reducible refine Below.setCell ?_ ?_ _) | (with_reducible refine Below.drew ?_) | (with_reducible refine below_drewN ?_ _) | (with_reducible refine below_via (by with_reducible assumption) ?_ ?_) | go_size) : Below _ _ w1)
  simp only [World.size_alloc] at o1
  obtain ⟨o2, o3, o4, o5, o6, o7, o8⟩ := o1
  rw [hr]
  go_wp2
  refine bodyPost_ret (v := .tuple #[.agg #[.int .i64 0, .int .i64 0, .slice none 0 0], .int .i64 1]) (by simp [results, Try.results38, go_sem, o3, o4, o5]) rfl ?_
  exact ⟨none, 0, rfl, World.ownsRow_nil _ _ _ _, by repeat' (first | (with_reducible exact Below.refl _ _) | (with_reducible assumption) | (with_reducible refine Below.alloc ?_ ?_ _) | (with_reducible refine Below.setCell ?_ ?_ _) | (with_reducible refine Below.drew ?_) | (with_reducible refine below_drewN ?_ _) | (with_reducible refine below_via (by with_reducible assumption) ?_ ?_) | go_size), by simp⟩
set_option maxHeartbeats 2000000 in
theorem iTurnRaster_no (r c : Int) (a : Option Addr) (n cp : Nat) (zs : List Int) (w : World) (h : Rd w a n zs) (hn : n ≤ 1048576) (hr : rasterB r c n zs = false) :
    Calls Try.prog 37 #[.agg #[.int .i64 r, .int .i64 c, .slice a n cp]] w (ResG w 0 0 [] 1) := by
  have HH := Lib.hid h
  clear h
  have bO := Lib.hid (Out3.new (w.alloc (.cells #[.int .i64 r, .int .i64 c, .slice a n cp] 26)) 26)
  go_enter Try.func37, Try.ntmps37
  go_wp2_with fail
  refine (iIsRaster r c a n cp zs _ (HH.out.below (by repeat' (first | (with_reducible exact Below.refl _ _) | (with_reducible assumption) | (with_reducible refine Below.alloc ?_ ?_ _) | (with_reducible refine Below.setCell ?_ ?_ _) | (with_reducible refine Below.drew ?_) | (with_reducible refine below_drewN ?_ _) | (with_reducible refine below_via (by with_reducible assumption) ?_ ?_) | go_size))) hn).mono ?_
  rintro e w1 ⟨rfl, hb1⟩
  have hz1 := hb1.size; try simp at hz1
  have o1 := bO.out.keep (by repeat' (first | (with_reducible exact Below.refl _ _) | (with_reducible assumption) | (with_reducible refine Below.alloc ?_ ?_ _) | (with_reducible refine Below.setCell ?_ ?_ _) | (with_reducible refine Below.drew ?_) | (with_reducible refine below_drewN ?_ _) | (with_reducible refine below_via (by with_reducible assumption) ?_ ?_) | go_size) : Below _ _ w1)
  simp only [World.size_alloc] at o1
  obtain ⟨o2, o3, o4, o5, o6, o7, o8⟩ := o1
  rw [hr]
  go_wp2
  refine bodyPost_ret (v := .tuple #[.agg #[.int .i64 0, .int .i64 0, .slice none 0 0], .int .i64 1]) (by simp [results, Try.results37, go_sem, o3, o4, o5]) rfl ?_
  exact ⟨none, 0, rfl, World.ownsRow_nil _ _ _ _, by repeat' (first | (with_reducible exact Below.refl _ _) | (with_reducible assumption) | (with_reducible refine Below.alloc ?_ ?_ _) | (with_reducible refine Below.setCell ?_ ?_ _) | (with_reducible refine Below.drew ?_) | (with_reducible refine below_drewN ?_ _) | (with_reducible refine below_via (by with_reducible assumption) ?_ ?_) | go_size), by simp⟩
set_option maxHeartbeats 4000000 in
theorem iTurnRaster_ok (r c : Int) (a : Option Addr) (n cp : Nat) (zs : List Int) (w : World) (h : Rd w a n zs) (hn : n ≤ 1048576) (hr : rasterB r c n zs = true) :
    Calls Try.prog 37 #[.agg #[.int .i64 r, .int .i64 c, .slice a n cp]] w (ResG w c r (rastL r.toNat (fun i j => pixV c zs (r - 1 - (j : Int)) (i : Int)) (c.toNat * r.toNat)) 0) := by
  obtain ⟨r1, r2, r3, r4, r5, r6, r7, r8⟩ := rasterB_yes hr
  have hp : 0 < n := by omega
  obtain ⟨rows, rfl⟩ := Int.eq_ofNat_of_zero_le (show 0 ≤ r by omega)
  obtain ⟨cols, rfl⟩ := Int.eq_ofNat_of_zero_le (show 0 ≤ c by omega)
  have hnn : n = rows * cols := by
    have : ((rows : Int) * (cols : Int)) = ((rows * cols : Nat) : Int) := by simp
    omega
  have HN := Lib.hid hnn
  have HH := Lib.hid h
  have hl := Lib.hid h.1
  have H7 := Lib.hid r7
  have H8 := Lib.hid r8
  have HR := Lib.hid hr
  clear h r5 r6 r7 r8 hnn
  have bP := Lib.hid (Box3.new w 26 (.int .i64 (rows : Int)) (.int .i64 (cols : Int)) (.slice a n cp))
  have bO := Lib.hid (Out3.new (w.alloc (.cells #[.int .i64 (rows : Int), .int .i64 (cols : Int), .slice a n cp] 26)) 26)
  go_enter Try.func37, Try.ntmps37
  go_wp2_with fail
  refine (iIsRaster (rows : Int) (cols : Int) a n cp zs _ (HH.out.below (by repeat' (first | (with_reducible exact Below.refl _ _) | (with_reducible assumption) | (with_reducible refine Below.alloc ?_ ?_ _) | (with_reducible refine Below.setCell ?_ ?_ _) | (with_reducible refine Below.drew ?_) | (with_reducible refine below_drewN ?_ _) | (with_reducible refine below_via (by with_reducible assumption) ?_ ?_) | go_size))) hn).mono ?_
  rintro e w1 ⟨rfl, hb1⟩
  have hz1 := hb1.size; try simp at hz1
  obtain ⟨_, _, _, _⟩ := (bP.out.keep (by repeat' (first | (with_reducible exact Below.refl _ _) | (with_reducible assumption) | (with_reducible refine Below.alloc ?_ ?_ _) | (with_reducible refine Below.setCell ?_ ?_ _) | (with_reducible refine Below.drew ?_) | (with_reducible refine below_drewN ?_ _) | (with_reducible refine below_via (by with_reducible assumption) ?_ ?_) | go_size)) : Box3 w1 _ _ _ _)
  rw [hr]
  clear hr
  have HF : Hid (Tells 87 #[.pointer (some ⟨w.heap.size, 0, none⟩)] cols rows ((fun (i j : Nat) => pixV (cols : Int) zs ((rows : Int) - 1 - (j : Int)) (i : Int))) w1) := by
    intro i j W hi hj hW
    have hB3 : Box3 W w.heap.size (.int .i64 (rows : Int)) (.int .i64 (cols : Int)) (.slice a n cp) := bP.out.keep (by repeat' (first | (with_reducible exact Below.refl _ _) | (with_reducible assumption) | (with_reducible refine Below.alloc ?_ ?_ _) | (with_reducible refine Below.setCell ?_ ?_ _) | (with_reducible refine Below.drew ?_) | (with_reducible refine below_drewN ?_ _) | (with_reducible refine below_via (by with_reducible assumption) ?_ ?_) | go_size))
    have hR3 : Rd W a n zs := HH.out.below (by repeat' (first | (with_reducible exact Below.refl _ _) | (with_reducible assumption) | (with_reducible refine Below.alloc ?_ ?_ _) | (with_reducible refine Below.setCell ?_ ?_ _) | (with_reducible refine Below.drew ?_) | (with_reducible refine below_drewN ?_ _) | (with_reducible refine below_via (by with_reducible assumption) ?_ ?_) | go_size))
    exact cTurn w.heap.size rows cols a n cp zs i j W hB3 hR3 (by omega) (by omega) (by omega) (by omega) (by omega) (by omega) H7.out
  have hlen : ((rastL rows (fun (i j : Nat) => pixV (cols : Int) zs ((rows : Int) - 1 - (j : Int)) (i : Int)) (cols * rows))).length = n := by rw [rastL_length, HN.out, Nat.mul_comm]
  have HL := Lib.hid hlen
  clear hlen
  go_wp2_with fail
  refine (iRaster 87 #[.pointer (some ⟨w.heap.size, 0, none⟩)] cols rows ((fun (i j : Nat) => pixV (cols : Int) zs ((rows : Int) - 1 - (j : Int)) (i : Int))) _ entTurn HF.out (by omega) (by omega) (by omega) (by omega)).mono ?_
  rintro e w2 h2
  obtain ⟨av, cv, rfl, ho, hb2⟩ := h2
  have hz2 := hb2.size
  have o1 := bO.out.keep (by repeat' (first | (with_reducible exact Below.refl _ _) | (with_reducible assumption) | (with_reducible refine Below.alloc ?_ ?_ _) | (with_reducible refine Below.setCell ?_ ?_ _) | (with_reducible refine Below.drew ?_) | (with_reducible refine below_drewN ?_ _) | (with_reducible refine below_via (by with_reducible assumption) ?_ ?_) | go_size) : Below _ _ w2)
  simp only [World.size_alloc] at o1
  obtain ⟨o2, o3, o4, o5, o6, o7, o8⟩ := o1
  go_wp2
  refine bodyPost_ret (v := .tuple #[.agg #[.int .i64 cols, .int .i64 rows, .slice av (rastL rows (fun (i j : Nat) => pixV (cols : Int) zs ((rows : Int) - 1 - (j : Int)) (i : Int)) (cols * rows)).length cv], .int .i64 0]) (by simp [results, Try.results37, go_sem, o3, o4, o5]) rfl ?_
  have ho1 : w2.ownsRow (w.heap.size + 2) 2 1 (.slice av (rastL rows (fun (i j : Nat) => pixV (cols : Int) zs ((rows : Int) - 1 - (j : Int)) (i : Int)) (cols * rows)).length cv) (rastL rows (fun (i j : Nat) => pixV (cols : Int) zs ((rows : Int) - 1 - (j : Int)) (i : Int)) (cols * rows)).length ((rastL rows (fun (i j : Nat) => pixV (cols : Int) zs ((rows : Int) - 1 - (j : Int)) (i : Int)) (cols * rows)).map (Value.int .i64)) := own_mono ho (by omega)
  exact ⟨av, cv, rfl, own_mono (own_far (own_far (own_far ho1 (by simp) _) (by simp) _) (by simp) _) (by omega), by repeat' (first | (with_reducible exact Below.refl _ _) | (with_reducible assumption) | (with_reducible refine Below.alloc ?_ ?_ _) | (with_reducible refine Below.setCell ?_ ?_ _) | (with_reducible refine Below.drew ?_) | (with_reducible refine below_drewN ?_ _) | (with_reducible refine below_via (by with_reducible assumption) ?_ ?_) | go_size), (by simp only [Int.toNat_natCast]; rw [HL.out]; exact hn)⟩
end Go.Proofs.Ytdbecdgiafjkfaa
