/-
  DERIVED. InvertRaster: contracts.
-/
import Derived.Test.YtdbecdgiafjkfaaMk
import Derived.Test.YtdbecdgiafjkfaaPix
import Derived.Conc.MuLone
namespace Go.Proofs.Ytdbecdgiafjkfaa
open Go.RowKit
set_option linter.unusedVariables false
theorem enters_of {f : FuncId} {fn : Func} {c : Code} (hf : Try.prog.funcs[f]? = some fn) (hname : (fn.name == "runtime.NumGoroutine") = false) (hb : fn.body = some c) : ∀ (args : Array Value) (w : World), (callFunc f args).run Try.prog w = .ok (.enter f args) w := by
  intro args w
  have h1 : fn.name ≠ "runtime.NumGoroutine" := by simpa using hname
  simp [callFunc, hf, h1, hb]
theorem pixV_nat (cols i j : Nat) (zs : List Int) : pixV (cols : Int) zs (i : Int) (j : Int) = zs.getD (i * cols + j) 0 := by
  unfold pixV
  congr 1
theorem rastL_map (rows cols : Nat) (zs : List Int) (g : Int → Int) (hl : zs.length = rows * cols) (hc : 0 < cols) : rastL cols (fun i j => g (pixV (cols : Int) zs (i : Int) (j : Int))) (rows * cols) = zs.map g := by
  apply List.ext_getElem
  · simp [rastL, hl]
  · intro k h1 h2
    have hk : k < zs.length := by simpa using h2
    simp only [rastL, List.getElem_map, List.getElem_range]
    rw [pixV_nat]
    have e : k / cols * cols + k % cols = k := by rw [Nat.mul_comm]; exact Nat.div_add_mod k cols
    rw [e]
    simp [List.getD_eq_getElem?_getD, List.getElem?_eq_getElem hk]
theorem pix_bd {c : Int} {zs : List Int} {row col : Int} {n : Nat} (hl : zs.length = n) (h8 : ∀ x ∈ zs, 0 ≤ x ∧ x ≤ 255) (h1 : 0 ≤ row * c + col) (h2 : row * c + col < (n : Int)) : 0 ≤ pixV c zs row col ∧ pixV c zs row col ≤ 255 := by
  unfold pixV
  exact h8 _ (getD_mem (by omega))
theorem entInv : ∀ (args : Array Value) (w : World), (callFunc 100 args).run Try.prog w = .ok (.enter 100 args) w := enters_of Try.func100 (by kernel_rfl) rfl
set_option maxHeartbeats 1000000 in
theorem cInv (b : Nat) (r c : Int) (a : Option Addr) (n cp : Nat) (zs : List Int) (i j : Int) (w : World) (hB : Box3 w b (.int .i64 r) (.int .i64 c) (.slice a n cp)) (h : Rd w a n zs) (h8 : ∀ x ∈ zs, 0 ≤ x ∧ x ≤ 255)
    (h1 : 0 ≤ i) (h2 : i < r) (h3 : 0 ≤ j) (h4 : j < c) (hr : r ≤ 400) (hc : c ≤ 400) (hn : (n : Int) = r * c) :
    Calls Try.prog 100 #[.int .i64 i, .int .i64 j, .pointer (some ⟨b, 0, none⟩)] w fun e w' => e = .returned (.int .i64 (255 - pixV c zs i j)) ∧ Below w.heap.size w w' := by
  obtain ⟨p1, p2, p3, p4⟩ := pix_place h1 h2 h3 h4 hr hc hn
  obtain ⟨q1, q2⟩ := pix_bd h.1 h8 p3 p4
  have HH := Lib.hid h
  have HN := Lib.hid hn
  obtain ⟨b1, b2, b3, b4⟩ := hB
  clear h h8 hn p1 p2 p3 p4
  generalize hx : pixV c zs i j = x at q1 q2
  have HX := Lib.hid hx
  clear hx
  go_enter Try.func100, Try.ntmps100
  go_wp2_with fail
  refine (iPix r c a n cp zs i j _ (HH.out.below (by repeat' (first | (with_reducible exact Below.refl _ _) | (with_reducible assumption) | (with_reducible refine Below.alloc ?_ ?_ _) | (with_reducible refine Below.setCell ?_ ?_ _) | (with_reducible refine Below.drew ?_) | (with_reducible refine below_drewN ?_ _) | (with_reducible refine below_via (by with_reducible assumption) ?_ ?_) | go_size))) h1 h2 h3 h4 hr hc HN.out).mono ?_
  rintro e w1 ⟨rfl, hb1⟩
  have hz1 := hb1.size
  rw [HX.out]
  go_wp2
  go_returns
  exact ⟨rfl, by repeat' (first | (with_reducible exact Below.refl _ _) | (with_reducible assumption) | (with_reducible refine Below.alloc ?_ ?_ _) | (with_reducible refine Below.setCell ?_ ?_ _) | (with_reducible refine Below.drew ?_) | (with_reducible refine below_drewN ?_ _) | (with_reducible refine below_via (by with_reducible assumption) ?_ ?_) | go_size)⟩
set_option maxHeartbeats 2000000 in
theorem iInvertRaster_no (r c : Int) (a : Option Addr) (n cp : Nat) (zs : List Int) (w : World) (h : Rd w a n zs) (hn : n ≤ 1048576) (hr : rasterB r c n zs = false) :
    Calls Try.prog 54 #[.agg #[.int .i64 r, .int .i64 c, .slice a n cp]] w (ResG w 0 0 [] 1) := by
  have HH := Lib.hid h
  clear h
  have bO := Lib.hid (Out3.new (w.alloc (.cells #[.int .i64 r, .int .i64 c, .slice a n cp] 26)) 26)
  go_enter Try.func54, Try.ntmps54
  go_wp2_with fail
  refine (iIsRaster r c a n cp zs _ (HH.out.below (by repeat' (first | (with_reducible exact Below.refl _ _) | (with_reducible assumption) | (with_reducible refine Below.alloc ?_ ?_ _) | (with_reducible refine Below.setCell ?_ ?_ _) | (with_reducible refine Below.drew ?_) | (with_reducible refine below_drewN ?_ _) | (with_reducible refine below_via (by with_reducible assumption) ?_ ?_) | go_size))) hn).mono ?_
  rintro e w1 ⟨rfl, hb1⟩
  have hz1 := hb1.size; try simp at hz1
  have o1 := bO.out.keep (by repeat' (first | (with_reducible exact Below.refl _ _) | (with_reducible assumption) | (with_reducible refine Below.alloc ?_ ?_ _) | (with_reducible refine Below.setCell ?_ ?_ _) | (with_reducible refine Below.drew ?_) | (with_reducible refine below_drewN ?_ _) | (with_reducible refine below_via (by with_reducible assumption) ?_ ?_) | go_size) : Below _ _ w1)
  simp only [World.size_alloc] at o1
  obtain ⟨o2, o3, o4, o5, o6, o7, o8⟩ := o1
  rw [hr]
  go_wp2
  refine bodyPost_ret (v := .tuple #[.agg #[.int .i64 0, .int .i64 0, .slice none 0 0], .int .i64 1]) (by simp [results, Try.results54, go_sem, o3, o4, o5]) rfl ?_
  exact ⟨none, 0, rfl, World.ownsRow_nil _ _ _ _, by repeat' (first | (with_reducible exact Below.refl _ _) | (with_reducible assumption) | (with_reducible refine Below.alloc ?_ ?_ _) | (with_reducible refine Below.setCell ?_ ?_ _) | (with_reducible refine Below.drew ?_) | (with_reducible refine below_drewN ?_ _) | (with_reducible refine below_via (by with_reducible assumption) ?_ ?_) | go_size), by simp⟩
set_option maxHeartbeats 4000000 in
theorem iInvertRaster_ok (r c : Int) (a : Option Addr) (n cp : Nat) (zs : List Int) (w : World) (h : Rd w a n zs) (hn : n ≤ 1048576) (hr : rasterB r c n zs = true) :
    Calls Try.prog 54 #[.agg #[.int .i64 r, .int .i64 c, .slice a n cp]] w (ResG w r c (zs.map fun x => 255 - x) 0) := by
  obtain ⟨r1, r2, r3, r4, r5, r6, r7, r8⟩ := rasterB_yes hr
  have hp : 0 < n := by omega
  obtain ⟨rows, rfl⟩ := Int.eq_ofNat_of_zero_le (show 0 ≤ r by omega)
  obtain ⟨cols, rfl⟩ := Int.eq_ofNat_of_zero_le (show 0 ≤ c by omega)
  have hnn : n = rows * cols := by
    have : ((rows : Int) * (cols : Int)) = ((rows * cols : Nat) : Int) := by simp
    omega
  have HN := Lib.hid hnn
  have HH := Lib.hid h
  have hl := Lib.hid h.1
  have H7 := Lib.hid r7
  have H8 := Lib.hid r8
  have HR := Lib.hid hr
  clear h r5 r6 r7 r8 hnn
  have bP := Lib.hid (Box3.new w 26 (.int .i64 (rows : Int)) (.int .i64 (cols : Int)) (.slice a n cp))
  have bO := Lib.hid (Out3.new (w.alloc (.cells #[.int .i64 (rows : Int), .int .i64 (cols : Int), .slice a n cp] 26)) 26)
  go_enter Try.func54, Try.ntmps54
  go_wp2_with fail
  refine (iIsRaster (rows : Int) (cols : Int) a n cp zs _ (HH.out.below (by repeat' (first | (with_reducible exact Below.refl _ _) | (with_reducible assumption) | (with_reducible refine Below.alloc ?_ ?_ _) | (with_reducible refine Below.setCell ?_ ?_ _) | (with_reducible refine Below.drew ?_) | (with_reducible refine below_drewN ?_ _) | (with_reducible refine below_via (by with_reducible assumption) ?_ ?_) | go_size))) hn).mono ?_
  rintro e w1 ⟨rfl, hb1⟩
  have hz1 := hb1.size; try simp at hz1
  obtain ⟨_, _, _, _⟩ := (bP.out.keep (by repeat' (first | (with_reducible exact Below.refl _ _) | (with_reducible assumption) | (with_reducible refine Below.alloc ?_ ?_ _) | (with_reducible refine Below.setCell ?_ ?_ _) | (with_reducible refine Below.drew ?_) | (with_reducible refine below_drewN ?_ _) | (with_reducible refine below_via (by with_reducible assumption) ?_ ?_) | go_size)) : Box3 w1 _ _ _ _)
  rw [hr]
  clear hr
  have HF : Hid (Tells 100 #[.pointer (some ⟨w.heap.size, 0, none⟩)] rows cols (fun i j => 255 - pixV (cols : Int) zs (i : Int) (j : Int)) w1) := by
    intro i j W hi hj hW
    have hB3 : Box3 W w.heap.size (.int .i64 (rows : Int)) (.int .i64 (cols : Int)) (.slice a n cp) := bP.out.keep (by repeat' (first | (with_reducible exact Below.refl _ _) | (with_reducible assumption) | (with_reducible refine Below.alloc ?_ ?_ _) | (with_reducible refine Below.setCell ?_ ?_ _) | (with_reducible refine Below.drew ?_) | (with_reducible refine below_drewN ?_ _) | (with_reducible refine below_via (by with_reducible assumption) ?_ ?_) | go_size))
    have hR3 : Rd W a n zs := HH.out.below (by repeat' (first | (with_reducible exact Below.refl _ _) | (with_reducible assumption) | (with_reducible refine Below.alloc ?_ ?_ _) | (with_reducible refine Below.setCell ?_ ?_ _) | (with_reducible refine Below.drew ?_) | (with_reducible refine below_drewN ?_ _) | (with_reducible refine below_via (by with_reducible assumption) ?_ ?_) | go_size))
    exact cInv w.heap.size rows cols a n cp zs i j W hB3 hR3 H8.out (by omega) (by omega) (by omega) (by omega) (by omega) (by omega) H7.out
  have HE : Hid (rastL cols (fun i j => 255 - pixV (cols : Int) zs (i : Int) (j : Int)) (rows * cols) = zs.map fun x => 255 - x) := rastL_map rows cols zs (fun x => 255 - x) (hl.out.trans HN.out) (by omega)
  go_wp2_with fail
  refine (iRaster 100 #[.pointer (some ⟨w.heap.size, 0, none⟩)] rows cols (fun i j => 255 - pixV (cols : Int) zs (i : Int) (j : Int)) _ entInv HF.out (by omega) (by omega) (by omega) (by omega)).mono ?_
  rintro e w2 h2
  rw [HE.out] at h2
  obtain ⟨av, cv, rfl, ho, hb2⟩ := h2
  have hz2 := hb2.size
  have o1 := bO.out.keep (by repeat' (first | (with_reducible exact Below.refl _ _) | (with_reducible assumption) | (with_reducible refine Below.alloc ?_ ?_ _) | (with_reducible refine Below.setCell ?_ ?_ _) | (with_reducible refine Below.drew ?_) | (with_reducible refine below_drewN ?_ _) | (with_reducible refine below_via (by with_reducible assumption) ?_ ?_) | go_size) : Below _ _ w2)
  simp only [World.size_alloc] at o1
  obtain ⟨o2, o3, o4, o5, o6, o7, o8⟩ := o1
  go_wp2
  refine bodyPost_ret (v := .tuple #[.agg #[.int .i64 rows, .int .i64 cols, .slice av (zs.map fun x => 255 - x).length cv], .int .i64 0]) (by simp [results, Try.results54, go_sem, o3, o4, o5]) rfl ?_
  have ho1 : w2.ownsRow (w.heap.size + 2) 2 1 (.slice av (zs.map fun x => 255 - x).length cv) (zs.map fun x => 255 - x).length ((zs.map fun x => 255 - x).map (Value.int .i64)) := own_mono ho (by omega)
  exact ⟨av, cv, rfl, own_mono (own_far (own_far (own_far ho1 (by simp) _) (by simp) _) (by simp) _) (by omega), by repeat' (first | (with_reducible exact Below.refl _ _) | (with_reducible assumption) | (with_reducible refine Below.alloc ?_ ?_ _) | (with_reducible refine Below.setCell ?_ ?_ _) | (with_reducible refine Below.drew ?_) | (with_reducible refine below_drewN ?_ _) | (with_reducible refine below_via (by with_reducible assumption) ?_ ?_) | go_size), by simp [hl.out]; exact hn⟩
end Go.Proofs.Ytdbecdgiafjkfaa
