/-
  DERIVED. SampleGrid where it refuses: spec and impl.
-/
import Derived.Test.YtfiddbmjgncabaaBox
import Derived.Test.YtfiddbmjgncabaaPrint6
import Derived.Conc.MuLone
namespace Go.Proofs.Ytfiddbmjgncabaa
open Go.RowKit
set_option linter.unusedVariables false
/-- The boxes of SampleGrid and PrintGrid. -/
theorem smp_new (x y z : Value) (p t q u d l : Int) (t1 t2 t3 : TypeId) (w : World) : ∀ wr, Below (w.heap.size + 3) (((w.alloc (.cells #[x, y, z] t1)).alloc (.cells #[.int .i64 p, .int .i64 t, .int .i64 q, .int .i64 u, .int .i64 d, .int .i64 l] t2)).alloc (.cells #[.int .i64 0, .int .i64 0, .slice none 0 0] t3)) wr →
    Box3 wr w.heap.size x y z ∧ Box6 wr (w.heap.size + 1) p t q u d l ∧ Out3 wr (w.heap.size + 1 + 1) ∧ Below w.heap.size w wr ∧ w.heap.size + 3 ≤ wr.heap.size := by
  intro wr hb
  have b0 := Box3.new w t1 x y z
  have b1 := Box6.new (w.alloc (.cells #[x, y, z] t1)) t2 p t q u d l
  have b2 := Out3.new ((w.alloc (.cells #[x, y, z] t1)).alloc (.cells #[.int .i64 p, .int .i64 t, .int .i64 q, .int .i64 u, .int .i64 d, .int .i64 l] t2)) t3
  simp only [World.size_alloc] at b1 b2
  have hs := hb.size
  simp at hs
  have e1 : Below w.heap.size w (w.alloc (.cells #[x, y, z] t1)) := (Below.refl _ _).alloc (Nat.le_refl _) _
  have e2 : Below (w.heap.size + 1) (w.alloc (.cells #[x, y, z] t1)) ((w.alloc (.cells #[x, y, z] t1)).alloc (.cells #[.int .i64 p, .int .i64 t, .int .i64 q, .int .i64 u, .int .i64 d, .int .i64 l] t2)) := (Below.refl _ _).alloc (by simp) _
  have e3 : Below (w.heap.size + 2) ((w.alloc (.cells #[x, y, z] t1)).alloc (.cells #[.int .i64 p, .int .i64 t, .int .i64 q, .int .i64 u, .int .i64 d, .int .i64 l] t2)) (((w.alloc (.cells #[x, y, z] t1)).alloc (.cells #[.int .i64 p, .int .i64 t, .int .i64 q, .int .i64 u, .int .i64 d, .int .i64 l] t2)).alloc (.cells #[.int .i64 0, .int .i64 0, .slice none 0 0] t3)) := (Below.refl _ _).alloc (by simp) _
  have f3 : Below (w.heap.size + 2) ((w.alloc (.cells #[x, y, z] t1)).alloc (.cells #[.int .i64 p, .int .i64 t, .int .i64 q, .int .i64 u, .int .i64 d, .int .i64 l] t2)) wr := e3.trans (hb.mono (by omega))
  have f2 : Below (w.heap.size + 1) (w.alloc (.cells #[x, y, z] t1)) wr := e2.trans (f3.mono (by omega))
  have f1 : Below w.heap.size w wr := e1.trans (f2.mono (by omega))
  refine ⟨b0.belowP f2 (by omega), b1.below f3 (by omega), ?_, f1, hs⟩
  obtain ⟨q0, q1, q2, q3, q4, q5, q6⟩ := b2
  exact ⟨by omega, (hb.cell (p := ⟨_, _, none⟩) (by simp)).trans q1, (hb.cell (p := ⟨_, _, none⟩) (by simp)).trans q2, (hb.cell (p := ⟨_, _, none⟩) (by simp)).trans q3, (hb.frozen (p := ⟨_, _, none⟩) (by simp)).trans q4, (hb.frozen (p := ⟨_, _, none⟩) (by simp)).trans q5, (hb.frozen (p := ⟨_, _, none⟩) (by simp)).trans q6⟩
theorem psE_cases (p t q u d l rows cols : Int) : (psB p t q u d l rows cols = false ∧ (psE p t q u d l rows cols = 1 ∨ psE p t q u d l rows cols = 2 ∨ psE p t q u d l rows cols = 3)) ∨ (psB p t q u d l rows cols = true ∧ psE p t q u d l rows cols = 0) := by
  unfold psB psE selI
  cases printB p t q u d l <;> cases (inB rows 1 400 && inB cols 1 400) <;> cases sizeB (sideV rows q t) (sideV cols q p) <;> simp
set_option maxHeartbeats 4000000 in
theorem sSamp_no1 (r c : Int) (a : Option Addr) (n cp : Nat) (zs : List Int) (rows cols p t q u d l limit : Int) (w : World) (h : Rd w a n zs) (hn : n ≤ 1048576) (hr : rasterB r c n zs = false) :
    Calls Try.prog 13 #[.agg #[.int .i64 r, .int .i64 c, .slice a n cp], .int .i64 rows, .int .i64 cols, .agg #[.int .i64 p, .int .i64 t, .int .i64 q, .int .i64 u, .int .i64 d, .int .i64 l], .int .i64 limit] w (ResG w 0 0 [] 1) := by
  have HH := Lib.hid h
  clear h
  have HN0 := Lib.hid (smp_new (.int .i64 r) (.int .i64 c) (.slice a n cp) p t q u d l 32 34 29 w)
  go_enter Try.func13, Try.ntmps13
  go_wp2_with fail
  obtain ⟨W, hW⟩ : ∃ W : World, W = (((w.alloc (.cells #[.int .i64 r, .int .i64 c, .slice a n cp] 32)).alloc (.cells #[.int .i64 p, .int .i64 t, .int .i64 q, .int .i64 u, .int .i64 d, .int .i64 l] 34)).alloc (.cells #[.int .i64 0, .int .i64 0, .slice none 0 0] 29)) := ⟨_, rfl⟩
  have HSZ : Hid (W.heap.size = w.heap.size + 3) := by unfold Hid; rw [hW]; simp
  rw [← hW] at HN0
  rw [← hW]
  have HK : Hid (∀ wr, Below W.heap.size W wr → Box3 wr w.heap.size (.int .i64 r) (.int .i64 c) (.slice a n cp) ∧ Box6 wr (w.heap.size + 1) p t q u d l ∧ Out3 wr (w.heap.size + 1 + 1) ∧ Below w.heap.size w wr ∧ w.heap.size + 3 ≤ wr.heap.size) := fun wr h => HN0.out wr (h.mono (by rw [HSZ.out]; exact Nat.le_refl _))
  have hbW := (HK.out W (Below.refl _ _)).2.2.2.1
  have hwW := (HK.out W (Below.refl _ _)).2.2.2.2
  clear hW HN0
  refine (sIsRaster r c a n cp zs _ (HH.out.below (by repeat' (first | (with_reducible exact Below.refl _ _) | (with_reducible assumption) | (with_reducible refine Below.alloc ?_ ?_ _) | (with_reducible refine Below.setCell ?_ ?_ _) | (with_reducible refine Below.drew ?_) | (with_reducible refine below_drewN ?_ _) | (with_reducible refine below_via (by with_reducible assumption) ?_ ?_) | go_size))) hn).mono ?_
  rintro e w1 ⟨rfl, hb1⟩
  have hz1 := hb1.size
  rw [hr]
  obtain ⟨kp, kq, ko, hbw10, hzw10⟩ := HK.out w1 (by repeat' (first | (with_reducible exact Below.refl _ _) | (with_reducible assumption) | (with_reducible refine Below.alloc ?_ ?_ _) | (with_reducible refine Below.setCell ?_ ?_ _) | (with_reducible refine Below.drew ?_) | (with_reducible refine below_drewN ?_ _) | (with_reducible refine below_via (by with_reducible assumption) ?_ ?_) | go_size))
  obtain ⟨_, _, _, _⟩ := kp
  obtain ⟨_, _, _, _, _, _, _⟩ := kq
  obtain ⟨_, o3, o4, o5, o6, o7, o8⟩ := ko
  go_wp2
  refine bodyPost_ret (v := .tuple #[.agg #[.int .i64 0, .int .i64 0, .slice none 0 0], .int .i64 1]) (by simp [results, Try.results13, go_sem, o3, o4, o5]) rfl ?_
  exact ⟨none, 0, rfl, World.ownsRow_nil _ _ _ _, by repeat' (first | (with_reducible exact Below.refl _ _) | (with_reducible assumption) | (with_reducible refine Below.alloc ?_ ?_ _) | (with_reducible refine Below.setCell ?_ ?_ _) | (with_reducible refine Below.drew ?_) | (with_reducible refine below_drewN ?_ _) | (with_reducible refine below_via (by with_reducible assumption) ?_ ?_) | go_size), by simp⟩
set_option maxHeartbeats 4000000 in
theorem sSamp_no2 (r c : Int) (a : Option Addr) (n cp : Nat) (zs : List Int) (rows cols p t q u d l limit : Int) (w : World) (h : Rd w a n zs) (hn : n ≤ 1048576) (hr : rasterB r c n zs = true) (hp : printB p t q u d l = false) :
    Calls Try.prog 13 #[.agg #[.int .i64 r, .int .i64 c, .slice a n cp], .int .i64 rows, .int .i64 cols, .agg #[.int .i64 p, .int .i64 t, .int .i64 q, .int .i64 u, .int .i64 d, .int .i64 l], .int .i64 limit] w (ResG w 0 0 [] 1) := by
  have HH := Lib.hid h
  clear h
  have HN0 := Lib.hid (smp_new (.int .i64 r) (.int .i64 c) (.slice a n cp) p t q u d l 32 34 29 w)
  go_enter Try.func13, Try.ntmps13
  go_wp2_with fail
  obtain ⟨W, hW⟩ : ∃ W : World, W = (((w.alloc (.cells #[.int .i64 r, .int .i64 c, .slice a n cp] 32)).alloc (.cells #[.int .i64 p, .int .i64 t, .int .i64 q, .int .i64 u, .int .i64 d, .int .i64 l] 34)).alloc (.cells #[.int .i64 0, .int .i64 0, .slice none 0 0] 29)) := ⟨_, rfl⟩
  have HSZ : Hid (W.heap.size = w.heap.size + 3) := by unfold Hid; rw [hW]; simp
  rw [← hW] at HN0
  rw [← hW]
  have HK : Hid (∀ wr, Below W.heap.size W wr → Box3 wr w.heap.size (.int .i64 r) (.int .i64 c) (.slice a n cp) ∧ Box6 wr (w.heap.size + 1) p t q u d l ∧ Out3 wr (w.heap.size + 1 + 1) ∧ Below w.heap.size w wr ∧ w.heap.size + 3 ≤ wr.heap.size) := fun wr h => HN0.out wr (h.mono (by rw [HSZ.out]; exact Nat.le_refl _))
  have hbW := (HK.out W (Below.refl _ _)).2.2.2.1
  have hwW := (HK.out W (Below.refl _ _)).2.2.2.2
  clear hW HN0
  refine (sIsRaster r c a n cp zs _ (HH.out.below (by repeat' (first | (with_reducible exact Below.refl _ _) | (with_reducible assumption) | (with_reducible refine Below.alloc ?_ ?_ _) | (with_reducible refine Below.setCell ?_ ?_ _) | (with_reducible refine Below.drew ?_) | (with_reducible refine below_drewN ?_ _) | (with_reducible refine below_via (by with_reducible assumption) ?_ ?_) | go_size))) hn).mono ?_
  rintro e w1 ⟨rfl, hb1⟩
  have hz1 := hb1.size
  rw [hr]
  obtain ⟨kp, kq, ko, -, hzw10⟩ := HK.out w1 (by repeat' (first | (with_reducible exact Below.refl _ _) | (with_reducible assumption) | (with_reducible refine Below.alloc ?_ ?_ _) | (with_reducible refine Below.setCell ?_ ?_ _) | (with_reducible refine Below.drew ?_) | (with_reducible refine below_drewN ?_ _) | (with_reducible refine below_via (by with_reducible assumption) ?_ ?_) | go_size))
  obtain ⟨_, _, _, _⟩ := kp
  obtain ⟨_, _, _, _, _, _, _⟩ := kq
  obtain ⟨_, o3, o4, o5, o6, o7, o8⟩ := ko
  go_wp2_with fail
  refine (sIsPrint p t q u d l _).mono ?_
  rintro e w2 ⟨rfl, hb2⟩
  have hz2 := hb2.size
  rw [hp]
  obtain ⟨kp, kq, ko, hbw20, hzw20⟩ := HK.out w2 (by repeat' (first | (with_reducible exact Below.refl _ _) | (with_reducible assumption) | (with_reducible refine Below.alloc ?_ ?_ _) | (with_reducible refine Below.setCell ?_ ?_ _) | (with_reducible refine Below.drew ?_) | (with_reducible refine below_drewN ?_ _) | (with_reducible refine below_via (by with_reducible assumption) ?_ ?_) | go_size))
  obtain ⟨_, _, _, _⟩ := kp
  obtain ⟨_, _, _, _, _, _, _⟩ := kq
  obtain ⟨_, o3, o4, o5, o6, o7, o8⟩ := ko
  go_wp2
  refine bodyPost_ret (v := .tuple #[.agg #[.int .i64 0, .int .i64 0, .slice none 0 0], .int .i64 1]) (by simp [results, Try.results13, go_sem, o3, o4, o5]) rfl ?_
  exact ⟨none, 0, rfl, World.ownsRow_nil _ _ _ _, by repeat' (first | (with_reducible exact Below.refl _ _) | (with_reducible assumption) | (with_reducible refine Below.alloc ?_ ?_ _) | (with_reducible refine Below.setCell ?_ ?_ _) | (with_reducible refine Below.drew ?_) | (with_reducible refine below_drewN ?_ _) | (with_reducible refine below_via (by with_reducible assumption) ?_ ?_) | go_size), by simp⟩
set_option maxHeartbeats 4000000 in
theorem sSamp_ps1 (r c : Int) (a : Option Addr) (n cp : Nat) (zs : List Int) (rows cols p t q u d l limit : Int) (w : World) (h : Rd w a n zs) (hn : n ≤ 1048576) (hr : rasterB r c n zs = true) (hp : printB p t q u d l = true) (hk : psE p t q u d l rows cols = 1) (T1 T2 : Int) (h1 : selI (psB p t q u d l rows cols) (sideV rows q t) 0 = T1) (h2 : selI (psB p t q u d l rows cols) (sideV cols q p) 0 = T2) :
    Calls Try.prog 13 #[.agg #[.int .i64 r, .int .i64 c, .slice a n cp], .int .i64 rows, .int .i64 cols, .agg #[.int .i64 p, .int .i64 t, .int .i64 q, .int .i64 u, .int .i64 d, .int .i64 l], .int .i64 limit] w (ResG w 0 0 [] 1) := by
  have HH := Lib.hid h
  clear h
  have e1 : selI (psB p t q u d l rows cols) (sideV rows q t) 0 = T1 := h1
  have e2 : selI (psB p t q u d l rows cols) (sideV cols q p) 0 = T2 := h2
  have E1 := Lib.hid e1
  have E2 := Lib.hid e2
  have E3 := Lib.hid hk
  clear e1 e2 h1 h2 hk
  have HN0 := Lib.hid (smp_new (.int .i64 r) (.int .i64 c) (.slice a n cp) p t q u d l 32 34 29 w)
  go_enter Try.func13, Try.ntmps13
  go_wp2_with fail
  obtain ⟨W, hW⟩ : ∃ W : World, W = (((w.alloc (.cells #[.int .i64 r, .int .i64 c, .slice a n cp] 32)).alloc (.cells #[.int .i64 p, .int .i64 t, .int .i64 q, .int .i64 u, .int .i64 d, .int .i64 l] 34)).alloc (.cells #[.int .i64 0, .int .i64 0, .slice none 0 0] 29)) := ⟨_, rfl⟩
  have HSZ : Hid (W.heap.size = w.heap.size + 3) := by unfold Hid; rw [hW]; simp
  rw [← hW] at HN0
  rw [← hW]
  have HK : Hid (∀ wr, Below W.heap.size W wr → Box3 wr w.heap.size (.int .i64 r) (.int .i64 c) (.slice a n cp) ∧ Box6 wr (w.heap.size + 1) p t q u d l ∧ Out3 wr (w.heap.size + 1 + 1) ∧ Below w.heap.size w wr ∧ w.heap.size + 3 ≤ wr.heap.size) := fun wr h => HN0.out wr (h.mono (by rw [HSZ.out]; exact Nat.le_refl _))
  have hbW := (HK.out W (Below.refl _ _)).2.2.2.1
  have hwW := (HK.out W (Below.refl _ _)).2.2.2.2
  clear hW HN0
  refine (sIsRaster r c a n cp zs _ (HH.out.below (by repeat' (first | (with_reducible exact Below.refl _ _) | (with_reducible assumption) | (with_reducible refine Below.alloc ?_ ?_ _) | (with_reducible refine Below.setCell ?_ ?_ _) | (with_reducible refine Below.drew ?_) | (with_reducible refine below_drewN ?_ _) | (with_reducible refine below_via (by with_reducible assumption) ?_ ?_) | go_size))) hn).mono ?_
  rintro e w1 ⟨rfl, hb1⟩
  have hz1 := hb1.size
  rw [hr]
  obtain ⟨kp, kq, ko, -, hzw10⟩ := HK.out w1 (by repeat' (first | (with_reducible exact Below.refl _ _) | (with_reducible assumption) | (with_reducible refine Below.alloc ?_ ?_ _) | (with_reducible refine Below.setCell ?_ ?_ _) | (with_reducible refine Below.drew ?_) | (with_reducible refine below_drewN ?_ _) | (with_reducible refine below_via (by with_reducible assumption) ?_ ?_) | go_size))
  obtain ⟨_, _, _, _⟩ := kp
  obtain ⟨_, _, _, _, _, _, _⟩ := kq
  obtain ⟨_, o3, o4, o5, o6, o7, o8⟩ := ko
  go_wp2_with fail
  refine (sIsPrint p t q u d l _).mono ?_
  rintro e w2 ⟨rfl, hb2⟩
  have hz2 := hb2.size
  rw [hp]
  obtain ⟨kp, kq, ko, -, hzw20⟩ := HK.out w2 (by repeat' (first | (with_reducible exact Below.refl _ _) | (with_reducible assumption) | (with_reducible refine Below.alloc ?_ ?_ _) | (with_reducible refine Below.setCell ?_ ?_ _) | (with_reducible refine Below.drew ?_) | (with_reducible refine below_drewN ?_ _) | (with_reducible refine below_via (by with_reducible assumption) ?_ ?_) | go_size))
  obtain ⟨_, _, _, _⟩ := kp
  obtain ⟨_, _, _, _, _, _, _⟩ := kq
  obtain ⟨_, o3, o4, o5, o6, o7, o8⟩ := ko
  go_wp2_with fail
  refine (sPS rows cols p t q u d l _).mono ?_
  rw [E1.out, E2.out, E3.out]
  rintro e w3 ⟨rfl, hb3⟩
  have hz3 := hb3.size
  obtain ⟨kp, kq, ko, hbw30, hzw30⟩ := HK.out w3 (by repeat' (first | (with_reducible exact Below.refl _ _) | (with_reducible assumption) | (with_reducible refine Below.alloc ?_ ?_ _) | (with_reducible refine Below.setCell ?_ ?_ _) | (with_reducible refine Below.drew ?_) | (with_reducible refine below_drewN ?_ _) | (with_reducible refine below_via (by with_reducible assumption) ?_ ?_) | go_size))
  obtain ⟨_, _, _, _⟩ := kp
  obtain ⟨_, _, _, _, _, _, _⟩ := kq
  obtain ⟨_, o3, o4, o5, o6, o7, o8⟩ := ko
  go_wp2
  refine bodyPost_ret (v := .tuple #[.agg #[.int .i64 0, .int .i64 0, .slice none 0 0], .int .i64 1]) (by simp [results, Try.results13, go_sem, o3, o4, o5]) rfl ?_
  exact ⟨none, 0, rfl, World.ownsRow_nil _ _ _ _, by repeat' (first | (with_reducible exact Below.refl _ _) | (with_reducible assumption) | (with_reducible refine Below.alloc ?_ ?_ _) | (with_reducible refine Below.setCell ?_ ?_ _) | (with_reducible refine Below.drew ?_) | (with_reducible refine below_drewN ?_ _) | (with_reducible refine below_via (by with_reducible assumption) ?_ ?_) | go_size), by simp⟩
set_option maxHeartbeats 4000000 in
theorem sSamp_ps2 (r c : Int) (a : Option Addr) (n cp : Nat) (zs : List Int) (rows cols p t q u d l limit : Int) (w : World) (h : Rd w a n zs) (hn : n ≤ 1048576) (hr : rasterB r c n zs = true) (hp : printB p t q u d l = true) (hk : psE p t q u d l rows cols = 2) (T1 T2 : Int) (h1 : selI (psB p t q u d l rows cols) (sideV rows q t) 0 = T1) (h2 : selI (psB p t q u d l rows cols) (sideV cols q p) 0 = T2) :
    Calls Try.prog 13 #[.agg #[.int .i64 r, .int .i64 c, .slice a n cp], .int .i64 rows, .int .i64 cols, .agg #[.int .i64 p, .int .i64 t, .int .i64 q, .int .i64 u, .int .i64 d, .int .i64 l], .int .i64 limit] w (ResG w 0 0 [] 2) := by
  have HH := Lib.hid h
  clear h
  have e1 : selI (psB p t q u d l rows cols) (sideV rows q t) 0 = T1 := h1
  have e2 : selI (psB p t q u d l rows cols) (sideV cols q p) 0 = T2 := h2
  have E1 := Lib.hid e1
  have E2 := Lib.hid e2
  have E3 := Lib.hid hk
  clear e1 e2 h1 h2 hk
  have HN0 := Lib.hid (smp_new (.int .i64 r) (.int .i64 c) (.slice a n cp) p t q u d l 32 34 29 w)
  go_enter Try.func13, Try.ntmps13
  go_wp2_with fail
  obtain ⟨W, hW⟩ : ∃ W : World, W = (((w.alloc (.cells #[.int .i64 r, .int .i64 c, .slice a n cp] 32)).alloc (.cells #[.int .i64 p, .int .i64 t, .int .i64 q, .int .i64 u, .int .i64 d, .int .i64 l] 34)).alloc (.cells #[.int .i64 0, .int .i64 0, .slice none 0 0] 29)) := ⟨_, rfl⟩
  have HSZ : Hid (W.heap.size = w.heap.size + 3) := by unfold Hid; rw [hW]; simp
  rw [← hW] at HN0
  rw [← hW]
  have HK : Hid (∀ wr, Below W.heap.size W wr → Box3 wr w.heap.size (.int .i64 r) (.int .i64 c) (.slice a n cp) ∧ Box6 wr (w.heap.size + 1) p t q u d l ∧ Out3 wr (w.heap.size + 1 + 1) ∧ Below w.heap.size w wr ∧ w.heap.size + 3 ≤ wr.heap.size) := fun wr h => HN0.out wr (h.mono (by rw [HSZ.out]; exact Nat.le_refl _))
  have hbW := (HK.out W (Below.refl _ _)).2.2.2.1
  have hwW := (HK.out W (Below.refl _ _)).2.2.2.2
  clear hW HN0
  refine (sIsRaster r c a n cp zs _ (HH.out.below (by repeat' (first | (with_reducible exact Below.refl _ _) | (with_reducible assumption) | (with_reducible refine Below.alloc ?_ ?_ _) | (with_reducible refine Below.setCell ?_ ?_ _) | (with_reducible refine Below.drew ?_) | (with_reducible refine below_drewN ?_ _) | (with_reducible refine below_via (by with_reducible assumption) ?_ ?_) | go_size))) hn).mono ?_
  rintro e w1 ⟨rfl, hb1⟩
  have hz1 := hb1.size
  rw [hr]
  obtain ⟨kp, kq, ko, -, hzw10⟩ := HK.out w1 (by repeat' (first | (with_reducible exact Below.refl _ _) | (with_reducible assumption) | (with_reducible refine Below.alloc ?_ ?_ _) | (with_reducible refine Below.setCell ?_ ?_ _) | (with_reducible refine Below.drew ?_) | (with_reducible refine below_drewN ?_ _) | (with_reducible refine below_via (by with_reducible assumption) ?_ ?_) | go_size))
  obtain ⟨_, _, _, _⟩ := kp
  obtain ⟨_, _, _, _, _, _, _⟩ := kq
  obtain ⟨_, o3, o4, o5, o6, o7, o8⟩ := ko
  go_wp2_with fail
  refine (sIsPrint p t q u d l _).mono ?_
  rintro e w2 ⟨rfl, hb2⟩
  have hz2 := hb2.size
  rw [hp]
  obtain ⟨kp, kq, ko, -, hzw20⟩ := HK.out w2 (by repeat' (first | (with_reducible exact Below.refl _ _) | (with_reducible assumption) | (with_reducible refine Below.alloc ?_ ?_ _) | (with_reducible refine Below.setCell ?_ ?_ _) | (with_reducible refine Below.drew ?_) | (with_reducible refine below_drewN ?_ _) | (with_reducible refine below_via (by with_reducible assumption) ?_ ?_) | go_size))
  obtain ⟨_, _, _, _⟩ := kp
  obtain ⟨_, _, _, _, _, _, _⟩ := kq
  obtain ⟨_, o3, o4, o5, o6, o7, o8⟩ := ko
  go_wp2_with fail
  refine (sPS rows cols p t q u d l _).mono ?_
  rw [E1.out, E2.out, E3.out]
  rintro e w3 ⟨rfl, hb3⟩
  have hz3 := hb3.size
  obtain ⟨kp, kq, ko, hbw30, hzw30⟩ := HK.out w3 (by repeat' (first | (with_reducible exact Below.refl _ _) | (with_reducible assumption) | (with_reducible refine Below.alloc ?_ ?_ _) | (with_reducible refine Below.setCell ?_ ?_ _) | (with_reducible refine Below.drew ?_) | (with_reducible refine below_drewN ?_ _) | (with_reducible refine below_via (by with_reducible assumption) ?_ ?_) | go_size))
  obtain ⟨_, _, _, _⟩ := kp
  obtain ⟨_, _, _, _, _, _, _⟩ := kq
  obtain ⟨_, o3, o4, o5, o6, o7, o8⟩ := ko
  go_wp2
  refine bodyPost_ret (v := .tuple #[.agg #[.int .i64 0, .int .i64 0, .slice none 0 0], .int .i64 2]) (by simp [results, Try.results13, go_sem, o3, o4, o5]) rfl ?_
  exact ⟨none, 0, rfl, World.ownsRow_nil _ _ _ _, by repeat' (first | (with_reducible exact Below.refl _ _) | (with_reducible assumption) | (with_reducible refine Below.alloc ?_ ?_ _) | (with_reducible refine Below.setCell ?_ ?_ _) | (with_reducible refine Below.drew ?_) | (with_reducible refine below_drewN ?_ _) | (with_reducible refine below_via (by with_reducible assumption) ?_ ?_) | go_size), by simp⟩
set_option maxHeartbeats 4000000 in
theorem sSamp_ps3 (r c : Int) (a : Option Addr) (n cp : Nat) (zs : List Int) (rows cols p t q u d l limit : Int) (w : World) (h : Rd w a n zs) (hn : n ≤ 1048576) (hr : rasterB r c n zs = true) (hp : printB p t q u d l = true) (hk : psE p t q u d l rows cols = 3) (T1 T2 : Int) (h1 : selI (psB p t q u d l rows cols) (sideV rows q t) 0 = T1) (h2 : selI (psB p t q u d l rows cols) (sideV cols q p) 0 = T2) :
    Calls Try.prog 13 #[.agg #[.int .i64 r, .int .i64 c, .slice a n cp], .int .i64 rows, .int .i64 cols, .agg #[.int .i64 p, .int .i64 t, .int .i64 q, .int .i64 u, .int .i64 d, .int .i64 l], .int .i64 limit] w (ResG w 0 0 [] 3) := by
  have HH := Lib.hid h
  clear h
  have e1 : selI (psB p t q u d l rows cols) (sideV rows q t) 0 = T1 := h1
  have e2 : selI (psB p t q u d l rows cols) (sideV cols q p) 0 = T2 := h2
  have E1 := Lib.hid e1
  have E2 := Lib.hid e2
  have E3 := Lib.hid hk
  clear e1 e2 h1 h2 hk
  have HN0 := Lib.hid (smp_new (.int .i64 r) (.int .i64 c) (.slice a n cp) p t q u d l 32 34 29 w)
  go_enter Try.func13, Try.ntmps13
  go_wp2_with fail
  obtain ⟨W, hW⟩ : ∃ W : World, W = (((w.alloc (.cells #[.int .i64 r, .int .i64 c, .slice a n cp] 32)).alloc (.cells #[.int .i64 p, .int .i64 t, .int .i64 q, .int .i64 u, .int .i64 d, .int .i64 l] 34)).alloc (.cells #[.int .i64 0, .int .i64 0, .slice none 0 0] 29)) := ⟨_, rfl⟩
  have HSZ : Hid (W.heap.size = w.heap.size + 3) := by unfold Hid; rw [hW]; simp
  rw [← hW] at HN0
  rw [← hW]
  have HK : Hid (∀ wr, Below W.heap.size W wr → Box3 wr w.heap.size (.int .i64 r) (.int .i64 c) (.slice a n cp) ∧ Box6 wr (w.heap.size + 1) p t q u d l ∧ Out3 wr (w.heap.size + 1 + 1) ∧ Below w.heap.size w wr ∧ w.heap.size + 3 ≤ wr.heap.size) := fun wr h => HN0.out wr (h.mono (by rw [HSZ.out]; exact Nat.le_refl _))
  have hbW := (HK.out W (Below.refl _ _)).2.2.2.1
  have hwW := (HK.out W (Below.refl _ _)).2.2.2.2
  clear hW HN0
  refine (sIsRaster r c a n cp zs _ (HH.out.below (by repeat' (first | (with_reducible exact Below.refl _ _) | (with_reducible assumption) | (with_reducible refine Below.alloc ?_ ?_ _) | (with_reducible refine Below.setCell ?_ ?_ _) | (with_reducible refine Below.drew ?_) | (with_reducible refine below_drewN ?_ _) | (with_reducible refine below_via (by with_reducible assumption) ?_ ?_) | go_size))) hn).mono ?_
  rintro e w1 ⟨rfl, hb1⟩
  have hz1 := hb1.size
  rw [hr]
  obtain ⟨kp, kq, ko, -, hzw10⟩ := HK.out w1 (by repeat' (first | (with_reducible exact Below.refl _ _) | (with_reducible assumption) | (with_reducible refine Below.alloc ?_ ?_ _) | (with_reducible refine Below.setCell ?_ ?_ _) | (with_reducible refine Below.drew ?_) | (with_reducible refine below_drewN ?_ _) | (with_reducible refine below_via (by with_reducible assumption) ?_ ?_) | go_size))
  obtain ⟨_, _, _, _⟩ := kp
  obtain ⟨_, _, _, _, _, _, _⟩ := kq
  obtain ⟨_, o3, o4, o5, o6, o7, o8⟩ := ko
  go_wp2_with fail
  refine (sIsPrint p t q u d l _).mono ?_
  rintro e w2 ⟨rfl, hb2⟩
  have hz2 := hb2.size
  rw [hp]
  obtain ⟨kp, kq, ko, -, hzw20⟩ := HK.out w2 (by repeat' (first | (with_reducible exact Below.refl _ _) | (with_reducible assumption) | (with_reducible refine Below.alloc ?_ ?_ _) | (with_reducible refine Below.setCell ?_ ?_ _) | (with_reducible refine Below.drew ?_) | (with_reducible refine below_drewN ?_ _) | (with_reducible refine below_via (by with_reducible assumption) ?_ ?_) | go_size))
  obtain ⟨_, _, _, _⟩ := kp
  obtain ⟨_, _, _, _, _, _, _⟩ := kq
  obtain ⟨_, o3, o4, o5, o6, o7, o8⟩ := ko
  go_wp2_with fail
  refine (sPS rows cols p t q u d l _).mono ?_
  rw [E1.out, E2.out, E3.out]
  rintro e w3 ⟨rfl, hb3⟩
  have hz3 := hb3.size
  obtain ⟨kp, kq, ko, hbw30, hzw30⟩ := HK.out w3 (by repeat' (first | (with_reducible exact Below.refl _ _) | (with_reducible assumption) | (with_reducible refine Below.alloc ?_ ?_ _) | (with_reducible refine Below.setCell ?_ ?_ _) | (with_reducible refine Below.drew ?_) | (with_reducible refine below_drewN ?_ _) | (with_reducible refine below_via (by with_reducible assumption) ?_ ?_) | go_size))
  obtain ⟨_, _, _, _⟩ := kp
  obtain ⟨_, _, _, _, _, _, _⟩ := kq
  obtain ⟨_, o3, o4, o5, o6, o7, o8⟩ := ko
  go_wp2
  refine bodyPost_ret (v := .tuple #[.agg #[.int .i64 0, .int .i64 0, .slice none 0 0], .int .i64 3]) (by simp [results, Try.results13, go_sem, o3, o4, o5]) rfl ?_
  exact ⟨none, 0, rfl, World.ownsRow_nil _ _ _ _, by repeat' (first | (with_reducible exact Below.refl _ _) | (with_reducible assumption) | (with_reducible refine Below.alloc ?_ ?_ _) | (with_reducible refine Below.setCell ?_ ?_ _) | (with_reducible refine Below.drew ?_) | (with_reducible refine below_drewN ?_ _) | (with_reducible refine below_via (by with_reducible assumption) ?_ ?_) | go_size), by simp⟩
set_option maxHeartbeats 4000000 in
theorem sSamp_st1 (r c : Int) (a : Option Addr) (n cp : Nat) (zs : List Int) (rows cols p t q u d l limit : Int) (w : World) (h : Rd w a n zs) (hn : n ≤ 1048576) (hr : rasterB r c n zs = true) (hp : printB p t q u d l = true) (hk : psE p t q u d l rows cols = 0) (T1 T2 : Int) (h1 : selI (psB p t q u d l rows cols) (sideV rows q t) 0 = T1) (h2 : selI (psB p t q u d l rows cols) (sideV cols q p) 0 = T2) (hst : (r != T1) = true) :
    Calls Try.prog 13 #[.agg #[.int .i64 r, .int .i64 c, .slice a n cp], .int .i64 rows, .int .i64 cols, .agg #[.int .i64 p, .int .i64 t, .int .i64 q, .int .i64 u, .int .i64 d, .int .i64 l], .int .i64 limit] w (ResG w 0 0 [] 5) := by
  have HH := Lib.hid h
  clear h
  have e1 : selI (psB p t q u d l rows cols) (sideV rows q t) 0 = T1 := h1
  have e2 : selI (psB p t q u d l rows cols) (sideV cols q p) 0 = T2 := h2
  have E1 := Lib.hid e1
  have E2 := Lib.hid e2
  have E3 := Lib.hid hk
  clear e1 e2 h1 h2 hk
  have HN0 := Lib.hid (smp_new (.int .i64 r) (.int .i64 c) (.slice a n cp) p t q u d l 32 34 29 w)
  go_enter Try.func13, Try.ntmps13
  go_wp2_with fail
  obtain ⟨W, hW⟩ : ∃ W : World, W = (((w.alloc (.cells #[.int .i64 r, .int .i64 c, .slice a n cp] 32)).alloc (.cells #[.int .i64 p, .int .i64 t, .int .i64 q, .int .i64 u, .int .i64 d, .int .i64 l] 34)).alloc (.cells #[.int .i64 0, .int .i64 0, .slice none 0 0] 29)) := ⟨_, rfl⟩
  have HSZ : Hid (W.heap.size = w.heap.size + 3) := by unfold Hid; rw [hW]; simp
  rw [← hW] at HN0
  rw [← hW]
  have HK : Hid (∀ wr, Below W.heap.size W wr → Box3 wr w.heap.size (.int .i64 r) (.int .i64 c) (.slice a n cp) ∧ Box6 wr (w.heap.size + 1) p t q u d l ∧ Out3 wr (w.heap.size + 1 + 1) ∧ Below w.heap.size w wr ∧ w.heap.size + 3 ≤ wr.heap.size) := fun wr h => HN0.out wr (h.mono (by rw [HSZ.out]; exact Nat.le_refl _))
  have hbW := (HK.out W (Below.refl _ _)).2.2.2.1
  have hwW := (HK.out W (Below.refl _ _)).2.2.2.2
  clear hW HN0
  refine (sIsRaster r c a n cp zs _ (HH.out.below (by repeat' (first | (with_reducible exact Below.refl _ _) | (with_reducible assumption) | (with_reducible refine Below.alloc ?_ ?_ _) | (with_reducible refine Below.setCell ?_ ?_ _) | (with_reducible refine Below.drew ?_) | (with_reducible refine below_drewN ?_ _) | (with_reducible refine below_via (by with_reducible assumption) ?_ ?_) | go_size))) hn).mono ?_
  rintro e w1 ⟨rfl, hb1⟩
  have hz1 := hb1.size
  rw [hr]
  obtain ⟨kp, kq, ko, -, hzw10⟩ := HK.out w1 (by repeat' (first | (with_reducible exact Below.refl _ _) | (with_reducible assumption) | (with_reducible refine Below.alloc ?_ ?_ _) | (with_reducible refine Below.setCell ?_ ?_ _) | (with_reducible refine Below.drew ?_) | (with_reducible refine below_drewN ?_ _) | (with_reducible refine below_via (by with_reducible assumption) ?_ ?_) | go_size))
  obtain ⟨_, _, _, _⟩ := kp
  obtain ⟨_, _, _, _, _, _, _⟩ := kq
  obtain ⟨_, o3, o4, o5, o6, o7, o8⟩ := ko
  go_wp2_with fail
  refine (sIsPrint p t q u d l _).mono ?_
  rintro e w2 ⟨rfl, hb2⟩
  have hz2 := hb2.size
  rw [hp]
  obtain ⟨kp, kq, ko, -, hzw20⟩ := HK.out w2 (by repeat' (first | (with_reducible exact Below.refl _ _) | (with_reducible assumption) | (with_reducible refine Below.alloc ?_ ?_ _) | (with_reducible refine Below.setCell ?_ ?_ _) | (with_reducible refine Below.drew ?_) | (with_reducible refine below_drewN ?_ _) | (with_reducible refine below_via (by with_reducible assumption) ?_ ?_) | go_size))
  obtain ⟨_, _, _, _⟩ := kp
  obtain ⟨_, _, _, _, _, _, _⟩ := kq
  obtain ⟨_, o3, o4, o5, o6, o7, o8⟩ := ko
  go_wp2_with fail
  refine (sPS rows cols p t q u d l _).mono ?_
  rw [E1.out, E2.out, E3.out]
  rintro e w3 ⟨rfl, hb3⟩
  have hz3 := hb3.size
  obtain ⟨kp, kq, ko, hbw30, hzw30⟩ := HK.out w3 (by repeat' (first | (with_reducible exact Below.refl _ _) | (with_reducible assumption) | (with_reducible refine Below.alloc ?_ ?_ _) | (with_reducible refine Below.setCell ?_ ?_ _) | (with_reducible refine Below.drew ?_) | (with_reducible refine below_drewN ?_ _) | (with_reducible refine below_via (by with_reducible assumption) ?_ ?_) | go_size))
  obtain ⟨_, _, _, _⟩ := kp
  obtain ⟨_, _, _, _, _, _, _⟩ := kq
  obtain ⟨_, o3, o4, o5, o6, o7, o8⟩ := ko
  go_wp2
  refine bodyPost_ret (v := .tuple #[.agg #[.int .i64 0, .int .i64 0, .slice none 0 0], .int .i64 5]) (by simp [results, Try.results13, go_sem, o3, o4, o5]) rfl ?_
  exact ⟨none, 0, rfl, World.ownsRow_nil _ _ _ _, by repeat' (first | (with_reducible exact Below.refl _ _) | (with_reducible assumption) | (with_reducible refine Below.alloc ?_ ?_ _) | (with_reducible refine Below.setCell ?_ ?_ _) | (with_reducible refine Below.drew ?_) | (with_reducible refine below_drewN ?_ _) | (with_reducible refine below_via (by with_reducible assumption) ?_ ?_) | go_size), by simp⟩
set_option maxHeartbeats 4000000 in
theorem sSamp_st2 (r c : Int) (a : Option Addr) (n cp : Nat) (zs : List Int) (rows cols p t q u d l limit : Int) (w : World) (h : Rd w a n zs) (hn : n ≤ 1048576) (hr : rasterB r c n zs = true) (hp : printB p t q u d l = true) (hk : psE p t q u d l rows cols = 0) (T1 T2 : Int) (h1 : selI (psB p t q u d l rows cols) (sideV rows q t) 0 = T1) (h2 : selI (psB p t q u d l rows cols) (sideV cols q p) 0 = T2) (hst0 : (r != T1) = false) (hst : (c != T2) = true) :
    Calls Try.prog 13 #[.agg #[.int .i64 r, .int .i64 c, .slice a n cp], .int .i64 rows, .int .i64 cols, .agg #[.int .i64 p, .int .i64 t, .int .i64 q, .int .i64 u, .int .i64 d, .int .i64 l], .int .i64 limit] w (ResG w 0 0 [] 5) := by
  have HH := Lib.hid h
  clear h
  have e1 : selI (psB p t q u d l rows cols) (sideV rows q t) 0 = T1 := h1
  have e2 : selI (psB p t q u d l rows cols) (sideV cols q p) 0 = T2 := h2
  have E1 := Lib.hid e1
  have E2 := Lib.hid e2
  have E3 := Lib.hid hk
  clear e1 e2 h1 h2 hk
  have HN0 := Lib.hid (smp_new (.int .i64 r) (.int .i64 c) (.slice a n cp) p t q u d l 32 34 29 w)
  go_enter Try.func13, Try.ntmps13
  go_wp2_with fail
  obtain ⟨W, hW⟩ : ∃ W : World, W = (((w.alloc (.cells #[.int .i64 r, .int .i64 c, .slice a n cp] 32)).alloc (.cells #[.int .i64 p, .int .i64 t, .int .i64 q, .int .i64 u, .int .i64 d, .int .i64 l] 34)).alloc (.cells #[.int .i64 0, .int .i64 0, .slice none 0 0] 29)) := ⟨_, rfl⟩
  have HSZ : Hid (W.heap.size = w.heap.size + 3) := by unfold Hid; rw [hW]; simp
  rw [← hW] at HN0
  rw [← hW]
  have HK : Hid (∀ wr, Below W.heap.size W wr → Box3 wr w.heap.size (.int .i64 r) (.int .i64 c) (.slice a n cp) ∧ Box6 wr (w.heap.size + 1) p t q u d l ∧ Out3 wr (w.heap.size + 1 + 1) ∧ Below w.heap.size w wr ∧ w.heap.size + 3 ≤ wr.heap.size) := fun wr h => HN0.out wr (h.mono (by rw [HSZ.out]; exact Nat.le_refl _))
  have hbW := (HK.out W (Below.refl _ _)).2.2.2.1
  have hwW := (HK.out W (Below.refl _ _)).2.2.2.2
  clear hW HN0
  refine (sIsRaster r c a n cp zs _ (HH.out.below (by repeat' (first | (with_reducible exact Below.refl _ _) | (with_reducible assumption) | (with_reducible refine Below.alloc ?_ ?_ _) | (with_reducible refine Below.setCell ?_ ?_ _) | (with_reducible refine Below.drew ?_) | (with_reducible refine below_drewN ?_ _) | (with_reducible refine below_via (by with_reducible assumption) ?_ ?_) | go_size))) hn).mono ?_
  rintro e w1 ⟨rfl, hb1⟩
  have hz1 := hb1.size
  rw [hr]
  obtain ⟨kp, kq, ko, -, hzw10⟩ := HK.out w1 (by repeat' (first | (with_reducible exact Below.refl _ _) | (with_reducible assumption) | (with_reducible refine Below.alloc ?_ ?_ _) | (with_reducible refine Below.setCell ?_ ?_ _) | (with_reducible refine Below.drew ?_) | (with_reducible refine below_drewN ?_ _) | (with_reducible refine below_via (by with_reducible assumption) ?_ ?_) | go_size))
  obtain ⟨_, _, _, _⟩ := kp
  obtain ⟨_, _, _, _, _, _, _⟩ := kq
  obtain ⟨_, o3, o4, o5, o6, o7, o8⟩ := ko
  go_wp2_with fail
  refine (sIsPrint p t q u d l _).mono ?_
  rintro e w2 ⟨rfl, hb2⟩
  have hz2 := hb2.size
  rw [hp]
  obtain ⟨kp, kq, ko, -, hzw20⟩ := HK.out w2 (by repeat' (first | (with_reducible exact Below.refl _ _) | (with_reducible assumption) | (with_reducible refine Below.alloc ?_ ?_ _) | (with_reducible refine Below.setCell ?_ ?_ _) | (with_reducible refine Below.drew ?_) | (with_reducible refine below_drewN ?_ _) | (with_reducible refine below_via (by with_reducible assumption) ?_ ?_) | go_size))
  obtain ⟨_, _, _, _⟩ := kp
  obtain ⟨_, _, _, _, _, _, _⟩ := kq
  obtain ⟨_, o3, o4, o5, o6, o7, o8⟩ := ko
  go_wp2_with fail
  refine (sPS rows cols p t q u d l _).mono ?_
  rw [E1.out, E2.out, E3.out]
  rintro e w3 ⟨rfl, hb3⟩
  have hz3 := hb3.size
  obtain ⟨kp, kq, ko, hbw30, hzw30⟩ := HK.out w3 (by repeat' (first | (with_reducible exact Below.refl _ _) | (with_reducible assumption) | (with_reducible refine Below.alloc ?_ ?_ _) | (with_reducible refine Below.setCell ?_ ?_ _) | (with_reducible refine Below.drew ?_) | (with_reducible refine below_drewN ?_ _) | (with_reducible refine below_via (by with_reducible assumption) ?_ ?_) | go_size))
  obtain ⟨_, _, _, _⟩ := kp
  obtain ⟨_, _, _, _, _, _, _⟩ := kq
  obtain ⟨_, o3, o4, o5, o6, o7, o8⟩ := ko
  go_wp2
  refine bodyPost_ret (v := .tuple #[.agg #[.int .i64 0, .int .i64 0, .slice none 0 0], .int .i64 5]) (by simp [results, Try.results13, go_sem, o3, o4, o5]) rfl ?_
  exact ⟨none, 0, rfl, World.ownsRow_nil _ _ _ _, by repeat' (first | (with_reducible exact Below.refl _ _) | (with_reducible assumption) | (with_reducible refine Below.alloc ?_ ?_ _) | (with_reducible refine Below.setCell ?_ ?_ _) | (with_reducible refine Below.drew ?_) | (with_reducible refine below_drewN ?_ _) | (with_reducible refine below_via (by with_reducible assumption) ?_ ?_) | go_size), by simp⟩
set_option maxHeartbeats 4000000 in
theorem iSamp_no1 (r c : Int) (a : Option Addr) (n cp : Nat) (zs : List Int) (rows cols p t q u d l limit : Int) (w : World) (h : Rd w a n zs) (hn : n ≤ 1048576) (hr : rasterB r c n zs = false) :
    Calls Try.prog 16 #[.agg #[.int .i64 r, .int .i64 c, .slice a n cp], .int .i64 rows, .int .i64 cols, .agg #[.int .i64 p, .int .i64 t, .int .i64 q, .int .i64 u, .int .i64 d, .int .i64 l], .int .i64 limit] w (ResG w 0 0 [] 1) := by
  have HH := Lib.hid h
  clear h
  have HN0 := Lib.hid (smp_new (.int .i64 r) (.int .i64 c) (.slice a n cp) p t q u d l 32 34 29 w)
  go_enter Try.func16, Try.ntmps16
  go_wp2_with fail
  obtain ⟨W, hW⟩ : ∃ W : World, W = (((w.alloc (.cells #[.int .i64 r, .int .i64 c, .slice a n cp] 32)).alloc (.cells #[.int .i64 p, .int .i64 t, .int .i64 q, .int .i64 u, .int .i64 d, .int .i64 l] 34)).alloc (.cells #[.int .i64 0, .int .i64 0, .slice none 0 0] 29)) := ⟨_, rfl⟩
  have HSZ : Hid (W.heap.size = w.heap.size + 3) := by unfold Hid; rw [hW]; simp
  rw [← hW] at HN0
  rw [← hW]
  have HK : Hid (∀ wr, Below W.heap.size W wr → Box3 wr w.heap.size (.int .i64 r) (.int .i64 c) (.slice a n cp) ∧ Box6 wr (w.heap.size + 1) p t q u d l ∧ Out3 wr (w.heap.size + 1 + 1) ∧ Below w.heap.size w wr ∧ w.heap.size + 3 ≤ wr.heap.size) := fun wr h => HN0.out wr (h.mono (by rw [HSZ.out]; exact Nat.le_refl _))
  have hbW := (HK.out W (Below.refl _ _)).2.2.2.1
  have hwW := (HK.out W (Below.refl _ _)).2.2.2.2
  clear hW HN0
  refine (iIsRaster r c a n cp zs _ (HH.out.below (by repeat' (first | (with_reducible exact Below.refl _ _) | (with_reducible assumption) | (with_reducible refine Below.alloc ?_ ?_ _) | (with_reducible refine Below.setCell ?_ ?_ _) | (with_reducible refine Below.drew ?_) | (with_reducible refine below_drewN ?_ _) | (with_reducible refine below_via (by with_reducible assumption) ?_ ?_) | go_size))) hn).mono ?_
  rintro e w1 ⟨rfl, hb1⟩
  have hz1 := hb1.size
  rw [hr]
  obtain ⟨kp, kq, ko, hbw10, hzw10⟩ := HK.out w1 (by repeat' (first | (with_reducible exact Below.refl _ _) | (with_reducible assumption) | (with_reducible refine Below.alloc ?_ ?_ _) | (with_reducible refine Below.setCell ?_ ?_ _) | (with_reducible refine Below.drew ?_) | (with_reducible refine below_drewN ?_ _) | (with_reducible refine below_via (by with_reducible assumption) ?_ ?_) | go_size))
  obtain ⟨_, _, _, _⟩ := kp
  obtain ⟨_, _, _, _, _, _, _⟩ := kq
  obtain ⟨_, o3, o4, o5, o6, o7, o8⟩ := ko
  go_wp2
  refine bodyPost_ret (v := .tuple #[.agg #[.int .i64 0, .int .i64 0, .slice none 0 0], .int .i64 1]) (by simp [results, Try.results16, go_sem, o3, o4, o5]) rfl ?_
  exact ⟨none, 0, rfl, World.ownsRow_nil _ _ _ _, by repeat' (first | (with_reducible exact Below.refl _ _) | (with_reducible assumption) | (with_reducible refine Below.alloc ?_ ?_ _) | (with_reducible refine Below.setCell ?_ ?_ _) | (with_reducible refine Below.drew ?_) | (with_reducible refine below_drewN ?_ _) | (with_reducible refine below_via (by with_reducible assumption) ?_ ?_) | go_size), by simp⟩
set_option maxHeartbeats 4000000 in
theorem iSamp_no2 (r c : Int) (a : Option Addr) (n cp : Nat) (zs : List Int) (rows cols p t q u d l limit : Int) (w : World) (h : Rd w a n zs) (hn : n ≤ 1048576) (hr : rasterB r c n zs = true) (hp : printB p t q u d l = false) :
    Calls Try.prog 16 #[.agg #[.int .i64 r, .int .i64 c, .slice a n cp], .int .i64 rows, .int .i64 cols, .agg #[.int .i64 p, .int .i64 t, .int .i64 q, .int .i64 u, .int .i64 d, .int .i64 l], .int .i64 limit] w (ResG w 0 0 [] 1) := by
  have HH := Lib.hid h
  clear h
  have HN0 := Lib.hid (smp_new (.int .i64 r) (.int .i64 c) (.slice a n cp) p t q u d l 32 34 29 w)
  go_enter Try.func16, Try.ntmps16
  go_wp2_with fail
  obtain ⟨W, hW⟩ : ∃ W : World, W = (((w.alloc (.cells #[.int .i64 r, .int .i64 c, .slice a n cp] 32)).alloc (.cells #[.int .i64 p, .int .i64 t, .int .i64 q, .int .i64 u, .int .i64 d, .int .i64 l] 34)).alloc (.cells #[.int .i64 0, .int .i64 0, .slice none 0 0] 29)) := ⟨_, rfl⟩
  have HSZ : Hid (W.heap.size = w.heap.size + 3) := by unfold Hid; rw [hW]; simp
  rw [← hW] at HN0
  rw [← hW]
  have HK : Hid (∀ wr, Below W.heap.size W wr → Box3 wr w.heap.size (.int .i64 r) (.int .i64 c) (.slice a n cp) ∧ Box6 wr (w.heap.size + 1) p t q u d l ∧ Out3 wr (w.heap.size + 1 + 1) ∧ Below w.heap.size w wr ∧ w.heap.size + 3 ≤ wr.heap.size) := fun wr h => HN0.out wr (h.mono (by rw [HSZ.out]; exact Nat.le_refl _))
  have hbW := (HK.out W (Below.refl _ _)).2.2.2.1
  have hwW := (HK.out W (Below.refl _ _)).2.2.2.2
  clear hW HN0
  refine (iIsRaster r c a n cp zs _ (HH.out.below (by repeat' (first | (with_reducible exact Below.refl _ _) | (with_reducible assumption) | (with_reducible refine Below.alloc ?_ ?_ _) | (with_reducible refine Below.setCell ?_ ?_ _) | (with_reducible refine Below.drew ?_) | (with_reducible refine below_drewN ?_ _) | (with_reducible refine below_via (by with_reducible assumption) ?_ ?_) | go_size))) hn).mono ?_
  rintro e w1 ⟨rfl, hb1⟩
  have hz1 := hb1.size
  rw [hr]
  obtain ⟨kp, kq, ko, -, hzw10⟩ := HK.out w1 (by repeat' (first | (with_reducible exact Below.refl _ _) | (with_reducible assumption) | (with_reducible refine Below.alloc ?_ ?_ _) | (with_reducible refine Below.setCell ?_ ?_ _) | (with_reducible refine Below.drew ?_) | (with_reducible refine below_drewN ?_ _) | (with_reducible refine below_via (by with_reducible assumption) ?_ ?_) | go_size))
  obtain ⟨_, _, _, _⟩ := kp
  obtain ⟨_, _, _, _, _, _, _⟩ := kq
  obtain ⟨_, o3, o4, o5, o6, o7, o8⟩ := ko
  go_wp2_with fail
  refine (iIsPrint p t q u d l _).mono ?_
  rintro e w2 ⟨rfl, hb2⟩
  have hz2 := hb2.size
  rw [hp]
  obtain ⟨kp, kq, ko, hbw20, hzw20⟩ := HK.out w2 (by repeat' (first | (with_reducible exact Below.refl _ _) | (with_reducible assumption) | (with_reducible refine Below.alloc ?_ ?_ _) | (with_reducible refine Below.setCell ?_ ?_ _) | (with_reducible refine Below.drew ?_) | (with_reducible refine below_drewN ?_ _) | (with_reducible refine below_via (by with_reducible assumption) ?_ ?_) | go_size))
  obtain ⟨_, _, _, _⟩ := kp
  obtain ⟨_, _, _, _, _, _, _⟩ := kq
  obtain ⟨_, o3, o4, o5, o6, o7, o8⟩ := ko
  go_wp2
  refine bodyPost_ret (v := .tuple #[.agg #[.int .i64 0, .int .i64 0, .slice none 0 0], .int .i64 1]) (by simp [results, Try.results16, go_sem, o3, o4, o5]) rfl ?_
  exact ⟨none, 0, rfl, World.ownsRow_nil _ _ _ _, by repeat' (first | (with_reducible exact Below.refl _ _) | (with_reducible assumption) | (with_reducible refine Below.alloc ?_ ?_ _) | (with_reducible refine Below.setCell ?_ ?_ _) | (with_reducible refine Below.drew ?_) | (with_reducible refine below_drewN ?_ _) | (with_reducible refine below_via (by with_reducible assumption) ?_ ?_) | go_size), by simp⟩
set_option maxHeartbeats 4000000 in
theorem iSamp_ps1 (r c : Int) (a : Option Addr) (n cp : Nat) (zs : List Int) (rows cols p t q u d l limit : Int) (w : World) (h : Rd w a n zs) (hn : n ≤ 1048576) (hr : rasterB r c n zs = true) (hp : printB p t q u d l = true) (hk : psE p t q u d l rows cols = 1) (T1 T2 : Int) (h1 : selI (psB p t q u d l rows cols) (sideV rows q t) 0 = T1) (h2 : selI (psB p t q u d l rows cols) (sideV cols q p) 0 = T2) :
    Calls Try.prog 16 #[.agg #[.int .i64 r, .int .i64 c, .slice a n cp], .int .i64 rows, .int .i64 cols, .agg #[.int .i64 p, .int .i64 t, .int .i64 q, .int .i64 u, .int .i64 d, .int .i64 l], .int .i64 limit] w (ResG w 0 0 [] 1) := by
  have HH := Lib.hid h
  clear h
  have e1 : selI (psB p t q u d l rows cols) (sideV rows q t) 0 = T1 := h1
  have e2 : selI (psB p t q u d l rows cols) (sideV cols q p) 0 = T2 := h2
  have E1 := Lib.hid e1
  have E2 := Lib.hid e2
  have E3 := Lib.hid hk
  clear e1 e2 h1 h2 hk
  have HN0 := Lib.hid (smp_new (.int .i64 r) (.int .i64 c) (.slice a n cp) p t q u d l 32 34 29 w)
  go_enter Try.func16, Try.ntmps16
  go_wp2_with fail
  obtain ⟨W, hW⟩ : ∃ W : World, W = (((w.alloc (.cells #[.int .i64 r, .int .i64 c, .slice a n cp] 32)).alloc (.cells #[.int .i64 p, .int .i64 t, .int .i64 q, .int .i64 u, .int .i64 d, .int .i64 l] 34)).alloc (.cells #[.int .i64 0, .int .i64 0, .slice none 0 0] 29)) := ⟨_, rfl⟩
  have HSZ : Hid (W.heap.size = w.heap.size + 3) := by unfold Hid; rw [hW]; simp
  rw [← hW] at HN0
  rw [← hW]
  have HK : Hid (∀ wr, Below W.heap.size W wr → Box3 wr w.heap.size (.int .i64 r) (.int .i64 c) (.slice a n cp) ∧ Box6 wr (w.heap.size + 1) p t q u d l ∧ Out3 wr (w.heap.size + 1 + 1) ∧ Below w.heap.size w wr ∧ w.heap.size + 3 ≤ wr.heap.size) := fun wr h => HN0.out wr (h.mono (by rw [HSZ.out]; exact Nat.le_refl _))
  have hbW := (HK.out W (Below.refl _ _)).2.2.2.1
  have hwW := (HK.out W (Below.refl _ _)).2.2.2.2
  clear hW HN0
  refine (iIsRaster r c a n cp zs _ (HH.out.below (by repeat' (first | (with_reducible exact Below.refl _ _) | (with_reducible assumption) | (with_reducible refine Below.alloc ?_ ?_ _) | (with_reducible refine Below.setCell ?_ ?_ _) | (with_reducible refine Below.drew ?_) | (with_reducible refine below_drewN ?_ _) | (with_reducible refine below_via (by with_reducible assumption) ?_ ?_) | go_size))) hn).mono ?_
  rintro e w1 ⟨rfl, hb1⟩
  have hz1 := hb1.size
  rw [hr]
  obtain ⟨kp, kq, ko, -, hzw10⟩ := HK.out w1 (by repeat' (first | (with_reducible exact Below.refl _ _) | (with_reducible assumption) | (with_reducible refine Below.alloc ?_ ?_ _) | (with_reducible refine Below.setCell ?_ ?_ _) | (with_reducible refine Below.drew ?_) | (with_reducible refine below_drewN ?_ _) | (with_reducible refine below_via (by with_reducible assumption) ?_ ?_) | go_size))
  obtain ⟨_, _, _, _⟩ := kp
  obtain ⟨_, _, _, _, _, _, _⟩ := kq
  obtain ⟨_, o3, o4, o5, o6, o7, o8⟩ := ko
  go_wp2_with fail
  refine (iIsPrint p t q u d l _).mono ?_
  rintro e w2 ⟨rfl, hb2⟩
  have hz2 := hb2.size
  rw [hp]
  obtain ⟨kp, kq, ko, -, hzw20⟩ := HK.out w2 (by repeat' (first | (with_reducible exact Below.refl _ _) | (with_reducible assumption) | (with_reducible refine Below.alloc ?_ ?_ _) | (with_reducible refine Below.setCell ?_ ?_ _) | (with_reducible refine Below.drew ?_) | (with_reducible refine below_drewN ?_ _) | (with_reducible refine below_via (by with_reducible assumption) ?_ ?_) | go_size))
  obtain ⟨_, _, _, _⟩ := kp
  obtain ⟨_, _, _, _, _, _, _⟩ := kq
  obtain ⟨_, o3, o4, o5, o6, o7, o8⟩ := ko
  go_wp2_with fail
  refine (iPS rows cols p t q u d l _).mono ?_
  rw [E1.out, E2.out, E3.out]
  rintro e w3 ⟨rfl, hb3⟩
  have hz3 := hb3.size
  obtain ⟨kp, kq, ko, hbw30, hzw30⟩ := HK.out w3 (by repeat' (first | (with_reducible exact Below.refl _ _) | (with_reducible assumption) | (with_reducible refine Below.alloc ?_ ?_ _) | (with_reducible refine Below.setCell ?_ ?_ _) | (with_reducible refine Below.drew ?_) | (with_reducible refine below_drewN ?_ _) | (with_reducible refine below_via (by with_reducible assumption) ?_ ?_) | go_size))
  obtain ⟨_, _, _, _⟩ := kp
  obtain ⟨_, _, _, _, _, _, _⟩ := kq
  obtain ⟨_, o3, o4, o5, o6, o7, o8⟩ := ko
  go_wp2
  refine bodyPost_ret (v := .tuple #[.agg #[.int .i64 0, .int .i64 0, .slice none 0 0], .int .i64 1]) (by simp [results, Try.results16, go_sem, o3, o4, o5]) rfl ?_
  exact ⟨none, 0, rfl, World.ownsRow_nil _ _ _ _, by repeat' (first | (with_reducible exact Below.refl _ _) | (with_reducible assumption) | (with_reducible refine Below.alloc ?_ ?_ _) | (with_reducible refine Below.setCell ?_ ?_ _) | (with_reducible refine Below.drew ?_) | (with_reducible refine below_drewN ?_ _) | (with_reducible refine below_via (by with_reducible assumption) ?_ ?_) | go_size), by simp⟩
set_option maxHeartbeats 4000000 in
theorem iSamp_ps2 (r c : Int) (a : Option Addr) (n cp : Nat) (zs : List Int) (rows cols p t q u d l limit : Int) (w : World) (h : Rd w a n zs) (hn : n ≤ 1048576) (hr : rasterB r c n zs = true) (hp : printB p t q u d l = true) (hk : psE p t q u d l rows cols = 2) (T1 T2 : Int) (h1 : selI (psB p t q u d l rows cols) (sideV rows q t) 0 = T1) (h2 : selI (psB p t q u d l rows cols) (sideV cols q p) 0 = T2) :
    Calls Try.prog 16 #[.agg #[.int .i64 r, .int .i64 c, .slice a n cp], .int .i64 rows, .int .i64 cols, .agg #[.int .i64 p, .int .i64 t, .int .i64 q, .int .i64 u, .int .i64 d, .int .i64 l], .int .i64 limit] w (ResG w 0 0 [] 2) := by
  have HH := Lib.hid h
  clear h
  have e1 : selI (psB p t q u d l rows cols) (sideV rows q t) 0 = T1 := h1
  have e2 : selI (psB p t q u d l rows cols) (sideV cols q p) 0 = T2 := h2
  have E1 := Lib.hid e1
  have E2 := Lib.hid e2
  have E3 := Lib.hid hk
  clear e1 e2 h1 h2 hk
  have HN0 := Lib.hid (smp_new (.int .i64 r) (.int .i64 c) (.slice a n cp) p t q u d l 32 34 29 w)
  go_enter Try.func16, Try.ntmps16
  go_wp2_with fail
  obtain ⟨W, hW⟩ : ∃ W : World, W = (((w.alloc (.cells #[.int .i64 r, .int .i64 c, .slice a n cp] 32)).alloc (.cells #[.int .i64 p, .int .i64 t, .int .i64 q, .int .i64 u, .int .i64 d, .int .i64 l] 34)).alloc (.cells #[.int .i64 0, .int .i64 0, .slice none 0 0] 29)) := ⟨_, rfl⟩
  have HSZ : Hid (W.heap.size = w.heap.size + 3) := by unfold Hid; rw [hW]; simp
  rw [← hW] at HN0
  rw [← hW]
  have HK : Hid (∀ wr, Below W.heap.size W wr → Box3 wr w.heap.size (.int .i64 r) (.int .i64 c) (.slice a n cp) ∧ Box6 wr (w.heap.size + 1) p t q u d l ∧ Out3 wr (w.heap.size + 1 + 1) ∧ Below w.heap.size w wr ∧ w.heap.size + 3 ≤ wr.heap.size) := fun wr h => HN0.out wr (h.mono (by rw [HSZ.out]; exact Nat.le_refl _))
  have hbW := (HK.out W (Below.refl _ _)).2.2.2.1
  have hwW := (HK.out W (Below.refl _ _)).2.2.2.2
  clear hW HN0
  refine (iIsRaster r c a n cp zs _ (HH.out.below (by repeat' (first | (with_reducible exact Below.refl _ _) | (with_reducible assumption) | (with_reducible refine Below.alloc ?_ ?_ _) | (with_reducible refine Below.setCell ?_ ?_ _) | (with_reducible refine Below.drew ?_) | (with_reducible refine below_drewN ?_ _) | (with_reducible refine below_via (by with_reducible assumption) ?_ ?_) | go_size))) hn).mono ?_
  rintro e w1 ⟨rfl, hb1⟩
  have hz1 := hb1.size
  rw [hr]
  obtain ⟨kp, kq, ko, -, hzw10⟩ := HK.out w1 (by repeat' (first | (with_reducible exact Below.refl _ _) | (with_reducible assumption) | (with_reducible refine Below.alloc ?_ ?_ _) | (with_reducible refine Below.setCell ?_ ?_ _) | (with_reducible refine Below.drew ?_) | (with_reducible refine below_drewN ?_ _) | (with_reducible refine below_via (by with_reducible assumption) ?_ ?_) | go_size))
  obtain ⟨_, _, _, _⟩ := kp
  obtain ⟨_, _, _, _, _, _, _⟩ := kq
  obtain ⟨_, o3, o4, o5, o6, o7, o8⟩ := ko
  go_wp2_with fail
  refine (iIsPrint p t q u d l _).mono ?_
  rintro e w2 ⟨rfl, hb2⟩
  have hz2 := hb2.size
  rw [hp]
  obtain ⟨kp, kq, ko, -, hzw20⟩ := HK.out w2 (by repeat' (first | (with_reducible exact Below.refl _ _) | (with_reducible assumption) | (with_reducible refine Below.alloc ?_ ?_ _) | (with_reducible refine Below.setCell ?_ ?_ _) | (with_reducible refine Below.drew ?_) | (with_reducible refine below_drewN ?_ _) | (with_reducible refine below_via (by with_reducible assumption) ?_ ?_) | go_size))
  obtain ⟨_, _, _, _⟩ := kp
  obtain ⟨_, _, _, _, _, _, _⟩ := kq
  obtain ⟨_, o3, o4, o5, o6, o7, o8⟩ := ko
  go_wp2_with fail
  refine (iPS rows cols p t q u d l _).mono ?_
  rw [E1.out, E2.out, E3.out]
  rintro e w3 ⟨rfl, hb3⟩
  have hz3 := hb3.size
  obtain ⟨kp, kq, ko, hbw30, hzw30⟩ := HK.out w3 (by repeat' (first | (with_reducible exact Below.refl _ _) | (with_reducible assumption) | (with_reducible refine Below.alloc ?_ ?_ _) | (with_reducible refine Below.setCell ?_ ?_ _) | (with_reducible refine Below.drew ?_) | (with_reducible refine below_drewN ?_ _) | (with_reducible refine below_via (by with_reducible assumption) ?_ ?_) | go_size))
  obtain ⟨_, _, _, _⟩ := kp
  obtain ⟨_, _, _, _, _, _, _⟩ := kq
  obtain ⟨_, o3, o4, o5, o6, o7, o8⟩ := ko
  go_wp2
  refine bodyPost_ret (v := .tuple #[.agg #[.int .i64 0, .int .i64 0, .slice none 0 0], .int .i64 2]) (by simp [results, Try.results16, go_sem, o3, o4, o5]) rfl ?_
  exact ⟨none, 0, rfl, World.ownsRow_nil _ _ _ _, by repeat' (first | (with_reducible exact Below.refl _ _) | (with_reducible assumption) | (with_reducible refine Below.alloc ?_ ?_ _) | (with_reducible refine Below.setCell ?_ ?_ _) | (with_reducible refine Below.drew ?_) | (with_reducible refine below_drewN ?_ _) | (with_reducible refine below_via (by with_reducible assumption) ?_ ?_) | go_size), by simp⟩
set_option maxHeartbeats 4000000 in
theorem iSamp_ps3 (r c : Int) (a : Option Addr) (n cp : Nat) (zs : List Int) (rows cols p t q u d l limit : Int) (w : World) (h : Rd w a n zs) (hn : n ≤ 1048576) (hr : rasterB r c n zs = true) (hp : printB p t q u d l = true) (hk : psE p t q u d l rows cols = 3) (T1 T2 : Int) (h1 : selI (psB p t q u d l rows cols) (sideV rows q t) 0 = T1) (h2 : selI (psB p t q u d l rows cols) (sideV cols q p) 0 = T2) :
    Calls Try.prog 16 #[.agg #[.int .i64 r, .int .i64 c, .slice a n cp], .int .i64 rows, .int .i64 cols, .agg #[.int .i64 p, .int .i64 t, .int .i64 q, .int .i64 u, .int .i64 d, .int .i64 l], .int .i64 limit] w (ResG w 0 0 [] 3) := by
  have HH := Lib.hid h
  clear h
  have e1 : selI (psB p t q u d l rows cols) (sideV rows q t) 0 = T1 := h1
  have e2 : selI (psB p t q u d l rows cols) (sideV cols q p) 0 = T2 := h2
  have E1 := Lib.hid e1
  have E2 := Lib.hid e2
  have E3 := Lib.hid hk
  clear e1 e2 h1 h2 hk
  have HN0 := Lib.hid (smp_new (.int .i64 r) (.int .i64 c) (.slice a n cp) p t q u d l 32 34 29 w)
  go_enter Try.func16, Try.ntmps16
  go_wp2_with fail
  obtain ⟨W, hW⟩ : ∃ W : World, W = (((w.alloc (.cells #[.int .i64 r, .int .i64 c, .slice a n cp] 32)).alloc (.cells #[.int .i64 p, .int .i64 t, .int .i64 q, .int .i64 u, .int .i64 d, .int .i64 l] 34)).alloc (.cells #[.int .i64 0, .int .i64 0, .slice none 0 0] 29)) := ⟨_, rfl⟩
  have HSZ : Hid (W.heap.size = w.heap.size + 3) := by unfold Hid; rw [hW]; simp
  rw [← hW] at HN0
  rw [← hW]
  have HK : Hid (∀ wr, Below W.heap.size W wr → Box3 wr w.heap.size (.int .i64 r) (.int .i64 c) (.slice a n cp) ∧ Box6 wr (w.heap.size + 1) p t q u d l ∧ Out3 wr (w.heap.size + 1 + 1) ∧ Below w.heap.size w wr ∧ w.heap.size + 3 ≤ wr.heap.size) := fun wr h => HN0.out wr (h.mono (by rw [HSZ.out]; exact Nat.le_refl _))
  have hbW := (HK.out W (Below.refl _ _)).2.2.2.1
  have hwW := (HK.out W (Below.refl _ _)).2.2.2.2
  clear hW HN0
  refine (iIsRaster r c a n cp zs _ (HH.out.below (by repeat' (first | (with_reducible exact Below.refl _ _) | (with_reducible assumption) | (with_reducible refine Below.alloc ?_ ?_ _) | (with_reducible refine Below.setCell ?_ ?_ _) | (with_reducible refine Below.drew ?_) | (with_reducible refine below_drewN ?_ _) | (with_reducible refine below_via (by with_reducible assumption) ?_ ?_) | go_size))) hn).mono ?_
  rintro e w1 ⟨rfl, hb1⟩
  have hz1 := hb1.size
  rw [hr]
  obtain ⟨kp, kq, ko, -, hzw10⟩ := HK.out w1 (by repeat' (first | (with_reducible exact Below.refl _ _) | (with_reducible assumption) | (with_reducible refine Below.alloc ?_ ?_ _) | (with_reducible refine Below.setCell ?_ ?_ _) | (with_reducible refine Below.drew ?_) | (with_reducible refine below_drewN ?_ _) | (with_reducible refine below_via (by with_reducible assumption) ?_ ?_) | go_size))
  obtain ⟨_, _, _, _⟩ := kp
  obtain ⟨_, _, _, _, _, _, _⟩ := kq
  obtain ⟨_, o3, o4, o5, o6, o7, o8⟩ := ko
  go_wp2_with fail
  refine (iIsPrint p t q u d l _).mono ?_
  rintro e w2 ⟨rfl, hb2⟩
  have hz2 := hb2.size
  rw [hp]
  obtain ⟨kp, kq, ko, -, hzw20⟩ := HK.out w2 (by repeat' (first | (with_reducible exact Below.refl _ _) | (with_reducible assumption) | (with_reducible refine Below.alloc ?_ ?_ _) | (with_reducible refine Below.setCell ?_ ?_ _) | (with_reducible refine Below.drew ?_) | (with_reducible refine below_drewN ?_ _) | (with_reducible refine below_via (by with_reducible assumption) ?_ ?_) | go_size))
  obtain ⟨_, _, _, _⟩ := kp
  obtain ⟨_, _, _, _, _, _, _⟩ := kq
  obtain ⟨_, o3, o4, o5, o6, o7, o8⟩ := ko
  go_wp2_with fail
  refine (iPS rows cols p t q u d l _).mono ?_
  rw [E1.out, E2.out, E3.out]
  rintro e w3 ⟨rfl, hb3⟩
  have hz3 := hb3.size
  obtain ⟨kp, kq, ko, hbw30, hzw30⟩ := HK.out w3 (by repeat' (first | (with_reducible exact Below.refl _ _) | (with_reducible assumption) | (with_reducible refine Below.alloc ?_ ?_ _) | (with_reducible refine Below.setCell ?_ ?_ _) | (with_reducible refine Below.drew ?_) | (with_reducible refine below_drewN ?_ _) | (with_reducible refine below_via (by with_reducible assumption) ?_ ?_) | go_size))
  obtain ⟨_, _, _, _⟩ := kp
  obtain ⟨_, _, _, _, _, _, _⟩ := kq
  obtain ⟨_, o3, o4, o5, o6, o7, o8⟩ := ko
  go_wp2
  refine bodyPost_ret (v := .tuple #[.agg #[.int .i64 0, .int .i64 0, .slice none 0 0], .int .i64 3]) (by simp [results, Try.results16, go_sem, o3, o4, o5]) rfl ?_
  exact ⟨none, 0, rfl, World.ownsRow_nil _ _ _ _, by repeat' (first | (with_reducible exact Below.refl _ _) | (with_reducible assumption) | (with_reducible refine Below.alloc ?_ ?_ _) | (with_reducible refine Below.setCell ?_ ?_ _) | (with_reducible refine Below.drew ?_) | (with_reducible refine below_drewN ?_ _) | (with_reducible refine below_via (by with_reducible assumption) ?_ ?_) | go_size), by simp⟩
set_option maxHeartbeats 4000000 in
theorem iSamp_st1 (r c : Int) (a : Option Addr) (n cp : Nat) (zs : List Int) (rows cols p t q u d l limit : Int) (w : World) (h : Rd w a n zs) (hn : n ≤ 1048576) (hr : rasterB r c n zs = true) (hp : printB p t q u d l = true) (hk : psE p t q u d l rows cols = 0) (T1 T2 : Int) (h1 : selI (psB p t q u d l rows cols) (sideV rows q t) 0 = T1) (h2 : selI (psB p t q u d l rows cols) (sideV cols q p) 0 = T2) (hst : (r != T1) = true) :
    Calls Try.prog 16 #[.agg #[.int .i64 r, .int .i64 c, .slice a n cp], .int .i64 rows, .int .i64 cols, .agg #[.int .i64 p, .int .i64 t, .int .i64 q, .int .i64 u, .int .i64 d, .int .i64 l], .int .i64 limit] w (ResG w 0 0 [] 5) := by
  have HH := Lib.hid h
  clear h
  have e1 : selI (psB p t q u d l rows cols) (sideV rows q t) 0 = T1 := h1
  have e2 : selI (psB p t q u d l rows cols) (sideV cols q p) 0 = T2 := h2
  have E1 := Lib.hid e1
  have E2 := Lib.hid e2
  have E3 := Lib.hid hk
  clear e1 e2 h1 h2 hk
  have HN0 := Lib.hid (smp_new (.int .i64 r) (.int .i64 c) (.slice a n cp) p t q u d l 32 34 29 w)
  go_enter Try.func16, Try.ntmps16
  go_wp2_with fail
  obtain ⟨W, hW⟩ : ∃ W : World, W = (((w.alloc (.cells #[.int .i64 r, .int .i64 c, .slice a n cp] 32)).alloc (.cells #[.int .i64 p, .int .i64 t, .int .i64 q, .int .i64 u, .int .i64 d, .int .i64 l] 34)).alloc (.cells #[.int .i64 0, .int .i64 0, .slice none 0 0] 29)) := ⟨_, rfl⟩
  have HSZ : Hid (W.heap.size = w.heap.size + 3) := by unfold Hid; rw [hW]; simp
  rw [← hW] at HN0
  rw [← hW]
  have HK : Hid (∀ wr, Below W.heap.size W wr → Box3 wr w.heap.size (.int .i64 r) (.int .i64 c) (.slice a n cp) ∧ Box6 wr (w.heap.size + 1) p t q u d l ∧ Out3 wr (w.heap.size + 1 + 1) ∧ Below w.heap.size w wr ∧ w.heap.size + 3 ≤ wr.heap.size) := fun wr h => HN0.out wr (h.mono (by rw [HSZ.out]; exact Nat.le_refl _))
  have hbW := (HK.out W (Below.refl _ _)).2.2.2.1
  have hwW := (HK.out W (Below.refl _ _)).2.2.2.2
  clear hW HN0
  refine (iIsRaster r c a n cp zs _ (HH.out.below (by repeat' (first | (with_reducible exact Below.refl _ _) | (with_reducible assumption) | (with_reducible refine Below.alloc ?_ ?_ _) | (with_reducible refine Below.setCell ?_ ?_ _) | (with_reducible refine Below.drew ?_) | (with_reducible refine below_drewN ?_ _) | (with_reducible refine below_via (by with_reducible assumption) ?_ ?_) | go_size))) hn).mono ?_
  rintro e w1 ⟨rfl, hb1⟩
  have hz1 := hb1.size
  rw [hr]
  obtain ⟨kp, kq, ko, -, hzw10⟩ := HK.out w1 (by repeat' (first | (with_reducible exact Below.refl _ _) | (with_reducible assumption) | (with_reducible refine Below.alloc ?_ ?_ _) | (with_reducible refine Below.setCell ?_ ?_ _) | (with_reducible refine Below.drew ?_) | (with_reducible refine below_drewN ?_ _) | (with_reducible refine below_via (by with_reducible assumption) ?_ ?_) | go_size))
  obtain ⟨_, _, _, _⟩ := kp
  obtain ⟨_, _, _, _, _, _, _⟩ := kq
  obtain ⟨_, o3, o4, o5, o6, o7, o8⟩ := ko
  go_wp2_with fail
  refine (iIsPrint p t q u d l _).mono ?_
  rintro e w2 ⟨rfl, hb2⟩
  have hz2 := hb2.size
  rw [hp]
  obtain ⟨kp, kq, ko, -, hzw20⟩ := HK.out w2 (by repeat' (first | (with_reducible exact Below.refl _ _) | (with_reducible assumption) | (with_reducible refine Below.alloc ?_ ?_ _) | (with_reducible refine Below.setCell ?_ ?_ _) | (with_reducible refine Below.drew ?_) | (with_reducible refine below_drewN ?_ _) | (with_reducible refine below_via (by with_reducible assumption) ?_ ?_) | go_size))
  obtain ⟨_, _, _, _⟩ := kp
  obtain ⟨_, _, _, _, _, _, _⟩ := kq
  obtain ⟨_, o3, o4, o5, o6, o7, o8⟩ := ko
  go_wp2_with fail
  refine (iPS rows cols p t q u d l _).mono ?_
  rw [E1.out, E2.out, E3.out]
  rintro e w3 ⟨rfl, hb3⟩
  have hz3 := hb3.size
  obtain ⟨kp, kq, ko, hbw30, hzw30⟩ := HK.out w3 (by repeat' (first | (with_reducible exact Below.refl _ _) | (with_reducible assumption) | (with_reducible refine Below.alloc ?_ ?_ _) | (with_reducible refine Below.setCell ?_ ?_ _) | (with_reducible refine Below.drew ?_) | (with_reducible refine below_drewN ?_ _) | (with_reducible refine below_via (by with_reducible assumption) ?_ ?_) | go_size))
  obtain ⟨_, _, _, _⟩ := kp
  obtain ⟨_, _, _, _, _, _, _⟩ := kq
  obtain ⟨_, o3, o4, o5, o6, o7, o8⟩ := ko
  go_wp2
  refine bodyPost_ret (v := .tuple #[.agg #[.int .i64 0, .int .i64 0, .slice none 0 0], .int .i64 5]) (by simp [results, Try.results16, go_sem, o3, o4, o5]) rfl ?_
  exact ⟨none, 0, rfl, World.ownsRow_nil _ _ _ _, by repeat' (first | (with_reducible exact Below.refl _ _) | (with_reducible assumption) | (with_reducible refine Below.alloc ?_ ?_ _) | (with_reducible refine Below.setCell ?_ ?_ _) | (with_reducible refine Below.drew ?_) | (with_reducible refine below_drewN ?_ _) | (with_reducible refine below_via (by with_reducible assumption) ?_ ?_) | go_size), by simp⟩
set_option maxHeartbeats 4000000 in
theorem iSamp_st2 (r c : Int) (a : Option Addr) (n cp : Nat) (zs : List Int) (rows cols p t q u d l limit : Int) (w : World) (h : Rd w a n zs) (hn : n ≤ 1048576) (hr : rasterB r c n zs = true) (hp : printB p t q u d l = true) (hk : psE p t q u d l rows cols = 0) (T1 T2 : Int) (h1 : selI (psB p t q u d l rows cols) (sideV rows q t) 0 = T1) (h2 : selI (psB p t q u d l rows cols) (sideV cols q p) 0 = T2) (hst0 : (r != T1) = false) (hst : (c != T2) = true) :
    Calls Try.prog 16 #[.agg #[.int .i64 r, .int .i64 c, .slice a n cp], .int .i64 rows, .int .i64 cols, .agg #[.int .i64 p, .int .i64 t, .int .i64 q, .int .i64 u, .int .i64 d, .int .i64 l], .int .i64 limit] w (ResG w 0 0 [] 5) := by
  have HH := Lib.hid h
  clear h
  have e1 : selI (psB p t q u d l rows cols) (sideV rows q t) 0 = T1 := h1
  have e2 : selI (psB p t q u d l rows cols) (sideV cols q p) 0 = T2 := h2
  have E1 := Lib.hid e1
  have E2 := Lib.hid e2
  have E3 := Lib.hid hk
  clear e1 e2 h1 h2 hk
  have HN0 := Lib.hid (smp_new (.int .i64 r) (.int .i64 c) (.slice a n cp) p t q u d l 32 34 29 w)
  go_enter Try.func16, Try.ntmps16
  go_wp2_with fail
  obtain ⟨W, hW⟩ : ∃ W : World, W = (((w.alloc (.cells #[.int .i64 r, .int .i64 c, .slice a n cp] 32)).alloc (.cells #[.int .i64 p, .int .i64 t, .int .i64 q, .int .i64 u, .int .i64 d, .int .i64 l] 34)).alloc (.cells #[.int .i64 0, .int .i64 0, .slice none 0 0] 29)) := ⟨_, rfl⟩
  have HSZ : Hid (W.heap.size = w.heap.size + 3) := by unfold Hid; rw [hW]; simp
  rw [← hW] at HN0
  rw [← hW]
  have HK : Hid (∀ wr, Below W.heap.size W wr → Box3 wr w.heap.size (.int .i64 r) (.int .i64 c) (.slice a n cp) ∧ Box6 wr (w.heap.size + 1) p t q u d l ∧ Out3 wr (w.heap.size + 1 + 1) ∧ Below w.heap.size w wr ∧ w.heap.size + 3 ≤ wr.heap.size) := fun wr h => HN0.out wr (h.mono (by rw [HSZ.out]; exact Nat.le_refl _))
  have hbW := (HK.out W (Below.refl _ _)).2.2.2.1
  have hwW := (HK.out W (Below.refl _ _)).2.2.2.2
  clear hW HN0
  refine (iIsRaster r c a n cp zs _ (HH.out.below (by repeat' (first | (with_reducible exact Below.refl _ _) | (with_reducible assumption) | (with_reducible refine Below.alloc ?_ ?_ _) | (with_reducible refine Below.setCell ?_ ?_ _) | (with_reducible refine Below.drew ?_) | (with_reducible refine below_drewN ?_ _) | (with_reducible refine below_via (by with_reducible assumption) ?_ ?_) | go_size))) hn).mono ?_
  rintro e w1 ⟨rfl, hb1⟩
  have hz1 := hb1.size
  rw [hr]
  obtain ⟨kp, kq, ko, -, hzw10⟩ := HK.out w1 (by repeat' (first | (with_reducible exact Below.refl _ _) | (with_reducible assumption) | (with_reducible refine Below.alloc ?_ ?_ _) | (with_reducible refine Below.setCell ?_ ?_ _) | (with_reducible refine Below.drew ?_) | (with_reducible refine below_drewN ?_ _) | (with_reducible refine below_via (by with_reducible assumption) ?_ ?_) | go_size))
  obtain ⟨_, _, _, _⟩ := kp
  obtain ⟨_, _, _, _, _, _, _⟩ := kq
  obtain ⟨_, o3, o4, o5, o6, o7, o8⟩ := ko
  go_wp2_with fail
  refine (iIsPrint p t q u d l _).mono ?_
  rintro e w2 ⟨rfl, hb2⟩
  have hz2 := hb2.size
  rw [hp]
  obtain ⟨kp, kq, ko, -, hzw20⟩ := HK.out w2 (by repeat' (first | (with_reducible exact Below.refl _ _) | (with_reducible assumption) | (with_reducible refine Below.alloc ?_ ?_ _) | (with_reducible refine Below.setCell ?_ ?_ _) | (with_reducible refine Below.drew ?_) | (with_reducible refine below_drewN ?_ _) | (with_reducible refine below_via (by with_reducible assumption) ?_ ?_) | go_size))
  obtain ⟨_, _, _, _⟩ := kp
  obtain ⟨_, _, _, _, _, _, _⟩ := kq
  obtain ⟨_, o3, o4, o5, o6, o7, o8⟩ := ko
  go_wp2_with fail
  refine (iPS rows cols p t q u d l _).mono ?_
  rw [E1.out, E2.out, E3.out]
  rintro e w3 ⟨rfl, hb3⟩
  have hz3 := hb3.size
  obtain ⟨kp, kq, ko, hbw30, hzw30⟩ := HK.out w3 (by repeat' (first | (with_reducible exact Below.refl _ _) | (with_reducible assumption) | (with_reducible refine Below.alloc ?_ ?_ _) | (with_reducible refine Below.setCell ?_ ?_ _) | (with_reducible refine Below.drew ?_) | (with_reducible refine below_drewN ?_ _) | (with_reducible refine below_via (by with_reducible assumption) ?_ ?_) | go_size))
  obtain ⟨_, _, _, _⟩ := kp
  obtain ⟨_, _, _, _, _, _, _⟩ := kq
  obtain ⟨_, o3, o4, o5, o6, o7, o8⟩ := ko
  go_wp2
  refine bodyPost_ret (v := .tuple #[.agg #[.int .i64 0, .int .i64 0, .slice none 0 0], .int .i64 5]) (by simp [results, Try.results16, go_sem, o3, o4, o5]) rfl ?_
  exact ⟨none, 0, rfl, World.ownsRow_nil _ _ _ _, by repeat' (first | (with_reducible exact Below.refl _ _) | (with_reducible assumption) | (with_reducible refine Below.alloc ?_ ?_ _) | (with_reducible refine Below.setCell ?_ ?_ _) | (with_reducible refine Below.drew ?_) | (with_reducible refine below_drewN ?_ _) | (with_reducible refine below_via (by with_reducible assumption) ?_ ?_) | go_size), by simp⟩
end Go.Proofs.Ytfiddbmjgncabaa
