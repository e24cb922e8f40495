/-
  DERIVED. PrintGrid where it refuses: spec and impl.
-/
import Derived.Test.YtfiddbmjgncabaaSampN
import Derived.Test.YtfiddbmjgncabaaPrK
namespace Go.Proofs.Ytfiddbmjgncabaa
open Go.RowKit
set_option linter.unusedVariables false
set_option maxHeartbeats 4000000 in
theorem sPrG_no1 (R C : Int) (a : Option Addr) (n cp : Nat) (zs : List Int) (p t q u d l : Int) (w : World) (h : Rd w a n zs) (hn : n ≤ 1048576) (hg : gridB R C n zs = false) :
    Calls Try.prog 23 #[.agg #[.int .i64 R, .int .i64 C, .slice a n cp], .agg #[.int .i64 p, .int .i64 t, .int .i64 q, .int .i64 u, .int .i64 d, .int .i64 l]] w (ResG w 0 0 [] 1) := by
  have HH := Lib.hid h
  clear h
  have HN0 := Lib.hid (smp_new (.int .i64 R) (.int .i64 C) (.slice a n cp) p t q u d l 29 34 32 w)
  go_enter Try.func23, Try.ntmps23
  go_wp2_with fail
  obtain ⟨W, hW⟩ : ∃ W : World, W = (((w.alloc (.cells #[.int .i64 R, .int .i64 C, .slice a n cp] 29)).alloc (.cells #[.int .i64 p, .int .i64 t, .int .i64 q, .int .i64 u, .int .i64 d, .int .i64 l] 34)).alloc (.cells #[.int .i64 0, .int .i64 0, .slice none 0 0] 32)) := ⟨_, rfl⟩
  have HSZ : Hid (W.heap.size = w.heap.size + 3) := by unfold Hid; rw [hW]; simp
  rw [← hW] at HN0
  rw [← hW]
  have HK : Hid (∀ wr, Below W.heap.size W wr → Box3 wr w.heap.size (.int .i64 R) (.int .i64 C) (.slice a n cp) ∧ Box6 wr (w.heap.size + 1) p t q u d l ∧ Out3 wr (w.heap.size + 1 + 1) ∧ Below w.heap.size w wr ∧ w.heap.size + 3 ≤ wr.heap.size) := fun wr h => HN0.out wr (h.mono (by rw [HSZ.out]; exact Nat.le_refl _))
  have hbW := (HK.out W (Below.refl _ _)).2.2.2.1
  have hwW := (HK.out W (Below.refl _ _)).2.2.2.2
  clear hW HN0
  refine (sIsGrid R C a n cp zs _ (HH.out.below (by repeat' (first | (with_reducible exact Below.refl _ _) | (with_reducible assumption) | (with_reducible refine Below.alloc ?_ ?_ _) | (with_reducible refine Below.setCell ?_ ?_ _) | (with_reducible refine Below.drew ?_) | (with_reducible refine below_drewN ?_ _) | (with_reducible refine below_via (by with_reducible assumption) ?_ ?_) | go_size))) hn).mono ?_
  rintro e w1 ⟨rfl, hb1⟩
  have hz1 := hb1.size
  rw [hg]
  obtain ⟨kp, kq, ko, hbw10, hzw10⟩ := HK.out w1 (by repeat' (first | (with_reducible exact Below.refl _ _) | (with_reducible assumption) | (with_reducible refine Below.alloc ?_ ?_ _) | (with_reducible refine Below.setCell ?_ ?_ _) | (with_reducible refine Below.drew ?_) | (with_reducible refine below_drewN ?_ _) | (with_reducible refine below_via (by with_reducible assumption) ?_ ?_) | go_size))
  obtain ⟨_, _, _, _⟩ := kp
  obtain ⟨_, _, _, _, _, _, _⟩ := kq
  obtain ⟨_, o3, o4, o5, o6, o7, o8⟩ := ko
  go_wp2
  refine bodyPost_ret (v := .tuple #[.agg #[.int .i64 0, .int .i64 0, .slice none 0 0], .int .i64 1]) (by simp [results, Try.results23, go_sem, o3, o4, o5]) rfl ?_
  exact ⟨none, 0, rfl, World.ownsRow_nil _ _ _ _, by repeat' (first | (with_reducible exact Below.refl _ _) | (with_reducible assumption) | (with_reducible refine Below.alloc ?_ ?_ _) | (with_reducible refine Below.setCell ?_ ?_ _) | (with_reducible refine Below.drew ?_) | (with_reducible refine below_drewN ?_ _) | (with_reducible refine below_via (by with_reducible assumption) ?_ ?_) | go_size), by simp⟩
set_option maxHeartbeats 4000000 in
theorem sPrG_no2 (R C : Int) (a : Option Addr) (n cp : Nat) (zs : List Int) (p t q u d l : Int) (w : World) (h : Rd w a n zs) (hn : n ≤ 1048576) (hg : gridB R C n zs = true) (hp : printB p t q u d l = false) :
    Calls Try.prog 23 #[.agg #[.int .i64 R, .int .i64 C, .slice a n cp], .agg #[.int .i64 p, .int .i64 t, .int .i64 q, .int .i64 u, .int .i64 d, .int .i64 l]] w (ResG w 0 0 [] 1) := by
  have HH := Lib.hid h
  clear h
  have HN0 := Lib.hid (smp_new (.int .i64 R) (.int .i64 C) (.slice a n cp) p t q u d l 29 34 32 w)
  go_enter Try.func23, Try.ntmps23
  go_wp2_with fail
  obtain ⟨W, hW⟩ : ∃ W : World, W = (((w.alloc (.cells #[.int .i64 R, .int .i64 C, .slice a n cp] 29)).alloc (.cells #[.int .i64 p, .int .i64 t, .int .i64 q, .int .i64 u, .int .i64 d, .int .i64 l] 34)).alloc (.cells #[.int .i64 0, .int .i64 0, .slice none 0 0] 32)) := ⟨_, rfl⟩
  have HSZ : Hid (W.heap.size = w.heap.size + 3) := by unfold Hid; rw [hW]; simp
  rw [← hW] at HN0
  rw [← hW]
  have HK : Hid (∀ wr, Below W.heap.size W wr → Box3 wr w.heap.size (.int .i64 R) (.int .i64 C) (.slice a n cp) ∧ Box6 wr (w.heap.size + 1) p t q u d l ∧ Out3 wr (w.heap.size + 1 + 1) ∧ Below w.heap.size w wr ∧ w.heap.size + 3 ≤ wr.heap.size) := fun wr h => HN0.out wr (h.mono (by rw [HSZ.out]; exact Nat.le_refl _))
  have hbW := (HK.out W (Below.refl _ _)).2.2.2.1
  have hwW := (HK.out W (Below.refl _ _)).2.2.2.2
  clear hW HN0
  refine (sIsGrid R C a n cp zs _ (HH.out.below (by repeat' (first | (with_reducible exact Below.refl _ _) | (with_reducible assumption) | (with_reducible refine Below.alloc ?_ ?_ _) | (with_reducible refine Below.setCell ?_ ?_ _) | (with_reducible refine Below.drew ?_) | (with_reducible refine below_drewN ?_ _) | (with_reducible refine below_via (by with_reducible assumption) ?_ ?_) | go_size))) hn).mono ?_
  rintro e w1 ⟨rfl, hb1⟩
  have hz1 := hb1.size
  rw [hg]
  obtain ⟨kp, kq, ko, -, hzw10⟩ := HK.out w1 (by repeat' (first | (with_reducible exact Below.refl _ _) | (with_reducible assumption) | (with_reducible refine Below.alloc ?_ ?_ _) | (with_reducible refine Below.setCell ?_ ?_ _) | (with_reducible refine Below.drew ?_) | (with_reducible refine below_drewN ?_ _) | (with_reducible refine below_via (by with_reducible assumption) ?_ ?_) | go_size))
  obtain ⟨_, _, _, _⟩ := kp
  obtain ⟨_, _, _, _, _, _, _⟩ := kq
  obtain ⟨_, o3, o4, o5, o6, o7, o8⟩ := ko
  go_wp2_with fail
  refine (sIsPrint p t q u d l _).mono ?_
  rintro e w2 ⟨rfl, hb2⟩
  have hz2 := hb2.size
  rw [hp]
  obtain ⟨kp, kq, ko, hbw20, hzw20⟩ := HK.out w2 (by repeat' (first | (with_reducible exact Below.refl _ _) | (with_reducible assumption) | (with_reducible refine Below.alloc ?_ ?_ _) | (with_reducible refine Below.setCell ?_ ?_ _) | (with_reducible refine Below.drew ?_) | (with_reducible refine below_drewN ?_ _) | (with_reducible refine below_via (by with_reducible assumption) ?_ ?_) | go_size))
  obtain ⟨_, _, _, _⟩ := kp
  obtain ⟨_, _, _, _, _, _, _⟩ := kq
  obtain ⟨_, o3, o4, o5, o6, o7, o8⟩ := ko
  go_wp2
  refine bodyPost_ret (v := .tuple #[.agg #[.int .i64 0, .int .i64 0, .slice none 0 0], .int .i64 1]) (by simp [results, Try.results23, go_sem, o3, o4, o5]) rfl ?_
  exact ⟨none, 0, rfl, World.ownsRow_nil _ _ _ _, by repeat' (first | (with_reducible exact Below.refl _ _) | (with_reducible assumption) | (with_reducible refine Below.alloc ?_ ?_ _) | (with_reducible refine Below.setCell ?_ ?_ _) | (with_reducible refine Below.drew ?_) | (with_reducible refine below_drewN ?_ _) | (with_reducible refine below_via (by with_reducible assumption) ?_ ?_) | go_size), by simp⟩
set_option maxHeartbeats 4000000 in
theorem sPrG_kn (R C : Int) (a : Option Addr) (n cp : Nat) (zs : List Int) (p t q u d l : Int) (w : World) (h : Rd w a n zs) (hn : n ≤ 1048576) (hg : gridB R C n zs = true) (hp : printB p t q u d l = true) (hk : knB zs = false) :
    Calls Try.prog 23 #[.agg #[.int .i64 R, .int .i64 C, .slice a n cp], .agg #[.int .i64 p, .int .i64 t, .int .i64 q, .int .i64 u, .int .i64 d, .int .i64 l]] w (ResG w 0 0 [] 5) := by
  have HH := Lib.hid h
  clear h
  have HN0 := Lib.hid (smp_new (.int .i64 R) (.int .i64 C) (.slice a n cp) p t q u d l 29 34 32 w)
  go_enter Try.func23, Try.ntmps23
  go_wp2_with fail
  obtain ⟨W, hW⟩ : ∃ W : World, W = (((w.alloc (.cells #[.int .i64 R, .int .i64 C, .slice a n cp] 29)).alloc (.cells #[.int .i64 p, .int .i64 t, .int .i64 q, .int .i64 u, .int .i64 d, .int .i64 l] 34)).alloc (.cells #[.int .i64 0, .int .i64 0, .slice none 0 0] 32)) := ⟨_, rfl⟩
  have HSZ : Hid (W.heap.size = w.heap.size + 3) := by unfold Hid; rw [hW]; simp
  rw [← hW] at HN0
  rw [← hW]
  have HK : Hid (∀ wr, Below W.heap.size W wr → Box3 wr w.heap.size (.int .i64 R) (.int .i64 C) (.slice a n cp) ∧ Box6 wr (w.heap.size + 1) p t q u d l ∧ Out3 wr (w.heap.size + 1 + 1) ∧ Below w.heap.size w wr ∧ w.heap.size + 3 ≤ wr.heap.size) := fun wr h => HN0.out wr (h.mono (by rw [HSZ.out]; exact Nat.le_refl _))
  have hbW := (HK.out W (Below.refl _ _)).2.2.2.1
  have hwW := (HK.out W (Below.refl _ _)).2.2.2.2
  clear hW HN0
  refine (sIsGrid R C a n cp zs _ (HH.out.below (by repeat' (first | (with_reducible exact Below.refl _ _) | (with_reducible assumption) | (with_reducible refine Below.alloc ?_ ?_ _) | (with_reducible refine Below.setCell ?_ ?_ _) | (with_reducible refine Below.drew ?_) | (with_reducible refine below_drewN ?_ _) | (with_reducible refine below_via (by with_reducible assumption) ?_ ?_) | go_size))) hn).mono ?_
  rintro e w1 ⟨rfl, hb1⟩
  have hz1 := hb1.size
  rw [hg]
  obtain ⟨kp, kq, ko, -, hzw10⟩ := HK.out w1 (by repeat' (first | (with_reducible exact Below.refl _ _) | (with_reducible assumption) | (with_reducible refine Below.alloc ?_ ?_ _) | (with_reducible refine Below.setCell ?_ ?_ _) | (with_reducible refine Below.drew ?_) | (with_reducible refine below_drewN ?_ _) | (with_reducible refine below_via (by with_reducible assumption) ?_ ?_) | go_size))
  obtain ⟨_, _, _, _⟩ := kp
  obtain ⟨_, _, _, _, _, _, _⟩ := kq
  obtain ⟨_, o3, o4, o5, o6, o7, o8⟩ := ko
  go_wp2_with fail
  refine (sIsPrint p t q u d l _).mono ?_
  rintro e w2 ⟨rfl, hb2⟩
  have hz2 := hb2.size
  rw [hp]
  obtain ⟨kp, kq, ko, -, hzw20⟩ := HK.out w2 (by repeat' (first | (with_reducible exact Below.refl _ _) | (with_reducible assumption) | (with_reducible refine Below.alloc ?_ ?_ _) | (with_reducible refine Below.setCell ?_ ?_ _) | (with_reducible refine Below.drew ?_) | (with_reducible refine below_drewN ?_ _) | (with_reducible refine below_via (by with_reducible assumption) ?_ ?_) | go_size))
  obtain ⟨_, _, _, _⟩ := kp
  obtain ⟨_, _, _, _, _, _, _⟩ := kq
  obtain ⟨_, o3, o4, o5, o6, o7, o8⟩ := ko
  go_wp2_with fail
  refine (sKnown R C a n cp zs _ (HH.out.below (by repeat' (first | (with_reducible exact Below.refl _ _) | (with_reducible assumption) | (with_reducible refine Below.alloc ?_ ?_ _) | (with_reducible refine Below.setCell ?_ ?_ _) | (with_reducible refine Below.drew ?_) | (with_reducible refine below_drewN ?_ _) | (with_reducible refine below_via (by with_reducible assumption) ?_ ?_) | go_size))) hn hg).mono ?_
  rintro e w3 ⟨rfl, hb3⟩
  have hz3 := hb3.size
  rw [hk]
  obtain ⟨kp, kq, ko, hbw30, hzw30⟩ := HK.out w3 (by repeat' (first | (with_reducible exact Below.refl _ _) | (with_reducible assumption) | (with_reducible refine Below.alloc ?_ ?_ _) | (with_reducible refine Below.setCell ?_ ?_ _) | (with_reducible refine Below.drew ?_) | (with_reducible refine below_drewN ?_ _) | (with_reducible refine below_via (by with_reducible assumption) ?_ ?_) | go_size))
  obtain ⟨_, _, _, _⟩ := kp
  obtain ⟨_, _, _, _, _, _, _⟩ := kq
  obtain ⟨_, o3, o4, o5, o6, o7, o8⟩ := ko
  go_wp2
  refine bodyPost_ret (v := .tuple #[.agg #[.int .i64 0, .int .i64 0, .slice none 0 0], .int .i64 5]) (by simp [results, Try.results23, go_sem, o3, o4, o5]) rfl ?_
  exact ⟨none, 0, rfl, World.ownsRow_nil _ _ _ _, by repeat' (first | (with_reducible exact Below.refl _ _) | (with_reducible assumption) | (with_reducible refine Below.alloc ?_ ?_ _) | (with_reducible refine Below.setCell ?_ ?_ _) | (with_reducible refine Below.drew ?_) | (with_reducible refine below_drewN ?_ _) | (with_reducible refine below_via (by with_reducible assumption) ?_ ?_) | go_size), by simp⟩
set_option maxHeartbeats 4000000 in
theorem sPrG_ps1 (R C : Int) (a : Option Addr) (n cp : Nat) (zs : List Int) (p t q u d l : Int) (w : World) (h : Rd w a n zs) (hn : n ≤ 1048576) (hg : gridB R C n zs = true) (hp : printB p t q u d l = true) (hk : knB zs = true) (hE : psE p t q u d l R C = 1) (T1 T2 : Int) (h1 : selI (psB p t q u d l R C) (sideV R q t) 0 = T1) (h2 : selI (psB p t q u d l R C) (sideV C q p) 0 = T2) :
    Calls Try.prog 23 #[.agg #[.int .i64 R, .int .i64 C, .slice a n cp], .agg #[.int .i64 p, .int .i64 t, .int .i64 q, .int .i64 u, .int .i64 d, .int .i64 l]] w (ResG w 0 0 [] 1) := by
  have HH := Lib.hid h
  clear h
  have E1 := Lib.hid h1
  have E2 := Lib.hid h2
  have E3 := Lib.hid hE
  clear h1 h2 hE
  have HN0 := Lib.hid (smp_new (.int .i64 R) (.int .i64 C) (.slice a n cp) p t q u d l 29 34 32 w)
  go_enter Try.func23, Try.ntmps23
  go_wp2_with fail
  obtain ⟨W, hW⟩ : ∃ W : World, W = (((w.alloc (.cells #[.int .i64 R, .int .i64 C, .slice a n cp] 29)).alloc (.cells #[.int .i64 p, .int .i64 t, .int .i64 q, .int .i64 u, .int .i64 d, .int .i64 l] 34)).alloc (.cells #[.int .i64 0, .int .i64 0, .slice none 0 0] 32)) := ⟨_, rfl⟩
  have HSZ : Hid (W.heap.size = w.heap.size + 3) := by unfold Hid; rw [hW]; simp
  rw [← hW] at HN0
  rw [← hW]
  have HK : Hid (∀ wr, Below W.heap.size W wr → Box3 wr w.heap.size (.int .i64 R) (.int .i64 C) (.slice a n cp) ∧ Box6 wr (w.heap.size + 1) p t q u d l ∧ Out3 wr (w.heap.size + 1 + 1) ∧ Below w.heap.size w wr ∧ w.heap.size + 3 ≤ wr.heap.size) := fun wr h => HN0.out wr (h.mono (by rw [HSZ.out]; exact Nat.le_refl _))
  have hbW := (HK.out W (Below.refl _ _)).2.2.2.1
  have hwW := (HK.out W (Below.refl _ _)).2.2.2.2
  clear hW HN0
  refine (sIsGrid R C a n cp zs _ (HH.out.below (by repeat' (first | (with_reducible exact Below.refl _ _) | (with_reducible assumption) | (with_reducible refine Below.alloc ?_ ?_ _) | (with_reducible refine Below.setCell ?_ ?_ _) | (with_reducible refine Below.drew ?_) | (with_reducible refine below_drewN ?_ _) | (with_reducible refine below_via (by with_reducible assumption) ?_ ?_) | go_size))) hn).mono ?_
  rintro e w1 ⟨rfl, hb1⟩
  have hz1 := hb1.size
  rw [hg]
  obtain ⟨kp, kq, ko, -, hzw10⟩ := HK.out w1 (by repeat' (first | (with_reducible exact Below.refl _ _) | (with_reducible assumption) | (with_reducible refine Below.alloc ?_ ?_ _) | (with_reducible refine Below.setCell ?_ ?_ _) | (with_reducible refine Below.drew ?_) | (with_reducible refine below_drewN ?_ _) | (with_reducible refine below_via (by with_reducible assumption) ?_ ?_) | go_size))
  obtain ⟨_, _, _, _⟩ := kp
  obtain ⟨_, _, _, _, _, _, _⟩ := kq
  obtain ⟨_, o3, o4, o5, o6, o7, o8⟩ := ko
  go_wp2_with fail
  refine (sIsPrint p t q u d l _).mono ?_
  rintro e w2 ⟨rfl, hb2⟩
  have hz2 := hb2.size
  rw [hp]
  obtain ⟨kp, kq, ko, -, hzw20⟩ := HK.out w2 (by repeat' (first | (with_reducible exact Below.refl _ _) | (with_reducible assumption) | (with_reducible refine Below.alloc ?_ ?_ _) | (with_reducible refine Below.setCell ?_ ?_ _) | (with_reducible refine Below.drew ?_) | (with_reducible refine below_drewN ?_ _) | (with_reducible refine below_via (by with_reducible assumption) ?_ ?_) | go_size))
  obtain ⟨_, _, _, _⟩ := kp
  obtain ⟨_, _, _, _, _, _, _⟩ := kq
  obtain ⟨_, o3, o4, o5, o6, o7, o8⟩ := ko
  go_wp2_with fail
  refine (sKnown R C a n cp zs _ (HH.out.below (by repeat' (first | (with_reducible exact Below.refl _ _) | (with_reducible assumption) | (with_reducible refine Below.alloc ?_ ?_ _) | (with_reducible refine Below.setCell ?_ ?_ _) | (with_reducible refine Below.drew ?_) | (with_reducible refine below_drewN ?_ _) | (with_reducible refine below_via (by with_reducible assumption) ?_ ?_) | go_size))) hn hg).mono ?_
  rintro e w3 ⟨rfl, hb3⟩
  have hz3 := hb3.size
  rw [hk]
  obtain ⟨kp, kq, ko, -, hzw30⟩ := HK.out w3 (by repeat' (first | (with_reducible exact Below.refl _ _) | (with_reducible assumption) | (with_reducible refine Below.alloc ?_ ?_ _) | (with_reducible refine Below.setCell ?_ ?_ _) | (with_reducible refine Below.drew ?_) | (with_reducible refine below_drewN ?_ _) | (with_reducible refine below_via (by with_reducible assumption) ?_ ?_) | go_size))
  obtain ⟨_, _, _, _⟩ := kp
  obtain ⟨_, _, _, _, _, _, _⟩ := kq
  obtain ⟨_, o3, o4, o5, o6, o7, o8⟩ := ko
  go_wp2_with fail
  refine (sPS R C p t q u d l _).mono ?_
  rw [E1.out, E2.out, E3.out]
  rintro e w4 ⟨rfl, hb4⟩
  have hz4 := hb4.size
  obtain ⟨kp, kq, ko, hbw40, hzw40⟩ := HK.out w4 (by repeat' (first | (with_reducible exact Below.refl _ _) | (with_reducible assumption) | (with_reducible refine Below.alloc ?_ ?_ _) | (with_reducible refine Below.setCell ?_ ?_ _) | (with_reducible refine Below.drew ?_) | (with_reducible refine below_drewN ?_ _) | (with_reducible refine below_via (by with_reducible assumption) ?_ ?_) | go_size))
  obtain ⟨_, _, _, _⟩ := kp
  obtain ⟨_, _, _, _, _, _, _⟩ := kq
  obtain ⟨_, o3, o4, o5, o6, o7, o8⟩ := ko
  go_wp2
  refine bodyPost_ret (v := .tuple #[.agg #[.int .i64 0, .int .i64 0, .slice none 0 0], .int .i64 1]) (by simp [results, Try.results23, go_sem, o3, o4, o5]) rfl ?_
  exact ⟨none, 0, rfl, World.ownsRow_nil _ _ _ _, by repeat' (first | (with_reducible exact Below.refl _ _) | (with_reducible assumption) | (with_reducible refine Below.alloc ?_ ?_ _) | (with_reducible refine Below.setCell ?_ ?_ _) | (with_reducible refine Below.drew ?_) | (with_reducible refine below_drewN ?_ _) | (with_reducible refine below_via (by with_reducible assumption) ?_ ?_) | go_size), by simp⟩
set_option maxHeartbeats 4000000 in
theorem sPrG_ps2 (R C : Int) (a : Option Addr) (n cp : Nat) (zs : List Int) (p t q u d l : Int) (w : World) (h : Rd w a n zs) (hn : n ≤ 1048576) (hg : gridB R C n zs = true) (hp : printB p t q u d l = true) (hk : knB zs = true) (hE : psE p t q u d l R C = 2) (T1 T2 : Int) (h1 : selI (psB p t q u d l R C) (sideV R q t) 0 = T1) (h2 : selI (psB p t q u d l R C) (sideV C q p) 0 = T2) :
    Calls Try.prog 23 #[.agg #[.int .i64 R, .int .i64 C, .slice a n cp], .agg #[.int .i64 p, .int .i64 t, .int .i64 q, .int .i64 u, .int .i64 d, .int .i64 l]] w (ResG w 0 0 [] 2) := by
  have HH := Lib.hid h
  clear h
  have E1 := Lib.hid h1
  have E2 := Lib.hid h2
  have E3 := Lib.hid hE
  clear h1 h2 hE
  have HN0 := Lib.hid (smp_new (.int .i64 R) (.int .i64 C) (.slice a n cp) p t q u d l 29 34 32 w)
  go_enter Try.func23, Try.ntmps23
  go_wp2_with fail
  obtain ⟨W, hW⟩ : ∃ W : World, W = (((w.alloc (.cells #[.int .i64 R, .int .i64 C, .slice a n cp] 29)).alloc (.cells #[.int .i64 p, .int .i64 t, .int .i64 q, .int .i64 u, .int .i64 d, .int .i64 l] 34)).alloc (.cells #[.int .i64 0, .int .i64 0, .slice none 0 0] 32)) := ⟨_, rfl⟩
  have HSZ : Hid (W.heap.size = w.heap.size + 3) := by unfold Hid; rw [hW]; simp
  rw [← hW] at HN0
  rw [← hW]
  have HK : Hid (∀ wr, Below W.heap.size W wr → Box3 wr w.heap.size (.int .i64 R) (.int .i64 C) (.slice a n cp) ∧ Box6 wr (w.heap.size + 1) p t q u d l ∧ Out3 wr (w.heap.size + 1 + 1) ∧ Below w.heap.size w wr ∧ w.heap.size + 3 ≤ wr.heap.size) := fun wr h => HN0.out wr (h.mono (by rw [HSZ.out]; exact Nat.le_refl _))
  have hbW := (HK.out W (Below.refl _ _)).2.2.2.1
  have hwW := (HK.out W (Below.refl _ _)).2.2.2.2
  clear hW HN0
  refine (sIsGrid R C a n cp zs _ (HH.out.below (by repeat' (first | (with_reducible exact Below.refl _ _) | (with_reducible assumption) | (with_reducible refine Below.alloc ?_ ?_ _) | (with_reducible refine Below.setCell ?_ ?_ _) | (with_reducible refine Below.drew ?_) | (with_reducible refine below_drewN ?_ _) | (with_reducible refine below_via (by with_reducible assumption) ?_ ?_) | go_size))) hn).mono ?_
  rintro e w1 ⟨rfl, hb1⟩
  have hz1 := hb1.size
  rw [hg]
  obtain ⟨kp, kq, ko, -, hzw10⟩ := HK.out w1 (by repeat' (first | (with_reducible exact Below.refl _ _) | (with_reducible assumption) | (with_reducible refine Below.alloc ?_ ?_ _) | (with_reducible refine Below.setCell ?_ ?_ _) | (with_reducible refine Below.drew ?_) | (with_reducible refine below_drewN ?_ _) | (with_reducible refine below_via (by with_reducible assumption) ?_ ?_) | go_size))
  obtain ⟨_, _, _, _⟩ := kp
  obtain ⟨_, _, _, _, _, _, _⟩ := kq
  obtain ⟨_, o3, o4, o5, o6, o7, o8⟩ := ko
  go_wp2_with fail
  refine (sIsPrint p t q u d l _).mono ?_
  rintro e w2 ⟨rfl, hb2⟩
  have hz2 := hb2.size
  rw [hp]
  obtain ⟨kp, kq, ko, -, hzw20⟩ := HK.out w2 (by repeat' (first | (with_reducible exact Below.refl _ _) | (with_reducible assumption) | (with_reducible refine Below.alloc ?_ ?_ _) | (with_reducible refine Below.setCell ?_ ?_ _) | (with_reducible refine Below.drew ?_) | (with_reducible refine below_drewN ?_ _) | (with_reducible refine below_via (by with_reducible assumption) ?_ ?_) | go_size))
  obtain ⟨_, _, _, _⟩ := kp
  obtain ⟨_, _, _, _, _, _, _⟩ := kq
  obtain ⟨_, o3, o4, o5, o6, o7, o8⟩ := ko
  go_wp2_with fail
  refine (sKnown R C a n cp zs _ (HH.out.below (by repeat' (first | (with_reducible exact Below.refl _ _) | (with_reducible assumption) | (with_reducible refine Below.alloc ?_ ?_ _) | (with_reducible refine Below.setCell ?_ ?_ _) | (with_reducible refine Below.drew ?_) | (with_reducible refine below_drewN ?_ _) | (with_reducible refine below_via (by with_reducible assumption) ?_ ?_) | go_size))) hn hg).mono ?_
  rintro e w3 ⟨rfl, hb3⟩
  have hz3 := hb3.size
  rw [hk]
  obtain ⟨kp, kq, ko, -, hzw30⟩ := HK.out w3 (by repeat' (first | (with_reducible exact Below.refl _ _) | (with_reducible assumption) | (with_reducible refine Below.alloc ?_ ?_ _) | (with_reducible refine Below.setCell ?_ ?_ _) | (with_reducible refine Below.drew ?_) | (with_reducible refine below_drewN ?_ _) | (with_reducible refine below_via (by with_reducible assumption) ?_ ?_) | go_size))
  obtain ⟨_, _, _, _⟩ := kp
  obtain ⟨_, _, _, _, _, _, _⟩ := kq
  obtain ⟨_, o3, o4, o5, o6, o7, o8⟩ := ko
  go_wp2_with fail
  refine (sPS R C p t q u d l _).mono ?_
  rw [E1.out, E2.out, E3.out]
  rintro e w4 ⟨rfl, hb4⟩
  have hz4 := hb4.size
  obtain ⟨kp, kq, ko, hbw40, hzw40⟩ := HK.out w4 (by repeat' (first | (with_reducible exact Below.refl _ _) | (with_reducible assumption) | (with_reducible refine Below.alloc ?_ ?_ _) | (with_reducible refine Below.setCell ?_ ?_ _) | (with_reducible refine Below.drew ?_) | (with_reducible refine below_drewN ?_ _) | (with_reducible refine below_via (by with_reducible assumption) ?_ ?_) | go_size))
  obtain ⟨_, _, _, _⟩ := kp
  obtain ⟨_, _, _, _, _, _, _⟩ := kq
  obtain ⟨_, o3, o4, o5, o6, o7, o8⟩ := ko
  go_wp2
  refine bodyPost_ret (v := .tuple #[.agg #[.int .i64 0, .int .i64 0, .slice none 0 0], .int .i64 2]) (by simp [results, Try.results23, go_sem, o3, o4, o5]) rfl ?_
  exact ⟨none, 0, rfl, World.ownsRow_nil _ _ _ _, by repeat' (first | (with_reducible exact Below.refl _ _) | (with_reducible assumption) | (with_reducible refine Below.alloc ?_ ?_ _) | (with_reducible refine Below.setCell ?_ ?_ _) | (with_reducible refine Below.drew ?_) | (with_reducible refine below_drewN ?_ _) | (with_reducible refine below_via (by with_reducible assumption) ?_ ?_) | go_size), by simp⟩
set_option maxHeartbeats 4000000 in
theorem sPrG_ps3 (R C : Int) (a : Option Addr) (n cp : Nat) (zs : List Int) (p t q u d l : Int) (w : World) (h : Rd w a n zs) (hn : n ≤ 1048576) (hg : gridB R C n zs = true) (hp : printB p t q u d l = true) (hk : knB zs = true) (hE : psE p t q u d l R C = 3) (T1 T2 : Int) (h1 : selI (psB p t q u d l R C) (sideV R q t) 0 = T1) (h2 : selI (psB p t q u d l R C) (sideV C q p) 0 = T2) :
    Calls Try.prog 23 #[.agg #[.int .i64 R, .int .i64 C, .slice a n cp], .agg #[.int .i64 p, .int .i64 t, .int .i64 q, .int .i64 u, .int .i64 d, .int .i64 l]] w (ResG w 0 0 [] 3) := by
  have HH := Lib.hid h
  clear h
  have E1 := Lib.hid h1
  have E2 := Lib.hid h2
  have E3 := Lib.hid hE
  clear h1 h2 hE
  have HN0 := Lib.hid (smp_new (.int .i64 R) (.int .i64 C) (.slice a n cp) p t q u d l 29 34 32 w)
  go_enter Try.func23, Try.ntmps23
  go_wp2_with fail
  obtain ⟨W, hW⟩ : ∃ W : World, W = (((w.alloc (.cells #[.int .i64 R, .int .i64 C, .slice a n cp] 29)).alloc (.cells #[.int .i64 p, .int .i64 t, .int .i64 q, .int .i64 u, .int .i64 d, .int .i64 l] 34)).alloc (.cells #[.int .i64 0, .int .i64 0, .slice none 0 0] 32)) := ⟨_, rfl⟩
  have HSZ : Hid (W.heap.size = w.heap.size + 3) := by unfold Hid; rw [hW]; simp
  rw [← hW] at HN0
  rw [← hW]
  have HK : Hid (∀ wr, Below W.heap.size W wr → Box3 wr w.heap.size (.int .i64 R) (.int .i64 C) (.slice a n cp) ∧ Box6 wr (w.heap.size + 1) p t q u d l ∧ Out3 wr (w.heap.size + 1 + 1) ∧ Below w.heap.size w wr ∧ w.heap.size + 3 ≤ wr.heap.size) := fun wr h => HN0.out wr (h.mono (by rw [HSZ.out]; exact Nat.le_refl _))
  have hbW := (HK.out W (Below.refl _ _)).2.2.2.1
  have hwW := (HK.out W (Below.refl _ _)).2.2.2.2
  clear hW HN0
  refine (sIsGrid R C a n cp zs _ (HH.out.below (by repeat' (first | (with_reducible exact Below.refl _ _) | (with_reducible assumption) | (with_reducible refine Below.alloc ?_ ?_ _) | (with_reducible refine Below.setCell ?_ ?_ _) | (with_reducible refine Below.drew ?_) | (with_reducible refine below_drewN ?_ _) | (with_reducible refine below_via (by with_reducible assumption) ?_ ?_) | go_size))) hn).mono ?_
  rintro e w1 ⟨rfl, hb1⟩
  have hz1 := hb1.size
  rw [hg]
  obtain ⟨kp, kq, ko, -, hzw10⟩ := HK.out w1 (by repeat' (first | (with_reducible exact Below.refl _ _) | (with_reducible assumption) | (with_reducible refine Below.alloc ?_ ?_ _) | (with_reducible refine Below.setCell ?_ ?_ _) | (with_reducible refine Below.drew ?_) | (with_reducible refine below_drewN ?_ _) | (with_reducible refine below_via (by with_reducible assumption) ?_ ?_) | go_size))
  obtain ⟨_, _, _, _⟩ := kp
  obtain ⟨_, _, _, _, _, _, _⟩ := kq
  obtain ⟨_, o3, o4, o5, o6, o7, o8⟩ := ko
  go_wp2_with fail
  refine (sIsPrint p t q u d l _).mono ?_
  rintro e w2 ⟨rfl, hb2⟩
  have hz2 := hb2.size
  rw [hp]
  obtain ⟨kp, kq, ko, -, hzw20⟩ := HK.out w2 (by repeat' (first | (with_reducible exact Below.refl _ _) | (with_reducible assumption) | (with_reducible refine Below.alloc ?_ ?_ _) | (with_reducible refine Below.setCell ?_ ?_ _) | (with_reducible refine Below.drew ?_) | (with_reducible refine below_drewN ?_ _) | (with_reducible refine below_via (by with_reducible assumption) ?_ ?_) | go_size))
  obtain ⟨_, _, _, _⟩ := kp
  obtain ⟨_, _, _, _, _, _, _⟩ := kq
  obtain ⟨_, o3, o4, o5, o6, o7, o8⟩ := ko
  go_wp2_with fail
  refine (sKnown R C a n cp zs _ (HH.out.below (by repeat' (first | (with_reducible exact Below.refl _ _) | (with_reducible assumption) | (with_reducible refine Below.alloc ?_ ?_ _) | (with_reducible refine Below.setCell ?_ ?_ _) | (with_reducible refine Below.drew ?_) | (with_reducible refine below_drewN ?_ _) | (with_reducible refine below_via (by with_reducible assumption) ?_ ?_) | go_size))) hn hg).mono ?_
  rintro e w3 ⟨rfl, hb3⟩
  have hz3 := hb3.size
  rw [hk]
  obtain ⟨kp, kq, ko, -, hzw30⟩ := HK.out w3 (by repeat' (first | (with_reducible exact Below.refl _ _) | (with_reducible assumption) | (with_reducible refine Below.alloc ?_ ?_ _) | (with_reducible refine Below.setCell ?_ ?_ _) | (with_reducible refine Below.drew ?_) | (with_reducible refine below_drewN ?_ _) | (with_reducible refine below_via (by with_reducible assumption) ?_ ?_) | go_size))
  obtain ⟨_, _, _, _⟩ := kp
  obtain ⟨_, _, _, _, _, _, _⟩ := kq
  obtain ⟨_, o3, o4, o5, o6, o7, o8⟩ := ko
  go_wp2_with fail
  refine (sPS R C p t q u d l _).mono ?_
  rw [E1.out, E2.out, E3.out]
  rintro e w4 ⟨rfl, hb4⟩
  have hz4 := hb4.size
  obtain ⟨kp, kq, ko, hbw40, hzw40⟩ := HK.out w4 (by repeat' (first | (with_reducible exact Below.refl _ _) | (with_reducible assumption) | (with_reducible refine Below.alloc ?_ ?_ _) | (with_reducible refine Below.setCell ?_ ?_ _) | (with_reducible refine Below.drew ?_) | (with_reducible refine below_drewN ?_ _) | (with_reducible refine below_via (by with_reducible assumption) ?_ ?_) | go_size))
  obtain ⟨_, _, _, _⟩ := kp
  obtain ⟨_, _, _, _, _, _, _⟩ := kq
  obtain ⟨_, o3, o4, o5, o6, o7, o8⟩ := ko
  go_wp2
  refine bodyPost_ret (v := .tuple #[.agg #[.int .i64 0, .int .i64 0, .slice none 0 0], .int .i64 3]) (by simp [results, Try.results23, go_sem, o3, o4, o5]) rfl ?_
  exact ⟨none, 0, rfl, World.ownsRow_nil _ _ _ _, by repeat' (first | (with_reducible exact Below.refl _ _) | (with_reducible assumption) | (with_reducible refine Below.alloc ?_ ?_ _) | (with_reducible refine Below.setCell ?_ ?_ _) | (with_reducible refine Below.drew ?_) | (with_reducible refine below_drewN ?_ _) | (with_reducible refine below_via (by with_reducible assumption) ?_ ?_) | go_size), by simp⟩
set_option maxHeartbeats 4000000 in
theorem iPrG_no1 (R C : Int) (a : Option Addr) (n cp : Nat) (zs : List Int) (p t q u d l : Int) (w : World) (h : Rd w a n zs) (hn : n ≤ 1048576) (hg : gridB R C n zs = false) :
    Calls Try.prog 25 #[.agg #[.int .i64 R, .int .i64 C, .slice a n cp], .agg #[.int .i64 p, .int .i64 t, .int .i64 q, .int .i64 u, .int .i64 d, .int .i64 l]] w (ResG w 0 0 [] 1) := by
  have HH := Lib.hid h
  clear h
  have HN0 := Lib.hid (smp_new (.int .i64 R) (.int .i64 C) (.slice a n cp) p t q u d l 29 34 32 w)
  go_enter Try.func25, Try.ntmps25
  go_wp2_with fail
  obtain ⟨W, hW⟩ : ∃ W : World, W = (((w.alloc (.cells #[.int .i64 R, .int .i64 C, .slice a n cp] 29)).alloc (.cells #[.int .i64 p, .int .i64 t, .int .i64 q, .int .i64 u, .int .i64 d, .int .i64 l] 34)).alloc (.cells #[.int .i64 0, .int .i64 0, .slice none 0 0] 32)) := ⟨_, rfl⟩
  have HSZ : Hid (W.heap.size = w.heap.size + 3) := by unfold Hid; rw [hW]; simp
  rw [← hW] at HN0
  rw [← hW]
  have HK : Hid (∀ wr, Below W.heap.size W wr → Box3 wr w.heap.size (.int .i64 R) (.int .i64 C) (.slice a n cp) ∧ Box6 wr (w.heap.size + 1) p t q u d l ∧ Out3 wr (w.heap.size + 1 + 1) ∧ Below w.heap.size w wr ∧ w.heap.size + 3 ≤ wr.heap.size) := fun wr h => HN0.out wr (h.mono (by rw [HSZ.out]; exact Nat.le_refl _))
  have hbW := (HK.out W (Below.refl _ _)).2.2.2.1
  have hwW := (HK.out W (Below.refl _ _)).2.2.2.2
  clear hW HN0
  refine (iIsGrid R C a n cp zs _ (HH.out.below (by repeat' (first | (with_reducible exact Below.refl _ _) | (with_reducible assumption) | (with_reducible refine Below.alloc ?_ ?_ _) | (with_reducible refine Below.setCell ?_ ?_ _) | (with_reducible refine Below.drew ?_) | (with_reducible refine below_drewN ?_ _) | (with_reducible refine below_via (by with_reducible assumption) ?_ ?_) | go_size))) hn).mono ?_
  rintro e w1 ⟨rfl, hb1⟩
  have hz1 := hb1.size
  rw [hg]
  obtain ⟨kp, kq, ko, hbw10, hzw10⟩ := HK.out w1 (by repeat' (first | (with_reducible exact Below.refl _ _) | (with_reducible assumption) | (with_reducible refine Below.alloc ?_ ?_ _) | (with_reducible refine Below.setCell ?_ ?_ _) | (with_reducible refine Below.drew ?_) | (with_reducible refine below_drewN ?_ _) | (with_reducible refine below_via (by with_reducible assumption) ?_ ?_) | go_size))
  obtain ⟨_, _, _, _⟩ := kp
  obtain ⟨_, _, _, _, _, _, _⟩ := kq
  obtain ⟨_, o3, o4, o5, o6, o7, o8⟩ := ko
  go_wp2
  refine bodyPost_ret (v := .tuple #[.agg #[.int .i64 0, .int .i64 0, .slice none 0 0], .int .i64 1]) (by simp [results, Try.results25, go_sem, o3, o4, o5]) rfl ?_
  exact ⟨none, 0, rfl, World.ownsRow_nil _ _ _ _, by repeat' (first | (with_reducible exact Below.refl _ _) | (with_reducible assumption) | (with_reducible refine Below.alloc ?_ ?_ _) | (with_reducible refine Below.setCell ?_ ?_ _) | (with_reducible refine Below.drew ?_) | (with_reducible refine below_drewN ?_ _) | (with_reducible refine below_via (by with_reducible assumption) ?_ ?_) | go_size), by simp⟩
set_option maxHeartbeats 4000000 in
theorem iPrG_no2 (R C : Int) (a : Option Addr) (n cp : Nat) (zs : List Int) (p t q u d l : Int) (w : World) (h : Rd w a n zs) (hn : n ≤ 1048576) (hg : gridB R C n zs = true) (hp : printB p t q u d l = false) :
    Calls Try.prog 25 #[.agg #[.int .i64 R, .int .i64 C, .slice a n cp], .agg #[.int .i64 p, .int .i64 t, .int .i64 q, .int .i64 u, .int .i64 d, .int .i64 l]] w (ResG w 0 0 [] 1) := by
  have HH := Lib.hid h
  clear h
  have HN0 := Lib.hid (smp_new (.int .i64 R) (.int .i64 C) (.slice a n cp) p t q u d l 29 34 32 w)
  go_enter Try.func25, Try.ntmps25
  go_wp2_with fail
  obtain ⟨W, hW⟩ : ∃ W : World, W = (((w.alloc (.cells #[.int .i64 R, .int .i64 C, .slice a n cp] 29)).alloc (.cells #[.int .i64 p, .int .i64 t, .int .i64 q, .int .i64 u, .int .i64 d, .int .i64 l] 34)).alloc (.cells #[.int .i64 0, .int .i64 0, .slice none 0 0] 32)) := ⟨_, rfl⟩
  have HSZ : Hid (W.heap.size = w.heap.size + 3) := by unfold Hid; rw [hW]; simp
  rw [← hW] at HN0
  rw [← hW]
  have HK : Hid (∀ wr, Below W.heap.size W wr → Box3 wr w.heap.size (.int .i64 R) (.int .i64 C) (.slice a n cp) ∧ Box6 wr (w.heap.size + 1) p t q u d l ∧ Out3 wr (w.heap.size + 1 + 1) ∧ Below w.heap.size w wr ∧ w.heap.size + 3 ≤ wr.heap.size) := fun wr h => HN0.out wr (h.mono (by rw [HSZ.out]; exact Nat.le_refl _))
  have hbW := (HK.out W (Below.refl _ _)).2.2.2.1
  have hwW := (HK.out W (Below.refl _ _)).2.2.2.2
  clear hW HN0
  refine (iIsGrid R C a n cp zs _ (HH.out.below (by repeat' (first | (with_reducible exact Below.refl _ _) | (with_reducible assumption) | (with_reducible refine Below.alloc ?_ ?_ _) | (with_reducible refine Below.setCell ?_ ?_ _) | (with_reducible refine Below.drew ?_) | (with_reducible refine below_drewN ?_ _) | (with_reducible refine below_via (by with_reducible assumption) ?_ ?_) | go_size))) hn).mono ?_
  rintro e w1 ⟨rfl, hb1⟩
  have hz1 := hb1.size
  rw [hg]
  obtain ⟨kp, kq, ko, -, hzw10⟩ := HK.out w1 (by repeat' (first | (with_reducible exact Below.refl _ _) | (with_reducible assumption) | (with_reducible refine Below.alloc ?_ ?_ _) | (with_reducible refine Below.setCell ?_ ?_ _) | (with_reducible refine Below.drew ?_) | (with_reducible refine below_drewN ?_ _) | (with_reducible refine below_via (by with_reducible assumption) ?_ ?_) | go_size))
  obtain ⟨_, _, _, _⟩ := kp
  obtain ⟨_, _, _, _, _, _, _⟩ := kq
  obtain ⟨_, o3, o4, o5, o6, o7, o8⟩ := ko
  go_wp2_with fail
  refine (iIsPrint p t q u d l _).mono ?_
  rintro e w2 ⟨rfl, hb2⟩
  have hz2 := hb2.size
  rw [hp]
  obtain ⟨kp, kq, ko, hbw20, hzw20⟩ := HK.out w2 (by repeat' (first | (with_reducible exact Below.refl _ _) | (with_reducible assumption) | (with_reducible refine Below.alloc ?_ ?_ _) | (with_reducible refine Below.setCell ?_ ?_ _) | (with_reducible refine Below.drew ?_) | (with_reducible refine below_drewN ?_ _) | (with_reducible refine below_via (by with_reducible assumption) ?_ ?_) | go_size))
  obtain ⟨_, _, _, _⟩ := kp
  obtain ⟨_, _, _, _, _, _, _⟩ := kq
  obtain ⟨_, o3, o4, o5, o6, o7, o8⟩ := ko
  go_wp2
  refine bodyPost_ret (v := .tuple #[.agg #[.int .i64 0, .int .i64 0, .slice none 0 0], .int .i64 1]) (by simp [results, Try.results25, go_sem, o3, o4, o5]) rfl ?_
  exact ⟨none, 0, rfl, World.ownsRow_nil _ _ _ _, by repeat' (first | (with_reducible exact Below.refl _ _) | (with_reducible assumption) | (with_reducible refine Below.alloc ?_ ?_ _) | (with_reducible refine Below.setCell ?_ ?_ _) | (with_reducible refine Below.drew ?_) | (with_reducible refine below_drewN ?_ _) | (with_reducible refine below_via (by with_reducible assumption) ?_ ?_) | go_size), by simp⟩
set_option maxHeartbeats 4000000 in
theorem iPrG_kn (R C : Int) (a : Option Addr) (n cp : Nat) (zs : List Int) (p t q u d l : Int) (w : World) (h : Rd w a n zs) (hn : n ≤ 1048576) (hg : gridB R C n zs = true) (hp : printB p t q u d l = true) (hk : knB zs = false) :
    Calls Try.prog 25 #[.agg #[.int .i64 R, .int .i64 C, .slice a n cp], .agg #[.int .i64 p, .int .i64 t, .int .i64 q, .int .i64 u, .int .i64 d, .int .i64 l]] w (ResG w 0 0 [] 5) := by
  have HH := Lib.hid h
  clear h
  have HN0 := Lib.hid (smp_new (.int .i64 R) (.int .i64 C) (.slice a n cp) p t q u d l 29 34 32 w)
  go_enter Try.func25, Try.ntmps25
  go_wp2_with fail
  obtain ⟨W, hW⟩ : ∃ W : World, W = (((w.alloc (.cells #[.int .i64 R, .int .i64 C, .slice a n cp] 29)).alloc (.cells #[.int .i64 p, .int .i64 t, .int .i64 q, .int .i64 u, .int .i64 d, .int .i64 l] 34)).alloc (.cells #[.int .i64 0, .int .i64 0, .slice none 0 0] 32)) := ⟨_, rfl⟩
  have HSZ : Hid (W.heap.size = w.heap.size + 3) := by unfold Hid; rw [hW]; simp
  rw [← hW] at HN0
  rw [← hW]
  have HK : Hid (∀ wr, Below W.heap.size W wr → Box3 wr w.heap.size (.int .i64 R) (.int .i64 C) (.slice a n cp) ∧ Box6 wr (w.heap.size + 1) p t q u d l ∧ Out3 wr (w.heap.size + 1 + 1) ∧ Below w.heap.size w wr ∧ w.heap.size + 3 ≤ wr.heap.size) := fun wr h => HN0.out wr (h.mono (by rw [HSZ.out]; exact Nat.le_refl _))
  have hbW := (HK.out W (Below.refl _ _)).2.2.2.1
  have hwW := (HK.out W (Below.refl _ _)).2.2.2.2
  clear hW HN0
  refine (iIsGrid R C a n cp zs _ (HH.out.below (by repeat' (first | (with_reducible exact Below.refl _ _) | (with_reducible assumption) | (with_reducible refine Below.alloc ?_ ?_ _) | (with_reducible refine Below.setCell ?_ ?_ _) | (with_reducible refine Below.drew ?_) | (with_reducible refine below_drewN ?_ _) | (with_reducible refine below_via (by with_reducible assumption) ?_ ?_) | go_size))) hn).mono ?_
  rintro e w1 ⟨rfl, hb1⟩
  have hz1 := hb1.size
  rw [hg]
  obtain ⟨kp, kq, ko, -, hzw10⟩ := HK.out w1 (by repeat' (first | (with_reducible exact Below.refl _ _) | (with_reducible assumption) | (with_reducible refine Below.alloc ?_ ?_ _) | (with_reducible refine Below.setCell ?_ ?_ _) | (with_reducible refine Below.drew ?_) | (with_reducible refine below_drewN ?_ _) | (with_reducible refine below_via (by with_reducible assumption) ?_ ?_) | go_size))
  obtain ⟨_, _, _, _⟩ := kp
  obtain ⟨_, _, _, _, _, _, _⟩ := kq
  obtain ⟨_, o3, o4, o5, o6, o7, o8⟩ := ko
  go_wp2_with fail
  refine (iIsPrint p t q u d l _).mono ?_
  rintro e w2 ⟨rfl, hb2⟩
  have hz2 := hb2.size
  rw [hp]
  obtain ⟨kp, kq, ko, -, hzw20⟩ := HK.out w2 (by repeat' (first | (with_reducible exact Below.refl _ _) | (with_reducible assumption) | (with_reducible refine Below.alloc ?_ ?_ _) | (with_reducible refine Below.setCell ?_ ?_ _) | (with_reducible refine Below.drew ?_) | (with_reducible refine below_drewN ?_ _) | (with_reducible refine below_via (by with_reducible assumption) ?_ ?_) | go_size))
  obtain ⟨_, _, _, _⟩ := kp
  obtain ⟨_, _, _, _, _, _, _⟩ := kq
  obtain ⟨_, o3, o4, o5, o6, o7, o8⟩ := ko
  go_wp2_with fail
  refine (iKnown R C a n cp zs _ (HH.out.below (by repeat' (first | (with_reducible exact Below.refl _ _) | (with_reducible assumption) | (with_reducible refine Below.alloc ?_ ?_ _) | (with_reducible refine Below.setCell ?_ ?_ _) | (with_reducible refine Below.drew ?_) | (with_reducible refine below_drewN ?_ _) | (with_reducible refine below_via (by with_reducible assumption) ?_ ?_) | go_size))) hn).mono ?_
  rintro e w3 ⟨rfl, hb3⟩
  have hz3 := hb3.size
  rw [hk]
  obtain ⟨kp, kq, ko, hbw30, hzw30⟩ := HK.out w3 (by repeat' (first | (with_reducible exact Below.refl _ _) | (with_reducible assumption) | (with_reducible refine Below.alloc ?_ ?_ _) | (with_reducible refine Below.setCell ?_ ?_ _) | (with_reducible refine Below.drew ?_) | (with_reducible refine below_drewN ?_ _) | (with_reducible refine below_via (by with_reducible assumption) ?_ ?_) | go_size))
  obtain ⟨_, _, _, _⟩ := kp
  obtain ⟨_, _, _, _, _, _, _⟩ := kq
  obtain ⟨_, o3, o4, o5, o6, o7, o8⟩ := ko
  go_wp2
  refine bodyPost_ret (v := .tuple #[.agg #[.int .i64 0, .int .i64 0, .slice none 0 0], .int .i64 5]) (by simp [results, Try.results25, go_sem, o3, o4, o5]) rfl ?_
  exact ⟨none, 0, rfl, World.ownsRow_nil _ _ _ _, by repeat' (first | (with_reducible exact Below.refl _ _) | (with_reducible assumption) | (with_reducible refine Below.alloc ?_ ?_ _) | (with_reducible refine Below.setCell ?_ ?_ _) | (with_reducible refine Below.drew ?_) | (with_reducible refine below_drewN ?_ _) | (with_reducible refine below_via (by with_reducible assumption) ?_ ?_) | go_size), by simp⟩
set_option maxHeartbeats 4000000 in
theorem iPrG_ps1 (R C : Int) (a : Option Addr) (n cp : Nat) (zs : List Int) (p t q u d l : Int) (w : World) (h : Rd w a n zs) (hn : n ≤ 1048576) (hg : gridB R C n zs = true) (hp : printB p t q u d l = true) (hk : knB zs = true) (hE : psE p t q u d l R C = 1) (T1 T2 : Int) (h1 : selI (psB p t q u d l R C) (sideV R q t) 0 = T1) (h2 : selI (psB p t q u d l R C) (sideV C q p) 0 = T2) :
    Calls Try.prog 25 #[.agg #[.int .i64 R, .int .i64 C, .slice a n cp], .agg #[.int .i64 p, .int .i64 t, .int .i64 q, .int .i64 u, .int .i64 d, .int .i64 l]] w (ResG w 0 0 [] 1) := by
  have HH := Lib.hid h
  clear h
  have E1 := Lib.hid h1
  have E2 := Lib.hid h2
  have E3 := Lib.hid hE
  clear h1 h2 hE
  have HN0 := Lib.hid (smp_new (.int .i64 R) (.int .i64 C) (.slice a n cp) p t q u d l 29 34 32 w)
  go_enter Try.func25, Try.ntmps25
  go_wp2_with fail
  obtain ⟨W, hW⟩ : ∃ W : World, W = (((w.alloc (.cells #[.int .i64 R, .int .i64 C, .slice a n cp] 29)).alloc (.cells #[.int .i64 p, .int .i64 t, .int .i64 q, .int .i64 u, .int .i64 d, .int .i64 l] 34)).alloc (.cells #[.int .i64 0, .int .i64 0, .slice none 0 0] 32)) := ⟨_, rfl⟩
  have HSZ : Hid (W.heap.size = w.heap.size + 3) := by unfold Hid; rw [hW]; simp
  rw [← hW] at HN0
  rw [← hW]
  have HK : Hid (∀ wr, Below W.heap.size W wr → Box3 wr w.heap.size (.int .i64 R) (.int .i64 C) (.slice a n cp) ∧ Box6 wr (w.heap.size + 1) p t q u d l ∧ Out3 wr (w.heap.size + 1 + 1) ∧ Below w.heap.size w wr ∧ w.heap.size + 3 ≤ wr.heap.size) := fun wr h => HN0.out wr (h.mono (by rw [HSZ.out]; exact Nat.le_refl _))
  have hbW := (HK.out W (Below.refl _ _)).2.2.2.1
  have hwW := (HK.out W (Below.refl _ _)).2.2.2.2
  clear hW HN0
  refine (iIsGrid R C a n cp zs _ (HH.out.below (by repeat' (first | (with_reducible exact Below.refl _ _) | (with_reducible assumption) | (with_reducible refine Below.alloc ?_ ?_ _) | (with_reducible refine Below.setCell ?_ ?_ _) | (with_reducible refine Below.drew ?_) | (with_reducible refine below_drewN ?_ _) | (with_reducible refine below_via (by with_reducible assumption) ?_ ?_) | go_size))) hn).mono ?_
  rintro e w1 ⟨rfl, hb1⟩
  have hz1 := hb1.size
  rw [hg]
  obtain ⟨kp, kq, ko, -, hzw10⟩ := HK.out w1 (by repeat' (first | (with_reducible exact Below.refl _ _) | (with_reducible assumption) | (with_reducible refine Below.alloc ?_ ?_ _) | (with_reducible refine Below.setCell ?_ ?_ _) | (with_reducible refine Below.drew ?_) | (with_reducible refine below_drewN ?_ _) | (with_reducible refine below_via (by with_reducible assumption) ?_ ?_) | go_size))
  obtain ⟨_, _, _, _⟩ := kp
  obtain ⟨_, _, _, _, _, _, _⟩ := kq
  obtain ⟨_, o3, o4, o5, o6, o7, o8⟩ := ko
  go_wp2_with fail
  refine (iIsPrint p t q u d l _).mono ?_
  rintro e w2 ⟨rfl, hb2⟩
  have hz2 := hb2.size
  rw [hp]
  obtain ⟨kp, kq, ko, -, hzw20⟩ := HK.out w2 (by repeat' (first | (with_reducible exact Below.refl _ _) | (with_reducible assumption) | (with_reducible refine Below.alloc ?_ ?_ _) | (with_reducible refine Below.setCell ?_ ?_ _) | (with_reducible refine Below.drew ?_) | (with_reducible refine below_drewN ?_ _) | (with_reducible refine below_via (by with_reducible assumption) ?_ ?_) | go_size))
  obtain ⟨_, _, _, _⟩ := kp
  obtain ⟨_, _, _, _, _, _, _⟩ := kq
  obtain ⟨_, o3, o4, o5, o6, o7, o8⟩ := ko
  go_wp2_with fail
  refine (iKnown R C a n cp zs _ (HH.out.below (by repeat' (first | (with_reducible exact Below.refl _ _) | (with_reducible assumption) | (with_reducible refine Below.alloc ?_ ?_ _) | (with_reducible refine Below.setCell ?_ ?_ _) | (with_reducible refine Below.drew ?_) | (with_reducible refine below_drewN ?_ _) | (with_reducible refine below_via (by with_reducible assumption) ?_ ?_) | go_size))) hn).mono ?_
  rintro e w3 ⟨rfl, hb3⟩
  have hz3 := hb3.size
  rw [hk]
  obtain ⟨kp, kq, ko, -, hzw30⟩ := HK.out w3 (by repeat' (first | (with_reducible exact Below.refl _ _) | (with_reducible assumption) | (with_reducible refine Below.alloc ?_ ?_ _) | (with_reducible refine Below.setCell ?_ ?_ _) | (with_reducible refine Below.drew ?_) | (with_reducible refine below_drewN ?_ _) | (with_reducible refine below_via (by with_reducible assumption) ?_ ?_) | go_size))
  obtain ⟨_, _, _, _⟩ := kp
  obtain ⟨_, _, _, _, _, _, _⟩ := kq
  obtain ⟨_, o3, o4, o5, o6, o7, o8⟩ := ko
  go_wp2_with fail
  refine (iPS R C p t q u d l _).mono ?_
  rw [E1.out, E2.out, E3.out]
  rintro e w4 ⟨rfl, hb4⟩
  have hz4 := hb4.size
  obtain ⟨kp, kq, ko, hbw40, hzw40⟩ := HK.out w4 (by repeat' (first | (with_reducible exact Below.refl _ _) | (with_reducible assumption) | (with_reducible refine Below.alloc ?_ ?_ _) | (with_reducible refine Below.setCell ?_ ?_ _) | (with_reducible refine Below.drew ?_) | (with_reducible refine below_drewN ?_ _) | (with_reducible refine below_via (by with_reducible assumption) ?_ ?_) | go_size))
  obtain ⟨_, _, _, _⟩ := kp
  obtain ⟨_, _, _, _, _, _, _⟩ := kq
  obtain ⟨_, o3, o4, o5, o6, o7, o8⟩ := ko
  go_wp2
  refine bodyPost_ret (v := .tuple #[.agg #[.int .i64 0, .int .i64 0, .slice none 0 0], .int .i64 1]) (by simp [results, Try.results25, go_sem, o3, o4, o5]) rfl ?_
  exact ⟨none, 0, rfl, World.ownsRow_nil _ _ _ _, by repeat' (first | (with_reducible exact Below.refl _ _) | (with_reducible assumption) | (with_reducible refine Below.alloc ?_ ?_ _) | (with_reducible refine Below.setCell ?_ ?_ _) | (with_reducible refine Below.drew ?_) | (with_reducible refine below_drewN ?_ _) | (with_reducible refine below_via (by with_reducible assumption) ?_ ?_) | go_size), by simp⟩
set_option maxHeartbeats 4000000 in
theorem iPrG_ps2 (R C : Int) (a : Option Addr) (n cp : Nat) (zs : List Int) (p t q u d l : Int) (w : World) (h : Rd w a n zs) (hn : n ≤ 1048576) (hg : gridB R C n zs = true) (hp : printB p t q u d l = true) (hk : knB zs = true) (hE : psE p t q u d l R C = 2) (T1 T2 : Int) (h1 : selI (psB p t q u d l R C) (sideV R q t) 0 = T1) (h2 : selI (psB p t q u d l R C) (sideV C q p) 0 = T2) :
    Calls Try.prog 25 #[.agg #[.int .i64 R, .int .i64 C, .slice a n cp], .agg #[.int .i64 p, .int .i64 t, .int .i64 q, .int .i64 u, .int .i64 d, .int .i64 l]] w (ResG w 0 0 [] 2) := by
  have HH := Lib.hid h
  clear h
  have E1 := Lib.hid h1
  have E2 := Lib.hid h2
  have E3 := Lib.hid hE
  clear h1 h2 hE
  have HN0 := Lib.hid (smp_new (.int .i64 R) (.int .i64 C) (.slice a n cp) p t q u d l 29 34 32 w)
  go_enter Try.func25, Try.ntmps25
  go_wp2_with fail
  obtain ⟨W, hW⟩ : ∃ W : World, W = (((w.alloc (.cells #[.int .i64 R, .int .i64 C, .slice a n cp] 29)).alloc (.cells #[.int .i64 p, .int .i64 t, .int .i64 q, .int .i64 u, .int .i64 d, .int .i64 l] 34)).alloc (.cells #[.int .i64 0, .int .i64 0, .slice none 0 0] 32)) := ⟨_, rfl⟩
  have HSZ : Hid (W.heap.size = w.heap.size + 3) := by unfold Hid; rw [hW]; simp
  rw [← hW] at HN0
  rw [← hW]
  have HK : Hid (∀ wr, Below W.heap.size W wr → Box3 wr w.heap.size (.int .i64 R) (.int .i64 C) (.slice a n cp) ∧ Box6 wr (w.heap.size + 1) p t q u d l ∧ Out3 wr (w.heap.size + 1 + 1) ∧ Below w.heap.size w wr ∧ w.heap.size + 3 ≤ wr.heap.size) := fun wr h => HN0.out wr (h.mono (by rw [HSZ.out]; exact Nat.le_refl _))
  have hbW := (HK.out W (Below.refl _ _)).2.2.2.1
  have hwW := (HK.out W (Below.refl _ _)).2.2.2.2
  clear hW HN0
  refine (iIsGrid R C a n cp zs _ (HH.out.below (by repeat' (first | (with_reducible exact Below.refl _ _) | (with_reducible assumption) | (with_reducible refine Below.alloc ?_ ?_ _) | (with_reducible refine Below.setCell ?_ ?_ _) | (with_reducible refine Below.drew ?_) | (with_reducible refine below_drewN ?_ _) | (with_reducible refine below_via (by with_reducible assumption) ?_ ?_) | go_size))) hn).mono ?_
  rintro e w1 ⟨rfl, hb1⟩
  have hz1 := hb1.size
  rw [hg]
  obtain ⟨kp, kq, ko, -, hzw10⟩ := HK.out w1 (by repeat' (first | (with_reducible exact Below.refl _ _) | (with_reducible assumption) | (with_reducible refine Below.alloc ?_ ?_ _) | (with_reducible refine Below.setCell ?_ ?_ _) | (with_reducible refine Below.drew ?_) | (with_reducible refine below_drewN ?_ _) | (with_reducible refine below_via (by with_reducible assumption) ?_ ?_) | go_size))
  obtain ⟨_, _, _, _⟩ := kp
  obtain ⟨_, _, _, _, _, _, _⟩ := kq
  obtain ⟨_, o3, o4, o5, o6, o7, o8⟩ := ko
  go_wp2_with fail
  refine (iIsPrint p t q u d l _).mono ?_
  rintro e w2 ⟨rfl, hb2⟩
  have hz2 := hb2.size
  rw [hp]
  obtain ⟨kp, kq, ko, -, hzw20⟩ := HK.out w2 (by repeat' (first | (with_reducible exact Below.refl _ _) | (with_reducible assumption) | (with_reducible refine Below.alloc ?_ ?_ _) | (with_reducible refine Below.setCell ?_ ?_ _) | (with_reducible refine Below.drew ?_) | (with_reducible refine below_drewN ?_ _) | (with_reducible refine below_via (by with_reducible assumption) ?_ ?_) | go_size))
  obtain ⟨_, _, _, _⟩ := kp
  obtain ⟨_, _, _, _, _, _, _⟩ := kq
  obtain ⟨_, o3, o4, o5, o6, o7, o8⟩ := ko
  go_wp2_with fail
  refine (iKnown R C a n cp zs _ (HH.out.below (by repeat' (first | (with_reducible exact Below.refl _ _) | (with_reducible assumption) | (with_reducible refine Below.alloc ?_ ?_ _) | (with_reducible refine Below.setCell ?_ ?_ _) | (with_reducible refine Below.drew ?_) | (with_reducible refine below_drewN ?_ _) | (with_reducible refine below_via (by with_reducible assumption) ?_ ?_) | go_size))) hn).mono ?_
  rintro e w3 ⟨rfl, hb3⟩
  have hz3 := hb3.size
  rw [hk]
  obtain ⟨kp, kq, ko, -, hzw30⟩ := HK.out w3 (by repeat' (first | (with_reducible exact Below.refl _ _) | (with_reducible assumption) | (with_reducible refine Below.alloc ?_ ?_ _) | (with_reducible refine Below.setCell ?_ ?_ _) | (with_reducible refine Below.drew ?_) | (with_reducible refine below_drewN ?_ _) | (with_reducible refine below_via (by with_reducible assumption) ?_ ?_) | go_size))
  obtain ⟨_, _, _, _⟩ := kp
  obtain ⟨_, _, _, _, _, _, _⟩ := kq
  obtain ⟨_, o3, o4, o5, o6, o7, o8⟩ := ko
  go_wp2_with fail
  refine (iPS R C p t q u d l _).mono ?_
  rw [E1.out, E2.out, E3.out]
  rintro e w4 ⟨rfl, hb4⟩
  have hz4 := hb4.size
  obtain ⟨kp, kq, ko, hbw40, hzw40⟩ := HK.out w4 (by repeat' (first | (with_reducible exact Below.refl _ _) | (with_reducible assumption) | (with_reducible refine Below.alloc ?_ ?_ _) | (with_reducible refine Below.setCell ?_ ?_ _) | (with_reducible refine Below.drew ?_) | (with_reducible refine below_drewN ?_ _) | (with_reducible refine below_via (by with_reducible assumption) ?_ ?_) | go_size))
  obtain ⟨_, _, _, _⟩ := kp
  obtain ⟨_, _, _, _, _, _, _⟩ := kq
  obtain ⟨_, o3, o4, o5, o6, o7, o8⟩ := ko
  go_wp2
  refine bodyPost_ret (v := .tuple #[.agg #[.int .i64 0, .int .i64 0, .slice none 0 0], .int .i64 2]) (by simp [results, Try.results25, go_sem, o3, o4, o5]) rfl ?_
  exact ⟨none, 0, rfl, World.ownsRow_nil _ _ _ _, by repeat' (first | (with_reducible exact Below.refl _ _) | (with_reducible assumption) | (with_reducible refine Below.alloc ?_ ?_ _) | (with_reducible refine Below.setCell ?_ ?_ _) | (with_reducible refine Below.drew ?_) | (with_reducible refine below_drewN ?_ _) | (with_reducible refine below_via (by with_reducible assumption) ?_ ?_) | go_size), by simp⟩
set_option maxHeartbeats 4000000 in
theorem iPrG_ps3 (R C : Int) (a : Option Addr) (n cp : Nat) (zs : List Int) (p t q u d l : Int) (w : World) (h : Rd w a n zs) (hn : n ≤ 1048576) (hg : gridB R C n zs = true) (hp : printB p t q u d l = true) (hk : knB zs = true) (hE : psE p t q u d l R C = 3) (T1 T2 : Int) (h1 : selI (psB p t q u d l R C) (sideV R q t) 0 = T1) (h2 : selI (psB p t q u d l R C) (sideV C q p) 0 = T2) :
    Calls Try.prog 25 #[.agg #[.int .i64 R, .int .i64 C, .slice a n cp], .agg #[.int .i64 p, .int .i64 t, .int .i64 q, .int .i64 u, .int .i64 d, .int .i64 l]] w (ResG w 0 0 [] 3) := by
  have HH := Lib.hid h
  clear h
  have E1 := Lib.hid h1
  have E2 := Lib.hid h2
  have E3 := Lib.hid hE
  clear h1 h2 hE
  have HN0 := Lib.hid (smp_new (.int .i64 R) (.int .i64 C) (.slice a n cp) p t q u d l 29 34 32 w)
  go_enter Try.func25, Try.ntmps25
  go_wp2_with fail
  obtain ⟨W, hW⟩ : ∃ W : World, W = (((w.alloc (.cells #[.int .i64 R, .int .i64 C, .slice a n cp] 29)).alloc (.cells #[.int .i64 p, .int .i64 t, .int .i64 q, .int .i64 u, .int .i64 d, .int .i64 l] 34)).alloc (.cells #[.int .i64 0, .int .i64 0, .slice none 0 0] 32)) := ⟨_, rfl⟩
  have HSZ : Hid (W.heap.size = w.heap.size + 3) := by unfold Hid; rw [hW]; simp
  rw [← hW] at HN0
  rw [← hW]
  have HK : Hid (∀ wr, Below W.heap.size W wr → Box3 wr w.heap.size (.int .i64 R) (.int .i64 C) (.slice a n cp) ∧ Box6 wr (w.heap.size + 1) p t q u d l ∧ Out3 wr (w.heap.size + 1 + 1) ∧ Below w.heap.size w wr ∧ w.heap.size + 3 ≤ wr.heap.size) := fun wr h => HN0.out wr (h.mono (by rw [HSZ.out]; exact Nat.le_refl _))
  have hbW := (HK.out W (Below.refl _ _)).2.2.2.1
  have hwW := (HK.out W (Below.refl _ _)).2.2.2.2
  clear hW HN0
  refine (iIsGrid R C a n cp zs _ (HH.out.below (by repeat' (first | (with_reducible exact Below.refl _ _) | (with_reducible assumption) | (with_reducible refine Below.alloc ?_ ?_ _) | (with_reducible refine Below.setCell ?_ ?_ _) | (with_reducible refine Below.drew ?_) | (with_reducible refine below_drewN ?_ _) | (with_reducible refine below_via (by with_reducible assumption) ?_ ?_) | go_size))) hn).mono ?_
  rintro e w1 ⟨rfl, hb1⟩
  have hz1 := hb1.size
  rw [hg]
  obtain ⟨kp, kq, ko, -, hzw10⟩ := HK.out w1 (by repeat' (first | (with_reducible exact Below.refl _ _) | (with_reducible assumption) | (with_reducible refine Below.alloc ?_ ?_ _) | (with_reducible refine Below.setCell ?_ ?_ _) | (with_reducible refine Below.drew ?_) | (with_reducible refine below_drewN ?_ _) | (with_reducible refine below_via (by with_reducible assumption) ?_ ?_) | go_size))
  obtain ⟨_, _, _, _⟩ := kp
  obtain ⟨_, _, _, _, _, _, _⟩ := kq
  obtain ⟨_, o3, o4, o5, o6, o7, o8⟩ := ko
  go_wp2_with fail
  refine (iIsPrint p t q u d l _).mono ?_
  rintro e w2 ⟨rfl, hb2⟩
  have hz2 := hb2.size
  rw [hp]
  obtain ⟨kp, kq, ko, -, hzw20⟩ := HK.out w2 (by repeat' (first | (with_reducible exact Below.refl _ _) | (with_reducible assumption) | (with_reducible refine Below.alloc ?_ ?_ _) | (with_reducible refine Below.setCell ?_ ?_ _) | (with_reducible refine Below.drew ?_) | (with_reducible refine below_drewN ?_ _) | (with_reducible refine below_via (by with_reducible assumption) ?_ ?_) | go_size))
  obtain ⟨_, _, _, _⟩ := kp
  obtain ⟨_, _, _, _, _, _, _⟩ := kq
  obtain ⟨_, o3, o4, o5, o6, o7, o8⟩ := ko
  go_wp2_with fail
  refine (iKnown R C a n cp zs _ (HH.out.below (by repeat' (first | (with_reducible exact Below.refl _ _) | (with_reducible assumption) | (with_reducible refine Below.alloc ?_ ?_ _) | (with_reducible refine Below.setCell ?_ ?_ _) | (with_reducible refine Below.drew ?_) | (with_reducible refine below_drewN ?_ _) | (with_reducible refine below_via (by with_reducible assumption) ?_ ?_) | go_size))) hn).mono ?_
  rintro e w3 ⟨rfl, hb3⟩
  have hz3 := hb3.size
  rw [hk]
  obtain ⟨kp, kq, ko, -, hzw30⟩ := HK.out w3 (by repeat' (first | (with_reducible exact Below.refl _ _) | (with_reducible assumption) | (with_reducible refine Below.alloc ?_ ?_ _) | (with_reducible refine Below.setCell ?_ ?_ _) | (with_reducible refine Below.drew ?_) | (with_reducible refine below_drewN ?_ _) | (with_reducible refine below_via (by with_reducible assumption) ?_ ?_) | go_size))
  obtain ⟨_, _, _, _⟩ := kp
  obtain ⟨_, _, _, _, _, _, _⟩ := kq
  obtain ⟨_, o3, o4, o5, o6, o7, o8⟩ := ko
  go_wp2_with fail
  refine (iPS R C p t q u d l _).mono ?_
  rw [E1.out, E2.out, E3.out]
  rintro e w4 ⟨rfl, hb4⟩
  have hz4 := hb4.size
  obtain ⟨kp, kq, ko, hbw40, hzw40⟩ := HK.out w4 (by repeat' (first | (with_reducible exact Below.refl _ _) | (with_reducible assumption) | (with_reducible refine Below.alloc ?_ ?_ _) | (with_reducible refine Below.setCell ?_ ?_ _) | (with_reducible refine Below.drew ?_) | (with_reducible refine below_drewN ?_ _) | (with_reducible refine below_via (by with_reducible assumption) ?_ ?_) | go_size))
  obtain ⟨_, _, _, _⟩ := kp
  obtain ⟨_, _, _, _, _, _, _⟩ := kq
  obtain ⟨_, o3, o4, o5, o6, o7, o8⟩ := ko
  go_wp2
  refine bodyPost_ret (v := .tuple #[.agg #[.int .i64 0, .int .i64 0, .slice none 0 0], .int .i64 3]) (by simp [results, Try.results25, go_sem, o3, o4, o5]) rfl ?_
  exact ⟨none, 0, rfl, World.ownsRow_nil _ _ _ _, by repeat' (first | (with_reducible exact Below.refl _ _) | (with_reducible assumption) | (with_reducible refine Below.alloc ?_ ?_ _) | (with_reducible refine Below.setCell ?_ ?_ _) | (with_reducible refine Below.drew ?_) | (with_reducible refine below_drewN ?_ _) | (with_reducible refine below_via (by with_reducible assumption) ?_ ?_) | go_size), by simp⟩
end Go.Proofs.Ytfiddbmjgncabaa
