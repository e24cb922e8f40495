/-
  DERIVED. PrintGrid: the contract of impl.
-/
import Derived.Test.YtfiddbmjgncabaaPrS
import Derived.Test.YtfiddbmjgncabaaPrP
import Derived.Test.YtfiddbmjgncabaaCopyR
import Derived.Deep.Cut
import Derived.Deep.RegionHeld3
namespace Go.Proofs.Ytfiddbmjgncabaa
open Go.RowKit
set_option linter.unusedVariables false
theorem store11 {w : World} {b : Nat} {sr sc p t q u d l R C : Int} {a : Option Addr} {n cp : Nat} (hb : b < w.heap.size) (h0 : w.cell? ⟨b, 0, none⟩ = some (.int .i64 0)) (h1 : w.cell? ⟨b, 1, none⟩ = some (.int .i64 0)) (h2 : w.cell? ⟨b, 2, none⟩ = some (.int .i64 0)) (h3 : w.cell? ⟨b, 3, none⟩ = some (.int .i64 0)) (h4 : w.cell? ⟨b, 4, none⟩ = some (.int .i64 0)) (h5 : w.cell? ⟨b, 5, none⟩ = some (.int .i64 0)) (h6 : w.cell? ⟨b, 6, none⟩ = some (.int .i64 0)) (h7 : w.cell? ⟨b, 7, none⟩ = some (.int .i64 0)) (h8 : w.cell? ⟨b, 8, none⟩ = some (.int .i64 0)) (h9 : w.cell? ⟨b, 9, none⟩ = some (.int .i64 0)) (h10 : w.cell? ⟨b, 10, none⟩ = some (.slice none 0 0)) : Box11 (((((((((((w.setCell ⟨b, 0, none⟩ (.int .i64 sr)).setCell ⟨b, 1, none⟩ (.int .i64 sc)).setCell ⟨b, 2, none⟩ (.int .i64 p)).setCell ⟨b, 3, none⟩ (.int .i64 t)).setCell ⟨b, 4, none⟩ (.int .i64 q)).setCell ⟨b, 5, none⟩ (.int .i64 u)).setCell ⟨b, 6, none⟩ (.int .i64 d)).setCell ⟨b, 7, none⟩ (.int .i64 l)).setCell ⟨b, 8, none⟩ (.int .i64 R)).setCell ⟨b, 9, none⟩ (.int .i64 C)).setCell ⟨b, 10, none⟩ (.slice a n cp)) b sr sc p t q u d l R C a n cp :=
  ⟨by simpa using hb, ((World.cell?_setCell_other _ _ _ _ (by simp)).trans ((World.cell?_setCell_other _ _ _ _ (by simp)).trans ((World.cell?_setCell_other _ _ _ _ (by simp)).trans ((World.cell?_setCell_other _ _ _ _ (by simp)).trans ((World.cell?_setCell_other _ _ _ _ (by simp)).trans ((World.cell?_setCell_other _ _ _ _ (by simp)).trans ((World.cell?_setCell_other _ _ _ _ (by simp)).trans ((World.cell?_setCell_other _ _ _ _ (by simp)).trans ((World.cell?_setCell_other _ _ _ _ (by simp)).trans ((World.cell?_setCell_other _ _ _ _ (by simp)).trans (World.cell?_setCell_same _ ⟨b, 0, none⟩ _ h0))))))))))), ((World.cell?_setCell_other _ _ _ _ (by simp)).trans ((World.cell?_setCell_other _ _ _ _ (by simp)).trans ((World.cell?_setCell_other _ _ _ _ (by simp)).trans ((World.cell?_setCell_other _ _ _ _ (by simp)).trans ((World.cell?_setCell_other _ _ _ _ (by simp)).trans ((World.cell?_setCell_other _ _ _ _ (by simp)).trans ((World.cell?_setCell_other _ _ _ _ (by simp)).trans ((World.cell?_setCell_other _ _ _ _ (by simp)).trans ((World.cell?_setCell_other _ _ _ _ (by simp)).trans (World.cell?_setCell_same _ ⟨b, 1, none⟩ _ ((World.cell?_setCell_other _ _ _ _ (by simp)).trans h1))))))))))), ((World.cell?_setCell_other _ _ _ _ (by simp)).trans ((World.cell?_setCell_other _ _ _ _ (by simp)).trans ((World.cell?_setCell_other _ _ _ _ (by simp)).trans ((World.cell?_setCell_other _ _ _ _ (by simp)).trans ((World.cell?_setCell_other _ _ _ _ (by simp)).trans ((World.cell?_setCell_other _ _ _ _ (by simp)).trans ((World.cell?_setCell_other _ _ _ _ (by simp)).trans ((World.cell?_setCell_other _ _ _ _ (by simp)).trans (World.cell?_setCell_same _ ⟨b, 2, none⟩ _ ((World.cell?_setCell_other _ _ _ _ (by simp)).trans ((World.cell?_setCell_other _ _ _ _ (by simp)).trans h2))))))))))), ((World.cell?_setCell_other _ _ _ _ (by simp)).trans ((World.cell?_setCell_other _ _ _ _ (by simp)).trans ((World.cell?_setCell_other _ _ _ _ (by simp)).trans ((World.cell?_setCell_other _ _ _ _ (by simp)).trans ((World.cell?_setCell_other _ _ _ _ (by simp)).trans ((World.cell?_setCell_other _ _ _ _ (by simp)).trans ((World.cell?_setCell_other _ _ _ _ (by simp)).trans (World.cell?_setCell_same _ ⟨b, 3, none⟩ _ ((World.cell?_setCell_other _ _ _ _ (by simp)).trans ((World.cell?_setCell_other _ _ _ _ (by simp)).trans ((World.cell?_setCell_other _ _ _ _ (by simp)).trans h3))))))))))), ((World.cell?_setCell_other _ _ _ _ (by simp)).trans ((World.cell?_setCell_other _ _ _ _ (by simp)).trans ((World.cell?_setCell_other _ _ _ _ (by simp)).trans ((World.cell?_setCell_other _ _ _ _ (by simp)).trans ((World.cell?_setCell_other _ _ _ _ (by simp)).trans ((World.cell?_setCell_other _ _ _ _ (by simp)).trans (World.cell?_setCell_same _ ⟨b, 4, none⟩ _ ((World.cell?_setCell_other _ _ _ _ (by simp)).trans ((World.cell?_setCell_other _ _ _ _ (by simp)).trans ((World.cell?_setCell_other _ _ _ _ (by simp)).trans ((World.cell?_setCell_other _ _ _ _ (by simp)).trans h4))))))))))), ((World.cell?_setCell_other _ _ _ _ (by simp)).trans ((World.cell?_setCell_other _ _ _ _ (by simp)).trans ((World.cell?_setCell_other _ _ _ _ (by simp)).trans ((World.cell?_setCell_other _ _ _ _ (by simp)).trans ((World.cell?_setCell_other _ _ _ _ (by simp)).trans (World.cell?_setCell_same _ ⟨b, 5, none⟩ _ ((World.cell?_setCell_other _ _ _ _ (by simp)).trans ((World.cell?_setCell_other _ _ _ _ (by simp)).trans ((World.cell?_setCell_other _ _ _ _ (by simp)).trans ((World.cell?_setCell_other _ _ _ _ (by simp)).trans ((World.cell?_setCell_other _ _ _ _ (by simp)).trans h5))))))))))), ((World.cell?_setCell_other _ _ _ _ (by simp)).trans ((World.cell?_setCell_other _ _ _ _ (by simp)).trans ((World.cell?_setCell_other _ _ _ _ (by simp)).trans ((World.cell?_setCell_other _ _ _ _ (by simp)).trans (World.cell?_setCell_same _ ⟨b, 6, none⟩ _ ((World.cell?_setCell_other _ _ _ _ (by simp)).trans ((World.cell?_setCell_other _ _ _ _ (by simp)).trans ((World.cell?_setCell_other _ _ _ _ (by simp)).trans ((World.cell?_setCell_other _ _ _ _ (by simp)).trans ((World.cell?_setCell_other _ _ _ _ (by simp)).trans ((World.cell?_setCell_other _ _ _ _ (by simp)).trans h6))))))))))), ((World.cell?_setCell_other _ _ _ _ (by simp)).trans ((World.cell?_setCell_other _ _ _ _ (by simp)).trans ((World.cell?_setCell_other _ _ _ _ (by simp)).trans (World.cell?_setCell_same _ ⟨b, 7, none⟩ _ ((World.cell?_setCell_other _ _ _ _ (by simp)).trans ((World.cell?_setCell_other _ _ _ _ (by simp)).trans ((World.cell?_setCell_other _ _ _ _ (by simp)).trans ((World.cell?_setCell_other _ _ _ _ (by simp)).trans ((World.cell?_setCell_other _ _ _ _ (by simp)).trans ((World.cell?_setCell_other _ _ _ _ (by simp)).trans ((World.cell?_setCell_other _ _ _ _ (by simp)).trans h7))))))))))), ((World.cell?_setCell_other _ _ _ _ (by simp)).trans ((World.cell?_setCell_other _ _ _ _ (by simp)).trans (World.cell?_setCell_same _ ⟨b, 8, none⟩ _ ((World.cell?_setCell_other _ _ _ _ (by simp)).trans ((World.cell?_setCell_other _ _ _ _ (by simp)).trans ((World.cell?_setCell_other _ _ _ _ (by simp)).trans ((World.cell?_setCell_other _ _ _ _ (by simp)).trans ((World.cell?_setCell_other _ _ _ _ (by simp)).trans ((World.cell?_setCell_other _ _ _ _ (by simp)).trans ((World.cell?_setCell_other _ _ _ _ (by simp)).trans ((World.cell?_setCell_other _ _ _ _ (by simp)).trans h8))))))))))), ((World.cell?_setCell_other _ _ _ _ (by simp)).trans (World.cell?_setCell_same _ ⟨b, 9, none⟩ _ ((World.cell?_setCell_other _ _ _ _ (by simp)).trans ((World.cell?_setCell_other _ _ _ _ (by simp)).trans ((World.cell?_setCell_other _ _ _ _ (by simp)).trans ((World.cell?_setCell_other _ _ _ _ (by simp)).trans ((World.cell?_setCell_other _ _ _ _ (by simp)).trans ((World.cell?_setCell_other _ _ _ _ (by simp)).trans ((World.cell?_setCell_other _ _ _ _ (by simp)).trans ((World.cell?_setCell_other _ _ _ _ (by simp)).trans ((World.cell?_setCell_other _ _ _ _ (by simp)).trans h9))))))))))), (World.cell?_setCell_same _ ⟨b, 10, none⟩ _ ((World.cell?_setCell_other _ _ _ _ (by simp)).trans ((World.cell?_setCell_other _ _ _ _ (by simp)).trans ((World.cell?_setCell_other _ _ _ _ (by simp)).trans ((World.cell?_setCell_other _ _ _ _ (by simp)).trans ((World.cell?_setCell_other _ _ _ _ (by simp)).trans ((World.cell?_setCell_other _ _ _ _ (by simp)).trans ((World.cell?_setCell_other _ _ _ _ (by simp)).trans ((World.cell?_setCell_other _ _ _ _ (by simp)).trans ((World.cell?_setCell_other _ _ _ _ (by simp)).trans ((World.cell?_setCell_other _ _ _ _ (by simp)).trans h10)))))))))))⟩
theorem entPress : ∀ (args : Array Value) (w : World), (callFunc 76 args).run Try.prog w = .ok (.enter 76 args) w := enters_of Try.func76 (by kernel_rfl) rfl
set_option maxRecDepth 20000 in
set_option maxHeartbeats 8000000 in
theorem iPrG_ok (T1 T2 : Nat) (R C p t q u d l : Int) (a : Option Addr) (n cp : Nat) (zs : List Int) (w : World) (h : Rd w a n zs) (hn : n ≤ 1048576) (hg : gridB R C n zs = true) (hp : printB p t q u d l = true) (hk : knB zs = true) (hE : psE p t q u d l R C = 0) (h1 : selI (psB p t q u d l R C) (sideV R q t) 0 = (T1 : Int)) (h2 : selI (psB p t q u d l R C) (sideV C q p) 0 = (T2 : Int)) (R2 : R ≤ 400) (C2 : C ≤ 400) (p1 : 1 ≤ p) (p2 : p ≤ 12) (t1 : 1 ≤ t) (t2 : t ≤ 12) (q1 : 0 ≤ q) (q2 : q ≤ 16) (u1 : 1 - p ≤ u) (u2 : u ≤ p - 1) (T11 : 1 ≤ T1) (T12 : T1 ≤ 400) (T21 : 1 ≤ T2) (T22 : T2 ≤ 400) :
    Calls Try.prog 25 #[.agg #[.int .i64 R, .int .i64 C, .slice a n cp], .agg #[.int .i64 p, .int .i64 t, .int .i64 q, .int .i64 u, .int .i64 d, .int .i64 l]] w (ResG w (T1 : Int) (T2 : Int) (rastL T2 (prtV R C zs p t q u d l) (T1 * T2)) 0) := by
  obtain ⟨r1, r2, r3, r4, r5, r6, r7, r8⟩ := gridB_yes hg
  have HH := Lib.hid h
  have H7 := Lib.hid r7
  have E1 := Lib.hid h1
  have E2 := Lib.hid h2
  have E3 := Lib.hid hE
  clear h1 h2 hE
  clear h r5 r6 r7 r8
  obtain ⟨i0, hi, iz0, iz1, iz2⟩ := info_parts infoInt
  have hp2 : T1 * T2 ≤ 400 * 400 := Nat.mul_le_mul (by omega) (by omega)
  have hsz1 : sideV R q t = (T1 : Int) ∧ sideV C q p = (T2 : Int) := by
    rcases psE_cases p t q u d l R C with ⟨hB, hh⟩ | ⟨hB, -⟩
    · have := E3.out; omega
    · have e1 := E1.out
      have e2 := E2.out
      rw [hB] at e1 e2
      exact ⟨e1, e2⟩
  have HSD := Lib.hid hsz1
  clear hsz1
  have HN0 := Lib.hid (smp_new (.int .i64 R) (.int .i64 C) (.slice a n cp) p t q u d l 29 34 32 w)
  go_enter Try.func25, Try.ntmps25
  go_wp2_with fail
  obtain ⟨W, hW⟩ : ∃ W : World, W = (((w.alloc (.cells #[.int .i64 R, .int .i64 C, .slice a n cp] 29)).alloc (.cells #[.int .i64 p, .int .i64 t, .int .i64 q, .int .i64 u, .int .i64 d, .int .i64 l] 34)).alloc (.cells #[.int .i64 0, .int .i64 0, .slice none 0 0] 32)) := ⟨_, rfl⟩
  have HSZ : Hid (W.heap.size = w.heap.size + 3) := by unfold Hid; rw [hW]; simp
  rw [← hW] at HN0
  rw [← hW]
  have HK : Hid (∀ wr, Below W.heap.size W wr → Box3 wr w.heap.size (.int .i64 R) (.int .i64 C) (.slice a n cp) ∧ Box6 wr (w.heap.size + 1) p t q u d l ∧ Out3 wr (w.heap.size + 1 + 1) ∧ Below w.heap.size w wr ∧ w.heap.size + 3 ≤ wr.heap.size) := fun wr h => HN0.out wr (h.mono (by rw [HSZ.out]; exact Nat.le_refl _))
  have hbW := (HK.out W (Below.refl _ _)).2.2.2.1
  have hwW := (HK.out W (Below.refl _ _)).2.2.2.2
  clear hW HN0
  refine (iIsGrid R C a n cp zs _ (HH.out.below (by repeat' (first | (with_reducible exact Below.refl _ _) | (with_reducible assumption) | (with_reducible refine Below.alloc ?_ ?_ _) | (with_reducible refine Below.setCell ?_ ?_ _) | (with_reducible refine Below.drew ?_) | (with_reducible refine below_drewN ?_ _) | (with_reducible refine below_via (by with_reducible assumption) ?_ ?_) | go_size))) hn).mono ?_
  rintro e w1 ⟨rfl, hb1⟩
  have hz1 := hb1.size
  rw [hg]
  obtain ⟨kp, kq, ko, -, hzw10⟩ := HK.out w1 (by repeat' (first | (with_reducible exact Below.refl _ _) | (with_reducible assumption) | (with_reducible refine Below.alloc ?_ ?_ _) | (with_reducible refine Below.setCell ?_ ?_ _) | (with_reducible refine Below.drew ?_) | (with_reducible refine below_drewN ?_ _) | (with_reducible refine below_via (by with_reducible assumption) ?_ ?_) | go_size))
  obtain ⟨_, _, _, _⟩ := kp
  obtain ⟨_, _, _, _, _, _, _⟩ := kq
  obtain ⟨_, o3, o4, o5, o6, o7, o8⟩ := ko
  go_wp2_with fail
  refine (iIsPrint p t q u d l _).mono ?_
  rintro e w2 ⟨rfl, hb2⟩
  have hz2 := hb2.size
  rw [hp]
  obtain ⟨kp, kq, ko, -, hzw20⟩ := HK.out w2 (by repeat' (first | (with_reducible exact Below.refl _ _) | (with_reducible assumption) | (with_reducible refine Below.alloc ?_ ?_ _) | (with_reducible refine Below.setCell ?_ ?_ _) | (with_reducible refine Below.drew ?_) | (with_reducible refine below_drewN ?_ _) | (with_reducible refine below_via (by with_reducible assumption) ?_ ?_) | go_size))
  obtain ⟨_, _, _, _⟩ := kp
  obtain ⟨_, _, _, _, _, _, _⟩ := kq
  obtain ⟨_, o3, o4, o5, o6, o7, o8⟩ := ko
  go_wp2_with fail
  refine (iKnown R C a n cp zs _ (HH.out.below (by repeat' (first | (with_reducible exact Below.refl _ _) | (with_reducible assumption) | (with_reducible refine Below.alloc ?_ ?_ _) | (with_reducible refine Below.setCell ?_ ?_ _) | (with_reducible refine Below.drew ?_) | (with_reducible refine below_drewN ?_ _) | (with_reducible refine below_via (by with_reducible assumption) ?_ ?_) | go_size))) hn).mono ?_
  rintro e w3 ⟨rfl, hb3⟩
  have hz3 := hb3.size
  rw [hk]
  obtain ⟨kp, kq, ko, -, hzw30⟩ := HK.out w3 (by repeat' (first | (with_reducible exact Below.refl _ _) | (with_reducible assumption) | (with_reducible refine Below.alloc ?_ ?_ _) | (with_reducible refine Below.setCell ?_ ?_ _) | (with_reducible refine Below.drew ?_) | (with_reducible refine below_drewN ?_ _) | (with_reducible refine below_via (by with_reducible assumption) ?_ ?_) | go_size))
  obtain ⟨_, _, _, _⟩ := kp
  obtain ⟨_, _, _, _, _, _, _⟩ := kq
  obtain ⟨_, o3, o4, o5, o6, o7, o8⟩ := ko
  go_wp2_with fail
  refine (iPS R C p t q u d l _).mono ?_
  rw [E1.out, E2.out, E3.out]
  rintro e w4 ⟨rfl, hb4⟩
  have hz4 := hb4.size
  obtain ⟨kp, kq, ko, -, hzw40⟩ := HK.out w4 (by repeat' (first | (with_reducible exact Below.refl _ _) | (with_reducible assumption) | (with_reducible refine Below.alloc ?_ ?_ _) | (with_reducible refine Below.setCell ?_ ?_ _) | (with_reducible refine Below.drew ?_) | (with_reducible refine below_drewN ?_ _) | (with_reducible refine below_via (by with_reducible assumption) ?_ ?_) | go_size))
  obtain ⟨_, _, _, _⟩ := kp
  obtain ⟨_, _, _, _, _, _, _⟩ := kq
  obtain ⟨_, o3, o4, o5, o6, o7, o8⟩ := ko
  have HB3 : Hid (Below W.heap.size W w4) := by unfold Hid; repeat' (first | (with_reducible exact Below.refl _ _) | (with_reducible assumption) | (with_reducible refine Below.alloc ?_ ?_ _) | (with_reducible refine Below.setCell ?_ ?_ _) | (with_reducible refine Below.drew ?_) | (with_reducible refine below_drewN ?_ _) | (with_reducible refine below_via (by with_reducible assumption) ?_ ?_) | go_size)
  have HR4 : Hid (Rd w4 a n zs) := HH.out.below (HK.out w4 HB3.out).2.2.2.1
  clear hb1 hb2 hb3 hb4 hg hp hk o3 o4 o5 o6 o7 o8
  have HSr : Hid (∀ w', Below w4.heap.size w4 w' → Below w4.heap.size w4 w' ∧ w.heap.size + 3 ≤ w'.heap.size ∧ w'.cell? ⟨w.heap.size, 0, none⟩ = some (.int .i64 R) ∧ w'.cell? ⟨w.heap.size, 1, none⟩ = some (.int .i64 C) ∧ w'.cell? ⟨w.heap.size, 2, none⟩ = some (.slice a n cp) ∧ w'.cell? ⟨w.heap.size + 1, 0, none⟩ = some (.int .i64 p) ∧ w'.cell? ⟨w.heap.size + 1, 1, none⟩ = some (.int .i64 t) ∧ w'.cell? ⟨w.heap.size + 1, 2, none⟩ = some (.int .i64 q) ∧ w'.cell? ⟨w.heap.size + 1, 3, none⟩ = some (.int .i64 u) ∧ w'.cell? ⟨w.heap.size + 1, 4, none⟩ = some (.int .i64 d) ∧ w'.cell? ⟨w.heap.size + 1, 5, none⟩ = some (.int .i64 l)) := by
    intro w' hb
    obtain ⟨⟨-, g1, g2, g3⟩, ⟨-, g4, g5, g6, g7, g8, g9⟩, -, -, g10⟩ := HK.out w' (HB3.out.trans (hb.mono HB3.out.size))
    exact ⟨hb, g10, g1, g2, g3, g4, g5, g6, g7, g8, g9⟩
  have hw40 : w.heap.size + 3 ≤ w4.heap.size := by omega
  go_wp2_with fail
  go_cut [9] from 10 (fun pp wx => ∃ b : Nat, pp = .pointer (some ⟨b, 0, none⟩) ∧ Hid (Box11 wx b (T1 : Int) (T2 : Int) p t q u d l R C a n cp) ∧ Hid (Below w4.heap.size w4 wx))
  case first =>
    go_region_held3 (fun w' => Below w4.heap.size w4 w' ∧ w.heap.size + 3 ≤ w'.heap.size ∧ w'.cell? ⟨w.heap.size, 0, none⟩ = some (.int .i64 R) ∧ w'.cell? ⟨w.heap.size, 1, none⟩ = some (.int .i64 C) ∧ w'.cell? ⟨w.heap.size, 2, none⟩ = some (.slice a n cp) ∧ w'.cell? ⟨w.heap.size + 1, 0, none⟩ = some (.int .i64 p) ∧ w'.cell? ⟨w.heap.size + 1, 1, none⟩ = some (.int .i64 t) ∧ w'.cell? ⟨w.heap.size + 1, 2, none⟩ = some (.int .i64 q) ∧ w'.cell? ⟨w.heap.size + 1, 3, none⟩ = some (.int .i64 u) ∧ w'.cell? ⟨w.heap.size + 1, 4, none⟩ = some (.int .i64 d) ∧ w'.cell? ⟨w.heap.size + 1, 5, none⟩ = some (.int .i64 l)) (exact HSr.out _ (by repeat' (first | (with_reducible exact Below.refl _ _) | (with_reducible assumption) | (with_reducible refine Below.alloc ?_ ?_ _) | (with_reducible refine Below.setCell ?_ ?_ _) | (with_reducible refine Below.drew ?_) | (with_reducible refine below_drewN ?_ _) | (with_reducible refine below_via (by with_reducible assumption) ?_ ?_) | go_size))) ((go_at_call 74; refine (iSizeOf p t q u d l R C _ q1 q2 r1 R2 r3 C2).mono ?_; rw [HSD.out.1, HSD.out.2]; rintro e w' ⟨rfl, hb⟩; obtain ⟨hc, hf⟩ := bcell hb; have hzz := grow_lt hb; have hz := hb.size; (try simp at hz); (try have hs0 : w4.heap.size < w'.heap.size := (by omega))))
    all_goals
      go_wp2_with fail
      go_meet
      case rel =>
        refine ⟨_, rfl, ?_, by unfold Hid; repeat' (first | (with_reducible exact Below.refl _ _) | (with_reducible assumption) | (with_reducible refine Below.alloc ?_ ?_ _) | (with_reducible refine Below.setCell ?_ ?_ _) | (with_reducible refine Below.drew ?_) | (with_reducible refine below_drewN ?_ _) | (with_reducible refine below_via (by with_reducible assumption) ?_ ?_) | go_size)⟩
        unfold Hid
        first | (with_reducible exact Box11.new _ _ _ _ _ _ _ _ _ _ _ _ _ _ _) | (with_reducible refine store11 (by omega) ?_ ?_ ?_ ?_ ?_ ?_ ?_ ?_ ?_ ?_ ?_ <;> (refine (hb.cell (p := ⟨_, _, none⟩) (by simp)).trans ?_; simp [go_sem]; done))
  obtain ⟨b, rfl, HX, hbc⟩ := hcut
  obtain ⟨w5, rfl⟩ : ∃ w5 : World, w5 = wc := ⟨_, rfl⟩
  have hb5 := hbc.out
  have hz5 := hb5.size
  have HB5 : Hid (Below W.heap.size W w5) := HB3.out.trans (hb5.mono HB3.out.size)
  have hx := HX.out
  obtain ⟨_, _, _, _, _, _, _, _, _, _, _, _⟩ := hx
  have HT : Hid (TellsP 76 (.agg #[.int .i64 (T1 : Int), .int .i64 (T2 : Int), .int .i64 p, .int .i64 t, .int .i64 q, .int .i64 u, .int .i64 d, .int .i64 l, .int .i64 R, .int .i64 C, .slice a n cp]) T1 T2 (prtV R C zs p t q u d l) w5) := by
    intro i j W' hi' hj' hW
    exact iPixP (T1 : Int) (T2 : Int) R C p t q u d l a n cp zs i j W' ((HR4.out.below hb5).below hW) r1 R2 r3 C2 H7.out p1 p2 t1 t2 q1 q2 u1 u2 (by omega) (by omega) _ rfl
  clear hbc HSr HSD HR4
  go_wp2_with fail
  refine (iRasterP 76 (.agg #[.int .i64 (T1 : Int), .int .i64 (T2 : Int), .int .i64 p, .int .i64 t, .int .i64 q, .int .i64 u, .int .i64 d, .int .i64 l, .int .i64 R, .int .i64 C, .slice a n cp]) T1 T2 (prtV R C zs p t q u d l) _ entPress HT.out T11 T12 T21 T22).mono ?_
  rintro e w6 ⟨av, cv, rfl, ho, hb6⟩
  have hz6 := hb6.size
  have hlen : (rastL T2 (prtV R C zs p t q u d l) (T1 * T2)).length = T1 * T2 := rastL_length _ _ _
  have HLEN := Lib.hid hlen
  have HO := Lib.hid ho
  obtain ⟨-, -, ko, hbw, hz60⟩ := HK.out w6 (HB5.out.trans (hb6.mono HB5.out.size))
  obtain ⟨_, o3, o4, o5, o6, o7, o8⟩ := ko
  have HBW := Lib.hid hbw
  clear ho hlen hbw
  go_wp2
  refine bodyPost_ret (v := .tuple #[.agg #[.int .i64 T1, .int .i64 T2, .slice av (rastL T2 (prtV R C zs p t q u d l) (T1 * T2)).length cv], .int .i64 0]) (by simp [results, Try.results25, go_sem, o3, o4, o5]) rfl ?_
  refine ⟨av, cv, rfl, ?_, (((HBW.out.setCell (by simp; omega) _).setCell (by simp; omega) _).setCell (by simp; omega) _), by rw [HLEN.out]; omega⟩
  exact own_mono (own_far (own_far (own_far HO.out (by simp; omega) _) (by simp; omega) _) (by simp; omega) _) (by omega)
end Go.Proofs.Ytfiddbmjgncabaa
