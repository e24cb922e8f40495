/-
  DERIVED. SampleGrid: the contract of impl.
-/
import Derived.Test.YtfiddbmjgncabaaSampS
import Derived.Test.YtfiddbmjgncabaaBin
import Derived.Deep.CutRange
import Derived.Deep.RegionHeld3
import Derived.BigQuiet
namespace Go.Proofs.Ytfiddbmjgncabaa
open Go.RowKit
set_option linter.unusedVariables false
theorem rastL_get' (cols : Nat) (f : Nat → Nat → Int) (k q : Nat) (h : q < k) : (rastL cols f k).getD q 0 = f (q / cols) (q % cols) := by
  simp [rastL, List.getD_eq_getElem?_getD, h]
theorem part_skip (zs : List Int) (k : Nat) (h : k < zs.length) (hb : zs.getD k 0 = 0) : part zs (k + 1) = part zs k := by
  have e : zs.length - k = (zs.length - (k + 1)) + 1 := by omega
  have hz : zs[k] = 0 := by simpa [List.getD_eq_getElem?_getD, List.getElem?_eq_getElem h] using hb
  unfold part
  rw [List.take_succ_eq_append_getElem h, hz, e, List.replicate_succ, List.append_assoc]
  rfl
set_option maxRecDepth 20000 in
set_option maxHeartbeats 8000000 in
theorem iSamp_ok (rows cols : Nat) (r c p t q u d l limit : Int) (a : Option Addr) (n cp : Nat) (zs : List Int) (w : World) (h : Rd w a n zs) (hn : n ≤ 1048576) (hr : rasterB r c n zs = true) (hp : printB p t q u d l = true) (hk : psE p t q u d l (rows : Int) (cols : Int) = 0) (h1 : selI (psB p t q u d l (rows : Int) (cols : Int)) (sideV (rows : Int) q t) 0 = r) (h2 : selI (psB p t q u d l (rows : Int) (cols : Int)) (sideV (cols : Int) q p) 0 = c) (hrr : r = ((rows : Int) + 2 * q) * t) (hcc : c = ((cols : Int) + 2 * q) * p) (p1 : 1 ≤ p) (p2 : p ≤ 12) (t1 : 1 ≤ t) (t2 : t ≤ 12) (q1 : 0 ≤ q) (q2 : q ≤ 16) (rb1 : 1 ≤ rows) (rb : rows ≤ 400) (cb1 : 1 ≤ cols) (cb : cols ≤ 400) :
    Calls Try.prog 16 #[.agg #[.int .i64 r, .int .i64 c, .slice a n cp], .int .i64 (rows : Int), .int .i64 (cols : Int), .agg #[.int .i64 p, .int .i64 t, .int .i64 q, .int .i64 u, .int .i64 d, .int .i64 l], .int .i64 limit] w (ResG w (rows : Int) (cols : Int) (rastL cols (smpV c zs p t q limit) (rows * cols)) 0) := by
  obtain ⟨r1, r2, r3, r4, r5, r6, r7, r8⟩ := rasterB_yes hr
  have HH := Lib.hid h
  have H7 := Lib.hid r7
  have H8 := Lib.hid r8
  have HRR := Lib.hid hrr
  have HCC := Lib.hid hcc
  have E1 := Lib.hid h1
  have E2 := Lib.hid h2
  have E3 := Lib.hid hk
  clear h h1 h2 hk hrr hcc r5 r6 r7 r8
  obtain ⟨i0, hi, iz0, iz1, iz2⟩ := info_parts infoInt
  have hp2 : rows * cols ≤ 400 * 400 := Nat.mul_le_mul (by omega) (by omega)
  have HN0 := Lib.hid (smp_new (.int .i64 r) (.int .i64 c) (.slice a n cp) p t q u d l 32 34 29 w)
  go_enter Try.func16, Try.ntmps16
  go_wp2_with fail
  obtain ⟨W, hW⟩ : ∃ W : World, W = (((w.alloc (.cells #[.int .i64 r, .int .i64 c, .slice a n cp] 32)).alloc (.cells #[.int .i64 p, .int .i64 t, .int .i64 q, .int .i64 u, .int .i64 d, .int .i64 l] 34)).alloc (.cells #[.int .i64 0, .int .i64 0, .slice none 0 0] 29)) := ⟨_, rfl⟩
  have HSZ : Hid (W.heap.size = w.heap.size + 3) := by unfold Hid; rw [hW]; simp
  rw [← hW] at HN0
  rw [← hW]
  have HK : Hid (∀ wr, Below W.heap.size W wr → Box3 wr w.heap.size (.int .i64 r) (.int .i64 c) (.slice a n cp) ∧ Box6 wr (w.heap.size + 1) p t q u d l ∧ Out3 wr (w.heap.size + 1 + 1) ∧ Below w.heap.size w wr ∧ w.heap.size + 3 ≤ wr.heap.size) := fun wr h => HN0.out wr (h.mono (by rw [HSZ.out]; exact Nat.le_refl _))
  have hbW := (HK.out W (Below.refl _ _)).2.2.2.1
  have hwW := (HK.out W (Below.refl _ _)).2.2.2.2
  clear hW HN0
  refine (iIsRaster r c a n cp zs _ (HH.out.below (by repeat' (first | (with_reducible exact Below.refl _ _) | (with_reducible assumption) | (with_reducible refine Below.alloc ?_ ?_ _) | (with_reducible refine Below.setCell ?_ ?_ _) | (with_reducible refine Below.drew ?_) | (with_reducible refine below_drewN ?_ _) | (with_reducible refine below_via (by with_reducible assumption) ?_ ?_) | go_size))) hn).mono ?_
  rintro e w1 ⟨rfl, hb1⟩
  have hz1 := hb1.size
  rw [hr]
  obtain ⟨kp, kq, ko, -, hzw10⟩ := HK.out w1 (by repeat' (first | (with_reducible exact Below.refl _ _) | (with_reducible assumption) | (with_reducible refine Below.alloc ?_ ?_ _) | (with_reducible refine Below.setCell ?_ ?_ _) | (with_reducible refine Below.drew ?_) | (with_reducible refine below_drewN ?_ _) | (with_reducible refine below_via (by with_reducible assumption) ?_ ?_) | go_size))
  obtain ⟨_, _, _, _⟩ := kp
  obtain ⟨_, _, _, _, _, _, _⟩ := kq
  obtain ⟨_, o3, o4, o5, o6, o7, o8⟩ := ko
  go_wp2_with fail
  refine (iIsPrint p t q u d l _).mono ?_
  rintro e w2 ⟨rfl, hb2⟩
  have hz2 := hb2.size
  rw [hp]
  obtain ⟨kp, kq, ko, -, hzw20⟩ := HK.out w2 (by repeat' (first | (with_reducible exact Below.refl _ _) | (with_reducible assumption) | (with_reducible refine Below.alloc ?_ ?_ _) | (with_reducible refine Below.setCell ?_ ?_ _) | (with_reducible refine Below.drew ?_) | (with_reducible refine below_drewN ?_ _) | (with_reducible refine below_via (by with_reducible assumption) ?_ ?_) | go_size))
  obtain ⟨_, _, _, _⟩ := kp
  obtain ⟨_, _, _, _, _, _, _⟩ := kq
  obtain ⟨_, o3, o4, o5, o6, o7, o8⟩ := ko
  go_wp2_with fail
  refine (iPS (rows : Int) (cols : Int) p t q u d l _).mono ?_
  rw [E1.out, E2.out, E3.out]
  rintro e w3 ⟨rfl, hb3⟩
  have hz3 := hb3.size
  obtain ⟨kp, kq, ko, -, hzw30⟩ := HK.out w3 (by repeat' (first | (with_reducible exact Below.refl _ _) | (with_reducible assumption) | (with_reducible refine Below.alloc ?_ ?_ _) | (with_reducible refine Below.setCell ?_ ?_ _) | (with_reducible refine Below.drew ?_) | (with_reducible refine below_drewN ?_ _) | (with_reducible refine below_via (by with_reducible assumption) ?_ ?_) | go_size))
  obtain ⟨_, _, _, _⟩ := kp
  obtain ⟨_, _, _, _, _, _, _⟩ := kq
  obtain ⟨_, o3, o4, o5, o6, o7, o8⟩ := ko
  have HB3 : Hid (Below W.heap.size W w3) := by unfold Hid; repeat' (first | (with_reducible exact Below.refl _ _) | (with_reducible assumption) | (with_reducible refine Below.alloc ?_ ?_ _) | (with_reducible refine Below.setCell ?_ ?_ _) | (with_reducible refine Below.drew ?_) | (with_reducible refine below_drewN ?_ _) | (with_reducible refine below_via (by with_reducible assumption) ?_ ?_) | go_size)
  have hnr : (n : Int) = (rows : Int) * (cols : Int) ∨ True := .inr trivial
  have hmn : rows * cols ≤ 1048576 := by omega
  have hbn : ((rows * cols : Nat) : Int) = (rows : Int) * (cols : Int) := by simp
  have HBN := Lib.hid hbn
  clear hb1 hb2 hb3 hnr hbn hr hp o3 o4 o5 o6 o7 o8
  go_wp2_with fail
  refine (iBlank (rows : Int) (cols : Int) 0 (rows * cols) _ hmn HBN.out).mono ?_
  rintro e w4 ⟨g, rfl, hg, hblk, hb4⟩
  have hz4 := hb4.size
  have HB4 : Hid (Below W.heap.size W w4) := HB3.out.trans (hb4.mono HB3.out.size)
  obtain ⟨kp, kq, ko, -, hw40⟩ := HK.out w4 HB4.out
  obtain ⟨_, _, _, _⟩ := kp
  obtain ⟨_, _, _, _, _, _, _⟩ := kq
  obtain ⟨N, hN⟩ : ∃ N, rows * cols = N := ⟨_, rfl⟩
  rw [hN] at hblk hmn ⊢
  have HNN := Lib.hid hN
  clear hN ko
  go_wp2
  obtain ⟨V, hVV⟩ : ∃ V, V = w4.alloc (.cells #[.int .i64 (rows : Int), .int .i64 (cols : Int), .slice (some ⟨g, 0, none⟩) N N] 29) := ⟨_, rfl⟩
  rw [← hVV]
  have hVB : Below w4.heap.size w4 V := by rw [hVV]; exact (Below.refl _ _).alloc (Nat.le_refl _) _
  have HS : Hid (V.heap.size = w4.heap.size + 1) := by unfold Hid; rw [hVV]; simp
  have hG : Box3 V w4.heap.size (.int .i64 (rows : Int)) (.int .i64 (cols : Int)) (.slice (some ⟨g, 0, none⟩) N N) := by rw [hVV]; exact Box3.new _ _ _ _ _
  have HLN : Hid ((rastL cols (smpV c zs p t q limit) (rows * cols)).length = N) := by
    unfold Hid
    rw [rastL_length, HNN.out]
  have hkk : Blk V g 2 (vals (part (rastL cols (smpV c zs p t q limit) (rows * cols)) 0)) := by
    have e : part (rastL cols (smpV c zs p t q limit) (rows * cols)) 0 = List.replicate N 0 := by rw [part_zero, HLN.out]
    rw [e]
    exact hblk.keep hVB
  have hgl := hblk.lt
  have HD : Hid (∀ wr, Below g V wr → Below w.heap.size w wr ∧ Box3 wr w.heap.size (.int .i64 r) (.int .i64 c) (.slice a n cp) ∧ Box6 wr (w.heap.size + 1) p t q u d l ∧ Out3 wr (w.heap.size + 1 + 1) ∧ Rd wr a n zs ∧ w4.heap.size < wr.heap.size) := by
    intro wr hb
    have hs := hb.size
    have h3 : Below g w4 wr := (hVB.mono (by omega)).trans hb
    have hs1 := HS.out
    have hgW : W.heap.size ≤ g := by have := HB3.out.size; omega
    have h1 : Below W.heap.size W wr := HB4.out.trans (h3.mono hgW)
    obtain ⟨g1, g2, g3, g4, -⟩ := HK.out wr h1
    exact ⟨g4, g1, g2, g3, HH.out.below g4, by omega⟩
  clear hVV hVB hblk hb4 HB4
  have HLV : Hid (∀ k, k < N → (rastL cols (smpV c zs p t q limit) (rows * cols)).getD k 0 = smpV c zs p t q limit (k / cols) (k % cols)) := by
    intro k hk
    exact rastL_get' _ _ _ _ (by rw [HNN.out]; exact hk)
  obtain ⟨L, hLL⟩ : ∃ L, (rastL cols (smpV c zs p t q limit) (rows * cols)) = L := ⟨_, rfl⟩
  rw [hLL] at hkk HLN HLV
  have HLL := Lib.hid hLL
  clear hLL
  go_loopw [57] (fun i wr => ∃ k : Nat, k ≤ N ∧ i = .int .i64 k ∧ Blk wr g 2 (vals (part L k)) ∧ Below g V wr ∧ Box3 wr w4.heap.size (.int .i64 (rows : Int)) (.int .i64 (cols : Int)) (.slice (some ⟨g, 0, none⟩) N N)) (fun i _ => N - (intOf i).toNat)
  case atStart => exact ⟨0, Nat.zero_le _, rfl, hkk, Below.refl _ _, hG⟩
  case round =>
    clear hkk hG
    obtain ⟨k, hkn, rfl, hblk, hbel, hG⟩ := hrel
    obtain ⟨d0, ⟨d1, d2, d3, d4⟩, d5, d6, d7, d8⟩ := HD.out wr hbel
    by_cases hlt : k < N
    · have hkR : k / cols < rows := by rw [Nat.div_lt_iff_lt_mul (by omega), HNN.out]; exact hlt
      have hkC : k % cols < cols := Nat.mod_lt _ (by omega)
      have hq1 : Int.tdiv (k : Int) (cols : Int) = ((k / cols : Nat) : Int) := rfl
      have hq2 : Int.tmod (k : Int) (cols : Int) = ((k % cols : Nat) : Int) := rfl
      have HV := Lib.hid (HLV.out k hlt)
      obtain ⟨qi, hqi⟩ : ∃ q, k / cols = q := ⟨_, rfl⟩
      obtain ⟨qj, hqj⟩ : ∃ q, k % cols = q := ⟨_, rfl⟩
      rw [hqi] at hq1 HV hkR
      rw [hqj] at hq2 HV hkC
      have w1' : IntKind.i64.wrap (qi : Int) = (qi : Int) := IntWalk.i64_in _ (by omega)
      have w2' : IntKind.i64.wrap (qj : Int) = (qj : Int) := IntWalk.i64_in _ (by omega)
      have hne : ¬ cols = 0 := by omega
      obtain ⟨y1, y2, y3, y4⟩ := smp_place hkR rb t1 t2 q1 q2 HRR.out
      obtain ⟨y5, y6, y7⟩ := half_bd t1 t2
      obtain ⟨x1, x2, x3, x4⟩ := smp_place hkC cb p1 p2 q1 q2 HCC.out
      obtain ⟨x5, x6, x7⟩ := half_bd p1 p2
      have HG0 := Lib.hid hG
      have HBLK := Lib.hid hblk
      have HBEL := Lib.hid hbel
      have HD7 := Lib.hid d7
      have HBX : Hid (Box3 wr w.heap.size (.int .i64 r) (.int .i64 c) (.slice a n cp)) := ⟨d1, d2, d3, d4⟩
      have HB6 := Lib.hid d5
      clear hqi hqj d0 d5 d6 d7 hG hblk hbel
      go_wp2_with fail
      go_cut [17, 18] from 58 to 96 (fun p q wx => p = .int .i64 (qi : Int) ∧ q = .int .i64 (qj : Int) ∧ Hid (Below wr.heap.size wr wx))
      case first =>
        go_quiet (fail)
        go_wp2
        go_meet
        case rel => exact ⟨rfl, rfl, by unfold Hid; repeat' (first | (with_reducible exact Below.refl _ _) | (with_reducible assumption) | (with_reducible refine Below.alloc ?_ ?_ _) | (with_reducible refine Below.setCell ?_ ?_ _) | (with_reducible refine Below.drew ?_) | (with_reducible refine below_drewN ?_ _) | (with_reducible refine below_via (by with_reducible assumption) ?_ ?_) | go_size)⟩
      obtain ⟨rfl, rfl, hbc⟩ := hcut
      obtain ⟨wb, rfl⟩ : ∃ wb : World, wb = wc := ⟨_, rfl⟩
      have hbb := hbc.out
      have hzb := hbb.size
      have kx := HBX.out.keep hbb
      have k6 := HB6.out.keep hbb
      obtain ⟨_, _, _, _⟩ := kx
      obtain ⟨_, _, _, _, _, _, _⟩ := k6
      have v1 : IntKind.i64.wrap ((qi : Int) + q) = (qi : Int) + q := IntWalk.i64_in _ (by omega)
      have v2 : IntKind.i64.wrap (((qi : Int) + q) * t) = ((qi : Int) + q) * t := IntWalk.i64_in _ (by omega)
      have v3 : IntKind.i64.wrap (t.tdiv 2) = t.tdiv 2 := IntWalk.i64_in _ (by omega)
      have v4 : IntKind.i64.wrap (((qi : Int) + q) * t + t.tdiv 2) = ((qi : Int) + q) * t + t.tdiv 2 := IntWalk.i64_in _ (by omega)
      have v5 : IntKind.i64.wrap ((qj : Int) + q) = (qj : Int) + q := IntWalk.i64_in _ (by omega)
      have v6 : IntKind.i64.wrap (((qj : Int) + q) * p) = ((qj : Int) + q) * p := IntWalk.i64_in _ (by omega)
      have v7 : IntKind.i64.wrap (p.tdiv 2) = p.tdiv 2 := IntWalk.i64_in _ (by omega)
      have v8 : IntKind.i64.wrap (((qj : Int) + q) * p + p.tdiv 2) = ((qj : Int) + q) * p + p.tdiv 2 := IntWalk.i64_in _ (by omega)
      clear hbc hq1 hq2 w1' w2' hne d1 d2 d3 d4
      go_wp2_with fail
      refine (iPix r c a n cp zs (((qi : Int) + q) * t + t.tdiv 2) (((qj : Int) + q) * p + p.tdiv 2) _ ((HD7.out.below hbb).below (by repeat' (first | (with_reducible exact Below.refl _ _) | (with_reducible assumption) | (with_reducible refine Below.alloc ?_ ?_ _) | (with_reducible refine Below.setCell ?_ ?_ _) | (with_reducible refine Below.drew ?_) | (with_reducible refine below_drewN ?_ _) | (with_reducible refine below_via (by with_reducible assumption) ?_ ?_) | go_size))) (by omega) (by omega) (by omega) (by omega) (by omega) (by omega) H7.out).mono ?_
      have HLV2 : Hid (L.getD k 0 = if pixV c zs (((qi : Int) + q) * t + t.tdiv 2) (((qj : Int) + q) * p + p.tdiv 2) < limit then 1 else 0) := HV.out
      obtain ⟨x, hx⟩ : ∃ x, pixV c zs (((qi : Int) + q) * t + t.tdiv 2) (((qj : Int) + q) * p + p.tdiv 2) = x := ⟨_, rfl⟩
      rw [hx] at HLV2 ⊢
      rintro e wq ⟨rfl, hbq⟩
      have hszq := hbq.size
      clear hx v1 v2 v3 v4 v5 v6 v7 v8 x1 x2 x3 x4 x5 x6 x7 y1 y2 y3 y4 y5 y6 y7
      have hbqq : Below wr.heap.size wr wq := hbb.trans (hbq.mono hzb)
      have hzqq := hbqq.size
      have HGq : Hid (Box3 wq w4.heap.size (.int .i64 (rows : Int)) (.int .i64 (cols : Int)) (.slice (some ⟨g, 0, none⟩) N N)) := HG0.out.keep hbqq
      have HBq : Hid (Below g V wq) := by
        have h1 := HBEL.out.size
        have h2 := HS.out
        exact HBEL.out.trans (hbqq.mono (by omega))
      have HKq : Hid (Blk wq g 2 (vals (part L k))) := HBLK.out.keep hbqq
      obtain ⟨_, _, _, f2⟩ := HGq.out
      have hy : wq.cell? ⟨g, k, none⟩ = some (.int .i64 ((part L k).getD k 0)) := by
        rw [HKq.out.cell]; exact vals_get _ _ (by rw [part_length _ _ (by rw [HLN.out]; exact hkn), HLN.out]; exact hlt)
      have hzf : wq.frozen? ⟨g, k, none⟩ = false := HKq.out.frozen k
      generalize (part L k).getD k 0 = y at hy
      clear hbq hszq hbb hzb hbqq HBLK HBEL HBX HB6
      by_cases hlv : x < limit
      · have HN : Hid (Blk (wq.setCell ⟨g, k, none⟩ (.int .i64 1)) g 2 (vals (part L (k + 1)))) := by
          have := HKq.out.set_ k (.int .i64 (L.getD k 0))
          rw [vals_set, part_set _ _ (by rw [HLN.out]; exact hlt), HLV2.out, if_pos hlv] at this
          exact this
        have HB2 : Hid (Below g V (wq.setCell ⟨g, k, none⟩ (.int .i64 1))) := HBq.out.setCell (Nat.le_refl _) _
        have HG2 : Hid (Box3 (wq.setCell ⟨g, k, none⟩ (.int .i64 1)) w4.heap.size (.int .i64 (rows : Int)) (.int .i64 (cols : Int)) (.slice (some ⟨g, 0, none⟩) N N)) := by
          obtain ⟨q0, q1, q2, q3⟩ := HGq.out
          exact ⟨by simpa using q0, (World.cell?_setCell_other _ _ _ _ (by simp <;> omega)).trans q1, (World.cell?_setCell_other _ _ _ _ (by simp <;> omega)).trans q2, (World.cell?_setCell_other _ _ _ _ (by simp <;> omega)).trans q3⟩
        go_wp2
        go_roundw
        case rel => exact ⟨k + 1, by omega, by go_num, HN.out, HB2.out, HG2.out⟩
        case measure => simp [intOf]; omega
      · have HN : Hid (Blk wq g 2 (vals (part L (k + 1)))) := by
          rw [part_skip _ _ (by rw [HLN.out]; exact hlt) (by rw [HLV2.out, if_neg hlv])]; exact HKq.out
        go_wp2
        go_roundw
        case rel => exact ⟨k + 1, by omega, by go_num, HN.out, HBq.out, HGq.out⟩
        case measure => simp [intOf]; omega
    · have hke : k = N := by omega
      have HK2 := Lib.hid hke
      have HB := Lib.hid d0
      obtain ⟨o2, o3, o4, o5, o6, o7, o8⟩ := d6
      obtain ⟨_, _, _, _⟩ := hG
      have HBLK := Lib.hid hblk
      have hne : g ≠ w.heap.size + 1 + 1 := by have := HSZ.out; have := HB3.out.size; omega
      have HNE := Lib.hid hne
      have hgw : w.heap.size ≤ g := by have := HSZ.out; have := HB3.out.size; omega
      clear hke hblk hbel d0 d1 d2 d3 d4 d5 d7 hne
      go_wp2
      have hlen : L.length = N := HLN.out
      refine bodyPost_ret (v := .tuple #[.agg #[.int .i64 rows, .int .i64 cols, .slice (some ⟨g, 0, none⟩) L.length N], .int .i64 0]) (by simp [results, Try.results16, go_sem, o3, o4, o5, hlen]) rfl ?_
      rw [HLL.out]
      have hblk2 := HBLK.out
      rw [HK2.out, ← hlen, part_all] at hblk2
      have hb3 : Blk (((wr.setCell ⟨w.heap.size + 1 + 1, 0, none⟩ (.int .i64 (rows : Int))).setCell ⟨w.heap.size + 1 + 1, 1, none⟩ (.int .i64 (cols : Int))).setCell ⟨w.heap.size + 1 + 1, 2, none⟩ (.slice (some ⟨g, 0, none⟩) N N)) g 2 (vals L) := ((hblk2.far HNE.out _).far HNE.out _).far HNE.out _
      refine ⟨some ⟨g, 0, none⟩, N, rfl, ?_, (((HB.out.setCell (by simp; omega) _).setCell (by simp; omega) _).setCell (by simp; omega) _), by rw [hlen]; exact hmn⟩
      rw [hlen]
      exact hb3.own hgw hlen (by unfold maxLen; omega)
end Go.Proofs.Ytfiddbmjgncabaa
