/-
  DERIVED. LocalBinary: the contract of impl.
-/
import Derived.Test.YtfiddbmjgncabaaWinC
import Derived.Test.YtfiddbmjgncabaaLocS
import Derived.Test.YtfiddbmjgncabaaBin
import Derived.Deep.CutRange
import Derived.Deep.RegionHeld3
namespace Go.Proofs.Ytfiddbmjgncabaa
open Go.RowKit
set_option linter.unusedVariables false
theorem part_skip (zs : List Int) (k : Nat) (h : k < zs.length) (hb : zs.getD k 0 = 0) : part zs (k + 1) = part zs k := by
  have e : zs.length - k = (zs.length - (k + 1)) + 1 := by omega
  have hz : zs[k] = 0 := by simpa [List.getD_eq_getElem?_getD, List.getElem?_eq_getElem h] using hb
  unfold part
  rw [List.take_succ_eq_append_getElem h, hz, e, List.replicate_succ, List.append_assoc]
  rfl
theorem WinAt.below {W W' : World} {b B R C rad : Nat} {zs : List Int} (h : WinAt W b R C rad zs) (hb : Below B W W') (hB : b + 4 < B) : WinAt W' b R C rad zs := by
  obtain ⟨h0, h1, h2, h3, h4, h5, h6⟩ := h
  have := hb.size
  exact ⟨by omega, (hb.cell (p := ⟨_, _, none⟩) (by show b < _; omega)).trans h1, (hb.cell (p := ⟨_, _, none⟩) (by show b < _; omega)).trans h2, (hb.cell (p := ⟨_, _, none⟩) (by show b + 1 < _; omega)).trans h3, (hb.cell (p := ⟨_, _, none⟩) (by show b + 2 < _; omega)).trans h4, (hb.cell (p := ⟨_, _, none⟩) (by show b + 4 < _; omega)).trans h5, h6.below hb (by omega)⟩
theorem locV_01 (zs : List Int) (R C rad : Nat) (off : Int) (i j : Nat) : locV zs R C rad off i j = if (zs.getD (i * C + j) 0 + off) * ((winN R i rad * winN C j rad : Nat) : Int) < winS zs C (i - rad) (j - rad) (winN R i rad) (winN C j rad) then 1 else 0 := rfl
set_option maxRecDepth 20000 in
set_option maxHeartbeats 8000000 in
theorem iLocal_ok (rows cols rad : Nat) (off : Int) (a : Option Addr) (n cp : Nat) (zs : List Int) (w : World) (h : Rd w a n zs) (hn : n ≤ 1048576) (hr : rasterB (rows : Int) (cols : Int) n zs = true) (h20 : rad ≤ 20) (ho1 : -255 ≤ off) (ho2 : off ≤ 255) :
    Calls Try.prog 46 #[.agg #[.int .i64 (rows : Int), .int .i64 (cols : Int), .slice a n cp], .int .i64 (rad : Int), .int .i64 off] w (ResG w (rows : Int) (cols : Int) (rastL cols (locV zs rows cols rad off) (rows * cols)) 0) := by
  obtain ⟨r1, r2, r3, r4, r5, r6, r7, r8⟩ := rasterB_yes hr
  have hp : 0 < n := by omega
  obtain ⟨b0, o0, rfl, hb0, hcell⟩ := h.2 hp
  have HH := Lib.hid h
  have HL := Lib.hid h.1
  have H7 := Lib.hid r7
  have H8 := Lib.hid r8
  have HC0 := Lib.hid hcell
  clear h r5 r6 r7 r8 hcell
  have i1 : inB (rad : Int) 0 20 = true := inB_yes (by omega) (by omega)
  have i2 : inB off (-255) 255 = true := inB_yes ho1 ho2
  have bP := Lib.hid (Box3.new w 32 (.int .i64 (rows : Int)) (.int .i64 (cols : Int)) (.slice (some ⟨b0, o0, none⟩) n cp))
  have bO := Lib.hid (Out3.new (w.alloc (.cells #[.int .i64 (rows : Int), .int .i64 (cols : Int), .slice (some ⟨b0, o0, none⟩) n cp] 32)) 29)
  go_enter Try.func46, Try.ntmps46
  go_wp2_with fail
  refine (iIsRaster (rows : Int) (cols : Int) _ n cp zs _ (HH.out.below (by repeat' (first | (with_reducible exact Below.refl _ _) | (with_reducible assumption) | (with_reducible refine Below.alloc ?_ ?_ _) | (with_reducible refine Below.setCell ?_ ?_ _) | (with_reducible refine Below.drew ?_) | (with_reducible refine below_drewN ?_ _) | (with_reducible refine below_via (by with_reducible assumption) ?_ ?_) | go_size))) hn).mono ?_
  rintro e w1 ⟨rfl, hb1⟩
  have hz1 := hb1.size; try simp at hz1
  rw [hr]
  have kP : Hid (Box3 w1 w.heap.size (.int .i64 (rows : Int)) (.int .i64 (cols : Int)) (.slice (some ⟨b0, o0, none⟩) n cp)) := bP.out.keep (by repeat' (first | (with_reducible exact Below.refl _ _) | (with_reducible assumption) | (with_reducible refine Below.alloc ?_ ?_ _) | (with_reducible refine Below.setCell ?_ ?_ _) | (with_reducible refine Below.drew ?_) | (with_reducible refine below_drewN ?_ _) | (with_reducible refine below_via (by with_reducible assumption) ?_ ?_) | go_size))
  have kO := bO.out.keep (by repeat' (first | (with_reducible exact Below.refl _ _) | (with_reducible assumption) | (with_reducible refine Below.alloc ?_ ?_ _) | (with_reducible refine Below.setCell ?_ ?_ _) | (with_reducible refine Below.drew ?_) | (with_reducible refine below_drewN ?_ _) | (with_reducible refine below_via (by with_reducible assumption) ?_ ?_) | go_size) : Below _ _ w1)
  simp only [World.size_alloc] at kO
  have KO := Lib.hid kO
  have hww : Below w.heap.size w w1 := by repeat' (first | (with_reducible exact Below.refl _ _) | (with_reducible assumption) | (with_reducible refine Below.alloc ?_ ?_ _) | (with_reducible refine Below.setCell ?_ ?_ _) | (with_reducible refine Below.drew ?_) | (with_reducible refine below_drewN ?_ _) | (with_reducible refine below_via (by with_reducible assumption) ?_ ?_) | go_size)
  obtain ⟨_, _, _, _⟩ := kP.out
  clear hb1 bP bO hr kO
  go_wp2_with (go_at_call 80; refine (iIn _ _ _ _).mono ?_; rintro e w' ⟨rfl, rfl⟩)
  refine (iWindows rows cols rad _ n cp zs _ (HH.out.below hww) H7.out (by omega) (by omega) (by omega) (by omega) H8.out).mono ?_
  rintro e w2 ⟨rfl, hW, hb2⟩
  have hz2 := hb2.size
  have HWsz : Hid (w1.heap.size + 4 < w2.heap.size) := hW.1
  obtain ⟨_, _, _, _⟩ := (kP.out.keep hb2)
  go_wp2_with fail
  refine (iBlank (rows : Int) (cols : Int) 0 n _ hn H7.out).mono ?_
  rintro e w3 ⟨g, rfl, hg, hblk, hb3⟩
  have hz3 := hb3.size
  have K3 : Hid (Box3 w3 w.heap.size (.int .i64 (rows : Int)) (.int .i64 (cols : Int)) (.slice (some ⟨b0, o0, none⟩) n cp)) := kP.out.keep (by repeat' (first | (with_reducible exact Below.refl _ _) | (with_reducible assumption) | (with_reducible refine Below.alloc ?_ ?_ _) | (with_reducible refine Below.setCell ?_ ?_ _) | (with_reducible refine Below.drew ?_) | (with_reducible refine below_drewN ?_ _) | (with_reducible refine below_via (by with_reducible assumption) ?_ ?_) | go_size))
  have O3 : Hid (Out3 w3 (w.heap.size + 1)) := KO.out.keep (by repeat' (first | (with_reducible exact Below.refl _ _) | (with_reducible assumption) | (with_reducible refine Below.alloc ?_ ?_ _) | (with_reducible refine Below.setCell ?_ ?_ _) | (with_reducible refine Below.drew ?_) | (with_reducible refine below_drewN ?_ _) | (with_reducible refine below_via (by with_reducible assumption) ?_ ?_) | go_size))
  have hw3 : Below w.heap.size w w3 := by repeat' (first | (with_reducible exact Below.refl _ _) | (with_reducible assumption) | (with_reducible refine Below.alloc ?_ ?_ _) | (with_reducible refine Below.setCell ?_ ?_ _) | (with_reducible refine Below.drew ?_) | (with_reducible refine below_drewN ?_ _) | (with_reducible refine below_via (by with_reducible assumption) ?_ ?_) | go_size)
  have HW3 : Hid (WinAt w3 w1.heap.size rows cols rad zs) := hW.keep hb3
  obtain ⟨_, _, _, _⟩ := K3.out
  clear hW hww hb2 hb3 kP KO
  go_wp2
  obtain ⟨W, hWW⟩ : ∃ W, W = w3.alloc (.cells #[.int .i64 (rows : Int), .int .i64 (cols : Int), .slice (some ⟨g, 0, none⟩) n n] 29) := ⟨_, rfl⟩
  rw [← hWW]
  have hWB : Below w3.heap.size w3 W := by rw [hWW]; exact (Below.refl _ _).alloc (Nat.le_refl _) _
  have HS : Hid (W.heap.size = w3.heap.size + 1) := by unfold Hid; rw [hWW]; simp
  have hG : Box3 W w3.heap.size (.int .i64 (rows : Int)) (.int .i64 (cols : Int)) (.slice (some ⟨g, 0, none⟩) n n) := by rw [hWW]; exact Box3.new _ _ _ _ _
  have hk : Blk W g 2 (vals (part (rastL cols (locV zs rows cols rad off) (rows * cols)) 0)) := by
    have e : part (rastL cols (locV zs rows cols rad off) (rows * cols)) 0 = List.replicate n 0 := by
      rw [part_zero, rastL_length]
      congr 1
      have e7 := H7.out
      have e3 : ((rows : Int) * (cols : Int)) = ((rows * cols : Nat) : Int) := by simp
      omega
    rw [e]
    exact hblk.keep hWB
  have hgl := hblk.lt
  have hwg := HW3.out.1
  have hgw : w1.heap.size + 4 < g := by
    have := HWsz.out
    omega
  have HD : Hid (∀ wr, Below g W wr → Below w.heap.size w wr ∧ Box3 wr w.heap.size (.int .i64 (rows : Int)) (.int .i64 (cols : Int)) (.slice (some ⟨b0, o0, none⟩) n cp) ∧ Out3 wr (w.heap.size + 1) ∧ WinAt wr w1.heap.size rows cols rad zs ∧ w3.heap.size < wr.heap.size) := by
    intro wr hb
    have hs := hb.size
    have h3 : Below g w3 wr := (hWB.mono (by omega)).trans hb
    have h1 : Below w.heap.size w wr := hw3.trans (h3.mono (by omega))
    have hs1 := HS.out
    refine ⟨h1, Box3.below K3.out h3 (by omega), ?_, WinAt.below HW3.out h3 hgw, by omega⟩
    obtain ⟨q0, q1, q2, q3, q4, q5, q6⟩ := O3.out
    exact ⟨by omega, (h3.cell (p := ⟨_, _, none⟩) (by simp; omega)).trans q1, (h3.cell (p := ⟨_, _, none⟩) (by simp; omega)).trans q2, (h3.cell (p := ⟨_, _, none⟩) (by simp; omega)).trans q3, (h3.frozen (p := ⟨_, _, none⟩) (by simp; omega)).trans q4, (h3.frozen (p := ⟨_, _, none⟩) (by simp; omega)).trans q5, (h3.frozen (p := ⟨_, _, none⟩) (by simp; omega)).trans q6⟩
  have hg3 : g < w3.heap.size := hgl
  clear hWW hWB hblk K3 O3 HW3 hw3
  have HLN : Hid ((rastL cols (locV zs rows cols rad off) (rows * cols)).length = n) := by
    unfold Hid
    rw [rastL_length]
    have e7 := H7.out
    have e3 : ((rows : Int) * (cols : Int)) = ((rows * cols : Nat) : Int) := by simp
    omega
  have HLV : Hid (∀ k, k < n → (rastL cols (locV zs rows cols rad off) (rows * cols)).getD k 0 = locV zs rows cols rad off (k / cols) (k % cols)) := by
    intro k hk
    have h := HLN.out
    rw [rastL_length] at h
    exact rastL_getD _ _ _ _ (by omega)
  obtain ⟨L, hLL⟩ : ∃ L, rastL cols (locV zs rows cols rad off) (rows * cols) = L := ⟨_, rfl⟩
  rw [hLL] at hk HLN HLV
  have HLL := Lib.hid hLL
  clear hLL
  have hent := entWin
  go_loopw [38] (fun i wr => ∃ k : Nat, k ≤ n ∧ i = .int .i64 k ∧ Blk wr g 2 (vals (part L k)) ∧ Below g W wr ∧ Box3 wr w3.heap.size (.int .i64 (rows : Int)) (.int .i64 (cols : Int)) (.slice (some ⟨g, 0, none⟩) n n)) (fun i _ => n - (intOf i).toNat)
  case atStart => exact ⟨0, Nat.zero_le _, rfl, hk, Below.refl _ _, hG⟩
  case round =>
    clear hk hG
    obtain ⟨k, hkn, rfl, hblk, hbel, hG⟩ := hrel
    obtain ⟨d0, ⟨d1, d2, d3, d4⟩, d5, d6, d7⟩ := HD.out wr hbel
    by_cases hlt : k < n
    · have hx : wr.cell? ⟨b0, o0 + k, none⟩ = some (.int .i64 (zs.getD k 0)) := (d0.cell (p := ⟨b0, o0 + k, none⟩) hb0).trans (HC0.out k hlt)
      have hpx := H8.out _ (getD_mem (zs := zs) (i := k) (by rw [HL.out]; exact hlt))
      have hbw : b0 < wr.heap.size := Nat.lt_of_lt_of_le hb0 d0.size
      have hkR : k / cols < rows := by
        have h := HLN.out
        rw [Nat.div_lt_iff_lt_mul (by omega)]
        have e7 := H7.out
        have e3 : ((rows : Int) * (cols : Int)) = ((rows * cols : Nat) : Int) := by simp
        omega
      have hkC : k % cols < cols := Nat.mod_lt _ (by omega)
      have hdm : k / cols * cols + k % cols = k := Nat.div_add_mod' k cols
      have hq1 : Int.tdiv (k : Int) (cols : Int) = ((k / cols : Nat) : Int) := rfl
      have hq2 : Int.tmod (k : Int) (cols : Int) = ((k % cols : Nat) : Int) := rfl
      have HV : Hid (L.getD k 0 = if (zs.getD k 0 + off) * ((winN rows (k / cols) rad * winN cols (k % cols) rad : Nat) : Int) < winS zs cols (k / cols - rad) (k % cols - rad) (winN rows (k / cols) rad) (winN cols (k % cols) rad) then 1 else 0) := by
        unfold Hid
        rw [HLV.out k hlt, locV_01, hdm]
      obtain ⟨n1, n2, -, -, -⟩ := winN_le (R := rows) hkR h20
      obtain ⟨m1, m2, -, -, -⟩ := winN_le (R := cols) hkC h20
      have hm0 : 1 ≤ winN rows (k / cols) rad * winN cols (k % cols) rad := Nat.mul_pos n1 m1
      have hm1 : winN rows (k / cols) rad * winN cols (k % cols) rad ≤ 41 * 41 := Nat.mul_le_mul n2 m2
      have HCW : Hid (∀ W', Below wr.heap.size wr W' → Calls Try.prog 123 #[.int .i64 ((k / cols : Nat) : Int), .int .i64 ((k % cols : Nat) : Int), .pointer (some ⟨w1.heap.size + 1, 0, none⟩), .pointer (some ⟨w1.heap.size, 0, none⟩), .pointer (some ⟨w1.heap.size + 4, 0, none⟩), .pointer (some ⟨w1.heap.size + 2, 0, none⟩)] W' fun e w' =>
          e = .returned (.tuple #[.int .i64 ((winN rows (k / cols) rad * winN cols (k % cols) rad : Nat) : Int), .int .i64 (winS zs cols (k / cols - rad) (k % cols - rad) (winN rows (k / cols) rad) (winN cols (k % cols) rad))]) ∧ Below W'.heap.size W' w') := fun W' hb => cWinOf w1.heap.size rows cols rad (k / cols) (k % cols) zs W' (d6.keep hb) H8.out (by omega) (by omega) hkR hkC h20
      obtain ⟨S, hS⟩ : ∃ S, winS zs cols (k / cols - rad) (k % cols - rad) (winN rows (k / cols) rad) (winN cols (k % cols) rad) = S := ⟨_, rfl⟩
      obtain ⟨m, hm⟩ : ∃ m, winN rows (k / cols) rad * winN cols (k % cols) rad = m := ⟨_, rfl⟩
      obtain ⟨x, hxv⟩ : ∃ x, zs.getD k 0 = x := ⟨_, rfl⟩
      obtain ⟨qi, hqi⟩ : ∃ q, k / cols = q := ⟨_, rfl⟩
      obtain ⟨qj, hqj⟩ : ∃ q, k % cols = q := ⟨_, rfl⟩
      rw [hS, hm] at HCW HV
      rw [hm] at hm0 hm1
      rw [hxv] at hpx hx HV
      rw [hqi] at hq1 HCW
      rw [hqj] at hq2 HCW
      have hqi2 : qi ≤ 400 := by omega
      have hqj2 : qj ≤ 400 := by omega
      have w1' : IntKind.i64.wrap (qi : Int) = (qi : Int) := IntWalk.i64_in _ (by omega)
      have w2' : IntKind.i64.wrap (qj : Int) = (qj : Int) := IntWalk.i64_in _ (by omega)
      have hne : ¬ cols = 0 := by omega
      clear hS hm hxv hqi hqj hkR hkC hdm n1 n2 m1 m2
      have z1 : 0 ≤ (510 - (x + off)) * (m : Int) := Int.mul_nonneg (by omega) (by omega)
      have z2 : 0 ≤ (510 + (x + off)) * (m : Int) := Int.mul_nonneg (by omega) (by omega)
      rw [Int.sub_mul] at z1
      rw [Int.add_mul] at z2
      have zb : -857310 ≤ (x + off) * (m : Int) ∧ (x + off) * (m : Int) ≤ 857310 := by omega
      obtain ⟨zb1, zb2⟩ := zb
      clear z1 z2
      have HG0 := Lib.hid hG
      have HBLK := Lib.hid hblk
      have HBEL := Lib.hid hbel
      clear d0 d5 d6 hG hblk hbel
      have HSQ : Hid (∀ w', Below wr.heap.size wr w' → w'.cell? ⟨w.heap.size, 1, none⟩ = some (.int .i64 (cols : Int))) := fun w' hb => (hb.cell (p := ⟨_, _, none⟩) (by simpa using d1)).trans d3
      go_wp2_with fail
      go_region_held3 (fun w' => w'.cell? ⟨w.heap.size, 1, none⟩ = some (.int .i64 (cols : Int))) (exact HSQ.out _ (by repeat' (first | (with_reducible exact Below.refl _ _) | (with_reducible assumption) | (with_reducible refine Below.alloc ?_ ?_ _) | (with_reducible refine Below.setCell ?_ ?_ _) | (with_reducible refine Below.drew ?_) | (with_reducible refine below_drewN ?_ _) | (with_reducible refine below_via (by with_reducible assumption) ?_ ?_) | go_size))) ((go_at_call 123; refine (HCW.out _ (by repeat' (first | (with_reducible exact Below.refl _ _) | (with_reducible assumption) | (with_reducible refine Below.alloc ?_ ?_ _) | (with_reducible refine Below.setCell ?_ ?_ _) | (with_reducible refine Below.drew ?_) | (with_reducible refine below_drewN ?_ _) | (with_reducible refine below_via (by with_reducible assumption) ?_ ?_) | go_size))).mono ?_; rintro e wq ⟨rfl, hbq⟩; have hzq := hbq.size))
      all_goals
        have hbqq : Below wr.heap.size wr wq := by repeat' (first | (with_reducible exact Below.refl _ _) | (with_reducible assumption) | (with_reducible refine Below.alloc ?_ ?_ _) | (with_reducible refine Below.setCell ?_ ?_ _) | (with_reducible refine Below.drew ?_) | (with_reducible refine below_drewN ?_ _) | (with_reducible refine below_via (by with_reducible assumption) ?_ ?_) | go_size)
        have hzqq := hbqq.size
        have HGq : Hid (Box3 wq w3.heap.size (.int .i64 (rows : Int)) (.int .i64 (cols : Int)) (.slice (some ⟨g, 0, none⟩) n n)) := HG0.out.keep hbqq
        have HBq : Hid (Below g W wq) := by
          have h1 := HBEL.out.size
          have h2 := HS.out
          exact HBEL.out.trans (hbqq.mono (by omega))
        have HKq : Hid (Blk wq g 2 (vals (part L k))) := HBLK.out.keep hbqq
        obtain ⟨_, _, _, f2⟩ := HGq.out
        have hy : wq.cell? ⟨g, k, none⟩ = some (.int .i64 ((part L k).getD k 0)) := by
          rw [HKq.out.cell]; exact vals_get _ _ (by rw [part_length _ _ (by rw [HLN.out]; exact hkn), HLN.out]; exact hlt)
        have hz : wq.frozen? ⟨g, k, none⟩ = false := HKq.out.frozen k
        generalize (part L k).getD k 0 = y at hy
        clear hbq hzq hbqq d1 d2 d3 d4 hx HSQ HCW hq1 hq2 w1' w2' hne HBLK HBEL
        by_cases hlv : (x + off) * (m : Int) < S
        · have HN : Hid (Blk (wq.setCell ⟨g, k, none⟩ (.int .i64 1)) g 2 (vals (part L (k + 1)))) := by
            have := HKq.out.set_ k (.int .i64 (L.getD k 0))
            rw [vals_set, part_set _ _ (by rw [HLN.out]; exact hlt), HV.out, if_pos hlv] at this
            exact this
          have HB2 : Hid (Below g W (wq.setCell ⟨g, k, none⟩ (.int .i64 1))) := HBq.out.setCell (Nat.le_refl _) _
          have HG2 : Hid (Box3 (wq.setCell ⟨g, k, none⟩ (.int .i64 1)) w3.heap.size (.int .i64 (rows : Int)) (.int .i64 (cols : Int)) (.slice (some ⟨g, 0, none⟩) n n)) := by
            obtain ⟨q0, q1, q2, q3⟩ := HGq.out
            exact ⟨by simpa using q0, (World.cell?_setCell_other _ _ _ _ (by simp <;> omega)).trans q1, (World.cell?_setCell_other _ _ _ _ (by simp <;> omega)).trans q2, (World.cell?_setCell_other _ _ _ _ (by simp <;> omega)).trans q3⟩
          go_wp2
          go_roundw
          case rel => exact ⟨k + 1, by omega, by go_num, HN.out, HB2.out, HG2.out⟩
          case measure => simp [intOf]; omega
        · have HN : Hid (Blk wq g 2 (vals (part L (k + 1)))) := by
            rw [part_skip _ _ (by rw [HLN.out]; exact hlt) (by rw [HV.out, if_neg hlv])]; exact HKq.out
          go_wp2
          go_roundw
          case rel => exact ⟨k + 1, by omega, by go_num, HN.out, HBq.out, HGq.out⟩
          case measure => simp [intOf]; omega
    · have hke : k = n := by omega
      have HK := Lib.hid hke
      have HB := Lib.hid d0
      obtain ⟨o2, o3, o4, o5, o6, o7, o8⟩ := d5
      obtain ⟨_, _, _, _⟩ := hG
      have HBLK := Lib.hid hblk
      have hne : g ≠ w.heap.size + 1 := by omega
      have HNE := Lib.hid hne
      clear hke hblk hbel d0 d1 d2 d3 d4 d6 hne
      go_wp2
      have hlen : L.length = n := HLN.out
      refine bodyPost_ret (v := .tuple #[.agg #[.int .i64 rows, .int .i64 cols, .slice (some ⟨g, 0, none⟩) L.length n], .int .i64 0]) (by simp [results, Try.results46, go_sem, o3, o4, o5, hlen]) rfl ?_
      rw [HLL.out]
      have hblk2 := HBLK.out
      rw [HK.out, ← hlen, part_all] at hblk2
      have hb3 : Blk (((wr.setCell ⟨w.heap.size + 1, 0, none⟩ (.int .i64 (rows : Int))).setCell ⟨w.heap.size + 1, 1, none⟩ (.int .i64 (cols : Int))).setCell ⟨w.heap.size + 1, 2, none⟩ (.slice (some ⟨g, 0, none⟩) n n)) g 2 (vals L) := ((hblk2.far HNE.out _).far HNE.out _).far HNE.out _
      refine ⟨some ⟨g, 0, none⟩, n, rfl, ?_, (((HB.out.setCell (by simp) _).setCell (by simp) _).setCell (by simp) _), by rw [hlen]; exact hn⟩
      rw [hlen]
      exact hb3.own (by omega) hlen (by unfold maxLen; omega)
end Go.Proofs.Ytfiddbmjgncabaa
