/-
  DERIVED. The columns that are found once: impl.columns and the function that it returns.
-/
import Derived.Test.YtcpicgcdefnhaaaCacP
import Derived.Test.YtcpicgcdefnhaaaFinA
import Derived.Deep.RegionHeld3
import Derived.Deep.DeepFit
import Derived.Deep.CutBlock
import Derived.Outline
namespace Go.Proofs.Ytcpicgcdefnhaaa
open Go.RowKit
set_option linter.unusedVariables false
set_option maxHeartbeats 2000000 in
theorem iAtG (R C : Nat) (a : Option Addr) (n cp : Nat) (zs : List Int) (r c m : Nat) (w : World) (h : Rd w a n zs) (hm : r * C + c = m) (hmn : m < n) (hn : n ≤ 40000) :
    Calls Try.prog 39 #[.agg #[.int .i64 (R : Int), .int .i64 (C : Int), .slice a n cp], .agg #[.int .i64 (r : Int), .int .i64 (c : Int)]] w fun e w' => e = .returned (.int .i64 (zs.getD m 0)) ∧ Below w.heap.size w w' := by
  have hmI : (r : Int) * (C : Int) + (c : Int) = (m : Int) := by rw [← hm]; simp
  have hm0 : (0 : Int) ≤ (r : Int) * (C : Int) := Int.mul_nonneg (by omega) (by omega)
  have hm1 : (r : Int) * (C : Int) ≤ 40000 := by omega
  obtain ⟨b, off, rfl, hb, hcell⟩ := h.2 (by omega)
  have hx := hcell m hmn
  have hb1 : b < w.heap.size + 1 := by omega
  have hb2 : b < w.heap.size + 1 + 1 := by omega
  generalize zs.getD m 0 = x at hx ⊢
  clear hcell h hm
  go_enter Try.func39, Try.ntmps39
  go_wp2
  go_returns
  exact ⟨rfl, by repeat' (first | (with_reducible exact Below.refl _ _) | (with_reducible assumption) | (with_reducible refine Below.alloc ?_ ?_ _) | (with_reducible refine Below.setCell ?_ ?_ _) | (with_reducible refine Below.drew ?_) | (with_reducible refine below_drewN ?_ _) | (with_reducible refine below_via (by with_reducible assumption) ?_ ?_) | go_size)⟩
theorem keep_set {w3 : World} {fb fr c : Nat} {x u : Value} (h : fb < w3.heap.size ∧ w3.cell? ⟨fb, 0, none⟩ = some x) (hne : fb ≠ fr) : fb < (w3.setCell ⟨fr, c, none⟩ u).heap.size ∧ (w3.setCell ⟨fr, c, none⟩ u).cell? ⟨fb, 0, none⟩ = some x :=
  ⟨by simpa [World.setCell] using h.1, (World.cell?_of_block (a := ⟨fb, 0, none⟩) (Below.heap_setCell w3 ⟨fr, c, none⟩ u fb hne)).trans h.2⟩
set_option maxRecDepth 20000 in
set_option maxHeartbeats 8000000 in
theorem iColumn (R C : Nat) (ga : Option Addr) (gn gc : Nat) (gs : List Int) (gb db fb dr fr c : Nat) (p : Nat → Prop) (w : World) (h : Rd w ga gn gs) (hgn : gn = R * C) (hn4 : gn ≤ 40000) (hR1 : 1 ≤ R) (hc : c < C)
    (HG : Blk w gb 29 #[.int .i64 (R : Int), .int .i64 (C : Int), .slice ga gn gc]) (HC : Cache w p db fb dr fr C (colS gs C R)) (hp : ∀ b, w.heap.size ≤ b → p b) (hpd : ∀ b, p b → b ≠ dr ∧ b ≠ fr) :
    Calls Try.prog 38 #[.int .i64 (c : Int), .pointer (some ⟨db, 0, none⟩), .pointer (some ⟨gb, 0, none⟩), .pointer (some ⟨fb, 0, none⟩)] w (ColGot w p db fb dr fr C R gs c) := by
  have HH := Lib.hid h
  have HN := Lib.hid hgn
  have HCC := Lib.hid HC
  have HPD := Lib.hid hpd
  have HP := Lib.hid hp
  have hR4 : R ≤ 40000 := by
    have : R * 1 ≤ R * C := Nat.mul_le_mul_left _ (by omega)
    omega
  have hC4 : C ≤ 40000 := by
    have : 1 * C ≤ R * C := Nat.mul_le_mul_right _ hR1
    omega
  obtain ⟨l1, l2, l3, l4⟩ := HC.lt
  have lg := HG.lt
  obtain ⟨Wd, Wf, ⟨n1, n2, n3, n4, n5⟩, ds, hs, hdl, hhl, Wdr, Wfr, hall⟩ := HC
  have d0 : w.cell? ⟨db, 0, none⟩ = some (.slice (some ⟨dr, 0, none⟩) C C) := Wd.cell 0
  have f0 : w.cell? ⟨fb, 0, none⟩ = some (.slice (some ⟨fr, 0, none⟩) C C) := Wf.cell 0
  have g0 : w.cell? ⟨gb, 0, none⟩ = some (.int .i64 (R : Int)) := HG.cell 0
  have g1 : w.cell? ⟨gb, 1, none⟩ = some (.int .i64 (C : Int)) := HG.cell 1
  have g2 : w.cell? ⟨gb, 2, none⟩ = some (.slice ga gn gc) := HG.cell 2
  have dc : w.cell? ⟨dr, c, none⟩ = some (.bool (ds.getD c false)) := by rw [Wdr.cell]; exact bools_get ds c (by omega)
  obtain ⟨hv, hhv⟩ : ∃ hv, hs[c]? = some hv := ⟨_, List.getElem?_eq_getElem (by omega)⟩
  have fc : w.cell? ⟨fr, c, none⟩ = some hv := by rw [Wfr.cell]; simpa using hhv
  have hc1 : (c : Int) < (C : Int) := by omega
  have HAL := Lib.hid (hall c hc)
  have HHV := Lib.hid hhv
  have HGD : Hid (Blk w gb 29 #[.int .i64 (R : Int), .int .i64 (C : Int), .slice ga gn gc]) := HG
  have frz : w.frozen? ⟨fr, c, none⟩ = false := Wfr.frozen c
  have drz : w.frozen? ⟨dr, c, none⟩ = false := Wdr.frozen c
  obtain ⟨dv, hdv⟩ : ∃ dv, ds.getD c false = dv := ⟨_, rfl⟩
  have HDV := Lib.hid hdv
  rw [hdv] at dc
  clear h hgn hpd hp HG Wd Wf Wdr Wfr hall hdl hhl hhv hdv
  cases dv
  · have hmk := make_ints R (by omega)
    clear HAL HHV HDV
    go_enter Try.func38, Try.ntmps38
    go_wp2
    go_loopw [18] (fun i wr => ∃ k : Nat, k ≤ R ∧ i = .int .i64 (k : Int) ∧ Hid (Blk wr w.heap.size 2 (vals (part (colL gs C R c) k))) ∧ Hid (Below w.heap.size w wr)) (fun i _ => R - (intOf i).toNat)
    case atStart => exact ⟨0, Nat.zero_le _, rfl, by rw [part_zero, colL_len]; exact Blk.new _ _ _, by unfold Hid; repeat' (first | (with_reducible exact Below.refl _ _) | (with_reducible assumption) | (with_reducible refine Below.alloc ?_ ?_ _) | (with_reducible refine Below.setCell ?_ ?_ _) | (with_reducible refine Below.drew ?_) | (with_reducible refine below_drewN ?_ _) | (with_reducible refine below_via (by with_reducible assumption) ?_ ?_) | go_size)⟩
    case round =>
      obtain ⟨k, hk, rfl, HB, HW⟩ := hrel
      have hzr := HW.out.size
      by_cases hlt : k < R
      · have hfit : k * C + C ≤ gn := by
          rw [HN.out]
          have : (k + 1) * C ≤ R * C := Nat.mul_le_mul_right _ hlt
          rw [Nat.add_mul, Nat.one_mul] at this
          exact this
        obtain ⟨m, hm⟩ : ∃ m, k * C + c = m := ⟨_, rfl⟩
        have hmn : m < gn := by omega
        have HM := Lib.hid hm
        have hkr := HGD.out.below HW.out lg
        have q0 : wr.cell? ⟨gb, 0, none⟩ = some (.int .i64 (R : Int)) := hkr.cell 0
        have q1 : wr.cell? ⟨gb, 1, none⟩ = some (.int .i64 (C : Int)) := hkr.cell 1
        have q2 : wr.cell? ⟨gb, 2, none⟩ = some (.slice ga gn gc) := hkr.cell 2
        have hkI : (k : Int) < (R : Int) := by omega
        have HRD : Hid (Rd wr ga gn gs) := HH.out.below HW.out
        clear hkr hm hfit
        go_wp2_with fail
        refine (iAtG R C ga gn gc gs k c m wr HRD.out HM.out hmn hn4).mono ?_
        rintro e w2 ⟨rfl, hb2⟩
        have hz2 := hb2.size
        have HB2 := Lib.hid (HB.out.keep hb2)
        have HW2 : Hid (Below w.heap.size w w2) := HW.out.trans (hb2.mono hzr)
        have hlen : (part (colL gs C R c) k).length = R := by rw [part_length _ _ (by rw [colL_len]; exact hk), colL_len]
        have hy : w2.cell? ⟨w.heap.size, k, none⟩ = some (.int .i64 ((part (colL gs C R c) k).getD k 0)) := by
          rw [HB2.out.cell]; exact vals_get _ _ (by rw [hlen]; exact hlt)
        have hz : w2.frozen? ⟨w.heap.size, k, none⟩ = false := HB2.out.frozen k
        have HX : Hid ((colL gs C R c).getD k 0 = gs.getD m 0) := by
          unfold Hid
          rw [← HM.out, List.getD_eq_getElem?_getD, List.getElem?_eq_getElem (by rw [colL_len]; exact hlt)]
          simp [colL]
        have HN2 : Hid (Blk (w2.setCell ⟨w.heap.size, k, none⟩ (.int .i64 (gs.getD m 0))) w.heap.size 2 (vals (part (colL gs C R c) (k + 1)))) := by
          have := HB2.out.set_ k (.int .i64 (gs.getD m 0))
          rw [vals_set, ← HX.out, part_set _ _ (by rw [colL_len]; exact hlt), HX.out] at this
          exact this
        have HW3 : Hid (Below w.heap.size w (w2.setCell ⟨w.heap.size, k, none⟩ (.int .i64 (gs.getD m 0)))) := HW2.out.setCell (Nat.le_refl _) _
        have hsz : w.heap.size < w2.heap.size := HB2.out.lt
        clear HB HW HB2 HW2 hb2 hlen HX q0 q1 q2
        generalize (part (colL gs C R c) k).getD k 0 = old at hy
        generalize gs.getD m 0 = x at HN2 HW3 ⊢
        go_wp2
        go_roundw
        case rel => exact ⟨k + 1, by omega, by go_num, HN2.out, HW3.out⟩
        case measure => simp [intOf]; omega
      · have hke : k = R := by omega
        have hge : (R : Int) ≤ (k : Int) := by omega
        have HE := Lib.hid hke
        have hkw := HW.out
        have d1 : wr.cell? ⟨db, 0, none⟩ = some (.slice (some ⟨dr, 0, none⟩) C C) := (hkw.cell (p := ⟨_, _, none⟩) l1).trans d0
        have f1 : wr.cell? ⟨fb, 0, none⟩ = some (.slice (some ⟨fr, 0, none⟩) C C) := (hkw.cell (p := ⟨_, _, none⟩) l2).trans f0
        have dc1 : wr.cell? ⟨dr, c, none⟩ = some (.bool false) := (hkw.cell (p := ⟨_, _, none⟩) l3).trans dc
        have fc1 : wr.cell? ⟨fr, c, none⟩ = some hv := (hkw.cell (p := ⟨_, _, none⟩) l4).trans fc
        have drz1 : wr.frozen? ⟨dr, c, none⟩ = false := (hkw.frozen (p := ⟨_, _, none⟩) l3).trans drz
        have frz1 : wr.frozen? ⟨fr, c, none⟩ = false := (hkw.frozen (p := ⟨_, _, none⟩) l4).trans frz
        have HRL : Hid (Rd wr (some ⟨w.heap.size, 0, none⟩) R (colL gs C R c)) := by
          have h1 := HB.out
          rw [HE.out] at h1
          have h2 := part_all (colL gs C R c)
          rw [colL_len] at h2
          rw [h2] at h1
          exact h1.rd (colL_len _ _ _ _)
        clear hke hkw d0 f0 dc fc g0 g1 g2 drz frz
        obtain ⟨w2, hw2⟩ : ∃ W : World, W = wr.setCell ⟨dr, c, none⟩ (.bool true) := ⟨_, rfl⟩
        have hs2 : w2.heap.size = wr.heap.size := by rw [hw2]; simp [World.setCell]
        have hz2 : w.heap.size ≤ w2.heap.size := by omega
        have f2 : w2.cell? ⟨fb, 0, none⟩ = some (.slice (some ⟨fr, 0, none⟩) C C) := by
          rw [hw2]; exact (World.cell?_of_block (a := ⟨fb, 0, none⟩) (Below.heap_setCell wr ⟨dr, c, none⟩ _ fb n3)).trans f1
        have fc2 : w2.cell? ⟨fr, c, none⟩ = some hv := by
          rw [hw2]; exact (World.cell?_of_block (a := ⟨fr, c, none⟩) (Below.heap_setCell wr ⟨dr, c, none⟩ _ fr n5.symm)).trans fc1
        have frz2 : w2.frozen? ⟨fr, c, none⟩ = false := by
          rw [hw2]; exact (World.frozen?_of_block (a := ⟨fr, c, none⟩) (Below.heap_setCell wr ⟨dr, c, none⟩ _ fr n5.symm)).trans frz1
        have HRL2 : Hid (Rd w2 (some ⟨w.heap.size, 0, none⟩) R (colL gs C R c)) := by
          have hB : Hid (Blk wr w.heap.size 2 (vals (part (colL gs C R c) k))) := HB
          unfold Hid at hB
          have hB2 : Blk w2 w.heap.size 2 (vals (part (colL gs C R c) k)) := by rw [hw2]; exact hB.far (p := ⟨dr, c, none⟩) (by show w.heap.size ≠ dr; omega) _
          rw [HE.out] at hB2
          have h2 := part_all (colL gs C R c)
          rw [colL_len] at h2
          rw [h2] at hB2
          exact hB2.rd (colL_len _ _ _ _)
        have HSec : Hid (∀ Wx, Below w2.heap.size w2 Wx → Calls Try.prog 34 #[.slice (some ⟨w.heap.size, 0, none⟩) R R] Wx (NewSecs Wx (secL (runF (colL gs C R c) R) (runF (colL gs C R c) R).length))) := fun Wx hx => iSections _ R R _ Wx (HRL2.out.below hx) hR4
        have HS0 : Hid (∀ w', Below w2.heap.size w2 w' → fb < w'.heap.size ∧ w'.cell? ⟨fb, 0, none⟩ = some (.slice (some ⟨fr, 0, none⟩) C C)) := fun w' h => ⟨by have := h.size; omega, (h.cell (p := ⟨_, _, none⟩) (by show fb < _; omega)).trans f2⟩
        have HFC : Hid (∀ w', Below w2.heap.size w2 w' → w'.cell? ⟨fr, c, none⟩ = some hv ∧ w'.frozen? ⟨fr, c, none⟩ = false ∧ fr < w'.heap.size) := fun w' h => ⟨(h.cell (p := ⟨_, _, none⟩) (by show fr < _; omega)).trans fc2, (h.frozen (p := ⟨_, _, none⟩) (by show fr < _; omega)).trans frz2, by have := h.size; omega⟩
        have HW2 := Lib.hid hw2
        have hl2 : fr < w2.heap.size := by omega
        clear HB f1 fc1 frz1 HRL hs2 hw2
        go_upto_region 9 with (fail)
        rw [← HW2.out]
        clear d1 dc1 drz1
        go_region_held3 (fun w' => fb < w'.heap.size ∧ w'.cell? ⟨fb, 0, none⟩ = some (.slice (some ⟨fr, 0, none⟩) C C)) (first | (with_reducible exact keep_set fb3 n4) | exact HS0.out _ (by repeat' (first | (with_reducible exact Below.refl _ _) | (with_reducible assumption) | (with_reducible refine Below.alloc ?_ ?_ _) | (with_reducible refine Below.setCell ?_ ?_ _) | (with_reducible refine Below.drew ?_) | (with_reducible refine below_drewN ?_ _) | (with_reducible refine below_via (by with_reducible assumption) ?_ ?_) | go_size))) ((go_at_call 34; go_fit (HSec.out _ (by repeat' (first | (with_reducible exact Below.refl _ _) | (with_reducible assumption) | (with_reducible refine Below.alloc ?_ ?_ _) | (with_reducible refine Below.setCell ?_ ?_ _) | (with_reducible refine Below.drew ?_) | (with_reducible refine below_drewN ?_ _) | (with_reducible refine below_via (by with_reducible assumption) ?_ ?_) | go_size))); rintro e w3 ⟨sa, sc, rfl, hso, hb3, hsl⟩; obtain ⟨fc3, frz3, fl3⟩ := HFC.out w3 (by repeat' (first | (with_reducible exact Below.refl _ _) | (with_reducible assumption) | (with_reducible refine Below.alloc ?_ ?_ _) | (with_reducible refine Below.setCell ?_ ?_ _) | (with_reducible refine Below.drew ?_) | (with_reducible refine below_drewN ?_ _) | (with_reducible refine below_via (by with_reducible assumption) ?_ ?_) | go_size)); have fb3 := HS0.out w3 (by repeat' (first | (with_reducible exact Below.refl _ _) | (with_reducible assumption) | (with_reducible refine Below.alloc ?_ ?_ _) | (with_reducible refine Below.setCell ?_ ?_ _) | (with_reducible refine Below.drew ?_) | (with_reducible refine below_drewN ?_ _) | (with_reducible refine below_via (by with_reducible assumption) ?_ ?_) | go_size))))
        all_goals
          have HB3 : Hid (Below w2.heap.size w2 w3) := by unfold Hid; repeat' (first | (with_reducible exact Below.refl _ _) | (with_reducible assumption) | (with_reducible refine Below.alloc ?_ ?_ _) | (with_reducible refine Below.setCell ?_ ?_ _) | (with_reducible refine Below.drew ?_) | (with_reducible refine below_drewN ?_ _) | (with_reducible refine below_via (by with_reducible assumption) ?_ ?_) | go_size)
          have HOK : Hid (SecOk w3 p (colS gs C R c) (.slice sa (colS gs C R c).length sc)) := ⟨sa, sc, rfl, own_rdV hso, fun b off eb hn => HP.out b (by have h1 := hso.lt b (by rw [eb]; rfl); have h2 := hb3.size; have h3 : w2.drew.heap.size = w2.heap.size := rfl; omega)⟩
          have hs2 : w2.heap.size = wr.heap.size := by rw [HW2.out]; simp [World.setCell]
          have HPut := Lib.hid (Cache.put (c := c) (h := .slice sa (colS gs C R c).length sc) HCC.out HPD.out HW.out (by have h1 := HB3.out; rw [hs2, HW2.out] at h1; exact h1) HOK.out)
          obtain ⟨fl, f3⟩ := fb3
          have HLn : Hid ((secL (runF (colL gs C R c) R) (runF (colL gs C R c) R).length) = colS gs C R c) := rfl
          rw [HLn.out]
          clear hs2 hso hsl hb3 HB3 HLn
          go_wp2
          go_returns
          exact ⟨sa, sc, rfl, HOK.out.kept (by simp [World.setCell]) (fun b hb hp => ⟨Below.heap_setCell w3 ⟨fr, c, none⟩ _ b (HPD.out b hp).2, hp⟩), HPut.out.1, HPut.out.2⟩
  · obtain ⟨h', eh, ok⟩ := HAL.out HDV.out
    obtain rfl : hv = h' := by have := HHV.out.symm.trans eh; simpa using this
    have HOK := Lib.hid ok
    obtain ⟨a, cp, rfl, -, -⟩ := ok
    clear HAL HHV HDV eh
    go_enter Try.func38, Try.ntmps38
    go_wp2
    go_returns
    exact ⟨a, cp, rfl, HOK.out, HCC.out, Kp2.of_below (Below.refl _ _)⟩
theorem Blk.at_ {w : World} {g : Nat} (t : TypeId) (cs : Array Value) (h : w.heap.size = g) : Blk (w.alloc (.cells cs t)) g t cs := by subst h; exact Blk.new w t cs
theorem cols_made (w : World) (o : Obj) (C : Nat) (p : Nat → Prop) (F : Nat → List S5) :
    Cache (((((w.alloc o).alloc (.cells (bools (List.replicate C false)) 4)).alloc (.cells #[.slice (some ⟨w.heap.size + 1, 0, none⟩) C C] 61)).alloc (.cells (List.replicate C (Value.slice none 0 0)).toArray 56)).alloc (.cells #[.slice (some ⟨w.heap.size + 1 + 1 + 1, 0, none⟩) C C] 62))
      p (w.heap.size + 1 + 1) (w.heap.size + 1 + 1 + 1 + 1) (w.heap.size + 1) (w.heap.size + 1 + 1 + 1) C F := by
  refine ⟨?_, ?_, by omega, List.replicate C false, List.replicate C (Value.slice none 0 0), by simp, by simp, ?_, ?_, fun c hc hd => ?_⟩
  · exact ((Blk.at_ _ _ (by simp)).alloc _).alloc _
  · exact Blk.at_ _ _ (by simp)
  · exact (((Blk.at_ _ _ (by simp)).alloc _).alloc _).alloc _
  · exact (Blk.at_ _ _ (by simp)).alloc _
  · simp [List.getD_eq_getElem?_getD, hc] at hd
def MadeCols (w : World) (R C : Nat) (ga : Option Addr) (gn gc : Nat) (e : Ending) (w' : World) : Prop :=
  ∃ db gb fb dr fr, e = .returned (.func (.func 38) #[] #[.pointer (some ⟨db, 0, none⟩), .pointer (some ⟨gb, 0, none⟩), .pointer (some ⟨fb, 0, none⟩)]) ∧ Blk w' gb 29 #[.int .i64 (R : Int), .int .i64 (C : Int), .slice ga gn gc] ∧
    (∀ (p : Nat → Prop) (F : Nat → List S5), Cache w' p db fb dr fr C F) ∧ gb ≠ dr ∧ gb ≠ fr ∧ w.heap.size ≤ gb ∧ w.heap.size ≤ db ∧ w.heap.size ≤ fb ∧ w.heap.size ≤ dr ∧ w.heap.size ≤ fr ∧ Below w.heap.size w w'
set_option maxRecDepth 20000 in
set_option maxHeartbeats 4000000 in
theorem iColumns (R C : Nat) (ga : Option Addr) (gn gc : Nat) (w : World) (hC1 : 1 ≤ C) (hC4 : C ≤ 40000) :
    Calls Try.prog 33 #[.agg #[.int .i64 (R : Int), .int .i64 (C : Int), .slice ga gn gc]] w (MadeCols w R C ga gn gc) := by
  obtain ⟨i0, hi, hz0, hI1, hI2⟩ := info_parts infoBool
  obtain ⟨j0, hj, hy0, hJ1, hJ2⟩ := info_parts infoSecRow
  have mk1 : ∀ w : World, (Instr.makeSlice 61 (.int .i64 (C : Int)) (.int .i64 (C : Int))).run Try.prog w = .ok (.slice (some ⟨w.heap.size, 0, none⟩) C C) (w.alloc (.cells (bools (List.replicate C false)) 4)) := fun w => by
    rw [← bools_made]
    have h := run_make_rowN (P := Try.prog) 61 4 i0 (.bool false) Try.underlying61 hi hz0 .i64 .i64 C C (Nat.le_refl _) (by rw [hI2]; omega) (by omega) w
    rw [hI1] at h
    exact h
  have mk2 : ∀ w : World, (Instr.makeSlice 62 (.int .i64 (C : Int)) (.int .i64 (C : Int))).run Try.prog w = .ok (.slice (some ⟨w.heap.size, 0, none⟩) C C) (w.alloc (.cells (List.replicate C (Value.slice none 0 0)).toArray 56)) := fun w => by
    rw [← hdrs_made]
    have h := run_make_rowN (P := Try.prog) 62 56 j0 (.slice none 0 0) Try.underlying62 hj hy0 .i64 .i64 C C (Nat.le_refl _) (by rw [hJ2]; omega) (by omega) w
    rw [hJ1] at h
    exact h
  have HCM := Lib.hid (fun (o : Obj) (p : Nat → Prop) (F : Nat → List S5) => cols_made w o C p F)
  generalize bools (List.replicate C false) = B1 at mk1 HCM
  generalize (List.replicate C (Value.slice none 0 0)).toArray = B2 at mk2 HCM
  go_enter Try.func33, Try.ntmps33
  go_wp2
  go_returns
  exact ⟨_, _, _, w.heap.size + 1, w.heap.size + 1 + 1 + 1, rfl, ((((Blk.new w _ _).alloc _).alloc _).alloc _).alloc _, fun p F => HCM.out _ p F, by omega, by omega, Nat.le_refl _, by omega, by omega, by omega, by omega, by repeat' (first | (with_reducible exact Below.refl _ _) | (with_reducible assumption) | (with_reducible refine Below.alloc ?_ ?_ _) | (with_reducible refine Below.setCell ?_ ?_ _) | (with_reducible refine Below.drew ?_) | (with_reducible refine below_drewN ?_ _) | (with_reducible refine below_via (by with_reducible assumption) ?_ ?_) | go_size)⟩
end Go.Proofs.Ytcpicgcdefnhaaa
