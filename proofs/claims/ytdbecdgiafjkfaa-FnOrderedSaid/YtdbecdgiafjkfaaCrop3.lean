/-
  DERIVED. CropRaster: the contract of spec.
-/
import Derived.Test.YtdbecdgiafjkfaaCrop
import Derived.Conc.MuLone
namespace Go.Proofs.Ytdbecdgiafjkfaa
open Go.RowKit
set_option linter.unusedVariables false
theorem rastL_row (cols : Nat) (f : Nat → Nat → Int) (k : Nat) (hc : 0 < cols) : rastL cols f ((k + 1) * cols) = rastL cols f (k * cols) ++ (List.range cols).map (f k) := by
  have e : ∀ m, m ≤ cols → rastL cols f (k * cols + m) = rastL cols f (k * cols) ++ (List.range m).map (f k) := by
    intro m
    induction m with
    | zero => intro _; simp
    | succ m ih =>
      intro hm
      rw [← Nat.add_assoc, rastL_succ _ _ _ _ (by omega), ih (by omega), List.range_succ, List.map_append, List.append_assoc]
      rfl
  rw [Nat.add_mul, Nat.one_mul]
  exact e cols (Nat.le_refl _)
theorem crop_news {w : World} {b off n lo m : Nat} {zs : List Int} {g : Nat → Int} (hC : ∀ i, i < n → w.cell? ⟨b, off + i, none⟩ = some (.int .i64 (zs.getD i 0))) (h : lo + m ≤ n) (hg : ∀ j, j < m → g j = zs.getD (lo + j) 0) :
    ∀ j u, (((List.range m).map g).map (Value.int .i64))[j]? = some u → w.cell? ((⟨b, off + lo, none⟩ : Addr).add j) = some u := by
  intro j u hu
  rw [List.getElem?_map, List.getElem?_map] at hu
  by_cases hj : j < m
  · rw [List.getElem?_range hj] at hu
    simp at hu
    rw [← hu, hg j hj, ← hC (lo + j) (by omega)]
    by_cases h0 : j = 0 <;> simp [Addr.add, Nat.add_assoc, h0]
  · rw [List.getElem?_eq_none (by simp; omega)] at hu
    simp at hu
set_option maxRecDepth 20000 in
set_option maxHeartbeats 4000000 in
theorem sCropRaster_ok (r c : Int) (a : Option Addr) (n cp : Nat) (zs : List Int) (ro co rs cs : Int) (w : World) (h : Rd w a n zs) (hn : n ≤ 1048576) (hcp : n ≤ cp) (hr : rasterB r c n zs = true) (hw : withinB r c ro co rs cs = true) :
    Calls Try.prog 83 #[.agg #[.int .i64 r, .int .i64 c, .slice a n cp], .int .i64 ro, .int .i64 co, .int .i64 rs, .int .i64 cs] w (ResG w rs cs (rastL cs.toNat (fun (i j : Nat) => pixV c zs (ro + (i : Int)) (co + (j : Int))) (rs.toNat * cs.toNat)) 0) := by
  obtain ⟨r1, r2, r3, r4, r5, r6, r7, r8⟩ := rasterB_yes hr
  obtain ⟨q1, q2, q3, q4, q5, q6, q7, q8⟩ := withinB_iff.1 hw
  have H7 := Lib.hid r7
  have HL := Lib.hid h.1
  clear r5 r6 r7 r8
  have HH := Lib.hid h
  clear h
  have bO := Lib.hid (Out3.new (w.alloc (.cells #[.int .i64 r, .int .i64 c, .slice a n cp] 26)) 26)
  go_enter Try.func83, Try.ntmps83
  go_wp2_with fail
  refine (sIsRaster r c a n cp zs _ (HH.out.below (by repeat' (first | (with_reducible exact Below.refl _ _) | (with_reducible assumption) | (with_reducible refine Below.alloc ?_ ?_ _) | (with_reducible refine Below.setCell ?_ ?_ _) | (with_reducible refine Below.drew ?_) | (with_reducible refine below_drewN ?_ _) | (with_reducible refine below_via (by with_reducible assumption) ?_ ?_) | go_size))) hn).mono ?_
  rintro e w1 ⟨rfl, hb1⟩
  have hz1 := hb1.size; try simp at hz1
  have hbP : Below (w.heap.size + 1) (w.alloc (.cells #[.int .i64 r, .int .i64 c, .slice a n cp] 26)) w1 := by repeat' (first | (with_reducible exact Below.refl _ _) | (with_reducible assumption) | (with_reducible refine Below.alloc ?_ ?_ _) | (with_reducible refine Below.setCell ?_ ?_ _) | (with_reducible refine Below.drew ?_) | (with_reducible refine below_drewN ?_ _) | (with_reducible refine below_via (by with_reducible assumption) ?_ ?_) | go_size)
  obtain ⟨_, _, _, _⟩ := ((Box3.new w 26 (.int .i64 r) (.int .i64 c) (.slice a n cp)).keep (by simpa using hbP) : Box3 w1 _ _ _ _)
  have HB0 := Lib.hid (Box3.new w 26 (.int .i64 r) (.int .i64 c) (.slice a n cp))
  rw [hr]
  go_wp2_with fail
  refine (sWithin r c ro co rs cs _ _ r1 r2 r3 r4).mono ?_
  rintro e w2 ⟨rfl, hb2⟩
  have hz2 := hb2.size
  rw [hw]
  clear hw hr
  obtain ⟨ra, rfl⟩ := Int.eq_ofNat_of_zero_le (show 0 ≤ rs by omega)
  obtain ⟨ca, rfl⟩ := Int.eq_ofNat_of_zero_le (show 0 ≤ cs by omega)
  have hm2 : ra * ca ≤ 400 * 400 := Nat.mul_le_mul (by omega) (by omega)
  have HP2 : Hid (∀ wr, Below w2.heap.size w2 wr → Below w.heap.size w wr ∧ Box3 wr w.heap.size (.int .i64 r) (.int .i64 c) (.slice a n cp) ∧ Out3 wr (w.heap.size + 1)) := by
    intro wr hwr
    have hwB : Below (w.heap.size + 1) (w.alloc (.cells #[.int .i64 r, .int .i64 c, .slice a n cp] 26)) wr := by repeat' (first | (with_reducible exact Below.refl _ _) | (with_reducible assumption) | (with_reducible refine Below.alloc ?_ ?_ _) | (with_reducible refine Below.setCell ?_ ?_ _) | (with_reducible refine Below.drew ?_) | (with_reducible refine below_drewN ?_ _) | (with_reducible refine below_via (by with_reducible assumption) ?_ ?_) | go_size)
    have x1 : Box3 wr w.heap.size (.int .i64 r) (.int .i64 c) (.slice a n cp) := HB0.out.keep (by simpa using hwB)
    clear hwB
    have x2 := bO.out.keep (by repeat' (first | (with_reducible exact Below.refl _ _) | (with_reducible assumption) | (with_reducible refine Below.alloc ?_ ?_ _) | (with_reducible refine Below.setCell ?_ ?_ _) | (with_reducible refine Below.drew ?_) | (with_reducible refine below_drewN ?_ _) | (with_reducible refine below_via (by with_reducible assumption) ?_ ?_) | go_size) : Below _ _ wr)
    simp only [World.size_alloc] at x2
    exact ⟨by repeat' (first | (with_reducible exact Below.refl _ _) | (with_reducible assumption) | (with_reducible refine Below.alloc ?_ ?_ _) | (with_reducible refine Below.setCell ?_ ?_ _) | (with_reducible refine Below.drew ?_) | (with_reducible refine below_drewN ?_ _) | (with_reducible refine below_via (by with_reducible assumption) ?_ ?_) | go_size), x1, x2⟩
  have HRd : Hid (∀ wr, Below w.heap.size w wr → Rd wr a n zs) := fun wr h => HH.out.below h
  obtain ⟨i0, hi, hz0, hz1', hz2'⟩ := info_parts infoInt
  obtain ⟨f, hf⟩ : ∃ f : Nat → Nat → Int, f = (fun (i j : Nat) => pixV c zs (ro + (i : Int)) (co + (j : Int))) := ⟨_, rfl⟩
  have HFV : Hid (∀ i j : Nat, f i j = pixV c zs (ro + (i : Int)) (co + (j : Int))) := by intro i j; rw [hf]
  have HFF : Hid ((fun (i j : Nat) => pixV c zs (ro + (i : Int)) (co + (j : Int))) = f) := hf.symm
  obtain ⟨_, _, _, _⟩ := (HB0.out.keep (by have hwB : Below (w.heap.size + 1) (w.alloc (.cells #[.int .i64 r, .int .i64 c, .slice a n cp] 26)) w2 := by repeat' (first | (with_reducible exact Below.refl _ _) | (with_reducible assumption) | (with_reducible refine Below.alloc ?_ ?_ _) | (with_reducible refine Below.setCell ?_ ?_ _) | (with_reducible refine Below.drew ?_) | (with_reducible refine below_drewN ?_ _) | (with_reducible refine below_via (by with_reducible assumption) ?_ ?_) | go_size)
                                           simpa using hwB) : Box3 w2 _ _ _ _)
  have hs1 : w.heap.size + 2 ≤ w2.heap.size := by omega
  clear hf hb1 hb2 bO HB0 HH hbP
  go_wp2
  obtain ⟨W, hW⟩ : ∃ W, W = w2.alloc (.cells #[] 2) := ⟨_, rfl⟩
  have hBW : Hid (Below w2.heap.size w2 W) := by rw [hW]; exact (Below.refl _ _).alloc (Nat.le_refl _) _
  have HS : Hid (W.heap.size = w2.heap.size + 1) := by unfold Hid; rw [hW]; simp
  have HO0 : Hid (W.ownsRow w2.heap.size 2 1 (.slice (some ⟨w2.heap.size, 0, none⟩) 0 0) 0 []) := by
    have := World.ownsRow_lit (base := w2.heap.size) (e := 2) (size := 1) w2 #[] 0 (by simp) (by unfold maxLen; omega) (by simp)
    rw [hW]
    exact this
  rw [← hW]
  clear hW
  go_loopw [12, 13] (fun v i wr => ∃ k : Nat, k ≤ ra ∧ i = .int .i64 (ro + (k : Int)) ∧ wr.ownsRow w2.heap.size 2 1 v (k * ca) ((rastL ca f (k * ca)).map (Value.int .i64)) ∧ Below w2.heap.size W wr) (fun _ i _ => (ro + (ra : Int) - intOf i).toNat)
  case atStart => exact ⟨0, Nat.zero_le _, by simp, by simpa [rastL] using HO0.out, Below.refl _ _⟩
  case round =>
    obtain ⟨k, hkn, rfl, hown, hbel⟩ := hrel
    obtain ⟨d0, ⟨d1, d2, d3, d4⟩, d5⟩ := HP2.out wr (hBW.out.trans hbel)
    by_cases hlt : k < ra
    · obtain ⟨p1, p2, p3, p4⟩ := pix_place (row := ro + (k : Int)) (col := co) (r := r) (c := c) (n := n) (by omega) (by omega) (by omega) (by omega) r2 r4 H7.out
      obtain ⟨m1, m2, m3, m4⟩ := pix_place (row := ro + (k : Int)) (col := co + (ca : Int) - 1) (r := r) (c := c) (n := n) (by omega) (by omega) (by omega) (by omega) r2 r4 H7.out
      obtain ⟨b, off, rfl, hb, hcell⟩ := (HRd.out wr d0).2 (by omega)
      have hroom : k * ca + ca ≤ ra * ca := by
        have : (k + 1) * ca ≤ ra * ca := Nat.mul_le_mul_right _ hlt
        rw [Nat.add_mul, Nat.one_mul] at this
        omega
      have hszr := hbel.size
      have hs3 := HS.out
      obtain ⟨m, hm⟩ : ∃ m : Nat, (ro + (k : Int)) * c = (m : Int) := Int.eq_ofNat_of_zero_le (by omega)
      obtain ⟨y, rfl⟩ : ∃ y : Nat, co = (y : Int) := Int.eq_ofNat_of_zero_le (by omega)
      have HN := Lib.hid (crop_news (lo := m + y) (m := ca) (g := f k) hcell (by omega) (fun j hj => by
        rw [HFV.out]
        unfold pixV
        rw [hm]
        congr 1
        omega))
      clear hcell d0 d5
      go_wp2_with (at_builtin; go_loud (refine wpList_append_own _ rfl _ _ 22 rfl w2.heap.size 2 i0 (.int .i64 0) 1 8 Try.underlying22 hi hz0 hz1' hz2' rfl (by decide) _ _ _ rfl hown ⟨b, off + (m + y), none⟩ ca (cp - (m + y)) (((List.range ca).map (f k)).map (Value.int .i64)) (by show Value.slice (some ⟨b, off + (m + y), none⟩) (m + y + ca - (m + y)) (cp - (m + y)) = _; rw [Nat.add_sub_cancel_left]) (by simp) HN.out (by intro u hu; obtain ⟨x, _, rfl⟩ := List.mem_map.1 hu; rfl) (by unfold maxLen; omega) (by omega) (by omega) ?_; intro v' w3 hown' hgrow _))
      have HO : Hid (w3.ownsRow w2.heap.size 2 1 v' ((k + 1) * ca) ((rastL ca f ((k + 1) * ca)).map (Value.int .i64))) := by
        unfold Hid
        rw [rastL_row ca f k (by omega), List.map_append, Nat.add_mul, Nat.one_mul]
        exact hown'
      have HB : Hid (Below w2.heap.size W w3) := hbel.grown hgrow (by omega) (fun j e => (hown.lt j e).1)
      clear hown hown' hgrow hbel HN p1 p2 p3 p4 m1 m2 m3 m4 hm
      go_wp2
      go_roundw
      case rel => exact ⟨k + 1, by omega, by go_num, HO.out, HB.out⟩
      case measure => simp [intOf]; omega
    · have hke : k = ra := by omega
      obtain ⟨o2, o3, o4, o5, o6, o7, o8⟩ := d5
      rw [hke] at hown
      obtain ⟨av, cv, rfl⟩ := own_shape hown
      have HO := Lib.hid hown
      have HK := Lib.hid hke
      have HB := Lib.hid d0
      clear hke hown hbel d0
      go_wp2
      have hlen : (rastL ca f (ra * ca)).length = ra * ca := rastL_length _ _ _
      refine bodyPost_ret (v := .tuple #[.agg #[.int .i64 ra, .int .i64 ca, .slice av (ra * ca) cv], .int .i64 0]) (by simp [results, Try.results83, go_sem, o3, o4, o5]) rfl ?_
      simp only [Int.toNat_natCast]
      rw [HFF.out]
      refine ⟨av, cv, by rw [hlen], ?_, (((HB.out.setCell (by simp) _).setCell (by simp) _).setCell (by simp) _), by rw [hlen]; omega⟩
      rw [hlen]
      exact own_mono (own_far (own_far (own_far HO.out (by simp; omega) _) (by simp; omega) _) (by simp; omega) _) (by omega)
end Go.Proofs.Ytdbecdgiafjkfaa
