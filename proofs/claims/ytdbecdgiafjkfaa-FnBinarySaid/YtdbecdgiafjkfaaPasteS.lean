/-
  DERIVED. l01Own, l20Paste: contracts.
-/
import Derived.Test.YtdbecdgiafjkfaaCopyR
import Derived.Test.YtdbecdgiafjkfaaPasteL
import Derived.Test.YtdbecdgiafjkfaaWithin
import Derived.Conc.MuLone
import Derived.Deep.RegionHeld3
import Derived.IntWalk
namespace Go.Proofs.Ytdbecdgiafjkfaa
open Go.RowKit
set_option linter.unusedVariables false
theorem rd_news {w : World} {b off n : Nat} {zs : List Int} (hl : zs.length = n) (hC : ∀ i, i < n → w.cell? ⟨b, off + i, none⟩ = some (.int .i64 (zs.getD i 0))) :
    ∀ j u, (zs.map (Value.int .i64))[j]? = some u → w.cell? ((⟨b, off, none⟩ : Addr).add j) = some u := by
  intro j u hu
  rw [List.getElem?_map] at hu
  by_cases hj : j < n
  · have hg : zs[j]? = some (zs.getD j 0) := by simp [List.getD_eq_getElem?_getD, List.getElem?_eq_getElem (show j < zs.length by omega)]
    rw [hg] at hu
    simp only [Option.map_some, Option.some.injEq] at hu
    rw [← hu, ← hC j hj]
    by_cases h0 : j = 0 <;> simp [Addr.add, h0]
  · rw [List.getElem?_eq_none (by omega)] at hu
    simp at hu
set_option maxRecDepth 20000 in
set_option maxHeartbeats 2000000 in
theorem sOwn (a : Option Addr) (n cp : Nat) (zs : List Int) (w : World) (h : Rd w a n zs) (hp : 0 < n) (hn : n ≤ 1048576) :
    Calls Try.prog 101 #[.slice a n cp] w fun e w' => ∃ av cv, e = .returned (.slice av n cv) ∧ w'.ownsRow w.heap.size 2 1 (.slice av n cv) n (zs.map (Value.int .i64)) ∧ Below w.heap.size w w' := by
  obtain ⟨i0, hi, hz0, hz1', hz2'⟩ := info_parts infoInt
  have hl := h.1
  obtain ⟨b, off, rfl, hb, hcell⟩ := h.2 hp
  have hown : (w.alloc (.cells #[] 2)).ownsRow w.heap.size 2 1 (.slice (some ⟨w.heap.size, 0, none⟩) 0 0) 0 [] :=
    World.ownsRow_lit (base := w.heap.size) (e := 2) (size := 1) w #[] 0 (by simp) (by unfold maxLen; omega) (by simp)
  have HN := Lib.hid (rd_news (w := w.alloc (.cells #[] 2)) hl (fun i hi => (World.cell?_alloc_lt w _ ⟨b, off + i, none⟩ hb).trans (hcell i hi)))
  have HL := Lib.hid hl
  clear hcell hl h
  go_enter Try.func101, Try.ntmps101
  go_wp2_with (at_builtin; go_loud (refine wpList_append_own _ rfl _ _ 22 rfl w.heap.size 2 i0 (.int .i64 0) 1 8 Try.underlying22 hi hz0 hz1' hz2' rfl (by decide) _ _ _ rfl hown ⟨b, off, none⟩ n cp (zs.map (Value.int .i64)) rfl (by simp [HL.out]) HN.out (by intro u hu; obtain ⟨x, _, rfl⟩ := List.mem_map.1 hu; rfl) (by unfold maxLen; omega) (by first | omega | (simp; done) | (simp; omega)) (by first | omega | (simp; done) | (simp; omega)) ?_; intro v' w3 hown' hgrow _))
  simp only [Nat.zero_add, List.nil_append] at hown'
  obtain ⟨av, cv, rfl⟩ := own_shape hown'
  have hB := ((Below.refl w.heap.size w).alloc (Nat.le_refl _) (.cells #[] 2)).grown hgrow (by simp) (fun j e => (hown.lt j e).1)
  have HO := Lib.hid hown'
  have HB := Lib.hid hB
  clear hown hown' hgrow hB HN
  go_wp2
  go_returns
  exact ⟨av, cv, rfl, HO.out, HB.out⟩
theorem Box3.below {w w' : World} {b B : Nat} {x y z : Value} (h : Box3 w b x y z) (hb : Below B w w') (hB : b < B) : Box3 w' b x y z :=
  ⟨Nat.lt_of_lt_of_le h.1 hb.size, (hb.cell (p := ⟨b, 0, none⟩) hB).trans h.2.1, (hb.cell (p := ⟨b, 1, none⟩) hB).trans h.2.2.1, (hb.cell (p := ⟨b, 2, none⟩) hB).trans h.2.2.2⟩
theorem Out3.below {w w' : World} {b B : Nat} (h : Out3 w b) (hb : Below B w w') (hB : b < B) : Out3 w' b :=
  ⟨Nat.lt_of_lt_of_le h.1 hb.size, (hb.cell (p := ⟨b, 0, none⟩) hB).trans h.2.1, (hb.cell (p := ⟨b, 1, none⟩) hB).trans h.2.2.1, (hb.cell (p := ⟨b, 2, none⟩) hB).trans h.2.2.2.1,
    (hb.frozen (p := ⟨b, 0, none⟩) hB).trans h.2.2.2.2.1, (hb.frozen (p := ⟨b, 1, none⟩) hB).trans h.2.2.2.2.2.1, (hb.frozen (p := ⟨b, 2, none⟩) hB).trans h.2.2.2.2.2.2⟩
/-- where row k of the pasted raster begins. -/
def atP (y x c : Nat) (k : Nat) : Nat := (y + k) * c + x
theorem atP_int (y x c k j : Nat) : ((y : Int) + (k : Int)) * (c : Int) + (x : Int) + (j : Int) = ((atP y x c k + j : Nat) : Int) := by
  unfold atP
  simp
theorem atP_bd {y x c k q r R : Nat} (h1 : y + R ≤ r) (h2 : x + q ≤ c) (hk : k < R) : atP y x c k + q ≤ r * c := by
  unfold atP
  have : (y + k + 1) * c ≤ r * c := Nat.mul_le_mul_right _ (by omega)
  rw [Nat.add_mul, Nat.one_mul] at this
  omega
set_option maxRecDepth 20000 in
set_option maxHeartbeats 4000000 in
theorem sPaste (rows cols R q y x : Nat) (a a' : Option Addr) (n n' cp cp' : Nat) (zp zq : List Int) (w : World) (h : Rd w a n zp) (h' : Rd w a' n' zq) (hn : n ≤ 1048576)
    (r1 : 1 ≤ rows) (r2 : rows ≤ 400) (c1 : 1 ≤ cols) (c2 : cols ≤ 400) (hnn : n = rows * cols) (hnq : n' = R * q) (g1 : 1 ≤ R) (g2 : 1 ≤ q) (g3 : y + R ≤ rows) (g4 : x + q ≤ cols) :
    Calls Try.prog 58 #[.agg #[.int .i64 (rows : Int), .int .i64 (cols : Int), .slice a n cp], .agg #[.int .i64 (R : Int), .int .i64 (q : Int), .slice a' n' cp'], .int .i64 (y : Int), .int .i64 (x : Int)] w (OwnRast w rows cols (pasteL zp zq q (atP y x cols) R)) := by
  have hp : 0 < n := by rw [hnn]; exact Nat.mul_pos r1 c1
  have hn2 : n ≤ 160000 := by rw [hnn]; exact Nat.le_trans (Nat.mul_le_mul r2 c2) (by decide)
  have hlz : zp.length = n := h.1
  have HL : Hid (∀ k, k ≤ R → (pasteL zp zq q (atP y x cols) k).length = n) := fun k hk => by
    rw [pasteL_length zp zq q (atP y x cols) R (h'.1.trans hnq) (fun k hk => by rw [hlz, hnn]; exact atP_bd g3 g4 hk) k hk, hlz]
  have HQL : Hid (zq.length = R * q) := h'.1.trans hnq
  have HR := Lib.hid h
  have HR' := Lib.hid h'
  have HNN := Lib.hid hnn
  have HNQ := Lib.hid hnq
  have hB0 := Lib.hid (Box3.new w 26 (.int .i64 rows) (.int .i64 cols) (.slice a n cp))
  have hB1 := Lib.hid (Box3.new (w.alloc (.cells #[.int .i64 rows, .int .i64 cols, .slice a n cp] 26)) 26 (.int .i64 R) (.int .i64 q) (.slice a' n' cp'))
  have bO := Lib.hid (Out3.new ((w.alloc (.cells #[.int .i64 rows, .int .i64 cols, .slice a n cp] 26)).alloc (.cells #[.int .i64 R, .int .i64 q, .slice a' n' cp'] 26)) 26)
  clear h h' hlz hnn hnq
  go_enter Try.func58, Try.ntmps58
  go_wp2_with fail
  refine (sOwn a n cp zp _ (HR.out.below (by repeat' (first | (with_reducible exact Below.refl _ _) | (with_reducible assumption) | (with_reducible refine Below.alloc ?_ ?_ _) | (with_reducible refine Below.setCell ?_ ?_ _) | (with_reducible refine Below.drew ?_) | (with_reducible refine below_drewN ?_ _) | (with_reducible refine below_via (by with_reducible assumption) ?_ ?_) | go_size))) hp hn).mono ?_
  rintro e W ⟨av, cv, rfl, hown, hbW⟩
  obtain ⟨g, rest, rfl, hgb, hrow, hcv, hcm, hlen⟩ := RowR.of_own hown hp
  simp at hgb
  have hzW := hbW.size; simp at hzW
  have hgW := hrow.lt
  have p0 : Box3 W w.heap.size (.int .i64 rows) (.int .i64 cols) (.slice a n cp) := by have := hB0.out.keep (by repeat' (first | (with_reducible exact Below.refl _ _) | (with_reducible assumption) | (with_reducible refine Below.alloc ?_ ?_ _) | (with_reducible refine Below.setCell ?_ ?_ _) | (with_reducible refine Below.drew ?_) | (with_reducible refine below_drewN ?_ _) | (with_reducible refine below_via (by with_reducible assumption) ?_ ?_) | go_size) : Below _ _ W); simpa using this
  have p1 : Box3 W (w.heap.size + 1) (.int .i64 R) (.int .i64 q) (.slice a' n' cp') := by have := hB1.out.keep (by repeat' (first | (with_reducible exact Below.refl _ _) | (with_reducible assumption) | (with_reducible refine Below.alloc ?_ ?_ _) | (with_reducible refine Below.setCell ?_ ?_ _) | (with_reducible refine Below.drew ?_) | (with_reducible refine below_drewN ?_ _) | (with_reducible refine below_via (by with_reducible assumption) ?_ ?_) | go_size) : Below _ _ W); simpa using this
  have p2 : Out3 W (w.heap.size + 2) := by have := bO.out.keep (by repeat' (first | (with_reducible exact Below.refl _ _) | (with_reducible assumption) | (with_reducible refine Below.alloc ?_ ?_ _) | (with_reducible refine Below.setCell ?_ ?_ _) | (with_reducible refine Below.drew ?_) | (with_reducible refine below_drewN ?_ _) | (with_reducible refine below_via (by with_reducible assumption) ?_ ?_) | go_size) : Below _ _ W); simpa using this
  have HP : Hid (∀ wr, Below g W wr → Box3 wr w.heap.size (.int .i64 rows) (.int .i64 cols) (.slice a n cp) ∧ Box3 wr (w.heap.size + 1) (.int .i64 R) (.int .i64 q) (.slice a' n' cp') ∧ Out3 wr (w.heap.size + 2) ∧ Rd wr a' n' zq ∧ Below w.heap.size w wr) := by
    intro wr hwr
    have hw2 : Below w.heap.size w wr := by repeat' (first | (with_reducible exact Below.refl _ _) | (with_reducible assumption) | (with_reducible refine Below.alloc ?_ ?_ _) | (with_reducible refine Below.setCell ?_ ?_ _) | (with_reducible refine Below.drew ?_) | (with_reducible refine below_drewN ?_ _) | (with_reducible refine below_via (by with_reducible assumption) ?_ ?_) | go_size)
    exact ⟨p0.below hwr (by omega), p1.below hwr (by omega), p2.below hwr (by omega), HR'.out.below hw2, hw2⟩
  have HROW : Hid (RowR W g (pasteL zp zq q (atP y x cols) 0) rest) := hrow
  obtain ⟨_, _, _, _⟩ := p0
  obtain ⟨_, _, _, _⟩ := p1
  clear hown hrow p2 hbW
  go_wp2
  go_loopw [10] (fun i wr => ∃ k : Nat, k ≤ R ∧ i = .int .i64 k ∧ Hid (RowR wr g (pasteL zp zq q (atP y x cols) k) rest) ∧ Hid (Below g W wr)) (fun i _ => R - (intOf i).toNat)
  case atStart => exact ⟨0, Nat.zero_le _, rfl, HROW, Below.refl _ _⟩
  case round =>
    obtain ⟨k, hk, rfl, HRW, HBL⟩ := hrel
    obtain ⟨⟨_, _, _, _⟩, ⟨_, _, _, _⟩, d3, d4, d5⟩ := HP.out wr HBL.out
    by_cases hlt : k < R
    · clear d3 d4 d5
      have hq1 := HQL.out
      have hrl : (rowOf zq q k).length = q := rowOf_length zq q k R hq1 hlt
      have hbd := atP_bd (c := cols) g3 g4 hlt
      rw [← HNN.out] at hbd
      have m1 : 0 ≤ ((y : Int) + (k : Int)) * (cols : Int) := Int.mul_nonneg (by omega) (by omega)
      have m2 : ((y : Int) + (k : Int)) * (cols : Int) + (x : Int) + (q : Int) ≤ (n : Int) := by rw [atP_int]; omega
      have HQK : Hid (∀ wr, Below g W wr → Rd wr a' n' zq) := fun wr hwr => (HP.out wr hwr).2.2.2.1
      have HQN : Hid ((n' : Int) = (R : Int) * (q : Int)) := by unfold Hid; rw [HNQ.out]; simp
      have HRL := Lib.hid hrl
      have HBD := Lib.hid hbd
      have HLK := Lib.hid (HL.out k hk)
      clear hq1 hrl hbd
      go_wp2
      go_loopw [11] (fun i wr => ∃ j : Nat, j ≤ q ∧ i = .int .i64 j ∧ Hid (RowR wr g (splice (pasteL zp zq q (atP y x cols) k) (atP y x cols k) ((rowOf zq q k).take j)) rest) ∧ Hid (Below g W wr)) (fun i _ => q - (intOf i).toNat)
      case atStart => exact ⟨0, Nat.zero_le _, rfl, by unfold Hid; rw [List.take_zero, splice_nil]; exact HRW.out, HBL⟩
      case round =>
        obtain ⟨j, hj, rfl, HRJ, HBJ⟩ := hrel
        obtain ⟨⟨_, _, _, _⟩, ⟨_, _, _, _⟩, -, -, -⟩ := HP.out wr HBJ.out
        by_cases hlj : j < q
        · have hA : (((y : Int) + (k : Int)) * (cols : Int) + (x : Int) + (j : Int)).toNat = atP y x cols k + j := by rw [atP_int]; omega
          have hgr : g < wr.heap.size := HRJ.out.lt
          have m3 : 0 ≤ ((y : Int) + (k : Int)) * (cols : Int) + (x : Int) + (j : Int) := by omega
          have m4 : ((y : Int) + (k : Int)) * (cols : Int) + (x : Int) + (j : Int) < (n : Int) := by omega
          have hlen2 : (splice (pasteL zp zq q (atP y x cols) k) (atP y x cols k) ((rowOf zq q k).take j)).length = n := by
            rw [length_splice _ _ _ (by rw [List.length_take, HLK.out, HRL.out]; have := HBD.out; omega), HLK.out]
          have hAn : atP y x cols k + j < n := by have := HBD.out; omega
          obtain ⟨v, hv⟩ : ∃ v, (rowOf zq q k).getD j 0 = v := ⟨_, rfl⟩
          have HV : Hid (pixV (q : Int) zq (k : Int) (j : Int) = v) := by unfold Hid; rw [pixV_nat, ← rowOf_get zq q k j hlj, hv]
          have HSTEP : Hid (∀ w1, Below wr.heap.size wr w1 → w1.cell? ⟨g, (((y : Int) + (k : Int)) * (cols : Int) + (x : Int) + (j : Int)).toNat, none⟩ = some (.int .i64 ((splice (pasteL zp zq q (atP y x cols) k) (atP y x cols k) ((rowOf zq q k).take j)).getD (atP y x cols k + j) 0)) ∧ w1.frozen? ⟨g, (((y : Int) + (k : Int)) * (cols : Int) + (x : Int) + (j : Int)).toNat, none⟩ = false ∧
              RowR (w1.setCell ⟨g, (((y : Int) + (k : Int)) * (cols : Int) + (x : Int) + (j : Int)).toNat, none⟩ (.int .i64 v)) g (splice (pasteL zp zq q (atP y x cols) k) (atP y x cols k) ((rowOf zq q k).take (j + 1))) rest) := by
            intro w1 hw1
            have hr1 := HRJ.out.keep hw1
            rw [hA]
            refine ⟨hr1.cell (by omega), hr1.frozen _, ?_⟩
            have := hr1.set_ (i := atP y x cols k + j) (by omega) v
            rw [splice_step _ _ _ j (by rw [HRL.out]; exact hlj) (by rw [HLK.out]; exact hAn), hv]
            exact this
          have HS : Hid (∀ w', Below g W w' → Below g W w' ∧ w'.cell? ⟨w.heap.size, 1, none⟩ = some (.int .i64 cols) ∧ w'.cell? ⟨w.heap.size + 1, 0, none⟩ = some (.int .i64 R) ∧ w'.cell? ⟨w.heap.size + 1, 1, none⟩ = some (.int .i64 q) ∧ w'.cell? ⟨w.heap.size + 1, 2, none⟩ = some (.slice a' n' cp')) := by
            intro w' hw'
            obtain ⟨e1, e2, -, -, -⟩ := HP.out w' hw'
            exact ⟨hw', e1.2.2.1, e2.2.1, e2.2.2.1, e2.2.2.2⟩
          have hbj := HBJ.out
          have w1 : IntKind.i64.wrap ((y : Int) + (k : Int)) = (y : Int) + (k : Int) := IntWalk.i64_in _ (by omega)
          have w2 : IntKind.i64.wrap (((y : Int) + (k : Int)) * (cols : Int)) = ((y : Int) + (k : Int)) * (cols : Int) := IntWalk.i64_in _ (by omega)
          have w3 : IntKind.i64.wrap (((y : Int) + (k : Int)) * (cols : Int) + (x : Int)) = ((y : Int) + (k : Int)) * (cols : Int) + (x : Int) := IntWalk.i64_in _ (by omega)
          have w4 : IntKind.i64.wrap (((y : Int) + (k : Int)) * (cols : Int) + (x : Int) + (j : Int)) = ((y : Int) + (k : Int)) * (cols : Int) + (x : Int) + (j : Int) := IntWalk.i64_in _ (by omega)
          clear hA hlen2 hAn hv
          go_wp2
          go_region_held3 (fun w' => Below g W w' ∧ w'.cell? ⟨w.heap.size, 1, none⟩ = some (.int .i64 cols) ∧ w'.cell? ⟨w.heap.size + 1, 0, none⟩ = some (.int .i64 R) ∧ w'.cell? ⟨w.heap.size + 1, 1, none⟩ = some (.int .i64 q) ∧ w'.cell? ⟨w.heap.size + 1, 2, none⟩ = some (.slice a' n' cp')) (exact HS.out _ (by repeat' (first | (with_reducible exact Below.refl _ _) | (with_reducible assumption) | (with_reducible refine Below.alloc ?_ ?_ _) | (with_reducible refine Below.setCell ?_ ?_ _) | (with_reducible refine Below.drew ?_) | (with_reducible refine below_drewN ?_ _) | (with_reducible refine below_via (by with_reducible assumption) ?_ ?_) | go_size)))
            (first | (go_at_call 88; refine (sAt (R : Int) (q : Int) a' n' cp' zq (k : Int) (j : Int) _ (HQK.out _ (by repeat' (first | (with_reducible exact Below.refl _ _) | (with_reducible assumption) | (with_reducible refine Below.alloc ?_ ?_ _) | (with_reducible refine Below.setCell ?_ ?_ _) | (with_reducible refine Below.drew ?_) | (with_reducible refine below_drewN ?_ _) | (with_reducible refine below_via (by with_reducible assumption) ?_ ?_) | go_size))) (by omega) (by omega) (by omega) (by omega) (by omega) (by omega) HQN.out).mono ?_; rintro e w1 ⟨rfl, hb1⟩; have hz1 := hb1.size; (try simp at hz1); rw [HV.out]; obtain ⟨s1, s2, HS3⟩ := HSTEP.out w1 (by repeat' (first | (with_reducible exact Below.refl _ _) | (with_reducible assumption) | (with_reducible refine Below.alloc ?_ ?_ _) | (with_reducible refine Below.setCell ?_ ?_ _) | (with_reducible refine Below.drew ?_) | (with_reducible refine below_drewN ?_ _) | (with_reducible refine below_via (by with_reducible assumption) ?_ ?_) | go_size)); have HS4 := Lib.hid HS3; clear HS3))
          all_goals
            go_wp2
            go_roundw
            case rel => exact ⟨j + 1, by omega, by go_num, HS4.out, by unfold Hid; repeat' (first | (with_reducible exact Below.refl _ _) | (with_reducible assumption) | (with_reducible refine Below.alloc ?_ ?_ _) | (with_reducible refine Below.setCell ?_ ?_ _) | (with_reducible refine Below.drew ?_) | (with_reducible refine below_drewN ?_ _) | (with_reducible refine below_via (by with_reducible assumption) ?_ ?_) | go_size)⟩
            case measure => simp [intOf]; omega
        · have hje : j = q := by omega
          have HE : Hid (RowR wr g (pasteL zp zq q (atP y x cols) (k + 1)) rest) := by
            have e := HRJ.out
            rw [hje, List.take_of_length_le (by rw [HRL.out]; exact Nat.le_refl _)] at e
            exact e
          clear hje
          go_wp2
          go_roundw
          case rel => exact ⟨k + 1, by omega, by go_num, HE, HBJ⟩
          case measure => simp [intOf]; omega
    · have hke : k = R := by omega
      obtain ⟨o2, o3, o4, o5, o6, o7, o8⟩ := d3
      have HR2 : Hid (RowR wr g (pasteL zp zq q (atP y x cols) R) rest) := by rw [← hke]; exact HRW
      have HD5 := Lib.hid d5
      have hgw := HRW.out.lt
      clear hke d4 d5
      go_wp2
      have hlen : (pasteL zp zq q (atP y x cols) R).length = n := HL.out R (Nat.le_refl _)
      refine bodyPost_ret (v := .agg #[.int .i64 rows, .int .i64 cols, .slice (some ⟨g, 0, none⟩) (pasteL zp zq q (atP y x cols) R).length cv]) (by simp [results, Try.results58, go_sem, o3, o4, o5, hlen]) rfl ?_
      have hown2 := HR2.out.own (base := w.heap.size + 3) hlen hcv hcm (by omega)
      refine ⟨some ⟨g, 0, none⟩, cv, rfl, ?_, (((HD5.out.setCell (by simp; omega) _).setCell (by simp; omega) _).setCell (by simp; omega) _)⟩
      rw [hlen]
      exact own_mono (own_far (own_far (own_far hown2 (by simp) _) (by simp) _) (by simp) _) (by omega)
end Go.Proofs.Ytdbecdgiafjkfaa
