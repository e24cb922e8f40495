/-
  DERIVED. l01Own, l20Paste: contracts.
-/
import Derived.Test.YtfiddbmjgncabaaCopyR
import Derived.Test.YtfiddbmjgncabaaPasteL
import Derived.Test.YtfiddbmjgncabaaWithin
import Derived.Conc.MuLone
import Derived.Deep.RegionHeld3
import Derived.IntWalk
namespace Go.Proofs.Ytfiddbmjgncabaa
open Go.RowKit
set_option linter.unusedVariables false
theorem rd_news {w : World} {b off n : Nat} {zs : List Int} (hl : zs.length = n) (hC : ∀ i, i < n → w.cell? ⟨b, off + i, none⟩ = some (.int .i64 (zs.getD i 0))) :
    ∀ j u, (zs.map (Value.int .i64))[j]? = some u → w.cell? ((⟨b, off, none⟩ : Addr).add j) = some u := by
  intro j u hu
  rw [List.getElem?_map] at hu
  by_cases hj : j < n
  · have hg : zs[j]? = some (zs.getD j 0) := by simp [List.getD_eq_getElem?_getD, List.getElem?_eq_getElem (show j < zs.length by omega)]
    rw [hg] at hu
    simp only [Option.map_some, Option.some.injEq] at hu
    rw [← hu, ← hC j hj]
    by_cases h0 : j = 0 <;> simp [Addr.add, h0]
  · rw [List.getElem?_eq_none (by omega)] at hu
    simp at hu
set_option maxRecDepth 20000 in
set_option maxHeartbeats 2000000 in
theorem sOwn (a : Option Addr) (n cp : Nat) (zs : List Int) (w : World) (h : Rd w a n zs) (hp : 0 < n) (hn : n ≤ 1048576) :
    Calls Try.prog 120 #[.slice a n cp] w fun e w' => ∃ av cv, e = .returned (.slice av n cv) ∧ w'.ownsRow w.heap.size 2 1 (.slice av n cv) n (zs.map (Value.int .i64)) ∧ Below w.heap.size w w' := by
  obtain ⟨i0, hi, hz0, hz1', hz2'⟩ := info_parts infoInt
  have hl := h.1
  obtain ⟨b, off, rfl, hb, hcell⟩ := h.2 hp
  have hown : (w.alloc (.cells #[] 2)).ownsRow w.heap.size 2 1 (.slice (some ⟨w.heap.size, 0, none⟩) 0 0) 0 [] :=
    World.ownsRow_lit (base := w.heap.size) (e := 2) (size := 1) w #[] 0 (by simp) (by unfold maxLen; omega) (by simp)
  have HN := Lib.hid (rd_news (w := w.alloc (.cells #[] 2)) hl (fun i hi => (World.cell?_alloc_lt w _ ⟨b, off + i, none⟩ hb).trans (hcell i hi)))
  have HL := Lib.hid hl
  clear hcell hl h
  go_enter Try.func120, Try.ntmps120
  go_wp2_with (at_builtin; go_loud (refine wpList_append_own _ rfl _ _ 22 rfl w.heap.size 2 i0 (.int .i64 0) 1 8 Try.underlying22 hi hz0 hz1' hz2' rfl (by decide) _ _ _ rfl hown ⟨b, off, none⟩ n cp (zs.map (Value.int .i64)) rfl (by simp [HL.out]) HN.out (by intro u hu; obtain ⟨x, _, rfl⟩ := List.mem_map.1 hu; rfl) (by unfold maxLen; omega) (by first | omega | (simp; done) | (simp; omega)) (by first | omega | (simp; done) | (simp; omega)) ?_; intro v' w3 hown' hgrow _))
  simp only [Nat.zero_add, List.nil_append] at hown'
  obtain ⟨av, cv, rfl⟩ := own_shape hown'
  have hB := ((Below.refl w.heap.size w).alloc (Nat.le_refl _) (.cells #[] 2)).grown hgrow (by simp) (fun j e => (hown.lt j e).1)
  have HO := Lib.hid hown'
  have HB := Lib.hid hB
  clear hown hown' hgrow hB HN
  go_wp2
  go_returns
  exact ⟨av, cv, rfl, HO.out, HB.out⟩
theorem Box3.below {w w' : World} {b B : Nat} {x y z : Value} (h : Box3 w b x y z) (hb : Below B w w') (hB : b < B) : Box3 w' b x y z :=
  ⟨Nat.lt_of_lt_of_le h.1 hb.size, (hb.cell (p := ⟨b, 0, none⟩) hB).trans h.2.1, (hb.cell (p := ⟨b, 1, none⟩) hB).trans h.2.2.1, (hb.cell (p := ⟨b, 2, none⟩) hB).trans h.2.2.2⟩
theorem Out3.below {w w' : World} {b B : Nat} (h : Out3 w b) (hb : Below B w w') (hB : b < B) : Out3 w' b :=
  ⟨Nat.lt_of_lt_of_le h.1 hb.size, (hb.cell (p := ⟨b, 0, none⟩) hB).trans h.2.1, (hb.cell (p := ⟨b, 1, none⟩) hB).trans h.2.2.1, (hb.cell (p := ⟨b, 2, none⟩) hB).trans h.2.2.2.1,
    (hb.frozen (p := ⟨b, 0, none⟩) hB).trans h.2.2.2.2.1, (hb.frozen (p := ⟨b, 1, none⟩) hB).trans h.2.2.2.2.2.1, (hb.frozen (p := ⟨b, 2, none⟩) hB).trans h.2.2.2.2.2.2⟩
/-- where row k of the pasted raster begins. -/
def atP (y x c : Nat) (k : Nat) : Nat := (y + k) * c + x
theorem atP_int (y x c k j : Nat) : ((y : Int) + (k : Int)) * (c : Int) + (x : Int) + (j : Int) = ((atP y x c k + j : Nat) : Int) := by
  unfold atP
  simp
theorem atP_bd {y x c k q r R : Nat} (h1 : y + R ≤ r) (h2 : x + q ≤ c) (hk : k < R) : atP y x c k + q ≤ r * c := by
  unfold atP
  have : (y + k + 1) * c ≤ r * c := Nat.mul_le_mul_right _ (by omega)
  rw [Nat.add_mul, Nat.one_mul] at this
  omega
end Go.Proofs.Ytfiddbmjgncabaa
