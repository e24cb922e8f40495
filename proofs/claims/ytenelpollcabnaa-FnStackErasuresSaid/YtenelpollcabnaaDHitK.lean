/-
  DERIVED. Cells damaged.
-/
import Derived.Test.YtenelpollcabnaaDStG
import Derived.Test.YtenelpollcabnaaSour
import Derived.Conc.MuLone
namespace Go.Proofs.Ytenelpollcabnaa
open Go.RowKit
set_option linter.unusedVariables false
/-- All blocks but the source's and the row's stand. -/
def KV (w wr : World) (g : Nat) (v : Value) : Prop := w.heap.size ≤ wr.heap.size ∧ ∀ b, b < w.heap.size → b ≠ g → v.ownBlock ≠ some b → wr.heap[b]? = w.heap[b]?
theorem KV.refl (w : World) (g : Nat) (v : Value) : KV w w g v := ⟨Nat.le_refl _, fun _ _ _ _ => rfl⟩
theorem KV.nxt {w wr w1 : World} {g : Nat} {v : Value} (h : KV w wr g v) (hg : wr.grownBy w1 (some g)) : KV w w1 g v :=
  ⟨Nat.le_trans h.1 hg.size, fun b h1 h2 h3 => (hg.block b (by have := h.1; omega) (fun e => h2 (Option.some.inj e))).trans (h.2 b h1 h2 h3)⟩
theorem KV.set {w wr : World} {g gv i n c : Nat} {x : Value} (h : KV w wr g (.slice (some ⟨gv, 0, none⟩) n c)) : KV w (wr.setCell ⟨gv, i, none⟩ x) g (.slice (some ⟨gv, 0, none⟩) n c) :=
  ⟨by simpa [World.setCell] using h.1, fun b h1 h2 h3 => (Below.heap_setCell wr ⟨gv, i, none⟩ x b (fun e => h3 (by rw [e]; rfl))).trans (h.2 b h1 h2 h3)⟩
def HitsK (w0 w : World) (base g : Nat) (v : Value) (m : Nat) (e : Ending) (w' : World) : Prop := ∃ zs r, e = .returned r ∧ DInv w0 w' base g v m zs ∧ KV w w' g v
set_option maxRecDepth 100000 in
set_option maxHeartbeats 8000000 in
theorem dHitK (g base : Nat) (a : Option Addr) (m c : Nat) (zs : List Int) (most : Int) (w0 w : World) (h : DInv w0 w base g (.slice a m c) m zs) (hgb : g < base) (hwg : w0.heap.size ≤ g) (hm : m ≤ 1048576) (h0 : 0 ≤ most) (h1 : most ≤ 1000) :
    Calls Try.prog 73 #[.pointer (some ⟨g, 0, none⟩), .slice a m c, .int .i64 most] w (HitsK w0 w base g (.slice a m c) m) := by
  have HD0 := Lib.hid h
  clear h
  go_enter Try.func73, Try.ntmps73
  go_wp2_with fail
  refine (sNext g (most + 1) _ HD0.out.2.2.1).mono ?_
  rintro e w1 ⟨x1, rfl, x1a, x1b, x1z, hs1, hg1⟩
  have HD1 := Lib.hid (HD0.out.nxt hg1 hs1 hgb hwg)
  have HK1 : Hid (KV w w1 g (.slice a m c)) := (KV.refl w g _).nxt hg1
  have x1c : x1 ≤ 1001 := by
    by_cases h : 1 < most + 1
    · have := x1b (by omega); omega
    · have := x1z (by omega); omega
  clear hg1 hs1 x1b x1z
  go_wp2
  go_loopw [6] (fun nn wr => ∃ (n : Int) (zs : List Int), nn = .int .i64 n ∧ 0 ≤ n ∧ n ≤ 1001 ∧ Hid (DInv w0 wr base g (.slice a m c) m zs) ∧ Hid (KV w wr g (.slice a m c))) (fun nn _ => (intOf nn).toNat)
  case atStart => exact ⟨x1, zs, rfl, x1a, x1c, HD1.out, HK1.out⟩
  case round =>
    obtain ⟨n, zs, rfl, n0, n9, HD, HK⟩ := hrel
    by_cases hn : 0 < n
    · rcases Nat.eq_zero_or_pos m with hm0 | hm0
      · have hm1 : m ≤ 0 := by omega
        have t0 : decide ((0 : Int) < (m : Int)) = false := by simp; omega
        clear hm0
        go_wp2
        go_returns
        exact ⟨zs, _, rfl, HD.out, HK.out⟩
      · obtain ⟨gv, cv, hv⟩ := HD.out.shape hm0
        injection hv with hv1 _ hv2
        subst hv1 hv2
        have hm1 : (0 : Int) < (m : Int) := by omega
        have t0 : decide ((0 : Int) < (m : Int)) = true := by simp; omega
        go_wp2_with fail
        refine (sNext g (m : Int) _ HD.out.2.2.1).mono ?_
        rintro e w2 ⟨x2, rfl, x2a, x2b, x2z, hs2, hg2⟩
        have HD2 := Lib.hid (HD.out.nxt hg2 hs2 hgb hwg)
        have HK2 := Lib.hid (HK.out.nxt hg2)
        have x2c : x2 < (m : Int) := by
          by_cases h : 1 < m
          · exact x2b (by omega)
          · have := x2z (by omega); omega
        clear hg2 hs2 x2b x2z
        go_wp2_with fail
        refine (sNext g 3 _ HD2.out.2.2.1).mono ?_
        rintro e w3 ⟨x3, rfl, x3a, x3b, -, hs3, hg3⟩
        have HD3 := Lib.hid (HD2.out.nxt hg3 hs3 hgb hwg)
        have HK3 := Lib.hid (HK2.out.nxt hg3)
        have x3c := x3b (by omega)
        clear hg3 hs3 x3b
        obtain ⟨k, hk⟩ := Int.eq_ofNat_of_zero_le x2a
        subst hk
        have hkm : k < m := by omega
        obtain ⟨ck, fk⟩ := HD3.out.cell k hkm
        have HS := Lib.hid (HD3.out.set hgb (by omega) k (x3 - 1))
        have HKS : Hid (KV w (w3.setCell ⟨gv, k, none⟩ (.int .i64 (x3 - 1))) g (.slice (some ⟨gv, 0, none⟩) m c)) := HK3.out.set
        go_wp2
        go_roundw
        case rel => exact ⟨n - 1, _, rfl, by omega, by omega, HS.out, HKS.out⟩
        case measure => simp [intOf]; omega
    · go_wp2
      go_returns
      exact ⟨zs, _, rfl, HD.out, HK.out⟩
end Go.Proofs.Ytenelpollcabnaa
