/-
  DERIVED. Histogram: the count.
-/
import Derived.Test.YtmcpgaidllpmcaaResI
import Derived.Test.YtmcpgaidllpmcaaRast
import Derived.Test.YtmcpgaidllpmcaaInv
import Derived.Conc.MuLone
namespace Go.Proofs.Ytmcpgaidllpmcaa
open Go.RowKit
set_option linter.unusedVariables false
def zerN (n : Nat) : List Int := List.replicate n 0
theorem zerN_length (n : Nat) : (zerN n).length = n := by simp [zerN]
theorem zerN_getD (n i : Nat) : (zerN n).getD i 0 = 0 := by
  simp only [zerN, List.getD_eq_getElem?_getD, List.getElem?_replicate]
  split <;> simp
def histP (zs : List Int) : Nat → List Int
  | 0 => zerN 256
  | k + 1 => (histP zs k).set (zs.getD k 0).toNat ((histP zs k).getD (zs.getD k 0).toNat 0 + 1)
theorem histP_length (zs : List Int) (k : Nat) : (histP zs k).length = 256 := by
  induction k with
  | zero => exact zerN_length 256
  | succ k ih => simp [histP, ih]
theorem histP_bd (zs : List Int) (k : Nat) (i : Nat) : 0 ≤ (histP zs k).getD i 0 ∧ (histP zs k).getD i 0 ≤ k := by
  induction k generalizing i with
  | zero =>
    have := zerN_getD 256 i
    simp only [histP, this]
    simp
  | succ k ih =>
    have h1 := ih i
    have h2 := ih (zs.getD k 0).toNat
    simp only [histP, List.getD_eq_getElem?_getD, List.getElem?_set] at h1 h2 ⊢
    split
    · split <;> simp <;> omega
    · omega
set_option maxHeartbeats 2000000 in
theorem sHistL (r c : Int) (a : Option Addr) (n cp : Nat) (zs : List Int) (w : World) (h : Rd w a n zs) (hn : n ≤ 1048576) (hp : 0 < n) (h8 : ∀ x ∈ zs, 0 ≤ x ∧ x ≤ 255) :
    Calls Try.prog 66 #[.agg #[.int .i64 r, .int .i64 c, .slice a n cp]] w (NewInts w 256 (histP zs n)) := by
  obtain ⟨b, off, rfl, hb, hcell⟩ := h.2 hp
  have HL := Lib.hid h.1
  have HC := Lib.hid hcell
  have H8 := Lib.hid h8
  clear h hcell h8
  have hmk : ∀ w : World, (Instr.makeSlice 22 (.int .i64 256) (.int .i64 256)).run Try.prog w = .ok (.slice (some ⟨w.heap.size, 0, none⟩) 256 256) (w.alloc (.cells (vals (zerN 256)) 2)) := make_ints 256 (by decide)
  go_enter Try.func66, Try.ntmps66
  go_wp2
  clear hmk
  obtain ⟨W, hW⟩ : ∃ W, W = ((w.alloc (.cells #[.int .i64 r, .int .i64 c, .slice (some ⟨b, off, none⟩) n cp] 27)).alloc (.cells (vals (zerN 256)) 2)) := ⟨_, rfl⟩
  have hB : Below w.heap.size w W := by rw [hW]; repeat' (first | (with_reducible exact Below.refl _ _) | (with_reducible assumption) | (with_reducible refine Below.alloc ?_ ?_ _) | (with_reducible refine Below.setCell ?_ ?_ _) | (with_reducible refine Below.drew ?_) | (with_reducible refine below_drewN ?_ _) | (with_reducible refine below_via (by with_reducible assumption) ?_ ?_) | go_size)
  have hs : W.heap.size = w.heap.size + 2 := by rw [hW]; simp
  have hk : Blk W (w.heap.size + 1) 2 (vals (zerN 256)) := by
    rw [hW]
    have := Blk.new (w.alloc (.cells #[.int .i64 r, .int .i64 c, .slice (some ⟨b, off, none⟩) n cp] 27)) 2 (vals (zerN 256))
    simp only [World.size_alloc] at this
    exact this
  have x2 : W.cell? ⟨w.heap.size, 2, none⟩ = some (.slice (some ⟨b, off, none⟩) n cp) := by rw [hW]; simp [go_sem]
  have HS := Lib.hid hs
  rw [← hW]
  clear hW hs
  have hbW : b < W.heap.size := by have := HS.out; omega
  have HCW : Hid (∀ i, i < n → W.cell? ⟨b, off + i, none⟩ = some (.int .i64 (zs.getD i 0))) := fun i hi => (hB.cell (p := ⟨b, off + i, none⟩) hb).trans (HC.out i hi)
  go_loopw [4] (fun i wr => ∃ k : Nat, k ≤ n ∧ i = .int .i64 k ∧ Blk wr (w.heap.size + 1) 2 (vals (histP zs k)) ∧ W.grownBy wr (some (w.heap.size + 1))) (fun i _ => n - (intOf i).toNat)
  case atStart => exact ⟨0, Nat.zero_le _, rfl, hk, World.grownBy.refl W _⟩
  case round =>
    obtain ⟨k, hkn, rfl, hblk, hgr⟩ := hrel
    have hsz : w.heap.size + 1 < wr.heap.size := by have := hgr.size; have := HS.out; omega
    have f2 : wr.cell? ⟨w.heap.size, 2, none⟩ = some (.slice (some ⟨b, off, none⟩) n cp) := (only_cell hgr (by have := HS.out; omega) (by omega)).trans x2
    by_cases hlt : k < n
    · have hx : wr.cell? ⟨b, off + k, none⟩ = some (.int .i64 (zs.getD k 0)) := (only_cell hgr hbW (by omega)).trans (HCW.out k hlt)
      obtain ⟨e1, e2⟩ := H8.out _ (getD_mem (zs := zs) (i := k) (by rw [HL.out]; exact hlt))
      obtain ⟨v, hv⟩ := Int.eq_ofNat_of_zero_le e1
      have hN : Hid (histP zs (k + 1) = (histP zs k).set v ((histP zs k).getD v 0 + 1)) := by unfold Hid; rw [histP, hv]; rfl
      rw [hv] at hx e2
      have hy : wr.cell? ⟨w.heap.size + 1, v, none⟩ = some (.int .i64 ((histP zs k).getD v 0)) := by
        rw [hblk.cell]; exact vals_get _ _ (by rw [histP_length]; omega)
      have hz : wr.frozen? ⟨w.heap.size + 1, v, none⟩ = false := hblk.frozen v
      obtain ⟨b1, b2⟩ := histP_bd zs k v
      generalize hq : (histP zs k).getD v 0 = q at hy b1 b2
      have HN : Hid (Blk (wr.setCell ⟨w.heap.size + 1, v, none⟩ (.int .i64 (q + 1))) (w.heap.size + 1) 2 (vals (histP zs (k + 1)))) := by
        have := hblk.set_ v (.int .i64 (q + 1))
        rw [vals_set, ← hq, ← hN.out, hq] at this
        exact this
      have HG : Hid (W.grownBy (wr.setCell ⟨w.heap.size + 1, v, none⟩ (.int .i64 (q + 1))) (some (w.heap.size + 1))) := only_setCell hgr _
      clear hblk hgr x2 hk hq hv e1
      go_wp2
      go_roundw
      case rel => exact ⟨k + 1, by omega, by go_num, HN.out, HG.out⟩
      case measure => simp [intOf]; omega
    · have hke : k = n := by omega
      have HK := Lib.hid hke
      clear hke x2
      go_wp2
      go_returns
      rw [HK.out] at hblk
      exact ⟨w.heap.size + 1, rfl, by omega, hblk, below_only hB hgr (by have := HS.out; omega) (by omega)⟩
end Go.Proofs.Ytmcpgaidllpmcaa
