/-
  DERIVED. BlankRaster: the fill of spec.
-/
import Derived.Test.YtcpicgcdefnhaaaDoorBin
import Derived.Test.YtcpicgcdefnhaaaDoorRast
import Derived.Test.YtcpicgcdefnhaaaDoorMk
import Derived.Test.YtcpicgcdefnhaaaDoorInv
import Derived.Conc.MuLone
namespace Go.Proofs.YtcpicgcdefnhaaaDoor
open Go.RowKit
set_option linter.unusedVariables false
set_option maxHeartbeats 1000000 in
theorem sBlankL (r c v : Int) (n : Nat) (w : World) (hn : n ≤ 1048576) (hnr : (n : Int) = r * c) :
    Calls Tryd.prog 46 #[.int .i64 r, .int .i64 c, .int .i64 v] w (NewRast w r c n (List.replicate n v)) := by
  have hmk := make_ints n hn
  rw [hnr] at hmk
  have HR := Lib.hid hnr
  have hb1 : 0 ≤ r * c := by omega
  have hb2 : r * c ≤ 1048576 := by omega
  clear hnr
  go_enter Tryd.func46, Tryd.ntmps46
  go_wp2
  clear hmk
  obtain ⟨W, hW⟩ : ∃ W, W = ((w.alloc (.cells #[.int .i64 0, .int .i64 0, .slice none 0 0] 24)).alloc (.cells (vals (List.replicate n 0)) 2)) := ⟨_, rfl⟩
  have hB : Below w.heap.size w W := by rw [hW]; repeat' (first | (with_reducible exact Below.refl _ _) | (with_reducible assumption) | (with_reducible refine Below.alloc ?_ ?_ _) | (with_reducible refine Below.setCell ?_ ?_ _) | (with_reducible refine Below.drew ?_) | (with_reducible refine below_drewN ?_ _) | (with_reducible refine below_via (by with_reducible assumption) ?_ ?_) | go_size)
  have hs : W.heap.size = w.heap.size + 2 := by rw [hW]; simp
  have hk : Blk W (w.heap.size + 1) 2 (vals (List.replicate n 0)) := by
    rw [hW]
    have := Blk.new (w.alloc (.cells #[.int .i64 0, .int .i64 0, .slice none 0 0] 24)) 2 (vals (List.replicate n 0))
    simp only [World.size_alloc] at this
    exact this
  have x0 : W.cell? ⟨w.heap.size, 0, none⟩ = some (.int .i64 0) := by rw [hW]; simp [go_sem]
  have x1 : W.cell? ⟨w.heap.size, 1, none⟩ = some (.int .i64 0) := by rw [hW]; simp [go_sem]
  have x2 : W.cell? ⟨w.heap.size, 2, none⟩ = some (.slice none 0 0) := by rw [hW]; simp [go_sem]
  have p0 : W.frozen? ⟨w.heap.size, 0, none⟩ = false := by rw [hW]; simp [go_sem]
  have p1 : W.frozen? ⟨w.heap.size, 1, none⟩ = false := by rw [hW]; simp [go_sem]
  have p2 : W.frozen? ⟨w.heap.size, 2, none⟩ = false := by rw [hW]; simp [go_sem]
  have HS := Lib.hid hs
  rw [← hW]
  clear hW hs
  go_loopw [8] (fun i wr => ∃ k : Nat, k ≤ n ∧ i = .int .i64 k ∧ Blk wr (w.heap.size + 1) 2 (vals (fillL v n k)) ∧ W.grownBy wr (some (w.heap.size + 1))) (fun i _ => n - (intOf i).toNat)
  case atStart => exact ⟨0, Nat.zero_le _, rfl, by rw [fillL_zero]; exact hk, World.grownBy.refl W _⟩
  case round =>
    obtain ⟨k, hkn, rfl, hblk, hgr⟩ := hrel
    have hsz : w.heap.size + 1 < wr.heap.size := by have := hgr.size; have := HS.out; omega
    by_cases hlt : k < n
    · have hy : wr.cell? ⟨w.heap.size + 1, k, none⟩ = some (.int .i64 ((fillL v n k).getD k 0)) := by
        rw [hblk.cell]; exact vals_get _ _ (by rw [fillL_length _ _ _ hkn]; exact hlt)
      have hz : wr.frozen? ⟨w.heap.size + 1, k, none⟩ = false := hblk.frozen k
      have HN : Hid (Blk (wr.setCell ⟨w.heap.size + 1, k, none⟩ (.int .i64 v)) (w.heap.size + 1) 2 (vals (fillL v n (k + 1)))) := by
        have := hblk.set_ k (.int .i64 v)
        rw [vals_set, fillL_set _ _ _ hlt] at this
        exact this
      have HG : Hid (W.grownBy (wr.setCell ⟨w.heap.size + 1, k, none⟩ (.int .i64 v)) (some (w.heap.size + 1))) := only_setCell hgr _
      generalize (fillL v n k).getD k 0 = y at hy
      clear hblk hgr x0 x1 x2 hk p0 p1 p2
      go_wp2
      go_roundw
      case rel => exact ⟨k + 1, by omega, by go_num, HN.out, HG.out⟩
      case measure => simp [intOf]; omega
    · have hke : k = n := by omega
      have HK := Lib.hid hke
      have y0 : wr.cell? ⟨w.heap.size, 0, none⟩ = some (.int .i64 0) := (only_cell hgr (by have := HS.out; omega) (by omega)).trans x0
      have y1 : wr.cell? ⟨w.heap.size, 1, none⟩ = some (.int .i64 0) := (only_cell hgr (by have := HS.out; omega) (by omega)).trans x1
      have y2 : wr.cell? ⟨w.heap.size, 2, none⟩ = some (.slice none 0 0) := (only_cell hgr (by have := HS.out; omega) (by omega)).trans x2
      have z0 : wr.frozen? ⟨w.heap.size, 0, none⟩ = false := (only_frozen hgr (by have := HS.out; omega) (by omega)).trans p0
      have z1 : wr.frozen? ⟨w.heap.size, 1, none⟩ = false := (only_frozen hgr (by have := HS.out; omega) (by omega)).trans p1
      have z2 : wr.frozen? ⟨w.heap.size, 2, none⟩ = false := (only_frozen hgr (by have := HS.out; omega) (by omega)).trans p2
      clear hke x0 x1 x2 p0 p1 p2
      go_wp2
      refine bodyPost_ret (v := .agg #[.int .i64 r, .int .i64 c, .slice (some ⟨w.heap.size + 1, 0, none⟩) n n]) (by simp [results, Tryd.results46, go_sem, y0, y1, y2]) rfl ?_
      refine ⟨w.heap.size + 1, rfl, by omega, ?_, ?_⟩
      · have e := fillL_all v n
        rw [HK.out, e] at hblk
        exact ((hblk.far (by simp) _).far (by simp) _).far (by simp) _
      · have hb : Below w.heap.size w wr := below_only hB hgr (by have := HS.out; omega) (by omega)
        repeat' (first | (with_reducible exact Below.refl _ _) | (with_reducible assumption) | (with_reducible refine Below.alloc ?_ ?_ _) | (with_reducible refine Below.setCell ?_ ?_ _) | (with_reducible refine Below.drew ?_) | (with_reducible refine below_drewN ?_ _) | (with_reducible refine below_via (by with_reducible assumption) ?_ ?_) | go_size)
def blankB (r c g : Int) : Bool := sizeB r c && inB g 0 255
theorem blank_no {r c g : Int} (h : blankB r c g = false) : sizeB r c = false ∨ (sizeB r c = true ∧ inB g 0 255 = false) := by
  unfold blankB at h
  cases h1 : sizeB r c <;> cases h2 : inB g 0 255 <;> simp_all
theorem rastL_const (cols : Nat) (g : Int) (k : Nat) : rastL cols (fun _ _ => g) k = List.replicate k g := by
  unfold rastL
  apply List.ext_getElem <;> simp
end Go.Proofs.YtcpicgcdefnhaaaDoor
