/-
  DERIVED. A grid drawn for DarkBox.
-/
import Derived.Test.YtbcbdphnbfjhoaaDGrid2
import Derived.Test.YtbcbdphnbfjhoaaInts
import Derived.Conc.MuLone
namespace Go.Proofs.Ytbcbdphnbfjhoaa
open Go.RowKit
set_option linter.unusedVariables false
theorem BytesIn.up {w : World} {a : Option Addr} {n B B' : Nat} (h : BytesIn w a n B) (hb : B ≤ B') : BytesIn w a n B' := fun hp => by
  obtain ⟨b, off, e, h1, h2⟩ := h hp
  exact ⟨b, off, e, by omega, h2⟩
def zerM (n : Nat) : List Int := List.replicate n 0
theorem zerM_length (n : Nat) : (zerM n).length = n := by simp [zerM]
def oneAt (q : Nat) : List Int := (zerM 2001).set (2000 - q) 1
set_option maxRecDepth 100000 in
set_option maxHeartbeats 8000000 in
theorem dDarkBox (a : Option Addr) (n cp : Nat) (w : World) (h : BytesIn w a n w.heap.size) (hn : n ≤ 1048576) : Calls Try.prog 34 #[.slice a n cp] w (DrawnGrid w) := by
  have hmk : ∀ w : World, (Instr.makeSlice 22 (.int .i64 2001) (.int .i64 2001)).run Try.prog w = .ok (.slice (some ⟨w.heap.size, 0, none⟩) 2001 2001) (w.alloc (.cells (vals (zerM 2001)) 2)) := make_ints 2001 (by decide)
  have HO := Lib.hid (Out3.new w 28)
  have hk0 : Below w.heap.size w (w.alloc (.cells #[.int .i64 0, .int .i64 0, .slice none 0 0] 28)) := by repeat' (first | (with_reducible exact Below.refl _ _) | (with_reducible assumption) | (with_reducible refine Below.alloc ?_ ?_ _) | (with_reducible refine Below.setCell ?_ ?_ _) | (with_reducible refine Below.drew ?_) | (with_reducible refine below_drewN ?_ _) | (with_reducible refine below_via (by with_reducible assumption) ?_ ?_) | go_size)
  have HBY := Lib.hid ((h.kept (fun b hb => hk0.block b hb)).up (show w.heap.size ≤ (w.alloc (.cells #[.int .i64 0, .int .i64 0, .slice none 0 0] 28)).heap.size by simp))
  clear h
  go_enter Try.func34, Try.ntmps34
  go_wp2_with fail
  refine (sFrom a n cp _ HBY.out hn).mono ?_
  rintro e w1 ⟨g, rfl, hgl, hs1, hb1⟩
  have HS1 := Lib.hid hs1
  have hgw := hs1.lt
  have hz1 := hb1.size
  simp only [World.size_alloc] at hgl hz1
  have HO1 := Lib.hid (HO.out.keep hb1)
  have hB1 : Below w.heap.size w w1 := hk0.trans (hb1.mono (by simp))
  have HX1 := Lib.hid hb1
  clear hs1 hb1 HO HBY
  go_wp2_with fail
  refine (sNext g 30 _ HS1.out).mono ?_
  rintro e w2 ⟨x1, rfl, x1a, x1b, -, hs2, hg2⟩
  have HS2 := Lib.hid hs2
  have x1c := x1b (by omega)
  have HO2 := Lib.hid (HO1.out.nxt hg2 (by omega))
  have HX2 := Lib.hid (below_nxt HX1.out hg2 (by simp; omega) (by simp; omega))
  have HB2 := Lib.hid (below_nxt hB1 hg2 (by omega) (by omega))
  have hz2 := hg2.size
  clear x1b hs2 hg2 HS1 HX1 HO1
  by_cases h0 : x1 = 0
  · subst h0
    have hown : (w2.alloc (.cells (vals (zerM 2001)) 2)).ownsRow w2.heap.size 2 1 (.slice (some ⟨w2.heap.size, 0, none⟩) 2001 2001) 2001 ((zerM 2001).map (Value.int .i64)) := Blk.own (Blk.new _ _ _) (Nat.le_refl _) (zerM_length _) (by unfold maxLen; omega)
    have hd : DInv w (w2.alloc (.cells (vals (zerM 2001)) 2)) w2.heap.size g (.slice (some ⟨w2.heap.size, 0, none⟩) 2001 2001) 2001 (zerM 2001) :=
      ⟨hown, HB2.out.alloc (by omega) _, HS2.out.keep ((Below.refl _ _).alloc (Nat.le_refl _) _), by simp, zerM_length _⟩
    have HD := Lib.hid hd
    have HOa := Lib.hid (HO2.out.keep ((Below.refl _ _).alloc (Nat.le_refl _) (.cells (vals (zerM 2001)) 2)))
    clear hown hd
    go_wp2_with fail
    refine (sNext g 2 _ HD.out.2.2.1).mono ?_
    rintro e w3 ⟨x3, rfl, x3a, x3b, -, hs3, hg3⟩
    have x3c := x3b (by omega)
    have HD3 := Lib.hid (HD.out.nxt hg3 hs3 (by omega) (by omega))
    have HO3 := Lib.hid (HOa.out.nxt hg3 (by omega))
    have hz3 := hg3.size
    simp at hz3
    clear x3b hs3 hg3 HOa HD
    obtain ⟨q, hq⟩ : ∃ q : Nat, 2000 - x3 = (q : Int) := ⟨(2000 - x3).toNat, by omega⟩
    have hq1 : q < 2001 := by omega
    obtain ⟨c0, f0⟩ := HD3.out.cell q hq1
    have HD5 := Lib.hid (HD3.out.set (by omega) (by omega) q 1)
    obtain ⟨o1, o2, o3, o4, o5, o6, o7⟩ := HO3.out
    have n1 : w2.heap.size ≠ w.heap.size := by omega
    have n2 : w.heap.size ≠ w2.heap.size := by omega
    have hbe := HD5.out.2.1
    have w3q : IntKind.i64.wrap (2000 - x3) = (q : Int) := by rw [IntWalk.i64_in _ (by omega), hq]
    generalize (zerM 2001).getD q 0 = y at c0
    generalize (zerM 2001).set q 1 = ys at HD5
    go_wp2
    (try simp only [Exit.inBlock, Exit.then])
    refine bodyPost_ret (v := .agg #[.int .i64 1, .int .i64 2001, .slice (some ⟨w2.heap.size, 0, none⟩) 2001 2001]) (by simp [results, Try.results34, go_sem, o2, o3, o4]) rfl ?_
    exact ⟨_, _, _, _, _, _, rfl, by omega, by omega, own_rd (own_far (own_far (own_far HD5.out.1 (by dsimp only; omega) _) (by dsimp only; omega) _) (by dsimp only; omega) _), by repeat' (first | (with_reducible exact Below.refl _ _) | (with_reducible assumption) | (with_reducible refine Below.alloc ?_ ?_ _) | (with_reducible refine Below.setCell ?_ ?_ _) | (with_reducible refine Below.drew ?_) | (with_reducible refine below_drewN ?_ _) | (with_reducible refine below_via (by with_reducible assumption) ?_ ?_) | go_size), fun b off e => by have := own_fresh HD5.out.1 (by omega) b off e; omega⟩
  · have t0 : (x1 == 0) = false := by simpa using h0
    go_wp2_with fail
    refine (dGrid g _ HS2.out _ HX2.out (by simp; omega)).mono ?_
    rintro e w3 ⟨r, c, a3, n3, c3, zs, rfl, hn3, hc3, hr3, hb3, hf3⟩
    have HO3 := Lib.hid ((Out3.new w 28).keep hb3)
    obtain ⟨o1, o2, o3, o4, o5, o6, o7⟩ := HO3.out
    have HR3 := Lib.hid hr3
    have hB3 : Below w.heap.size w w3 := hk0.trans (hb3.mono (by simp))
    have HF3 := Lib.hid hf3
    clear hb3 hr3 hf3
    go_wp2
    (try simp only [Exit.inBlock, Exit.then])
    refine bodyPost_ret (v := .agg #[.int .i64 r, .int .i64 c, .slice a3 n3 c3]) (by simp [results, Try.results34, go_sem, o2, o3, o4]) rfl ?_
    exact ⟨_, _, _, _, _, _, rfl, hn3, hc3, rd_nxt HR3.out (only_setCell (only_setCell (only_setCell (World.grownBy.refl w3 (some w.heap.size)) _) _) _) (fun b off e _ => by have := HF3.out b off e; simp at this; omega), by repeat' (first | (with_reducible exact Below.refl _ _) | (with_reducible assumption) | (with_reducible refine Below.alloc ?_ ?_ _) | (with_reducible refine Below.setCell ?_ ?_ _) | (with_reducible refine Below.drew ?_) | (with_reducible refine below_drewN ?_ _) | (with_reducible refine below_via (by with_reducible assumption) ?_ ?_) | go_size), fun b off e => by have := HF3.out b off e; simp at this; omega⟩
end Go.Proofs.Ytbcbdphnbfjhoaa
