/-
  DERIVED. What spec.DrawRowCells draws.
-/
import Derived.Test.YtdpifddmhbeklaaDraw1
namespace Go.Proofs.Ytdpifddmhbeklaa
open Go.RowKit
set_option linter.unusedVariables false
/-- A cluster and a row's values, drawn. -/
def DrawnRow (w : World) (e : Ending) (w' : World) : Prop := ∃ (cl : Int) (v : Value) (zs : List Int), e = .returned (.tuple #[.int .i64 cl, v]) ∧ 0 ≤ cl ∧ cl ≤ 3 ∧ w'.ownsRow w.heap.size 2 1 v zs.length (zs.map (Value.int .i64)) ∧ zs.length ≤ 13 ∧ (∀ x ∈ zs, -1 ≤ x ∧ x ≤ 32) ∧ Below w.heap.size w w'
theorem bd_app {zs : List Int} {x lo hi : Int} (h : ∀ y ∈ zs, lo ≤ y ∧ y ≤ hi) (h1 : lo ≤ x) (h2 : x ≤ hi) : ∀ y ∈ zs ++ [x], lo ≤ y ∧ y ≤ hi := fun y hy => by
  rcases List.mem_append.1 hy with h3 | h3
  · exact h y h3
  · simp at h3; subst h3; exact ⟨h1, h2⟩
theorem news1D (w : World) (v : Value) (t : TypeId) : ∀ j u, ([v] : List Value)[j]? = some u → (w.alloc (.cells #[v] t)).cell? ((⟨w.heap.size, 0, none⟩ : Addr).add j) = some u := World.news_of_block (heap_alloc_new w _)
set_option maxRecDepth 20000 in
set_option maxHeartbeats 8000000 in
theorem dRowC (a : Option Addr) (n cp : Nat) (w : World) (h : BytesIn w a n w.heap.size) (hn : n ≤ 1048576) : Calls Try.prog 28 #[.slice a n cp] w (DrawnRow w) := by
  obtain ⟨i0, hi, iz0, iz1, iz2⟩ := info_parts infoInt
  have HBY := Lib.hid h
  clear h
  go_enter Try.func28, Try.ntmps28
  go_wp2_with fail
  refine (sFrom a n cp _ HBY.out hn).mono ?_
  rintro e w1 ⟨g, rfl, hgl, hs1, hb1⟩
  have HG : Hid (g < w1.heap.size) := hs1.lt
  have hz1 := hb1.size
  have D0 := Lib.hid (DInv.start hs1 hb1 hz1)
  clear hs1 hb1
  go_wp2_with fail
  refine (sNext g 7 _ D0.out.2.2.1).mono ?_
  rintro e w2 ⟨x2, rfl, x2a, x2b, -, hs, hg⟩
  have D1 := Lib.hid (D0.out.nxt hg hs HG.out hgl)
  have x2c := x2b (by omega)
  clear x2b hs hg D0
  obtain ⟨k2, rfl⟩ := Int.eq_ofNat_of_zero_le x2a
  go_wp2
  go_loopw [5, 6] (fun v i wr => ∃ (k m : Nat) (zs : List Int), k + m ≤ 6 ∧ i = .int .i64 (k : Int) ∧ Hid (∀ x ∈ zs, -1 ≤ x ∧ x ≤ 32) ∧ Hid (DInv w wr w1.heap.size g v m zs)) (fun _ i _ => (intOf i).toNat)
  case atStart => exact ⟨k2, 0, [], by omega, rfl, fun x hx => by simp at hx, D1.out⟩
  case round =>
    clear D1
    obtain ⟨k, m, zs, hkm, rfl, BD, D⟩ := hrel
    by_cases hlt : 0 < k
    · have hkI : (0 : Int) < (k : Int) := by omega
      go_wp2_with fail
      refine (sNext g 32 _ D.out.2.2.1).mono ?_
      rintro e w3 ⟨x3, rfl, x3a, x3b, -, hs, hg⟩
      have D3 := Lib.hid (D.out.nxt hg hs HG.out hgl)
      have x3c := x3b (by omega)
      have hz3 := D3.out.2.2.2.1
      clear x3b hs hg D
      go_wp2_with (at_builtin; refine wpList_append_own _ rfl _ _ 36 rfl w1.heap.size 2 i0 (.int .i64 0) 1 8 Try.underlying36 hi iz0 iz1 iz2 rfl (by decide) _ _ _ rfl (D3.out.1.alloc _) ⟨w3.heap.size, 0, none⟩ 1 1 [.int .i64 x3] rfl rfl (news1D w3 _ _) (by simp [Value.oneCell']) (by unfold maxLen; omega) (by omega) (by simp; omega) ?_; intro v' w4 hown' hgrow _)
      have D4 : Hid (DInv w w4 w1.heap.size g v' (m + 1) (zs ++ [x3])) := D3.out.app HG.out hz1 hown' hgrow
      have BD4 : Hid (∀ x ∈ zs ++ [x3], -1 ≤ x ∧ x ≤ 32) := bd_app BD.out (by omega) (by omega)
      have hk1 : (k : Int) - 1 = ((k - 1 : Nat) : Int) := by omega
      clear hown' hgrow
      go_wp2
      go_roundw
      case rel => exact ⟨k - 1, m + 1, zs ++ [x3], by omega, by first | rfl | exact congrArg (Value.int .i64) hk1 | (congr 1; omega), BD4, D4⟩
      case measure => first | (simp [intOf]; omega) | (rw [hk1]; simp [intOf]; omega)
    · have hk0 : k = 0 := by omega
      subst hk0
      have hm6 : m ≤ 6 := by omega
      go_wp2_with fail
      refine (sNext g 20 _ D.out.2.2.1).mono ?_
      rintro e w3 ⟨x3, rfl, x3a, x3b, -, hs, hg⟩
      have D3 := Lib.hid (D.out.nxt hg hs HG.out hgl)
      have x3c := x3b (by omega)
      have hz3 := D3.out.2.2.2.1
      clear x3b hs hg D
      by_cases h0 : x3 = 0
      · have t0 : (x3 == 0) = true := by simp [h0]
        clear h0
        go_wp2_with fail
        refine (sNext g 2 _ D3.out.2.2.1).mono ?_
        rintro e w4 ⟨x4, rfl, x4a, x4b, -, hs, hg⟩
        have D4 := Lib.hid (D3.out.nxt hg hs HG.out hgl)
        have x4c := x4b (by omega)
        clear x4b hs hg D3
        obtain ⟨N, hN⟩ : ∃ N : Nat, 12 + x4 = (N : Int) := ⟨(12 + x4).toNat, by omega⟩
        have hN1 : N ≤ 13 := by omega
        have hmk := make_ints N (by omega)
        have hz4 := D4.out.2.2.2.1
        have D5 : Hid (DInv w (w4.alloc (.cells (vals (List.replicate N 0)) 2)) w1.heap.size g (.slice (some ⟨w4.heap.size, 0, none⟩) N N) N (List.replicate N 0)) := by
          have ha := D4.out.alloc hz1 (.cells (vals (List.replicate N 0)) 2)
          exact ⟨Blk.own (Blk.new w4 2 _) hz4 (by simp) (by unfold maxLen; omega), ha.2.1, ha.2.2.1, ha.2.2.2.1, by simp⟩
        have BD5 : Hid (∀ x ∈ List.replicate N (0 : Int), -1 ≤ x ∧ x ≤ 32) := fun x hx => by have := List.eq_of_mem_replicate hx; omega
        clear D4 BD
        go_wp2_with fail
        refine (sNext g 3 _ D5.out.2.2.1).mono ?_
        rintro e wt1 ⟨y3, rfl, y3a, y3b, -, hs, hg⟩
        have DT1 := Lib.hid (D5.out.nxt hg hs (by have := HG.out; omega) hgl)
        have y3c := y3b (by omega)
        clear y3b hs hg
        go_wp2_with fail
        refine (sNext g 24 _ DT1.out.2.2.1).mono ?_
        rintro e wt2 ⟨y4, rfl, y4a, y4b, -, hs, hg⟩
        have DT2 := Lib.hid (DT1.out.nxt hg hs (by have := HG.out; omega) hgl)
        have y4c := y4b (by omega)
        clear y4b hs hg
        obtain ⟨q, hq⟩ : ∃ q, y4 / 23 = q := ⟨_, rfl⟩
        have q0 : 0 ≤ q := by omega
        have q1 : q ≤ 1 := by omega
        go_wp2
        go_returns
        exact ⟨_, _, _, rfl, by omega, by omega, by rw [DT2.out.2.2.2.2]; exact ownN_mono DT2.out.1 (by omega), by rw [DT2.out.2.2.2.2]; omega, BD5.out, DT2.out.2.1⟩
      · have t0 : (x3 == 0) = false := by simp [h0]
        by_cases h1 : x3 = 1
        · have t1 : (x3 == 1) = true := by simp [h1]
          clear h0 h1
          go_wp2_with fail
          have D4 := Lib.hid (D3.out.alloc hz1 (.cells #[.int .i64 (-1), .int .i64 32] 2))
          have L4 : Hid (Lits (w3.alloc (.cells #[.int .i64 (-1), .int .i64 32] 2)) w3.heap.size 2 (-1) 32) := Lits.new w3 2 [-1, 32] (-1) 32 (by simp)
          refine (sNext g 2 _ D4.out.2.2.1).mono ?_
          rintro e w5 ⟨x5, rfl, x5a, x5b, -, hs, hg⟩
          have D5 := Lib.hid (D4.out.nxt hg hs HG.out hgl)
          have L5 := Lib.hid (L4.out.nxt hg (by have := HG.out; omega))
          have x5c := x5b (by omega)
          have hz5 := D5.out.2.2.2.1
          clear x5b hs hg D4 D3 L4
          obtain ⟨i5, rfl⟩ := Int.eq_ofNat_of_zero_le x5a
          obtain ⟨y5, y5a, y5b, hcx⟩ := L5.out.2 i5 (by omega)
          go_wp2_with (at_builtin; refine wpList_append_own _ rfl _ _ 36 rfl w1.heap.size 2 i0 (.int .i64 0) 1 8 Try.underlying36 hi iz0 iz1 iz2 rfl (by decide) _ _ _ rfl (D5.out.1.alloc _) ⟨w5.heap.size, 0, none⟩ 1 1 [.int .i64 y5] rfl rfl (news1D w5 _ _) (by simp [Value.oneCell']) (by unfold maxLen; omega) (by omega) (by simp; omega) ?_; intro v' w6 hown' hgrow _; have D6 : Hid (DInv w w6 w1.heap.size g v' (m + 1) (zs ++ [y5])) := D5.out.app HG.out hz1 hown' hgrow; clear hown' hgrow)
          have BD6 : Hid (∀ x ∈ zs ++ [y5], -1 ≤ x ∧ x ≤ 32) := bd_app BD.out (by omega) (by omega)
          clear BD D5 hcx
          refine (sNext g 3 _ D6.out.2.2.1).mono ?_
          rintro e wt1 ⟨y3, rfl, y3a, y3b, -, hs, hg⟩
          have DT1 := Lib.hid (D6.out.nxt hg hs (by have := HG.out; omega) hgl)
          have y3c := y3b (by omega)
          clear y3b hs hg
          go_wp2_with fail
          refine (sNext g 24 _ DT1.out.2.2.1).mono ?_
          rintro e wt2 ⟨y4, rfl, y4a, y4b, -, hs, hg⟩
          have DT2 := Lib.hid (DT1.out.nxt hg hs (by have := HG.out; omega) hgl)
          have y4c := y4b (by omega)
          clear y4b hs hg
          obtain ⟨q, hq⟩ : ∃ q, y4 / 23 = q := ⟨_, rfl⟩
          have q0 : 0 ≤ q := by omega
          have q1 : q ≤ 1 := by omega
          go_wp2
          go_returns
          exact ⟨_, _, _, rfl, by omega, by omega, by rw [DT2.out.2.2.2.2]; exact ownN_mono DT2.out.1 (by omega), by rw [DT2.out.2.2.2.2]; omega, BD6.out, DT2.out.2.1⟩
        · have t1 : (x3 == 1) = false := by simp [h1]
          clear h0 h1
          go_wp2_with fail
          refine (sNext g 3 _ D3.out.2.2.1).mono ?_
          rintro e wt1 ⟨y3, rfl, y3a, y3b, -, hs, hg⟩
          have DT1 := Lib.hid (D3.out.nxt hg hs (by have := HG.out; omega) hgl)
          have y3c := y3b (by omega)
          clear y3b hs hg
          go_wp2_with fail
          refine (sNext g 24 _ DT1.out.2.2.1).mono ?_
          rintro e wt2 ⟨y4, rfl, y4a, y4b, -, hs, hg⟩
          have DT2 := Lib.hid (DT1.out.nxt hg hs (by have := HG.out; omega) hgl)
          have y4c := y4b (by omega)
          clear y4b hs hg
          obtain ⟨q, hq⟩ : ∃ q, y4 / 23 = q := ⟨_, rfl⟩
          have q0 : 0 ≤ q := by omega
          have q1 : q ≤ 1 := by omega
          go_wp2
          go_returns
          exact ⟨_, _, _, rfl, by omega, by omega, by rw [DT2.out.2.2.2.2]; exact ownN_mono DT2.out.1 (by omega), by rw [DT2.out.2.2.2.2]; omega, BD.out, DT2.out.2.1⟩
end Go.Proofs.Ytdpifddmhbeklaa
