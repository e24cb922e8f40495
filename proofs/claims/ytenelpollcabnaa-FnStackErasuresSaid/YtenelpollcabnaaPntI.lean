/-
  DERIVED. Rows' modules: impl.bars, rowCells.
-/
import Derived.Test.YtenelpollcabnaaPntS
import Derived.Maps.AppendAt
namespace Go.Proofs.Ytenelpollcabnaa
open Go.RowKit
set_option linter.unusedVariables false
/-- What a call leaves of the blocks that p allows. -/
structure Sv (p : Nat → Prop) (w w' : World) : Prop where
  os : w'.os = w.os
  tape : w'.tape = w.tape
  output : w'.output = w.output
  size : w.heap.size ≤ w'.heap.size
  block : ∀ b, b < w.heap.size → p b → w'.heap[b]? = w.heap[b]?
theorem Sv.refl (p : Nat → Prop) (w : World) : Sv p w w := ⟨rfl, rfl, rfl, Nat.le_refl _, fun _ _ _ => rfl⟩
theorem Sv.push {w wr w3 : World} {v0 v : Value} (h : Sv (fun b => v0.ownBlock ≠ some b) w wr) (hat : v.ownBlock = v0.ownBlock ∨ ∀ b, v.ownBlock = some b → w.heap.size ≤ b) (o : Obj) (hg : (wr.alloc o).grownBy w3 v.ownBlock) : Sv (fun b => v0.ownBlock ≠ some b) w w3 := by
  have h1 := h.size
  refine ⟨hg.os.trans h.os, hg.tape.trans h.tape, hg.output.trans h.output, by have := hg.size; simp at this; omega, fun b hb hp => ?_⟩
  rw [hg.block b (by simp; omega) (fun e => by rcases hat with h2 | h2; exact hp (by rw [← h2]; exact e.symm); have := h2 b e.symm; omega), Below.heap_alloc wr o b (by omega)]
  exact h.block b hb hp
theorem Sv.below {p : Nat → Prop} {w w' : World} {B : Nat} (h : Sv p w w') (hB : B ≤ w.heap.size) (hp : ∀ b, b < B → p b) : Below B w w' := ⟨h.os, h.tape, h.output, h.size, fun b hb => h.block b (by omega) (hp b hb)⟩
theorem Sv.cell {p : Nat → Prop} {w w' : World} (h : Sv p w w') {b i : Nat} {x : Value} (hb : b < w.heap.size) (hp : p b) (hc : w.cell? ⟨b, i, none⟩ = some x) : w'.cell? ⟨b, i, none⟩ = some x := (World.cell?_of_block (a := ⟨b, i, none⟩) (h.block b hb hp)).trans hc
set_option maxRecDepth 20000 in
set_option maxHeartbeats 4000000 in
theorem iBars (v0 : Value) (cn base : Nat) (cs : List Int) (la : Option Addr) (ln lc : Nat) (ls : List Int) (w : World) (ho : w.ownsRow base 2 1 v0 cn (cs.map (Value.int .i64))) (hbase : base ≤ w.heap.size) (hl : Rd w la ln ls) (hne : ∀ b off, la = some ⟨b, off, none⟩ → 0 < ln → v0.ownBlock ≠ some b) (hcn : cn ≤ 100000) (hln : ln ≤ 10) (hbd : ∀ x ∈ ls, 0 ≤ x ∧ x ≤ 100) :
    Calls Try.prog 92 #[v0, .slice la ln lc] w fun e w' => ∃ v, e = .returned v ∧ w'.ownsRow base 2 1 v (cs ++ paint ls).length ((cs ++ paint ls).map (Value.int .i64)) ∧ Sv (fun b => v0.ownBlock ≠ some b) w w' := by
  obtain ⟨i0, hi, hiz, hi1, hi2⟩ := info_parts infoInt
  have HW := Lib.hid hl
  have HBd := Lib.hid hbd
  have HCs : Hid (cs.length = cn) := by have h := ho.1; unfold Hid; simpa using h
  have HWl := Lib.hid hl.1
  have HO0 := Lib.hid ho
  have HNe := Lib.hid hne
  have HPl : Hid (∀ k, (paintTo ls k).length ≤ k * 100) := paintTo_len (m := 100) (fun x hx => (hbd x hx).2)
  clear hl hbd ho hne
  go_enter Try.func92, Try.ntmps92
  go_wp2
  go_loopw [0, 5, 11] (fun v d i wr => ∃ k n q : Nat, k ≤ ln ∧ i = .int .i64 (k : Int) ∧ d = .int .i64 (1 - (q : Int)) ∧ q ≤ 1 ∧ Hid (k % 2 = q) ∧ Hid ((cs ++ paintTo ls k).length = n) ∧ Hid (wr.ownsRow base 2 1 v n ((cs ++ paintTo ls k).map (Value.int .i64))) ∧ Hid (Sv (fun b => v0.ownBlock ≠ some b) w wr) ∧ Hid (v.ownBlock = v0.ownBlock ∨ ∀ b, v.ownBlock = some b → w.heap.size ≤ b)) (fun _ _ i _ => ln - (intOf i).toNat)
  case atStart => exact ⟨0, cn, 0, Nat.zero_le _, rfl, rfl, by omega, rfl, by rw [paintTo_zero, List.append_nil]; exact HCs.out, by rw [paintTo_zero, List.append_nil]; exact HO0.out, Sv.refl _ _, .inl rfl⟩
  case round =>
    clear HO0
    obtain ⟨k, n, q, hk, rfl, rfl, hq1, HQ, HN, HO, HS, HA⟩ := hrel
    have hnb : n ≤ 100000 + 100 * k := by have := HN.out; rw [List.length_append, HCs.out] at this; have := HPl.out k; omega
    by_cases hlt : k < ln
    · obtain ⟨b, off, rfl, hb, hcell⟩ := (HW.out).2 (by omega)
      obtain ⟨x, hx⟩ : ∃ x, ls.getD k 0 = x := ⟨_, rfl⟩
      have hxm := HBd.out _ (getD_mem (zs := ls) (i := k) (by rw [HWl.out]; exact hlt))
      have hcx := hcell k hlt
      rw [hx] at hcx hxm
      have hcy := HS.out.cell hb (HNe.out b off rfl (by omega)) hcx
      obtain ⟨m, rfl⟩ := Int.eq_ofNat_of_zero_le hxm.1
      have hm100 : m ≤ 100 := by omega
      have HBar : Hid (bar ls k = List.replicate m (1 - (q : Int))) := by unfold Hid bar; rw [hx, HQ.out]; rfl
      clear hx hcx hcell hb hxm
      go_wp2
      go_loopw [0, 8] (fun v i wq => ∃ j n' : Nat, j ≤ m ∧ i = .int .i64 (j : Int) ∧ Hid (n' = n + j) ∧ Hid (wq.ownsRow base 2 1 v n' ((cs ++ paintTo ls k ++ List.replicate j (1 - (q : Int))).map (Value.int .i64))) ∧ Hid (Sv (fun b => v0.ownBlock ≠ some b) w wq) ∧ Hid (v.ownBlock = v0.ownBlock ∨ ∀ b, v.ownBlock = some b → w.heap.size ≤ b)) (fun _ i _ => m - (intOf i).toNat)
      case atStart => exact ⟨0, n, Nat.zero_le _, rfl, rfl, by rw [List.replicate_zero, List.append_nil]; exact HO.out, HS.out, HA.out⟩
      case round =>
        clear HO HS HA hcy
        obtain ⟨j, n1, hj, rfl, HN1, HO, HS, HA⟩ := hrel
        have hsz := HS.out.size
        have hn1 : n1 ≤ 110000 := by have := HN1.out; omega
        by_cases hlj : j < m
        · have hjm : (j : Int) < (m : Int) := by omega
          go_wp2_with (at_builtin; refine wpList_append_own_at _ rfl _ _ 24 rfl base 2 i0 _ 1 8 Try.underlying24 hi hiz hi1 hi2 rfl (by decide) _ _ _ rfl (HO.out.alloc _) ⟨wr.heap.size, 0, none⟩ 1 1 [.int .i64 (1 - (q : Int))] rfl rfl (World.news_of_block (heap_alloc_new wr _)) (by simp [Value.oneCell']) (by unfold maxLen; omega) (by omega) (by simp; omega) ?_; intro v' w3 hown' hgrow _ hat)
          have HO3 : Hid (w3.ownsRow base 2 1 v' (n1 + 1) ((cs ++ paintTo ls k ++ List.replicate (j + 1) (1 - (q : Int))).map (Value.int .i64))) := by
            unfold Hid
            rw [rep_succ, ← List.append_assoc, List.map_append]
            exact hown'
          have HS3 : Hid (Sv (fun b => v0.ownBlock ≠ some b) w w3) := HS.out.push HA.out _ hgrow
          have HA3 : Hid (v'.ownBlock = v0.ownBlock ∨ ∀ b, v'.ownBlock = some b → w.heap.size ≤ b) := by
            rcases hat with h | h
            · rw [h]; exact HA.out
            · right; intro b e; rw [h] at e; injection e with e; simp at e; omega
          clear hown' hgrow hat
          go_wp2
          go_roundw
          case rel => exact ⟨j + 1, n1 + 1, by omega, by go_num, by unfold Hid; have := HN1.out; omega, HO3, HS3, HA3⟩
          case measure => simp [intOf]; omega
        · have hje : j = m := by omega
          have HJ := Lib.hid hje
          have hjm : (m : Int) ≤ (j : Int) := by omega
          clear hje
          have HE : Hid (cs ++ paintTo ls k ++ List.replicate j (1 - (q : Int)) = cs ++ paintTo ls (k + 1)) := by
            unfold Hid
            rw [paintTo_succ, HBar.out, HJ.out, List.append_assoc]
          have HNe2 : Hid ((cs ++ paintTo ls (k + 1)).length = n1) := by
            unfold Hid
            rw [← HE.out, List.length_append, HN.out, List.length_replicate, HN1.out]
          rw [HE.out] at HO
          obtain ⟨q', hq'⟩ : ∃ q' : Nat, q' = 1 - q := ⟨_, rfl⟩
          have HQ2 : Hid ((k + 1) % 2 = q') := by unfold Hid; have := HQ.out; omega
          have hqd : 1 - (1 - (q : Int)) = 1 - (q' : Int) := by omega
          have hq1' : q' ≤ 1 := by omega
          clear hq'
          go_wp2
          go_roundw
          case rel => exact ⟨k + 1, n1, q', by omega, by go_num, by first | rfl | go_num, hq1', HQ2, HNe2, HO, HS, HA⟩
          case measure => simp [intOf]; omega
    · have hke : k = ln := by omega
      have HKe : Hid (paintTo ls k = paint ls) := by unfold Hid paint; rw [HWl.out, hke]
      have hge : (ln : Int) ≤ (k : Int) := by omega
      clear hke
      go_wp2
      go_returns
      rw [HKe.out] at HN HO
      exact ⟨_, rfl, by rw [HN.out]; exact HO.out, HS.out⟩
theorem make_cap (n : Nat) (hn : n ≤ 1048576) : ∀ w : World, (Instr.makeSlice 24 (.int .i64 0) (.int .i64 (n : Int))).run Try.prog w = .ok (.slice (some ⟨w.heap.size, 0, none⟩) 0 n) (w.alloc (.cells (vals (List.replicate n 0)) 2)) := by
  intro w
  obtain ⟨i0, hi, hz0, hz1, hz2⟩ := info_parts infoInt
  have hb : (i0.bytes : Int) * (n : Int) ≤ 281474976710656 := by rw [hz2]; omega
  have hr := run_make (P := Try.prog) w 24 2 i0 (.int .i64 0) Try.underlying24 hi hz0 .i64 .i64 0 n (by omega) (by omega) hb (by omega)
  simp only [Int.toNat_natCast, Int.toNat_zero] at hr
  rw [hr, hz1]
  simp only [Value.cells, zeros_made]
set_option maxRecDepth 20000 in
set_option maxHeartbeats 8000000 in
theorem iRowC (aa : Option Addr) (ac B0 cl : Nat) (va : Option Addr) (vn vc : Nat) (vs : List Int) (w : World) (hR : w.ownsRow B0 107 8 (.slice aa 120 ac) 120 (rowsV PATS)) (hc : cl ≤ 2) (hv : Rd w va vn vs) (hvn : vn ≤ 12) (hbd : ∀ x ∈ vs, 0 ≤ x ∧ x ≤ 31) :
    Calls Try.prog 71 #[.slice aa 120 ac, .int .i64 (cl : Int), .slice va vn vc] w fun e w' => ∃ v, e = .returned v ∧ w'.ownsRow w.heap.size 2 1 v (15 + 11 * vn) ((rowC cl vs).map (Value.int .i64)) ∧ Below w.heap.size w w' := by
  obtain ⟨N, hN⟩ : ∃ N, 15 + 11 * vn = N := ⟨_, rfl⟩
  have hNI : 7 + 11 * (vn : Int) + 8 = (N : Int) := by omega
  have hN2 : N ≤ 1000 := by omega
  have hmk := make_cap N (by omega)
  have HNN := Lib.hid hN
  have HV := Lib.hid hv
  have HBd := Lib.hid hbd
  have HVl := Lib.hid hv.1
  have HR := Lib.hid hR
  have HLen : Hid (∀ k, k ≤ vn → (rowP cl vs k).length = 7 + 11 * k) := fun k hk => rowP_len cl vs hc hbd k (by rw [hv.1]; exact hk)
  rw [hN]
  clear hv hbd hR hN
  go_enter Try.func71, Try.ntmps71
  go_wp2_with (go_at_call 53; refine (iWidth (vn : Int) _ (by omega) (by omega)).mono ?_; rintro e w' ⟨rfl, rfl⟩; rw [hNI])
  clear hmk hNI
  have HO0 : Hid ((w.alloc (.cells (vals (List.replicate N 0)) 2)).ownsRow w.heap.size 2 1 (.slice (some ⟨w.heap.size, 0, none⟩) 0 N) 0 (([] : List Int).map (Value.int .i64))) := by
    have := World.ownsRow_made (base := w.heap.size) (e := 2) (size := 1) w (vals (List.replicate N 0)) N (by simp) (by unfold maxLen; omega) (by simp [vals_size])
    exact this
  refine (iBars (.slice (some ⟨w.heap.size, 0, none⟩) 0 N) 0 w.heap.size [] (some ⟨w.heap.size + 1, 0, none⟩) 4 4 [4, 1, 1, 1] _ (HO0.out.alloc _) (by simp; omega) (by have := (Blk.new (w.alloc (.cells (vals (List.replicate N 0)) 2)) 2 (vals [4, 1, 1, 1])).rd (n := 4) rfl; simp only [World.size_alloc] at this; exact this) (fun b off e _ => by injection e with e; injection e with e _; simp [Value.ownBlock]; omega) (by omega) (by omega) (by decide)).mono ?_
  rintro e w2 ⟨v2, rfl, ho2, hs2⟩
  have HO2 : Hid (w2.ownsRow w.heap.size 2 1 v2 7 ((rowP cl vs 0).map (Value.int .i64))) := ho2
  have HB2 : Hid (Below w.heap.size w w2) := by
    have h1 : Below w.heap.size w ((w.alloc (.cells (vals (List.replicate N 0)) 2)).alloc (.cells (vals [4, 1, 1, 1]) 2)) := ((Below.refl _ _).alloc (Nat.le_refl _) _).alloc (by simp) _
    exact h1.trans (hs2.below (by simp; omega) (fun b hb e => by simp [Value.ownBlock] at e; omega))
  clear ho2 hs2 HO0
  go_wp2
  go_loopw [7, 19] (fun v i wr => ∃ k : Nat, k ≤ vn ∧ i = .int .i64 (k : Int) ∧ Hid (wr.ownsRow w.heap.size 2 1 v (7 + 11 * k) ((rowP cl vs k).map (Value.int .i64))) ∧ Hid (Below w.heap.size w wr)) (fun _ i _ => vn - (intOf i).toNat)
  case atStart => exact ⟨0, Nat.zero_le _, rfl, HO2.out, HB2.out⟩
  case round =>
    clear HO2 HB2
    obtain ⟨k, hk, rfl, HO, HB⟩ := hrel
    have hzr := HB.out.size
    by_cases hlt : k < vn
    · obtain ⟨b, off, rfl, hb, hcell⟩ := (HV.out.below HB.out).2 (by omega)
      have hcx := hcell k hlt
      obtain ⟨x, hx⟩ : ∃ x, vs.getD k 0 = x := ⟨_, rfl⟩
      have hxm := HBd.out _ (getD_mem (zs := vs) (i := k) (by rw [HVl.out]; exact hlt))
      rw [hx] at hcx hxm
      obtain ⟨m, rfl⟩ := Int.eq_ofNat_of_zero_le hxm.1
      have hm31 : m ≤ 31 := by omega
      obtain ⟨i3, hi3⟩ : ∃ i3, 3 * m + cl = i3 := ⟨_, rfl⟩
      have hi120 : i3 < 120 := by omega
      have hiI : 3 * (m : Int) + (cl : Int) = (i3 : Int) := by omega
      have hiI2 : (i3 : Int) < 120 := by omega
      have hiI3 : (0 : Int) ≤ (i3 : Int) := by omega
      have HNx : Hid (rowP cl vs (k + 1) = rowP cl vs k ++ paint (PATS.getD i3 [])) := by unfold Hid; rw [rowP, hx, Int.toNat_natCast, hi3]
      obtain ⟨g, a0, a1, a2, a3, a4, a5, a6, a7, rfl, hbg, hgl, hP, c0, c1, c2, c3, c4, c5, c6, c7⟩ := row_cells (ownN_below HR.out HB.out) hi120
      have HP := Lib.hid hP
      have HPb : Hid (∀ x ∈ PATS.getD i3 [], 0 ≤ x ∧ x ≤ 100) := fun x hx => by have := PATS_pos _ (pats_at hi120) x hx; omega
      rw [hP] at HNx HPb
      have hk12 : k ≤ 12 := by omega
      clear hx hcell hb hxm hi3 hP
      go_wp2_with fail
      obtain ⟨W3, hW3⟩ : ∃ W3 : World, wr.alloc (.cells #[.int .i64 a0, .int .i64 a1, .int .i64 a2, .int .i64 a3, .int .i64 a4, .int .i64 a5, .int .i64 a6, .int .i64 a7] 107) = W3 := ⟨_, rfl⟩
      have HK3 : Hid (Blk W3 wr.heap.size 107 (vals [a0, a1, a2, a3, a4, a5, a6, a7])) := by
        rw [← hW3]
        exact Blk.new wr 107 #[.int .i64 a0, .int .i64 a1, .int .i64 a2, .int .i64 a3, .int .i64 a4, .int .i64 a5, .int .i64 a6, .int .i64 a7]
      have hb3 : Below wr.heap.size wr W3 := by rw [← hW3]; repeat' (first | (with_reducible exact Below.refl _ _) | (with_reducible assumption) | (with_reducible refine Below.alloc ?_ ?_ _) | (with_reducible refine Below.setCell ?_ ?_ _) | (with_reducible refine Below.drew ?_) | (with_reducible refine below_drewN ?_ _) | (with_reducible refine below_via (by with_reducible assumption) ?_ ?_) | go_size)
      rw [hW3]
      clear hW3 c0 c1 c2 c3 c4 c5 c6 c7
      refine (iBars _ (7 + 11 * k) w.heap.size (rowP cl vs k) (some ⟨wr.heap.size, 0, none⟩) 8 8 [a0, a1, a2, a3, a4, a5, a6, a7] W3 (ownN_below HO.out hb3) (by have := hb3.size; omega) (HK3.out.rd rfl) (fun b off e _ h => by injection e with e; injection e with e _; have := (HO.out.lt b h).2; omega) (by omega) (by omega) HPb.out).mono ?_
      rintro e w3 ⟨v3, rfl, ho3, hs3⟩
      have HO3 : Hid (w3.ownsRow w.heap.size 2 1 v3 (7 + 11 * (k + 1)) ((rowP cl vs (k + 1)).map (Value.int .i64))) := by
        rw [← HNx.out, HLen.out (k + 1) (by omega)] at ho3
        exact ho3
      have HB3 : Hid (Below w.heap.size w w3) := (HB.out.trans (hb3.mono hzr)).trans (hs3.below (by have := hb3.size; omega) (fun b hb e => by have := (HO.out.lt b e).1; omega))
      clear ho3 hs3 hb3
      go_wp2
      go_roundw
      case rel => exact ⟨k + 1, by omega, by go_num, HO3, HB3⟩
      case measure => simp [intOf]; omega
    · have hke : k = vn := by omega
      have HKe := Lib.hid hke
      have hge : (vn : Int) ≤ (k : Int) := by omega
      have hk12 : k ≤ 12 := by omega
      clear hke
      go_wp2_with fail
      have HRo : Hid (Below wr.heap.size wr (wr.alloc (.cells (vals [1, 1, 1, 1, 4]) 2))) := (Below.refl _ _).alloc (Nat.le_refl _) _
      refine (iBars _ (7 + 11 * k) w.heap.size (rowP cl vs k) (some ⟨wr.heap.size, 0, none⟩) 5 5 [1, 1, 1, 1, 4] _ (HO.out.alloc _) (by simp; omega) (by have := (Blk.new wr 2 (vals [1, 1, 1, 1, 4])).rd (n := 5) rfl; exact this) (fun b off e _ h => by injection e with e; injection e with e _; have := (HO.out.lt b h).2; omega) (by omega) (by omega) (by decide)).mono ?_
      rintro e w3 ⟨v3, rfl, ho3, hs3⟩
      have HE : Hid (rowP cl vs k ++ paint [1, 1, 1, 1, 4] = rowC cl vs) := by unfold Hid rowC; rw [HKe.out, HVl.out]
      have HL3 : Hid ((rowC cl vs).length = N) := by
        unfold Hid
        rw [rowC_len hc HBd.out, HVl.out, HNN.out]
      rw [HE.out, HL3.out] at ho3
      have HO3 := Lib.hid ho3
      have HB3 : Hid (Below w.heap.size w w3) := (HB.out.trans (HRo.out.mono hzr)).trans (hs3.below (by simp; omega) (fun b hb e => by have := (HO.out.lt b e).1; omega))
      clear ho3 hs3
      go_wp2
      go_returns
      exact ⟨_, rfl, HO3.out, HB3.out⟩
end Go.Proofs.Ytenelpollcabnaa
