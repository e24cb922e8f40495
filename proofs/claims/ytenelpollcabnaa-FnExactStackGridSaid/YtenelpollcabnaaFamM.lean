/-
  DERIVED. Families: marks.
-/
import Derived.Test.YtenelpollcabnaaFamL
import Derived.Test.YtenelpollcabnaaOwnN
namespace Go.Proofs.Ytenelpollcabnaa
open Go.RowKit
set_option linter.unusedVariables false
set_option maxRecDepth 20000 in
set_option maxHeartbeats 1000000 in
theorem markInts2 (a : Option Addr) (n c base : Nat) (xs : List Int) (k : Int) (w : World) (h : w.ownsRow base 2 1 (.slice a n c) n (xs.map (Value.int .i64))) (hn : n ≤ 1048576) (hk : 0 ≤ k) (hk2 : k ≤ 4194304) :
    Calls Try.prog 15 #[.slice a n c, .int .i64 k] w (Marked w base a n c k) := by
  have hl : xs.length = n := by simpa using h.1
  rcases Nat.eq_zero_or_pos n with h0 | h0
  · have h1 : n ≤ 0 := by omega
    have H := Lib.hid h
    have E : Hid (markL k n = xs ∧ (n : Int) = 0) := ⟨by subst h0; rw [List.eq_nil_of_length_eq_zero hl]; rfl, by omega⟩
    clear h h0 hl
    go_enter Try.func15, Try.ntmps15
    go_wp2
    refine wp_loop_rounds 1 ?_; rw [rounds_succ]
    go_wp2
    go_returns
    exact ⟨ret_int (by rw [E.out.2]; omega), by rw [E.out.1]; exact H.out, World.grownBy.refl w _⟩
  · obtain ⟨g, rfl⟩ : ∃ g, a = some ⟨g, 0, none⟩ := by
      rcases h.2 with ⟨_, h2⟩ | ⟨g, cap, cur, hv, _⟩
      · omega
      · injection hv with hv1; exact ⟨g, hv1⟩
    have HL := Lib.hid hl
    have HO := Lib.hid h
    clear hl h
    go_enter Try.func15, Try.ntmps15
    go_wp2
    go_loopw [1, 5] (fun q i wr => ∃ j : Nat, j ≤ n ∧ i = .int .i64 j ∧ q = .int .i64 (k + j) ∧ wr.ownsRow base 2 1 (.slice (some ⟨g, 0, none⟩) n c) n ((halfL k xs j).map (Value.int .i64)) ∧ w.grownBy wr (some g)) (fun _ i _ => n - (intOf i).toNat)
    case atStart => exact ⟨0, Nat.zero_le _, rfl, by simp, by rw [halfL_zero]; exact HO.out, World.grownBy.refl w _⟩
    case round =>
      obtain ⟨j, hj, rfl, rfl, hown, hgr⟩ := hrel
      by_cases hlt : j < n
      · have hlen : (halfL k xs j).length = n := by rw [halfL_length _ _ _ (by rw [HL.out]; exact hj), HL.out]
        have hy : wr.cell? ⟨g, j, none⟩ = some (.int .i64 ((halfL k xs j).getD j 0)) := by
          rw [hown.cellAt j (by omega)]
          simp [List.getElem?_map, List.getElem?_eq_getElem (show j < (halfL k xs j).length by omega), List.getD_eq_getElem?_getD]
        have hz : wr.frozen? ⟨g, j, none⟩ = false := hown.frozenAt j
        have HN : Hid ((wr.setCell ⟨g, j, none⟩ (.int .i64 (k + j))).ownsRow base 2 1 (.slice (some ⟨g, 0, none⟩) n c) n ((halfL k xs (j + 1)).map (Value.int .i64))) := by
          have := (hown.stored j (.int .i64 (k + j))).1
          rw [← List.map_set, halfL_set _ _ _ (by rw [HL.out]; exact hlt)] at this
          exact this
        have HG : Hid (w.grownBy (wr.setCell ⟨g, j, none⟩ (.int .i64 (k + j))) (some g)) := only_setCell hgr _
        generalize hyv : (halfL k xs j).getD j 0 = y at hy
        clear hyv hown hgr hlen
        go_wp2
        go_roundw
        case rel => exact ⟨j + 1, by omega, by go_num, by go_num, HN.out, HG.out⟩
        case measure => simp [intOf]; omega
      · have hje : j = n := by omega
        have HJ := Lib.hid hje
        clear hje
        go_wp2
        go_returns
        refine ⟨ret_int (by rw [HJ.out]), ?_, hgr⟩
        have e := halfL_all k xs
        rw [HL.out, ← HJ.out] at e
        rw [e, HJ.out] at hown
        exact hown
/-- What a call leaves of the blocks that p allows. -/
structure Off (p : Nat → Prop) (w w' : World) : Prop where
  os : w'.os = w.os
  tape : w'.tape = w.tape
  output : w'.output = w.output
  size : w.heap.size ≤ w'.heap.size
  block : ∀ b, b < w.heap.size → p b → w'.heap[b]? = w.heap[b]?
theorem Off.trans {p : Nat → Prop} {a b c : World} (h : Off p a b) (k : Off p b c) : Off p a c :=
  ⟨k.os.trans h.os, k.tape.trans h.tape, k.output.trans h.output, Nat.le_trans h.size k.size, fun i hi hp => (k.block i (Nat.lt_of_lt_of_le hi h.size) hp).trans (h.block i hi hp)⟩
theorem Off.of_below {p : Nat → Prop} {w w' : World} (h : Below w.heap.size w w') : Off p w w' := ⟨h.os, h.tape, h.output, h.size, fun b hb _ => h.block b hb⟩
theorem Off.of_grown {p : Nat → Prop} {w w' : World} {row : Option Nat} (h : w.grownBy w' row) (hp : ∀ b, p b → row ≠ some b) : Off p w w' := ⟨h.os, h.tape, h.output, h.size, fun b hb hpb => h.block b hb (fun e => hp b hpb e.symm)⟩
theorem Off.below {p : Nat → Prop} {w w' : World} {B : Nat} (h : Off p w w') (hB : B ≤ w.heap.size) (hp : ∀ b, b < B → p b) : Below B w w' := ⟨h.os, h.tape, h.output, h.size, fun b hb => h.block b (by omega) (hp b hb)⟩
theorem Off.rd {p : Nat → Prop} {w w' : World} {a : Option Addr} {n : Nat} {zs : List Int} (h : Off p w w') (hr : Rd w a n zs) (hp : ∀ b off, a = some ⟨b, off, none⟩ → 0 < n → p b) : Rd w' a n zs :=
  ⟨hr.1, fun hn => by
    obtain ⟨b, off, e, hb, hc⟩ := hr.2 hn
    exact ⟨b, off, e, Nat.lt_of_lt_of_le hb h.size, fun i hi => (World.cell?_of_block (a := ⟨b, off + i, none⟩) (h.block b hb (hp b off e hn))).trans (hc i hi)⟩⟩
theorem Off.own {p : Nat → Prop} {w w' : World} {base n m : Nat} {t : TypeId} {v : Value} {xs : List Value} (h : Off p w w') (ho : w.ownsRow base t m v n xs) (hp : ∀ b, v.ownBlock = some b → p b) : w'.ownsRow base t m v n xs := by
  refine ⟨ho.1, ?_⟩
  rcases ho.2 with hv | ⟨g, cap, cur, hv, hg, hh, r⟩
  · exact .inl hv
  · have hlt := (ho.lt g (by rw [hv]; rfl)).2
    exact .inr ⟨g, cap, cur, hv, hg, by rw [h.block g hlt (hp g (by rw [hv]; rfl))]; exact hh, r⟩
theorem Off.rowL {p : Nat → Prop} {w w' : World} {b : Nat} {l : List Value} (h : Off p w w') (hr : RowL w b l) (hp : p b) : RowL w' b l := by
  have hb := h.block b hr.1 hp
  exact ⟨Nat.lt_of_lt_of_le hr.1 h.size, fun j v hj => ⟨(World.cell?_of_block (a := ⟨b, j, none⟩) hb).trans (hr.2 j v hj).1, (World.frozen?_of_block (a := ⟨b, j, none⟩) hb).trans (hr.2 j v hj).2⟩⟩
theorem Off.blk {p : Nat → Prop} {w w' : World} {g : Nat} {t : TypeId} {cs : Array Value} (h : Off p w w') (hk : Blk w g t cs) (hp : p g) : Blk w' g t cs := (h.block g hk.lt hp).trans hk
theorem vals_inj {xs ys : List Int} (h : vals xs = vals ys) : xs = ys := by
  have h1 : xs.map (Value.int .i64) = ys.map (Value.int .i64) := by simpa [vals] using h
  exact (List.map_inj_right (fun a b e => by injection e)).1 h1
set_option maxRecDepth 20000 in
set_option maxHeartbeats 1000000 in
theorem markFam (nm : ByteArray) (kd p pw po : Int) (g1 g2 sn : Nat) (col : Int) (ln : Nat) (zs ls : List Int) (w : World) (h1 : Blk w g1 2 (vals zs)) (h2 : Blk w g2 2 (vals ls)) (hs : zs.length = sn) (hl : ls.length = ln) (hsn : sn ≤ 1048576) (hln : ln ≤ 1048576) :
    Calls Try.prog 14 #[.agg #[.string nm, .int .i64 kd, .int .i64 p, .int .i64 pw, .int .i64 po, .slice (some ⟨g1, 0, none⟩) sn sn, .int .i64 col, .slice (some ⟨g2, 0, none⟩) ln ln], .int .i64 1] w fun e w' => e = .returned (.int .i64 (1 + sn + ln)) ∧ Off (fun b => b ≠ g1 ∧ b ≠ g2) w w' := by
  have H1 := Lib.hid h1
  have H2 := Lib.hid h2
  have HS := Lib.hid hs
  have HL := Lib.hid hl
  have hm1 : sn ≤ maxLen := by unfold maxLen; omega
  have hm2 : ln ≤ maxLen := by unfold maxLen; omega
  clear h1 h2 hs hl
  go_enter Try.func14, Try.ntmps14
  go_wp2_with fail
  obtain ⟨W, hW⟩ : ∃ W : World, w.alloc (.cells #[.string nm, .int .i64 kd, .int .i64 p, .int .i64 pw, .int .i64 po, .slice (some ⟨g1, 0, none⟩) sn sn, .int .i64 col, .slice (some ⟨g2, 0, none⟩) ln ln] 34) = W := ⟨_, rfl⟩
  have HB : Hid (Below w.heap.size w W) := by rw [← hW]; unfold Hid; repeat' (first | (with_reducible exact Below.refl _ _) | (with_reducible assumption) | (with_reducible refine Below.alloc ?_ ?_ _) | (with_reducible refine Below.setCell ?_ ?_ _) | (with_reducible refine Below.drew ?_) | (with_reducible refine below_drewN ?_ _) | (with_reducible refine below_via (by with_reducible assumption) ?_ ?_) | go_size)
  have HR : Hid (RowL W w.heap.size [.string nm, .int .i64 kd, .int .i64 p, .int .i64 pw, .int .i64 po, .slice (some ⟨g1, 0, none⟩) sn sn, .int .i64 col, .slice (some ⟨g2, 0, none⟩) ln ln]) := by rw [← hW]; exact RowL.new8 w _ _ _ _ _ _ _ _ _
  rw [hW]
  clear hW
  have hl1 := H1.out.lt
  have hl2 := H2.out.lt
  refine (markInts2 (some ⟨g1, 0, none⟩) sn sn g1 zs 1 W (Blk.own (H1.out.keep HB.out) (Nat.le_refl _) HS.out hm1) hsn (by omega) (by omega)).mono ?_
  rintro e w1 ⟨rfl, ho1, hg1⟩
  have hO1 : Off (fun b => b ≠ g1 ∧ b ≠ g2) W w1 := Off.of_grown hg1 (fun b hb e => by simp [Value.ownBlock] at e; omega)
  have HO1 : Hid (Off (fun b => b ≠ g1 ∧ b ≠ g2) w w1) := (Off.of_below HB.out).trans hO1
  have HR1 := Lib.hid (hO1.rowL HR.out (by omega))
  have hx : ∃ (base : Nat) (xs : List Int), w1.ownsRow base 2 1 (.slice (some ⟨g2, 0, none⟩) ln ln) ln (xs.map (Value.int .i64)) := by
    by_cases he : g1 = g2
    · have h3 := H1.out
      rw [he] at h3
      have h4 : vals zs = vals ls := by
        have := h3.symm.trans H2.out
        injection this with this
        injection this
      have h5 : sn = ln := by rw [← HS.out, ← HL.out, vals_inj h4]
      rw [he, h5] at ho1
      exact ⟨_, _, ho1⟩
    · exact ⟨g2, ls, (Blk.own (H2.out.keep HB.out) (Nat.le_refl _) HL.out hm2).kept hg1 (.inr (by simp [Value.ownBlock]; omega))⟩
  obtain ⟨base, xs, hx⟩ := hx
  have HX := Lib.hid hx
  clear ho1 hg1 hO1 hx
  have q7 := (HR1.out.2 7 _ rfl).1
  go_wp2_with fail
  refine (markInts2 (some ⟨g2, 0, none⟩) ln ln base xs (1 + sn) w1 HX.out hln (by omega) (by omega)).mono ?_
  rintro e w2 ⟨rfl, ho2, hg2⟩
  have HO2 : Hid (Off (fun b => b ≠ g1 ∧ b ≠ g2) w w2) := HO1.out.trans (Off.of_grown hg2 (fun b hb e => by simp [Value.ownBlock] at e; omega))
  clear ho2 hg2
  go_wp2
  go_returns
  exact ⟨rfl, HO2.out⟩
set_option maxHeartbeats 1000000 in
theorem markGrd2 (r c : Int) (a : Option Addr) (n cp base : Nat) (xs : List Int) (k : Int) (w : World) (h : w.ownsRow base 2 1 (.slice a n cp) n (xs.map (Value.int .i64))) (hn : n ≤ 1048576) (hk : 0 ≤ k) (hk2 : k ≤ 4194304) :
    Calls Try.prog 16 #[.agg #[.int .i64 r, .int .i64 c, .slice a n cp], .int .i64 k] w fun e w' =>
      e = .returned (.int .i64 (k + n)) ∧ Off (fun b => (Value.slice a n cp).ownBlock ≠ some b) w w' := by
  have HH := Lib.hid h
  clear h
  go_enter Try.func16, Try.ntmps16
  go_wp2_with fail
  refine (markInts2 a n cp base xs k _ (HH.out.alloc _) hn hk hk2).mono ?_
  rintro e w1 ⟨rfl, ho, hg⟩
  go_wp2
  go_returns
  exact ⟨rfl, (Off.of_below ((Below.refl _ _).alloc (Nat.le_refl _) _)).trans (Off.of_grown hg (fun b h => h))⟩
end Go.Proofs.Ytenelpollcabnaa
