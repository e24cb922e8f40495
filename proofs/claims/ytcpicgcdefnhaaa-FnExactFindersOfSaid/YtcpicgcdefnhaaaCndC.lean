/-
  DERIVED. Candidates: spec.l23Column; frames of rows.
-/
import Derived.Test.YtcpicgcdefnhaaaCndP
import Derived.Test.YtcpicgcdefnhaaaSecS1
import Derived.Test.YtcpicgcdefnhaaaRunsS
import Derived.Maps.AppendAt
import Derived.Conc.MuLone
namespace Go.Proofs.Ytcpicgcdefnhaaa
open Go.RowKit
set_option linter.unusedVariables false
theorem rd_part3 {w : World} {b off n m : Nat} {c : List Int} (h : Rd w (some ⟨b, off, none⟩) n c) {lo : Nat} (hl : lo + m ≤ n) : Rd w (some ⟨b, off + lo, none⟩) m ((c.drop lo).take m) := by
  have hlen := h.1
  refine ⟨by simp; omega, fun hm => ?_⟩
  obtain ⟨b', off', e, hlt, hc⟩ := h.2 (by omega)
  injection e with e
  injection e with e1 e2
  subst e1 e2
  refine ⟨b, off + lo, rfl, hlt, fun i hi => ?_⟩
  have := hc (lo + i) (by omega)
  rw [show off + lo + i = off + (lo + i) by omega, this]
  simp [List.getD_eq_getElem?_getD, hi]
/-- The blocks from lo to hi stand, and the row v lies elsewhere. -/
def Stand (w1 wq : World) (lo hi : Nat) (v : Value) : Prop := hi ≤ wq.heap.size ∧ (∀ b, lo ≤ b → b < hi → wq.heap[b]? = w1.heap[b]?) ∧ (∀ b, v.ownBlock = some b → b < lo ∨ hi ≤ b)
theorem Stand.start {w1 : World} {lo : Nat} {v : Value} (h : ∀ b, v.ownBlock = some b → b < lo) : Stand w1 w1 lo w1.heap.size v := ⟨Nat.le_refl _, fun _ _ _ => rfl, fun b e => .inl (h b e)⟩
theorem Stand.below {w1 wq w2 : World} {lo hi : Nat} {v : Value} (h : Stand w1 wq lo hi v) (hb : Below wq.heap.size wq w2) : Stand w1 w2 lo hi v :=
  ⟨Nat.le_trans h.1 hb.size, fun b h1 h2 => (hb.block b (by have := h.1; omega)).trans (h.2.1 b h1 h2), h.2.2⟩
theorem Stand.app {w1 wq w2 : World} {lo hi : Nat} {v v' : Value} {o : Obj} (h : Stand w1 wq lo hi v) (hg : (wq.alloc o).grownBy w2 v.ownBlock) (hat : v'.ownBlock = v.ownBlock ∨ v'.ownBlock = some (wq.alloc o).heap.size) : Stand w1 w2 lo hi v' := by
  have hz := h.1
  have hs := hg.size
  simp only [World.size_alloc] at hs hat
  refine ⟨by omega, fun b h1 h2 => ?_, fun b e => ?_⟩
  · have e1 := hg.block b (by simp; omega) (fun e => by rcases h.2.2 b e.symm with h3 | h3 <;> omega)
    exact e1.trans ((Below.heap_alloc wq o b (by omega)).trans (h.2.1 b h1 h2))
  · rcases hat with hh | hh
    · exact h.2.2 b (by rw [← hh]; exact e)
    · rw [hh] at e; injection e with e; right; omega
theorem Stand.rdV {w1 wq : World} {lo hi m n c : Nat} {v : Value} {t : TypeId} {a : Option Addr} {vs : List Value} (h : Stand w1 wq lo hi v) (ho : w1.ownsRow lo t m (.slice a n c) n vs) (hhi : w1.heap.size ≤ hi) : RdV wq a m n vs := by
  have hr := own_rdV ho
  refine ⟨hr.1, fun hn => ?_⟩
  obtain ⟨b, off, e, hlt, hc⟩ := hr.2 hn
  obtain ⟨g, cap, hv, hg1, hg2⟩ := ho.form hn
  injection hv with hv
  rw [e] at hv
  injection hv with hv
  injection hv with hv1 hv2
  have hb := h.2.1 b (by omega) (by omega)
  exact ⟨b, off, e, by have := h.1; omega, fun i hi => (World.cell?_of_block (a := ⟨b, off + i, none⟩) hb).trans (hc i hi)⟩
set_option maxRecDepth 20000 in
set_option maxHeartbeats 8000000 in
theorem sColumn (R C : Nat) (ga : Option Addr) (gn gc c : Nat) (gs : List Int) (w : World) (h : Rd w ga gn gs) (hgn : gn = R * C) (hn4 : gn ≤ 40000) (hc : c < C) :
    Calls Try.prog 31 #[.agg #[.int .i64 (R : Int), .int .i64 (C : Int), .slice ga gn gc], .int .i64 (c : Int)] w fun e w' => ∃ v, e = .returned v ∧ w'.ownsRow w.heap.size 2 1 v R ((colL gs C R c).map (Value.int .i64)) ∧ Below w.heap.size w w' := by
  obtain ⟨i0, hi, hiz, hi1, hi2⟩ := info_parts infoInt
  have HH := Lib.hid h
  have HN := Lib.hid hgn
  have hR4 : R ≤ 40000 := by
    have : R * 1 ≤ R * C := Nat.mul_le_mul_left _ (by omega)
    omega
  clear h hgn
  have HKG : Hid (Blk (w.alloc (.cells #[.int .i64 (R : Int), .int .i64 (C : Int), .slice ga gn gc] 29)) w.heap.size 29 #[.int .i64 (R : Int), .int .i64 (C : Int), .slice ga gn gc]) := Blk.new w 29 _
  have HO0 : Hid (((w.alloc (.cells #[.int .i64 (R : Int), .int .i64 (C : Int), .slice ga gn gc] 29)).alloc (.cells #[] 2)).ownsRow (w.heap.size + 1) 2 1 (.slice (some ⟨w.heap.size + 1, 0, none⟩) 0 0) 0 []) := by
    have := World.ownsRow_lit (base := w.heap.size + 1) (e := 2) (size := 1) (w.alloc (.cells #[.int .i64 (R : Int), .int .i64 (C : Int), .slice ga gn gc] 29)) #[] 0 (by simp) (by unfold maxLen; omega) (by simp)
    simp only [World.size_alloc] at this
    exact this
  have HB0 : Hid (Below (w.heap.size + 1) (w.alloc (.cells #[.int .i64 (R : Int), .int .i64 (C : Int), .slice ga gn gc] 29)) ((w.alloc (.cells #[.int .i64 (R : Int), .int .i64 (C : Int), .slice ga gn gc] 29)).alloc (.cells #[] 2))) := (Below.refl _ _).alloc (by simp) _
  have HBw : Hid (Below w.heap.size w (w.alloc (.cells #[.int .i64 (R : Int), .int .i64 (C : Int), .slice ga gn gc] 29))) := by unfold Hid; repeat' (first | (with_reducible exact Below.refl _ _) | (with_reducible assumption) | (with_reducible refine Below.alloc ?_ ?_ _) | (with_reducible refine Below.setCell ?_ ?_ _) | (with_reducible refine Below.drew ?_) | (with_reducible refine below_drewN ?_ _) | (with_reducible refine below_via (by with_reducible assumption) ?_ ?_) | go_size)
  obtain ⟨Wb, hWb⟩ : ∃ Wb : World, w.alloc (.cells #[.int .i64 (R : Int), .int .i64 (C : Int), .slice ga gn gc] 29) = Wb := ⟨_, rfl⟩
  rw [hWb] at HKG HO0 HB0 HBw
  have HWs : Hid (Wb.heap.size = w.heap.size + 1) := by unfold Hid; rw [← hWb]; simp
  have HWb := Lib.hid hWb
  clear hWb
  go_enter Try.func31, Try.ntmps31
  go_wp2
  rw [HWb.out]
  go_loopw [5, 6] (fun v i wr => ∃ k : Nat, k ≤ R ∧ i = .int .i64 (k : Int) ∧ Hid (wr.ownsRow (w.heap.size + 1) 2 1 v k ((colL gs C k c).map (Value.int .i64))) ∧ Hid (Below (w.heap.size + 1) Wb wr)) (fun _ i _ => R - (intOf i).toNat)
  case atStart => exact ⟨0, Nat.zero_le _, rfl, HO0.out, HB0.out⟩
  case round =>
    clear HO0 HB0
    obtain ⟨k, hk, rfl, HO, HB⟩ := hrel
    have hzr : w.heap.size + 1 ≤ wr.heap.size := by have := HB.out.size; have := HWs.out; omega
    have HBwr : Hid (Below w.heap.size w wr) := HBw.out.trans (HB.out.mono (by omega))
    have hkr := HKG.out.below HB.out (by omega)
    have g0 : wr.cell? ⟨w.heap.size, 0, none⟩ = some (.int .i64 (R : Int)) := hkr.cell 0
    have g1 : wr.cell? ⟨w.heap.size, 1, none⟩ = some (.int .i64 (C : Int)) := hkr.cell 1
    have g2 : wr.cell? ⟨w.heap.size, 2, none⟩ = some (.slice ga gn gc) := hkr.cell 2
    clear hkr
    by_cases hlt : k < R
    · have hfit : k * C + C ≤ gn := by
        rw [HN.out]
        have : (k + 1) * C ≤ R * C := Nat.mul_le_mul_right _ hlt
        rw [Nat.add_mul, Nat.one_mul] at this
        exact this
      obtain ⟨b, off, rfl, hb, hcell⟩ := (HH.out.below HBwr.out).2 (by omega)
      obtain ⟨m, hm⟩ : ∃ m, k * C + c = m := ⟨_, rfl⟩
      have hmI : (k : Int) * (C : Int) + (c : Int) = (m : Int) := by rw [← hm]; simp
      have hmn : m < gn := by omega
      have hcx := hcell m hmn
      obtain ⟨x, hx⟩ : ∃ x, gs.getD m 0 = x := ⟨_, rfl⟩
      rw [hx] at hcx
      have HCo : Hid (colL gs C (k + 1) c = colL gs C k c ++ [x]) := by unfold Hid; rw [colL_succ, hm, hx]
      have hm0 : (0 : Int) ≤ (k : Int) * (C : Int) := Int.mul_nonneg (by omega) (by omega)
      have hm1 : (k : Int) * (C : Int) ≤ 40000 := by omega
      have hkI : (k : Int) < (R : Int) := by omega
      clear hcell hx hm
      go_wp2_with (at_builtin; refine wpList_append_own _ rfl _ _ 22 rfl (w.heap.size + 1) 2 i0 _ 1 8 Try.underlying22 hi hiz hi1 hi2 rfl (by decide) _ _ _ rfl (HO.out.alloc _) ⟨wr.heap.size, 0, none⟩ 1 1 [.int .i64 x] rfl rfl (World.news_of_block (heap_alloc_new wr _)) (by simp [Value.oneCell']) (by unfold maxLen; omega) (by omega) (by simp; omega) ?_; intro v2 w2 hown2 hgrow2 _)
      have HO2 : Hid (w2.ownsRow (w.heap.size + 1) 2 1 v2 (k + 1) ((colL gs C (k + 1) c).map (Value.int .i64))) := by
        unfold Hid
        rw [HCo.out, List.map_append]
        exact hown2
      have HB2 : Hid (Below (w.heap.size + 1) Wb w2) := (HB.out.alloc (by omega) _).grown hgrow2 (by simp; omega) (fun j e => (HO.out.lt j e).1)
      clear hown2 hgrow2
      go_wp2
      go_roundw
      case rel => exact ⟨k + 1, by omega, by go_num, HO2, HB2⟩
      case measure => simp [intOf]; omega
    · have hke : k = R := by omega
      have HE := Lib.hid hke
      have hge : (R : Int) ≤ (k : Int) := by omega
      clear hke
      go_wp2
      go_returns
      have HO2 := HO.out
      rw [HE.out] at HO2
      exact ⟨_, rfl, ownN_mono HO2 (by omega), HBwr.out⟩
end Go.Proofs.Ytcpicgcdefnhaaa
