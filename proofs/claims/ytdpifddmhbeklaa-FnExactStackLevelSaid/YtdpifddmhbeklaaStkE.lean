/-
  DERIVED. Stacked symbols: elements and erasures: spec.l17Elements, impl.stackElements.
-/
import Derived.Test.YtdpifddmhbeklaaStkQ
namespace Go.Proofs.Ytdpifddmhbeklaa
open Go.RowKit
set_option linter.unusedVariables false
def Two (w w' : World) (X : List Int) (e : Ending) : Prop :=
  ∃ v u, e = .returned (.tuple #[v, u]) ∧ Duo w' w' w.heap.size 0 0 v X.length ((elV X).map (Value.int .i64)) u (negs X).length ((negs X).map (Value.int .i64)) ∧ Below w.heap.size w w'
theorem Duo.plain {W0 W : World} {B B' L Z n m : Nat} {v u : Value} {xs ys : List Value} (h : Duo W0 W B L Z v n xs u m ys) (hB : B' ≤ B) : Duo W W B' 0 0 v n xs u m ys :=
  ⟨ownN_mono h.rowV hB, ownN_mono h.rowU hB, h.apart, fun _ _ => .inr (Nat.zero_le _), fun _ _ => .inr (Nat.zero_le _), fun _ _ _ => rfl, Nat.zero_le _⟩
theorem Duo.start (W : World) (B : Nat) (hB : B ≤ W.heap.size) : Duo ((W.alloc (.cells #[] 2)).alloc (.cells #[] 2)) ((W.alloc (.cells #[] 2)).alloc (.cells #[] 2)) B 0 0 (.slice (some ⟨W.heap.size, 0, none⟩) 0 0) 0 [] (.slice (some ⟨W.heap.size + 1, 0, none⟩) 0 0) 0 [] := by
  have h1 := World.ownsRow_lit (base := B) (e := 2) (size := 1) W #[] 0 hB (by unfold maxLen; omega) (by simp)
  have h2 := World.ownsRow_lit (base := B) (e := 2) (size := 1) (W.alloc (.cells #[] 2)) #[] 0 (by simp; omega) (by unfold maxLen; omega) (by simp)
  simp at h1 h2
  refine ⟨h1.alloc _, h2, fun b hb e => ?_, fun _ _ => .inr (Nat.zero_le _), fun _ _ => .inr (Nat.zero_le _), fun _ _ _ => rfl, Nat.zero_le _⟩
  simp [Value.ownBlock] at hb e
  omega
theorem news1 (w : World) (v : Value) (t : TypeId) : ∀ j u, ([v] : List Value)[j]? = some u → (w.alloc (.cells #[v] t)).cell? ((⟨w.heap.size, 0, none⟩ : Addr).add j) = some u := World.news_of_block (heap_alloc_new w _)
theorem elV_push {X : List Int} {x y : Int} (h : pos0 x = y) : (elV X).map (Value.int .i64) ++ [Value.int .i64 y] = (elV (X ++ [x])).map (Value.int .i64) := by
  rw [elV_app, List.map_append, h]; rfl
theorem negs_same {X : List Int} {x : Int} (h : ¬ x < 0) : negs (X ++ [x]) = negs X := by rw [negs_app, if_neg h, List.append_nil]
theorem negs_push {X : List Int} {x : Int} {n : Nat} (h : x < 0) (hn : X.length = n) : (negs X).map (Value.int .i64) ++ [Value.int .i64 (n : Int)] = (negs (X ++ [x])).map (Value.int .i64) := by
  rw [negs_app, if_pos h, hn, List.map_append]; rfl
theorem negs_more {X : List Int} {x : Int} (h : x < 0) : (negs (X ++ [x])).length = (negs X).length + 1 := by
  rw [negs_app, if_pos h, List.length_append]; rfl
theorem app_len (X : List Int) (x : Int) : (X ++ [x]).length = X.length + 1 := by simp
set_option maxRecDepth 20000 in
set_option maxHeartbeats 8000000 in
theorem sElements (nm : ByteArray) (kd p pw po : Int) (sa : Option Addr) (sn sc co : Nat) (la : Option Addr) (ln lc : Nat) (R C gn gc : Nat) (ga : Option Addr) (gs : List Int) (w : World) (h : Rd w ga gn gs) (hn : gn ≤ 40000) (hc : gn ≤ gc) (hgn : gn = R * C) (hC : C = 15 + 11 * (co + 2)) (hco : co ≤ 8) :
    Calls Try.prog 95 #[.agg #[.string nm, .int .i64 kd, .int .i64 p, .int .i64 pw, .int .i64 po, .slice sa sn sc, .int .i64 (co : Int), .slice la ln lc], .agg #[.int .i64 (R : Int), .int .i64 (C : Int), .slice ga gn gc]] w fun e w' => Two w w' (flatP gs C R) e := by
  obtain ⟨i0, hi, hiz, hi1, hi2⟩ := info_parts infoInt
  have hC1 : 1 ≤ C := by omega
  have hR4 : R ≤ 40000 := by have : R * 1 ≤ R * C := Nat.mul_le_mul_left _ hC1; omega
  have HK : Hid ((C - 15) / 11 = co + 2) := by unfold Hid; omega
  have HLen : Hid (∀ r, (flatP gs C r).length = r * co) := fun r => by rw [flatP_len, HK.out]; simp
  have HLe : Hid (∀ r, r ≤ R → r * co ≤ 40000) := fun r hr => by
    have h1 : r * co ≤ R * co := Nat.mul_le_mul_right _ hr
    have h2 : R * co ≤ R * C := Nat.mul_le_mul_left _ (by omega)
    omega
  have HH := Lib.hid h
  have HG := Lib.hid hgn
  have HCC := Lib.hid hC
  have HD0 : Hid (Duo ((((w.alloc (.cells #[.string nm, .int .i64 kd, .int .i64 p, .int .i64 pw, .int .i64 po, .slice sa sn sc, .int .i64 (co : Int), .slice la ln lc] 60)).alloc (.cells #[.int .i64 (R : Int), .int .i64 (C : Int), .slice ga gn gc] 62)).alloc (.cells #[] 2)).alloc (.cells #[] 2)) ((((w.alloc (.cells #[.string nm, .int .i64 kd, .int .i64 p, .int .i64 pw, .int .i64 po, .slice sa sn sc, .int .i64 (co : Int), .slice la ln lc] 60)).alloc (.cells #[.int .i64 (R : Int), .int .i64 (C : Int), .slice ga gn gc] 62)).alloc (.cells #[] 2)).alloc (.cells #[] 2)) (w.heap.size + 2) 0 0 (.slice (some ⟨w.heap.size + 2, 0, none⟩) 0 0) 0 [] (.slice (some ⟨w.heap.size + 2 + 1, 0, none⟩) 0 0) 0 []) := by
    have := Duo.start ((w.alloc (.cells #[.string nm, .int .i64 kd, .int .i64 p, .int .i64 pw, .int .i64 po, .slice sa sn sc, .int .i64 (co : Int), .slice la ln lc] 60)).alloc (.cells #[.int .i64 (R : Int), .int .i64 (C : Int), .slice ga gn gc] 62)) (w.heap.size + 2) (by simp)
    simp only [World.size_alloc] at this
    exact this
  have HKG : Hid (Blk ((w.alloc (.cells #[.string nm, .int .i64 kd, .int .i64 p, .int .i64 pw, .int .i64 po, .slice sa sn sc, .int .i64 (co : Int), .slice la ln lc] 60)).alloc (.cells #[.int .i64 (R : Int), .int .i64 (C : Int), .slice ga gn gc] 62)) (w.heap.size + 1) 62 #[.int .i64 (R : Int), .int .i64 (C : Int), .slice ga gn gc]) := by
    have := Blk.new ((w.alloc (.cells #[.string nm, .int .i64 kd, .int .i64 p, .int .i64 pw, .int .i64 po, .slice sa sn sc, .int .i64 (co : Int), .slice la ln lc] 60))) 62 #[.int .i64 (R : Int), .int .i64 (C : Int), .slice ga gn gc]
    try simp only [World.size_alloc] at this
    exact this
  have HKF : Hid (Blk ((w.alloc (.cells #[.string nm, .int .i64 kd, .int .i64 p, .int .i64 pw, .int .i64 po, .slice sa sn sc, .int .i64 (co : Int), .slice la ln lc] 60)).alloc (.cells #[.int .i64 (R : Int), .int .i64 (C : Int), .slice ga gn gc] 62)) w.heap.size 60 #[.string nm, .int .i64 kd, .int .i64 p, .int .i64 pw, .int .i64 po, .slice sa sn sc, .int .i64 (co : Int), .slice la ln lc]) := (Blk.new w 60 #[.string nm, .int .i64 kd, .int .i64 p, .int .i64 pw, .int .i64 po, .slice sa sn sc, .int .i64 (co : Int), .slice la ln lc]).alloc _
  have HB0 : Hid (Below (w.heap.size + 2) ((w.alloc (.cells #[.string nm, .int .i64 kd, .int .i64 p, .int .i64 pw, .int .i64 po, .slice sa sn sc, .int .i64 (co : Int), .slice la ln lc] 60)).alloc (.cells #[.int .i64 (R : Int), .int .i64 (C : Int), .slice ga gn gc] 62)) ((((w.alloc (.cells #[.string nm, .int .i64 kd, .int .i64 p, .int .i64 pw, .int .i64 po, .slice sa sn sc, .int .i64 (co : Int), .slice la ln lc] 60)).alloc (.cells #[.int .i64 (R : Int), .int .i64 (C : Int), .slice ga gn gc] 62)).alloc (.cells #[] 2)).alloc (.cells #[] 2))) := ((Below.refl _ _).alloc (by simp) _).alloc (by simp) _
  have HBw : Hid (Below w.heap.size w ((w.alloc (.cells #[.string nm, .int .i64 kd, .int .i64 p, .int .i64 pw, .int .i64 po, .slice sa sn sc, .int .i64 (co : Int), .slice la ln lc] 60)).alloc (.cells #[.int .i64 (R : Int), .int .i64 (C : Int), .slice ga gn gc] 62))) := by unfold Hid; repeat' (first | (with_reducible exact Below.refl _ _) | (with_reducible assumption) | (with_reducible refine Below.alloc ?_ ?_ _) | (with_reducible refine Below.setCell ?_ ?_ _) | (with_reducible refine Below.drew ?_) | (with_reducible refine below_drewN ?_ _) | (with_reducible refine below_via (by with_reducible assumption) ?_ ?_) | go_size)
  obtain ⟨Wb, hWb⟩ : ∃ Wb : World, (w.alloc (.cells #[.string nm, .int .i64 kd, .int .i64 p, .int .i64 pw, .int .i64 po, .slice sa sn sc, .int .i64 (co : Int), .slice la ln lc] 60)).alloc (.cells #[.int .i64 (R : Int), .int .i64 (C : Int), .slice ga gn gc] 62) = Wb := ⟨_, rfl⟩
  rw [hWb] at HD0 HKG HKF HB0 HBw
  have HWs : Hid (Wb.heap.size = w.heap.size + 2) := by unfold Hid; rw [← hWb]; simp
  have HWb := Lib.hid hWb
  clear h hgn hC hWb
  go_enter Try.func95, Try.ntmps95
  go_wp2_with fail
  rw [HWb.out]
  go_loopw [6, 7, 8] (fun v u i wr => ∃ (r n m : Nat), r ≤ R ∧ i = .int .i64 (r : Int) ∧ Hid ((flatP gs C r).length = n) ∧ Hid ((negs (flatP gs C r)).length = m) ∧ Hid (Duo wr wr (w.heap.size + 2) 0 0 v n ((elV (flatP gs C r)).map (Value.int .i64)) u m ((negs (flatP gs C r)).map (Value.int .i64))) ∧ Hid (Below (w.heap.size + 2) Wb wr)) (fun _ _ i _ => R - (intOf i).toNat)
  case atStart => exact ⟨0, 0, 0, Nat.zero_le _, rfl, rfl, rfl, HD0.out, HB0.out⟩
  case round =>
    clear HD0 HB0
    obtain ⟨r, n, m, hr, rfl, HN, HM, D, HB⟩ := hrel
    have HzB := HB.out.size
    have hWs := HWs.out
    obtain ⟨wo, rfl⟩ : ∃ wo : World, wo = wr := ⟨_, rfl⟩
    have hzo : w.heap.size + 2 ≤ wo.heap.size := by omega
    have c0 : wo.cell? ⟨w.heap.size + 1, 0, none⟩ = some (.int .i64 (R : Int)) := (HKG.out.below HB.out (by omega)).cell 0
    have c1 : wo.cell? ⟨w.heap.size + 1, 1, none⟩ = some (.int .i64 (C : Int)) := (HKG.out.below HB.out (by omega)).cell 1
    have c2 : wo.cell? ⟨w.heap.size + 1, 2, none⟩ = some (.slice ga gn gc) := (HKG.out.below HB.out (by omega)).cell 2
    by_cases hlt : r < R
    · clear hWs
      go_wp2_with fail
      refine (sValues R C gn gc r ga gs _ (HH.out.below (HBw.out.trans (HB.out.mono (by omega)))) hn hc HG.out hlt hC1).mono ?_
      rintro e w2 ⟨qa, qc, rfl, hq, hb2⟩
      rw [HK.out] at hq ⊢
      have HD1 := Lib.hid (D.out.enter hb2)
      have HB1 : Hid (Below (w.heap.size + 2) Wb w2) := HB.out.trans (hb2.mono (by omega))
      have HQ := Lib.hid (own_rdI hq)
      have HQl : Hid ((inner (gVal gs C r)).length = co) := by unfold Hid; rw [inner_len, gVal_len, HK.out]; rfl
      have HV : Hid ((gVal gs C r).length = co + 2) := by unfold Hid; rw [gVal_len, HK.out]
      have hzW : w.heap.size + 2 ≤ w2.heap.size := by have := hb2.size; omega
      have HFl : Hid (flatP gs C (r + 1) = flatP gs C r ++ inner (gVal gs C r)) := flatP_succ _ _ _
      have HNr : Hid ((flatP gs C r).length = r * co) := HLen.out r
      have hnr2 : n + co ≤ 40000 := by have h1 := HLe.out (r + 1) hlt; rw [Nat.add_mul, Nat.one_mul] at h1; have := HNr.out; have := HN.out; omega
      have hmr : m ≤ n := by have := negs_len (flatP gs C r); have := HN.out; have := HM.out; omega
      clear hq hb2 D HB c0 c1 c2 HzB
      go_wp2
      go_loopw [6, 7, 10] (fun v u i wq => ∃ (j n' m' : Nat), j ≤ co ∧ i = .int .i64 ((j : Int) + 1) ∧ Hid ((flatP gs C r ++ (inner (gVal gs C r)).take j).length = n') ∧ Hid ((negs (flatP gs C r ++ (inner (gVal gs C r)).take j)).length = m') ∧ Hid (n' = n + j) ∧ m' ≤ n' ∧ Hid (Duo w2 wq (w.heap.size + 2) wo.heap.size w2.heap.size v n' ((elV (flatP gs C r ++ (inner (gVal gs C r)).take j)).map (Value.int .i64)) u m' ((negs (flatP gs C r ++ (inner (gVal gs C r)).take j)).map (Value.int .i64))) ∧ Hid (Below (w.heap.size + 2) w2 wq)) (fun _ _ i _ => co + 1 - (intOf i).toNat)
      case atStart => exact ⟨0, n, m, Nat.zero_le _, rfl, by rw [List.take_zero, List.append_nil]; exact HN.out, by rw [List.take_zero, List.append_nil]; exact HM.out, rfl, hmr, by rw [List.take_zero, List.append_nil]; exact HD1.out, Below.refl _ _⟩
      case round =>
        clear HD1 HN HM
        obtain ⟨j, n1, m1, hj, rfl, HN, HM, hNn, hm', D, HB⟩ := hrel
        have hzq : w.heap.size + 2 ≤ wr.heap.size := by have := HB.out.size; omega
        have f6 : wr.cell? ⟨w.heap.size, 6, none⟩ = some (.int .i64 (co : Int)) := ((HKF.out.below HB1.out (by omega)).below HB.out (by omega)).cell 6
        by_cases hlj : j < co
        · obtain ⟨va, vc, rfl⟩ := ownN_shape D.out.rowV
          obtain ⟨ua, uc, rfl⟩ := ownN_shape D.out.rowU
          obtain ⟨b, off, rfl, hb, hcell⟩ := (D.out.rd HQ.out.1 HQ.out.2).2 (by omega)
          have hcx := hcell (j + 1) (by omega)
          obtain ⟨x, hx⟩ : ∃ x, (gVal gs C r).getD (j + 1) 0 = x := ⟨_, rfl⟩
          rw [hx] at hcx
          have HNX : Hid (flatP gs C r ++ (inner (gVal gs C r)).take (j + 1) = flatP gs C r ++ (inner (gVal gs C r)).take j ++ [x]) := by
            unfold Hid
            rw [take_step (by rw [HQl.out]; exact hlj), inner_get (by rw [HV.out]; omega), hx, List.append_assoc]
          obtain ⟨X, hX⟩ : ∃ X, flatP gs C r ++ (inner (gVal gs C r)).take j = X := ⟨_, rfl⟩
          rw [hX] at HN HM D HNX
          have hbL : wo.heap.size ≤ b ∧ b < w2.heap.size := HQ.out.2 b off rfl (by omega)
          have HSame : Hid (∀ W3 : World, (∀ b, wo.heap.size ≤ b → b < w2.heap.size → W3.heap[b]? = w2.heap[b]?) → W3.cell? ⟨b, off + (j + 1), none⟩ = some (.int .i64 x)) := fun W3 h3 => by
            have h4 := World.cell?_of_block (a := ⟨b, off + (j + 1), none⟩) (D.out.same b hbL.1 hbL.2)
            rw [World.cell?_of_block (a := ⟨b, off + (j + 1), none⟩) (h3 b hbL.1 hbL.2), ← h4]
            exact hcx
          have hj1 : (0 : Int) ≤ (j : Int) + 1 := by omega
          have hjt : ((j : Int) + 1).toNat = j + 1 := by omega
          have hjn : (j : Int) + 1 < (co : Int) + 2 := by omega
          have hj2 : (j : Int) + 1 ≤ (co : Int) := by omega
          have hn4 : n1 ≤ 40000 := by have := hNn.out; omega
          clear hx hX hcell hb hbL
          by_cases hx : x < 0
          · have HX0 := Lib.hid hx
            have HP0 : Hid (pos0 x = 0) := by unfold Hid pos0; rw [if_pos hx]
            have h0 : ¬ (0 < x) := by omega
            go_wp2_with (first | (at_builtin; refine wpList_append_own_at _ rfl _ _ 36 rfl (w.heap.size + 2) 2 i0 _ 1 8 Try.underlying36 hi hiz hi1 hi2 rfl (by decide) _ _ _ rfl (D.out.rowU.alloc _) ⟨wr.heap.size, 0, none⟩ 1 1 [.int .i64 (n1 : Int)] rfl rfl (news1 wr _ _) (by simp [Value.oneCell']) (by unfold maxLen; omega) (by omega) (by simp; omega) ?_; intro u' w3 hown1 hgrow1 _ hat1; have D2 : Hid (Duo w2 w3 (w.heap.size + 2) wo.heap.size w2.heap.size (.slice va n1 vc) n1 ((elV X).map (Value.int .i64)) u' (m1 + 1) ((negs (X ++ [x])).map (Value.int .i64))) := (by unfold Hid; rw [← negs_push HX0.out HN.out]; exact (D.out.symm.push _ hgrow1 hown1 hat1).symm); have HB2 : Hid (Below (w.heap.size + 2) w2 w3) := D.out.symm.below _ hzq HB.out hgrow1; have hz3 : w.heap.size + 2 ≤ w3.heap.size := (by have := hgrow1.size; simp at this; omega); have hcx3 := HSame.out w3 D2.out.same; clear hgrow1 hown1 hat1) | (at_builtin; refine wpList_append_own_at _ rfl _ _ 36 rfl (w.heap.size + 2) 2 i0 _ 1 8 Try.underlying36 hi hiz hi1 hi2 rfl (by decide) _ _ _ rfl (D2.out.rowV.alloc _) ⟨w3.heap.size, 0, none⟩ 1 1 [.int .i64 0] rfl rfl (news1 w3 _ _) (by simp [Value.oneCell']) (by unfold maxLen; omega) (by omega) (by simp; omega) ?_; intro v' w4 hown2 hgrow2 _ hat2))
            have D3 : Hid (Duo w2 w4 (w.heap.size + 2) wo.heap.size w2.heap.size v' (n1 + 1) ((elV (X ++ [x])).map (Value.int .i64)) u' (m1 + 1) ((negs (X ++ [x])).map (Value.int .i64))) := by
              unfold Hid
              rw [← elV_push (x := x) (y := 0) HP0.out]
              exact D2.out.push _ hgrow2 hown2 hat2
            have HN2 : Hid ((X ++ [x]).length = n1 + 1) := by unfold Hid; rw [app_len, HN.out]
            have HM2 : Hid ((negs (X ++ [x])).length = m1 + 1) := by unfold Hid; rw [negs_more HX0.out, HM.out]
            have HB3 : Hid (Below (w.heap.size + 2) w2 w4) := D2.out.below _ hz3 HB2.out hgrow2
            clear hgrow2 hown2 hat2
            go_wp2
            go_roundw
            case rel => exact ⟨j + 1, n1 + 1, m1 + 1, by omega, by go_num, by rw [HNX.out]; exact HN2.out, by rw [HNX.out]; exact HM2.out, by unfold Hid; have := hNn.out; omega, by omega, by rw [HNX.out]; exact D3.out, HB3.out⟩
            case measure => simp [intOf]; omega
          by_cases h0 : 0 < x
          · have HX0 := Lib.hid hx
            have HP0 : Hid (pos0 x = x) := by unfold Hid pos0; rw [if_neg hx]
            go_wp2_with (at_builtin; refine wpList_append_own_at _ rfl _ _ 36 rfl (w.heap.size + 2) 2 i0 _ 1 8 Try.underlying36 hi hiz hi1 hi2 rfl (by decide) _ _ _ rfl (D.out.rowV.alloc _) ⟨wr.heap.size, 0, none⟩ 1 1 [.int .i64 x] rfl rfl (news1 wr _ _) (by simp [Value.oneCell']) (by unfold maxLen; omega) (by omega) (by simp; omega) ?_; intro v' w4 hown2 hgrow2 _ hat2)
            have D3 : Hid (Duo w2 w4 (w.heap.size + 2) wo.heap.size w2.heap.size v' (n1 + 1) ((elV (X ++ [x])).map (Value.int .i64)) (.slice ua m1 uc) m1 ((negs (X ++ [x])).map (Value.int .i64))) := by
              unfold Hid
              rw [negs_same HX0.out, ← elV_push (x := x) (y := x) HP0.out]
              exact D.out.push _ hgrow2 hown2 hat2
            have HN2 : Hid ((X ++ [x]).length = n1 + 1) := by unfold Hid; rw [app_len, HN.out]
            have HM2 : Hid ((negs (X ++ [x])).length = m1) := by unfold Hid; rw [negs_same HX0.out, HM.out]
            have HB3 : Hid (Below (w.heap.size + 2) w2 w4) := D.out.below _ hzq HB.out hgrow2
            clear hgrow2 hown2 hat2
            go_wp2
            go_roundw
            case rel => exact ⟨j + 1, n1 + 1, m1, by omega, by go_num, by rw [HNX.out]; exact HN2.out, by rw [HNX.out]; exact HM2.out, by unfold Hid; have := hNn.out; omega, by omega, by rw [HNX.out]; exact D3.out, HB3.out⟩
            case measure => simp [intOf]; omega
          · have HX0 := Lib.hid hx
            have HP0 : Hid (pos0 x = 0) := by unfold Hid pos0; rw [if_neg hx]; omega
            go_wp2_with (at_builtin; refine wpList_append_own_at _ rfl _ _ 36 rfl (w.heap.size + 2) 2 i0 _ 1 8 Try.underlying36 hi hiz hi1 hi2 rfl (by decide) _ _ _ rfl (D.out.rowV.alloc _) ⟨wr.heap.size, 0, none⟩ 1 1 [.int .i64 0] rfl rfl (news1 wr _ _) (by simp [Value.oneCell']) (by unfold maxLen; omega) (by omega) (by simp; omega) ?_; intro v' w4 hown2 hgrow2 _ hat2)
            have D3 : Hid (Duo w2 w4 (w.heap.size + 2) wo.heap.size w2.heap.size v' (n1 + 1) ((elV (X ++ [x])).map (Value.int .i64)) (.slice ua m1 uc) m1 ((negs (X ++ [x])).map (Value.int .i64))) := by
              unfold Hid
              rw [negs_same HX0.out, ← elV_push (x := x) (y := 0) HP0.out]
              exact D.out.push _ hgrow2 hown2 hat2
            have HN2 : Hid ((X ++ [x]).length = n1 + 1) := by unfold Hid; rw [app_len, HN.out]
            have HM2 : Hid ((negs (X ++ [x])).length = m1) := by unfold Hid; rw [negs_same HX0.out, HM.out]
            have HB3 : Hid (Below (w.heap.size + 2) w2 w4) := D.out.below _ hzq HB.out hgrow2
            clear hgrow2 hown2 hat2
            go_wp2
            go_roundw
            case rel => exact ⟨j + 1, n1 + 1, m1, by omega, by go_num, by rw [HNX.out]; exact HN2.out, by rw [HNX.out]; exact HM2.out, by unfold Hid; have := hNn.out; omega, by omega, by rw [HNX.out]; exact D3.out, HB3.out⟩
            case measure => simp [intOf]; omega
        · have hje : j = co := by omega
          have HJ := Lib.hid hje
          have hj2 : (co : Int) < (j : Int) + 1 := by omega
          clear hje
          go_wp2
          have HXe : Hid (flatP gs C r ++ (inner (gVal gs C r)).take j = flatP gs C (r + 1)) := by
            unfold Hid
            rw [HFl.out, HJ.out, ← HQl.out, List.take_length]
          rw [HXe.out] at HN HM D
          go_roundw
          case rel => exact ⟨r + 1, n1, m1, by omega, by go_num, HN, HM, D.out.plain (Nat.le_refl _), HB1.out.trans HB.out⟩
          case measure => simp [intOf]; omega
    · have hre : r = R := by omega
      have HRe := Lib.hid hre
      clear hre
      go_wp2
      go_returns
      rw [HRe.out] at HN HM D
      exact ⟨_, _, rfl, by rw [HN.out, HM.out]; exact D.out.plain (by omega), HBw.out.trans (HB.out.mono (by omega))⟩
set_option maxRecDepth 20000 in
set_option maxHeartbeats 8000000 in
theorem iElements (co : Nat) (R C gn gc : Nat) (ga : Option Addr) (gs : List Int) (w : World) (h : Rd w ga gn gs) (hn : gn ≤ 40000) (hc : gn ≤ gc) (hc2 : gc ≤ maxLen) (hgn : gn = R * C) (hC : C = 15 + 11 * (co + 2)) (hco : co ≤ 8) (hbd : ∀ x ∈ gs, -1 ≤ x ∧ x ≤ 1) :
    Calls Try.prog 96 #[.agg #[.int .i64 (R : Int), .int .i64 (C : Int), .slice ga gn gc]] w fun e w' => Two w w' (flatP gs C R) e := by
  obtain ⟨i0, hi, hiz, hi1, hi2⟩ := info_parts infoInt
  have hC1 : 1 ≤ C := by omega
  have hR4 : R ≤ 40000 := by have : R * 1 ≤ R * C := Nat.mul_le_mul_left _ hC1; omega
  have HK : Hid ((C - 15) / 11 = co + 2) := by unfold Hid; omega
  have HLen : Hid (∀ r, (flatP gs C r).length = r * co) := fun r => by rw [flatP_len, HK.out]; simp
  have HLe : Hid (∀ r, r ≤ R → r * co ≤ 40000) := fun r hr => by
    have h1 : r * co ≤ R * co := Nat.mul_le_mul_right _ hr
    have h2 : R * co ≤ R * C := Nat.mul_le_mul_left _ (by omega)
    omega
  have HH := Lib.hid h
  have HG := Lib.hid hgn
  have HCC := Lib.hid hC
  have HBd := Lib.hid hbd
  have HD0 : Hid (Duo (((w.alloc (.cells #[.int .i64 (R : Int), .int .i64 (C : Int), .slice ga gn gc] 62)).alloc (.cells #[] 2)).alloc (.cells #[] 2)) (((w.alloc (.cells #[.int .i64 (R : Int), .int .i64 (C : Int), .slice ga gn gc] 62)).alloc (.cells #[] 2)).alloc (.cells #[] 2)) (w.heap.size + 1) 0 0 (.slice (some ⟨w.heap.size + 1, 0, none⟩) 0 0) 0 [] (.slice (some ⟨w.heap.size + 1 + 1, 0, none⟩) 0 0) 0 []) := by
    have := Duo.start (w.alloc (.cells #[.int .i64 (R : Int), .int .i64 (C : Int), .slice ga gn gc] 62)) (w.heap.size + 1) (by simp)
    simp only [World.size_alloc] at this
    exact this
  have HKG : Hid (Blk (w.alloc (.cells #[.int .i64 (R : Int), .int .i64 (C : Int), .slice ga gn gc] 62)) (w.heap.size + 0) 62 #[.int .i64 (R : Int), .int .i64 (C : Int), .slice ga gn gc]) := by
    have := Blk.new (w) 62 #[.int .i64 (R : Int), .int .i64 (C : Int), .slice ga gn gc]
    try simp only [World.size_alloc] at this
    exact this
  have HB0 : Hid (Below (w.heap.size + 1) (w.alloc (.cells #[.int .i64 (R : Int), .int .i64 (C : Int), .slice ga gn gc] 62)) (((w.alloc (.cells #[.int .i64 (R : Int), .int .i64 (C : Int), .slice ga gn gc] 62)).alloc (.cells #[] 2)).alloc (.cells #[] 2))) := ((Below.refl _ _).alloc (by simp) _).alloc (by simp) _
  have HBw : Hid (Below w.heap.size w (w.alloc (.cells #[.int .i64 (R : Int), .int .i64 (C : Int), .slice ga gn gc] 62))) := by unfold Hid; repeat' (first | (with_reducible exact Below.refl _ _) | (with_reducible assumption) | (with_reducible refine Below.alloc ?_ ?_ _) | (with_reducible refine Below.setCell ?_ ?_ _) | (with_reducible refine Below.drew ?_) | (with_reducible refine below_drewN ?_ _) | (with_reducible refine below_via (by with_reducible assumption) ?_ ?_) | go_size)
  obtain ⟨Wb, hWb⟩ : ∃ Wb : World, w.alloc (.cells #[.int .i64 (R : Int), .int .i64 (C : Int), .slice ga gn gc] 62) = Wb := ⟨_, rfl⟩
  rw [hWb] at HD0 HKG HB0 HBw
  have HWs : Hid (Wb.heap.size = w.heap.size + 1) := by unfold Hid; rw [← hWb]; simp
  have HWb := Lib.hid hWb
  clear h hbd hgn hC hWb
  go_enter Try.func96, Try.ntmps96
  go_wp2_with fail
  rw [HWb.out]
  obtain ⟨W0, hW0⟩ : ∃ W0 : World, (Wb.alloc (.cells #[] 2)).alloc (.cells #[] 2) = W0 := ⟨_, rfl⟩
  rw [hW0] at HD0 HB0 ⊢
  have HW0s : Hid (W0.heap.size = w.heap.size + 3) := by unfold Hid; rw [← hW0]; simp; have := HWs.out; omega
  clear hW0
  have HBw0 : Hid (Below w.heap.size w W0) := HBw.out.trans (HB0.out.mono (by omega))
  refine (iValues R C gn gc ga gs _ (HH.out.below HBw0.out) hn hc hc2 HG.out hC1 HBd.out).mono ?_
  rintro e w1 ⟨g, rfl, hrr, hcaps, hg1, hg2, hb1⟩
  have HD1 := Lib.hid (HD0.out.enter hb1)
  have HBw1 : Hid (Below w.heap.size w w1) := HBw0.out.trans (hb1.mono (by have := HW0s.out; omega))
  have HRR := Lib.hid hrr
  have HCaps := Lib.hid hcaps
  have hz1 : w.heap.size + 3 ≤ w1.heap.size := by have := hb1.size; have := HW0s.out; omega
  clear hrr hcaps hb1 HD0 HB0
  go_wp2
  go_loopw [4, 5, 15] (fun v u i wr => ∃ (r n m : Nat), r ≤ R ∧ i = .int .i64 (r : Int) ∧ Hid ((flatP gs C r).length = n) ∧ Hid ((negs (flatP gs C r)).length = m) ∧ Hid (Duo w1 wr (w.heap.size + 1) W0.heap.size w1.heap.size v n ((elV (flatP gs C r)).map (Value.int .i64)) u m ((negs (flatP gs C r)).map (Value.int .i64))) ∧ Hid (Below (w.heap.size + 1) w1 wr)) (fun _ _ i _ => R - (intOf i).toNat)
  case atStart => exact ⟨0, 0, 0, Nat.zero_le _, rfl, rfl, rfl, HD1.out, Below.refl _ _⟩
  case round =>
    clear HD1
    obtain ⟨r, n, m, hr, rfl, HN, HM, D, HB⟩ := hrel
    obtain ⟨wo, rfl⟩ : ∃ wo : World, wo = wr := ⟨_, rfl⟩
    by_cases hlt : r < R
    · have HV : Hid ((gVal gs C r).length = co + 2) := by unfold Hid; rw [gVal_len, HK.out]
      obtain ⟨b0, off0, a', cp, e0, hb0, hcell, hrd⟩ := (D.out.rrow HRR.out HB.out.size).at hlt
      rw [gVals_get _ _ hlt, HV.out] at hcell hrd
      injection e0 with e0
      injection e0 with e1 e2
      subst e1 e2
      rw [Nat.zero_add] at hcell
      have hcp : co + 2 ≤ cp := (HCaps.out.kept (D.out.same g hg1 hg2)) r hlt _ _ _ hcell
      obtain ⟨b, off, rfl, hb, hc2⟩ := hrd.2 (by omega)
      have HRd := Lib.hid (And.intro hrd.1 hc2)
      have HBz : Hid (∀ b' off', some (⟨b, off, none⟩ : Addr) = some ⟨b', off', none⟩ → W0.heap.size ≤ b' ∧ b' < w1.heap.size) := by
        intro b' off' e
        injection e with e
        injection e with e1 e2
        subst e1 e2
        obtain ⟨h1, h2, h3⟩ := HRR.out
        obtain ⟨b3, off3, e3, _, _, h4⟩ := h3 (by omega)
        injection e3 with e3
        injection e3 with e4 e5
        subst e4 e5
        obtain ⟨hd, h5, h6⟩ := h4 r hlt
        rw [Nat.zero_add] at h5
        have h7 := World.cell?_of_block (a := ⟨g, r, none⟩) (D.out.same g hg1 hg2)
        rw [hcell, h5] at h7
        injection h7 with h7
        obtain ⟨a8, c8, e8, h8⟩ := h6
        rw [← h7] at e8
        injection e8 with e8 _ _
        obtain ⟨b9, off9, e9, h9, _⟩ := h8 (by rw [gVals_get _ _ hlt, HV.out]; omega)
        rw [← e8] at e9
        injection e9 with e9
        injection e9 with e9 _
        rw [e9]
        exact h9
      have HQl : Hid ((inner (gVal gs C r)).length = co) := by unfold Hid; rw [inner_len, gVal_len, HK.out]; rfl
      have HFl : Hid (flatP gs C (r + 1) = flatP gs C r ++ inner (gVal gs C r)) := flatP_succ _ _ _
      have HNr : Hid ((flatP gs C r).length = r * co) := HLen.out r
      have hnr2 : n + co ≤ 40000 := by have h1 := HLe.out (r + 1) hlt; rw [Nat.add_mul, Nat.one_mul] at h1; have := HNr.out; have := HN.out; omega
      have hmr : m ≤ n := by have := negs_len (flatP gs C r); have := HN.out; have := HM.out; omega
      have s1 : (1 : Int) ≤ (co : Int) + 1 := by omega
      have s2 : (co : Int) + 1 ≤ (cp : Int) := by omega
      have s3 : ((co : Int) + 1).toNat = co + 1 := by omega
      have s4 : (co : Int) + 2 - 1 = (co : Int) + 1 := by omega
      have s5 : (0 : Int) ≤ (co : Int) + 1 := by omega
      have HRw : Hid (∀ i, i < co + 2 → wo.cell? ⟨b, off + i, none⟩ = some (.int .i64 ((gVal gs C r).getD i 0))) := hc2
      have HW2 : Hid (∀ W : World, (∀ b', W0.heap.size ≤ b' → b' < w1.heap.size → W.heap[b']? = w1.heap[b']?) → ∀ i, i < co + 2 → W.cell? ⟨b, off + i, none⟩ = some (.int .i64 ((gVal gs C r).getD i 0))) := fun W hW i hi => by
        obtain ⟨h1, h2⟩ := HBz.out b off rfl
        have h4 := World.cell?_of_block (a := ⟨b, off + i, none⟩) (D.out.same b h1 h2)
        rw [World.cell?_of_block (a := ⟨b, off + i, none⟩) (hW b h1 h2), ← h4]
        exact HRw.out i hi
      clear hrd hc2 hb hb0 HRw
      go_wp2
      go_loopw [4, 5, 25] (fun v u i wq => ∃ (j n' m' : Nat), j ≤ co ∧ i = .int .i64 (j : Int) ∧ Hid ((flatP gs C r ++ (inner (gVal gs C r)).take j).length = n') ∧ Hid ((negs (flatP gs C r ++ (inner (gVal gs C r)).take j)).length = m') ∧ Hid (n' = n + j) ∧ m' ≤ n' ∧ Hid (Duo w1 wq (w.heap.size + 1) W0.heap.size w1.heap.size v n' ((elV (flatP gs C r ++ (inner (gVal gs C r)).take j)).map (Value.int .i64)) u m' ((negs (flatP gs C r ++ (inner (gVal gs C r)).take j)).map (Value.int .i64))) ∧ Hid (Below (w.heap.size + 1) w1 wq)) (fun _ _ i _ => co - (intOf i).toNat)
      case atStart => exact ⟨0, n, m, Nat.zero_le _, rfl, by rw [List.take_zero, List.append_nil]; exact HN.out, by rw [List.take_zero, List.append_nil]; exact HM.out, rfl, hmr, by rw [List.take_zero, List.append_nil]; exact D.out, HB.out⟩
      case round =>
        clear D HB HN HM hcell
        obtain ⟨j, n1, m1, hj, rfl, HN, HM, hNn, hm', D, HB⟩ := hrel
        have hzq : w.heap.size + 1 ≤ wr.heap.size := by have := HB.out.size; omega
        by_cases hlj : j < co
        · obtain ⟨va, vc, rfl⟩ := ownN_shape D.out.rowV
          obtain ⟨ua, uc, rfl⟩ := ownN_shape D.out.rowU
          have hcx := HW2.out _ D.out.same (j + 1) (by omega)
          rw [show off + (j + 1) = off + 1 + j by omega] at hcx
          obtain ⟨x, hx⟩ : ∃ x, (gVal gs C r).getD (j + 1) 0 = x := ⟨_, rfl⟩
          rw [hx] at hcx
          have HNX : Hid (flatP gs C r ++ (inner (gVal gs C r)).take (j + 1) = flatP gs C r ++ (inner (gVal gs C r)).take j ++ [x]) := by
            unfold Hid
            rw [take_step (by rw [HQl.out]; exact hlj), inner_get (by rw [HV.out]; omega), hx, List.append_assoc]
          obtain ⟨X, hX⟩ : ∃ X, flatP gs C r ++ (inner (gVal gs C r)).take j = X := ⟨_, rfl⟩
          rw [hX] at HN HM D HNX
          have hn4 : n1 ≤ 40000 := by have := hNn.out; omega
          clear hx hX
          by_cases hx : x < 0
          · have HX0 := Lib.hid hx
            have HP0 : Hid (pos0 x = 0) := by unfold Hid pos0; rw [if_pos hx]
            have h0 : ¬ (0 < x) := by omega
            go_wp2_with (first | (at_builtin; refine wpList_append_own_at _ rfl _ _ 36 rfl (w.heap.size + 1) 2 i0 _ 1 8 Try.underlying36 hi hiz hi1 hi2 rfl (by decide) _ _ _ rfl (D.out.rowU.alloc _) ⟨wr.heap.size, 0, none⟩ 1 1 [.int .i64 (n1 : Int)] rfl rfl (news1 wr _ _) (by simp [Value.oneCell']) (by unfold maxLen; omega) (by omega) (by simp; omega) ?_; intro u' w3 hown1 hgrow1 _ hat1; have D2 : Hid (Duo w1 w3 (w.heap.size + 1) W0.heap.size w1.heap.size (.slice va n1 vc) n1 ((elV X).map (Value.int .i64)) u' (m1 + 1) ((negs (X ++ [x])).map (Value.int .i64))) := (by unfold Hid; rw [← negs_push HX0.out HN.out]; exact (D.out.symm.push _ hgrow1 hown1 hat1).symm); have HB2 : Hid (Below (w.heap.size + 1) w1 w3) := D.out.symm.below _ hzq HB.out hgrow1; have hz3 : w.heap.size + 1 ≤ w3.heap.size := (by have := hgrow1.size; simp at this; omega); skip; clear hgrow1 hown1 hat1) | (at_builtin; refine wpList_append_own_at _ rfl _ _ 36 rfl (w.heap.size + 1) 2 i0 _ 1 8 Try.underlying36 hi hiz hi1 hi2 rfl (by decide) _ _ _ rfl (D2.out.rowV.alloc _) ⟨w3.heap.size, 0, none⟩ 1 1 [.int .i64 0] rfl rfl (news1 w3 _ _) (by simp [Value.oneCell']) (by unfold maxLen; omega) (by omega) (by simp; omega) ?_; intro v' w4 hown2 hgrow2 _ hat2))
            have D3 : Hid (Duo w1 w4 (w.heap.size + 1) W0.heap.size w1.heap.size v' (n1 + 1) ((elV (X ++ [x])).map (Value.int .i64)) u' (m1 + 1) ((negs (X ++ [x])).map (Value.int .i64))) := by
              unfold Hid
              rw [← elV_push (x := x) (y := 0) HP0.out]
              exact D2.out.push _ hgrow2 hown2 hat2
            have HN2 : Hid ((X ++ [x]).length = n1 + 1) := by unfold Hid; rw [app_len, HN.out]
            have HM2 : Hid ((negs (X ++ [x])).length = m1 + 1) := by unfold Hid; rw [negs_more HX0.out, HM.out]
            have HB3 : Hid (Below (w.heap.size + 1) w1 w4) := D2.out.below _ hz3 HB2.out hgrow2
            clear hgrow2 hown2 hat2
            go_wp2
            go_roundw
            case rel => exact ⟨j + 1, n1 + 1, m1 + 1, by omega, by go_num, by rw [HNX.out]; exact HN2.out, by rw [HNX.out]; exact HM2.out, by unfold Hid; have := hNn.out; omega, by omega, by rw [HNX.out]; exact D3.out, HB3.out⟩
            case measure => simp [intOf]; omega
          · have HX0 := Lib.hid hx
            have HP0 : Hid (pos0 x = x) := by unfold Hid pos0; rw [if_neg hx]
            go_wp2_with (at_builtin; refine wpList_append_own_at _ rfl _ _ 36 rfl (w.heap.size + 1) 2 i0 _ 1 8 Try.underlying36 hi hiz hi1 hi2 rfl (by decide) _ _ _ rfl (D.out.rowV.alloc _) ⟨wr.heap.size, 0, none⟩ 1 1 [.int .i64 x] rfl rfl (news1 wr _ _) (by simp [Value.oneCell']) (by unfold maxLen; omega) (by omega) (by simp; omega) ?_; intro v' w4 hown2 hgrow2 _ hat2)
            have D3 : Hid (Duo w1 w4 (w.heap.size + 1) W0.heap.size w1.heap.size v' (n1 + 1) ((elV (X ++ [x])).map (Value.int .i64)) (.slice ua m1 uc) m1 ((negs (X ++ [x])).map (Value.int .i64))) := by
              unfold Hid
              rw [negs_same HX0.out, ← elV_push (x := x) (y := x) HP0.out]
              exact D.out.push _ hgrow2 hown2 hat2
            have HN2 : Hid ((X ++ [x]).length = n1 + 1) := by unfold Hid; rw [app_len, HN.out]
            have HM2 : Hid ((negs (X ++ [x])).length = m1) := by unfold Hid; rw [negs_same HX0.out, HM.out]
            have HB3 : Hid (Below (w.heap.size + 1) w1 w4) := D.out.below _ hzq HB.out hgrow2
            clear hgrow2 hown2 hat2
            go_wp2
            go_roundw
            case rel => exact ⟨j + 1, n1 + 1, m1, by omega, by go_num, by rw [HNX.out]; exact HN2.out, by rw [HNX.out]; exact HM2.out, by unfold Hid; have := hNn.out; omega, by omega, by rw [HNX.out]; exact D3.out, HB3.out⟩
            case measure => simp [intOf]; omega
        · have hje : j = co := by omega
          have HJ := Lib.hid hje
          have hj2 : (co : Int) ≤ (j : Int) := by omega
          clear hje
          go_wp2
          have HXe : Hid (flatP gs C r ++ (inner (gVal gs C r)).take j = flatP gs C (r + 1)) := by
            unfold Hid
            rw [HFl.out, HJ.out, ← HQl.out, List.take_length]
          rw [HXe.out] at HN HM D
          go_roundw
          case rel => exact ⟨r + 1, n1, m1, by omega, by go_num, HN, HM, D, HB⟩
          case measure => simp [intOf]; omega
    · have hre : r = R := by omega
      have HRe := Lib.hid hre
      clear hre
      go_wp2
      go_returns
      rw [HRe.out] at HN HM D
      exact ⟨_, _, rfl, by rw [HN.out, HM.out]; exact D.out.plain (by omega), HBw1.out.trans (HB.out.mono (by omega))⟩
end Go.Proofs.Ytdpifddmhbeklaa
