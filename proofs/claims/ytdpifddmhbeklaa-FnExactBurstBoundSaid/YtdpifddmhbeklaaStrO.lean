/-
  DERIVED. The order of a stream: spec.l07Order.
-/
import Derived.Test.YtdpifddmhbeklaaStrP
import Derived.Test.YtdpifddmhbeklaaBas
namespace Go.Proofs.Ytdpifddmhbeklaa
open Go.RowKit
set_option linter.unusedVariables false
def pl (x : Int × Int) : List Int := [x.1, x.2]
theorem pl_hdr {W : World} {p : Nat → Prop} (x y : Int) (hp : p W.heap.size) : HdrOk (W.alloc (.cells #[.int .i64 x, .int .i64 y] 2)) p (pl (x, y)) (.slice (some ⟨W.heap.size, 0, none⟩) 2 2) := by
  refine ⟨some ⟨W.heap.size, 0, none⟩, 2, rfl, fun _ => ⟨W.heap.size, 0, rfl, hp, by simp, fun j hj => ?_⟩⟩
  have hb := Blk.new W 2 #[.int .i64 x, .int .i64 y]
  rw [hb.cell]
  have : j = 0 ∨ j = 1 := by simp [pl] at hj; omega
  rcases this with rfl | rfl <;> rfl
theorem srow_push {W W2 : World} {B : Nat} {v v' : Value} {Ls : List (List Int)} {hs : List Value} {x y : Int} (hB : B ≤ W.heap.size) (ho : W.ownsRow B 36 1 v Ls.length hs)
    (hr : ∀ i, i < Ls.length → ∃ h, hs[i]? = some h ∧ HdrOk W (fun b => B ≤ b ∧ v.ownBlock ≠ some b) (Ls.getD i []) h)
    (hgrow : ((W.alloc (.cells #[.int .i64 x, .int .i64 y] 2)).alloc (.cells #[.slice (some ⟨W.heap.size, 0, none⟩) 2 2] 36)).grownBy W2 v.ownBlock)
    (g : Nat) (hg : v'.ownBlock = some g) (hat : v.ownBlock = some g ∨ g = W.heap.size + 1 + 1)
    (hown : W2.ownsRow B 36 1 v' (Ls.length + 1) (hs ++ [.slice (some ⟨W.heap.size, 0, none⟩) 2 2])) : SRow W2 B v' (Ls ++ [pl (x, y)]) := by
  have hlt : ∀ k, v.ownBlock = some k → k < W.heap.size := fun k e => (ho.lt k e).2
  refine SRow.push (W := W.alloc (.cells #[.int .i64 x, .int .i64 y] 2)) (ho.alloc _) (fun i hi => ?_) (pl_hdr (W := W) x y ⟨hB, fun e => by have := hlt _ e; omega⟩) ((World.grownBy_alloc _ _ _).trans hgrow) (fun b hb h1 h2 => ?_) hown
  · obtain ⟨h, h1, h2⟩ := hr i hi
    exact ⟨h, h1, h2.kept (by simp) fun b hb hp => ⟨Below.heap_alloc _ _ b hb, hp⟩⟩
  · rw [hg] at h2
    injection h2 with h2
    subst h2
    simp at hb
    rcases hat with h3 | h3
    · exact h1 h3
    · omega
theorem news2 (w : World) (o : Obj) (v : Value) (t : TypeId) : ∀ j u, ([v] : List Value)[j]? = some u → ((w.alloc o).alloc (.cells #[v] t)).cell? ((⟨w.heap.size + 1, 0, none⟩ : Addr).add j) = some u := by
  have h := heap_alloc_new (w.alloc o) (.cells #[v] t)
  rw [World.size_alloc] at h
  exact World.news_of_block h
set_option maxRecDepth 20000 in
set_option maxHeartbeats 4000000 in
theorem sOrder (p pw po d chk c : Int) (C K : Nat) (w : World) (c1 : 1 ≤ c) (c16 : c ≤ 16) (c2 : c ≤ d) (d2 : d ≤ 1500) (k1 : 1 ≤ chk) (k2 : chk ≤ 64) (hC : c = (C : Int)) (hK : chk = (K : Int)) :
    Calls Try.prog 63 #[.agg #[.int .i64 p, .int .i64 pw, .int .i64 po, .int .i64 d, .int .i64 chk, .int .i64 c]] w (NewSRow w ((ordL d c C K).map pl)) := by
  obtain ⟨i0, hi, hz0, hz1, hz2⟩ := info_parts infoRow
  have hcz : ¬ (c = 0) := by omega
  have hd0 : 0 ≤ d := by omega
  have q1 : d / c ≤ d := Int.ediv_le_self _ (by omega)
  have q0 : 0 ≤ d / c := Int.ediv_nonneg (by omega) (by omega)
  have HC := Lib.hid hC
  have HK := Lib.hid hK
  have HP := Lib.hid (part1_spec hC c1 c2 d2)
  have HO0 : Hid (SRow ((w.alloc (.cells #[.int .i64 p, .int .i64 pw, .int .i64 po, .int .i64 d, .int .i64 chk, .int .i64 c] 29)).alloc (.cells #[] 36)) (w.heap.size + 1) (.slice (some ⟨w.heap.size + 1, 0, none⟩) 0 0) []) := by
    have := SRow.lit (w.alloc (.cells #[.int .i64 p, .int .i64 pw, .int .i64 po, .int .i64 d, .int .i64 chk, .int .i64 c] 29)) (w.heap.size + 1) (by simp)
    unfold Hid
    simpa using this
  have HL0 : Hid (Lay6 ((w.alloc (.cells #[.int .i64 p, .int .i64 pw, .int .i64 po, .int .i64 d, .int .i64 chk, .int .i64 c] 29)).alloc (.cells #[] 36)) w.heap.size p pw po d chk c) :=
    (Lay6.new w _ p pw po d chk c).below ((Below.refl _ _).alloc (Nat.le_refl _) _) (by simp)
  clear hC hK
  go_enter Try.func63, Try.ntmps63
  go_wp2
  go_loopw [3, 4] (fun v i wr => ∃ (e m : Nat), (e : Int) ≤ d / c + 1 ∧ i = .int .i64 e ∧ m ≤ e * 16 ∧ Hid ((part1 d c C e).length = m) ∧ Hid (SRow wr (w.heap.size + 1) v ((part1 d c C e).map pl)) ∧ Hid (Lay6 wr w.heap.size p pw po d chk c) ∧ Below w.heap.size w wr) (fun _ i _ => (d / c + 1 - intOf i).toNat)
  case atStart => exact ⟨0, 0, by simp; omega, rfl, by omega, rfl, HO0.out, HL0.out, by repeat' (first | (with_reducible exact Below.refl _ _) | (with_reducible assumption) | (with_reducible refine Below.alloc ?_ ?_ _) | (with_reducible refine Below.setCell ?_ ?_ _) | (with_reducible refine Below.drew ?_) | (with_reducible refine below_drewN ?_ _) | (with_reducible refine below_via (by with_reducible assumption) ?_ ?_) | go_size)⟩
  case round =>
    obtain ⟨e, m, he, rfl, hm, HM, HS, HL, hbel⟩ := hrel
    by_cases hlt : (e : Int) ≤ d / c
    · obtain ⟨hlt0, a0, a1, a2, a3, a4, a5⟩ := HL.out
      obtain ⟨wo, hwo⟩ : ∃ wo : World, wo = wr := ⟨_, rfl⟩
      subst hwo
      go_wp2
      go_loopw [3, 5] (fun v i wr => ∃ (k m : Nat), k ≤ C ∧ i = .int .i64 k ∧ m ≤ e * 16 + k ∧ Hid ((part1 d c C e ++ row1 d c e k).length = m) ∧ Hid (SRow wr (w.heap.size + 1) v ((part1 d c C e ++ row1 d c e k).map pl)) ∧ Hid (Lay6 wr w.heap.size p pw po d chk c) ∧ Below w.heap.size w wr) (fun _ i _ => C - (intOf i).toNat)
      case atStart => exact ⟨0, m, Nat.zero_le _, rfl, by omega, by rw [row1, List.append_nil]; exact HM.out, by rw [row1, List.append_nil]; exact HS.out, HL.out, hbel⟩
      case round =>
        clear a0 a1 a2 a3 a4 a5 hlt0 hbel HM HS HL hm
        obtain ⟨k, m, hk, rfl, hm, HM, HS, HL, hbel⟩ := hrel
        obtain ⟨hlt0, a0, a1, a2, a3, a4, a5⟩ := HL.out
        by_cases hkc : k < C
        · have hkI : (k : Int) < c := by have := HC.out; omega
          by_cases hsh : (e : Int) < shareZ d c (k : Int)
          · have HRow : Hid (part1 d c C e ++ row1 d c e (k + 1) = (part1 d c C e ++ row1 d c e k) ++ [((k : Int), (e : Int))]) := by
              unfold Hid; rw [row1, if_pos hsh, List.append_assoc]
            go_wp2_with fail
            refine (sShare p pw po d chk c _ _ c1 c2 d2).mono ?_
            rintro e1 w1 ⟨rfl, hb1⟩
            have hz1' := hb1.size
            have HS1 := HS.out.keep hb1
            obtain ⟨hs, ho, hr⟩ := HS1
            have hown0 := (ho.alloc (.cells #[.int .i64 (k : Int), .int .i64 (e : Int)] 2)).alloc (.cells #[.slice (some ⟨w1.heap.size, 0, none⟩) 2 2] 36)
            have hnew := news2 w1 (.cells #[.int .i64 (k : Int), .int .i64 (e : Int)] 2) (.slice (some ⟨w1.heap.size, 0, none⟩) 2 2) 36
            have HLen := Lib.hid (show ((part1 d c C e ++ row1 d c e k).map pl).length = m by rw [List.length_map]; exact HM.out)
            rw [HLen.out] at hown0
            have HR := Lib.hid hr
            have HOW := Lib.hid ho
            have HN := Lib.hid hown0
            have HNW := Lib.hid hnew
            clear hr ho hown0 hnew
            go_wp2_with (at_builtin; refine wpList_append_lies _ rfl _ _ 86 rfl (w.heap.size + 1) 36 i0 _ 1 24 Try.underlying86 hi hz0 hz1 hz2 rfl (by decide) _ _ _ rfl HN.out ⟨w1.heap.size + 1, 0, none⟩ 1 1 [.slice (some ⟨w1.heap.size, 0, none⟩) 2 2] rfl rfl HNW.out (by simp [Value.oneCell']) (by omega) (by unfold maxLen; omega) (by omega) (by simp; omega) (w1.heap.size + 1 + 1) (by simp) ?_; intro g cap w2 hown2 hgrow2 hat2 hlt2)
            have HQ : Hid (SRow w2 (w.heap.size + 1) (.slice (some ⟨g, 0, none⟩) (m + 1) cap) ((part1 d c C e ++ row1 d c e (k + 1)).map pl)) := by
              have := srow_push (x := (k : Int)) (y := (e : Int)) (by omega) HOW.out HR.out hgrow2 g rfl hat2 (by rw [HLen.out]; exact hown2)
              rw [HRow.out, List.map_append]
              exact this
            have HB2 : Hid (Below (w.heap.size + 1) w1 w2) := ((((Below.refl _ w1).alloc (by omega) _).alloc (by simp; omega) _).grown hgrow2 (by simp; omega) (fun j e => (HOW.out.lt j e).1))
            have HL2 : Hid (Lay6 w2 w.heap.size p pw po d chk c) := (HL.out.below hb1 hlt0).below HB2.out (by omega)
            have HB3 : Hid (Below w.heap.size w w2) := (hbel.trans (hb1.mono (by omega))).trans (HB2.out.mono (by omega))
            have HM2 : Hid ((part1 d c C e ++ row1 d c e (k + 1)).length = m + 1) := by unfold Hid; rw [HRow.out, List.length_append, HM.out]; rfl
            clear hown2 hgrow2 hat2 hlt2 HB2 HR HOW HN HNW HLen HS hb1
            go_wp2
            go_roundw
            case rel => exact ⟨k + 1, m + 1, by omega, by go_num, by omega, HM2, HQ, HL2, HB3.out⟩
            case measure => simp [intOf]; omega
          · have HRow : Hid (part1 d c C e ++ row1 d c e (k + 1) = part1 d c C e ++ row1 d c e k) := by
              unfold Hid; rw [row1, if_neg hsh, List.append_nil]
            go_wp2_with fail
            refine (sShare p pw po d chk c _ _ c1 c2 d2).mono ?_
            rintro e1 w1 ⟨rfl, hb1⟩
            have hz1' := hb1.size
            have HBB := Lib.hid hb1
            have HL2 : Hid (Lay6 w1 w.heap.size p pw po d chk c) := HL.out.below hb1 hlt0
            have HB3 : Hid (Below w.heap.size w w1) := hbel.trans (hb1.mono (by omega))
            have HM2 : Hid ((part1 d c C e ++ row1 d c e (k + 1)).length = m) := by unfold Hid; rw [HRow.out, HM.out]
            clear hb1
            go_wp2
            go_roundw
            case rel => exact ⟨k + 1, m, by omega, by go_num, by omega, HM2, by unfold Hid; rw [HRow.out]; exact HS.out.keep HBB.out, HL2, HB3.out⟩
            case measure => simp [intOf]; omega
        · have HkC : Hid (k = C) := by unfold Hid; omega
          have hkI : c ≤ (k : Int) := by have := HC.out; omega
          have HE : Hid (part1 d c C e ++ row1 d c e k = part1 d c C (e + 1)) := by unfold Hid; rw [HkC.out]; rfl
          go_wp2
          go_roundw
          case rel => exact ⟨e + 1, m, by simp; omega, by go_num, by have := HC.out; omega, by rw [← HE.out]; exact HM.out, by rw [← HE.out]; exact HS.out, HL.out, hbel⟩
          case measure => simp [intOf]; omega
    · have HEE : Hid (part1 d c C e = part1 d c C (longZ d c)) := by
        unfold Hid
        rw [← HP.out]
        congr 1
        omega
      have hm9 : m ≤ 30000 := by omega
      have HM1 : Hid ((part1 d c C (longZ d c)).length = m) := by rw [← HEE.out]; exact HM.out
      obtain ⟨hlt0, a0, a1, a2, a3, a4, a5⟩ := HL.out
      obtain ⟨wo, hwo⟩ : ∃ wo : World, wo = wr := ⟨_, rfl⟩
      subst hwo
      obtain ⟨M, hM⟩ : ∃ M : Nat, m = M := ⟨_, rfl⟩
      subst hM
      go_wp2
      go_loopw [3, 6] (fun v i wr => ∃ (e m : Nat), e ≤ K ∧ i = .int .i64 e ∧ m ≤ 30000 + e * 16 ∧ Hid ((part1 d c C (longZ d c) ++ part2 d c C e).length = m) ∧ Hid (SRow wr (w.heap.size + 1) v ((part1 d c C (longZ d c) ++ part2 d c C e).map pl)) ∧ Hid (Lay6 wr w.heap.size p pw po d chk c) ∧ Below w.heap.size w wr) (fun _ i _ => K - (intOf i).toNat)
      case atStart => exact ⟨0, m, Nat.zero_le _, rfl, by omega, by rw [part2, List.append_nil]; exact HM1.out, by rw [part2, List.append_nil, ← HEE.out]; exact HS.out, HL.out, hbel⟩
      case round =>
        clear a0 a1 a2 a3 a4 a5 hlt0 hbel HM HS HL hm HM1 he hlt HEE hm9
        obtain ⟨e, m, he, rfl, hm, HM, HS, HL, hbel⟩ := hrel
        obtain ⟨hlt0, a0, a1, a2, a3, a4, a5⟩ := HL.out
        by_cases hec : e < K
        · have heI : (e : Int) < chk := by have := HK.out; omega
          have heK : e < 64 := by have := HK.out; omega
          obtain ⟨wo, hwo⟩ : ∃ wo : World, wo = wr := ⟨_, rfl⟩
          subst hwo
          go_wp2
          go_loopw [3, 7] (fun v i wr => ∃ (k m : Nat), k ≤ C ∧ i = .int .i64 k ∧ m ≤ 30000 + e * 16 + k ∧ Hid ((part1 d c C (longZ d c) ++ (part2 d c C e ++ row2 d c e k)).length = m) ∧ Hid (SRow wr (w.heap.size + 1) v ((part1 d c C (longZ d c) ++ (part2 d c C e ++ row2 d c e k)).map pl)) ∧ Hid (Lay6 wr w.heap.size p pw po d chk c) ∧ Below w.heap.size w wr) (fun _ i _ => C - (intOf i).toNat)
          case atStart => exact ⟨0, m, Nat.zero_le _, rfl, by omega, by rw [row2, List.append_nil]; exact HM.out, by rw [row2, List.append_nil]; exact HS.out, HL.out, hbel⟩
          case round =>
            clear a0 a1 a2 a3 a4 a5 hlt0 hbel HM HS HL hm
            obtain ⟨k, m, hk, rfl, hm, HM, HS, HL, hbel⟩ := hrel
            obtain ⟨hlt0, a0, a1, a2, a3, a4, a5⟩ := HL.out
            by_cases hkc : k < C
            · have hkI : (k : Int) < c := by have := HC.out; omega
              have hk16 : k < 16 := by have := HC.out; omega
              have HRow : Hid (part1 d c C (longZ d c) ++ (part2 d c C e ++ row2 d c e (k + 1)) = part1 d c C (longZ d c) ++ (part2 d c C e ++ row2 d c e k) ++ [((k : Int), shareZ d c (k : Int) + (e : Int))]) := by
                unfold Hid; simp only [row2, List.append_assoc]
              obtain ⟨sb1, sb2⟩ := share_bd (k := (k : Int)) c1 c2 d2
              go_wp2_with fail
              refine (sShare p pw po d chk c _ _ c1 c2 d2).mono ?_
              rintro e1 w1 ⟨rfl, hb1⟩
              have hz1' := hb1.size
              have HS1 := HS.out.keep hb1
              obtain ⟨hs, ho, hr⟩ := HS1
              have hown0 := (ho.alloc (.cells #[.int .i64 (k : Int), .int .i64 (shareZ d c (k : Int) + (e : Int))] 2)).alloc (.cells #[.slice (some ⟨w1.heap.size, 0, none⟩) 2 2] 36)
              have hnew := news2 w1 (.cells #[.int .i64 (k : Int), .int .i64 (shareZ d c (k : Int) + (e : Int))] 2) (.slice (some ⟨w1.heap.size, 0, none⟩) 2 2) 36
              have HLen := Lib.hid (show ((part1 d c C (longZ d c) ++ (part2 d c C e ++ row2 d c e k)).map pl).length = m by rw [List.length_map]; exact HM.out)
              rw [HLen.out] at hown0
              have HR := Lib.hid hr
              have HOW := Lib.hid ho
              have HN := Lib.hid hown0
              have HNW := Lib.hid hnew
              clear hr ho hown0 hnew
              go_wp2_with (at_builtin; refine wpList_append_lies _ rfl _ _ 86 rfl (w.heap.size + 1) 36 i0 _ 1 24 Try.underlying86 hi hz0 hz1 hz2 rfl (by decide) _ _ _ rfl HN.out ⟨w1.heap.size + 1, 0, none⟩ 1 1 [.slice (some ⟨w1.heap.size, 0, none⟩) 2 2] rfl rfl HNW.out (by simp [Value.oneCell']) (by omega) (by unfold maxLen; omega) (by omega) (by simp; omega) (w1.heap.size + 1 + 1) (by simp) ?_; intro g cap w2 hown2 hgrow2 hat2 hlt2)
              have HQ : Hid (SRow w2 (w.heap.size + 1) (.slice (some ⟨g, 0, none⟩) (m + 1) cap) ((part1 d c C (longZ d c) ++ (part2 d c C e ++ row2 d c e (k + 1))).map pl)) := by
                have := srow_push (x := (k : Int)) (y := (shareZ d c (k : Int) + (e : Int))) (by omega) HOW.out HR.out hgrow2 g rfl hat2 (by rw [HLen.out]; exact hown2)
                rw [HRow.out, List.map_append]
                exact this
              have HB2 : Hid (Below (w.heap.size + 1) w1 w2) := ((((Below.refl _ w1).alloc (by omega) _).alloc (by simp; omega) _).grown hgrow2 (by simp; omega) (fun j e => (HOW.out.lt j e).1))
              have HL2 : Hid (Lay6 w2 w.heap.size p pw po d chk c) := (HL.out.below hb1 hlt0).below HB2.out (by omega)
              have HB3 : Hid (Below w.heap.size w w2) := (hbel.trans (hb1.mono (by omega))).trans (HB2.out.mono (by omega))
              have HM2 : Hid ((part1 d c C (longZ d c) ++ (part2 d c C e ++ row2 d c e (k + 1))).length = m + 1) := by unfold Hid; rw [HRow.out, List.length_append, HM.out]; rfl
              clear hown2 hgrow2 hat2 hlt2 HB2 HR HOW HN HNW HLen HS hb1
              go_wp2
              go_roundw
              case rel => exact ⟨k + 1, m + 1, by omega, by go_num, by omega, HM2, HQ, HL2, HB3.out⟩
              case measure => simp [intOf]; omega
            · have HkC : Hid (k = C) := by unfold Hid; omega
              have hkI : c ≤ (k : Int) := by have := HC.out; omega
              have HE : Hid (part1 d c C (longZ d c) ++ (part2 d c C e ++ row2 d c e k) = part1 d c C (longZ d c) ++ part2 d c C (e + 1)) := by unfold Hid; rw [HkC.out]; simp only [part2]
              go_wp2
              go_roundw
              case rel => exact ⟨e + 1, m, by omega, by go_num, by have := HC.out; omega, by rw [← HE.out]; exact HM.out, by rw [← HE.out]; exact HS.out, HL.out, hbel⟩
              case measure => simp [intOf]; omega
        · have HeK : Hid (e = K) := by unfold Hid; omega
          have heI : chk ≤ (e : Int) := by have := HK.out; omega
          have HE : Hid (part1 d c C (longZ d c) ++ part2 d c C e = ordL d c C K) := by unfold Hid; rw [HeK.out]; rfl
          have hm9 : m ≤ 1048576 := by have := HK.out; omega
          go_wp2
          go_returns
          have h1 := HS.out
          rw [HE.out] at h1
          obtain ⟨a, cp, e1⟩ := h1.shape
          refine ⟨a, cp, by rw [e1]; rfl, by rw [← e1]; exact h1.mono (by omega), hbel, by rw [List.length_map, ← HE.out, HM.out]; exact hm9⟩
end Go.Proofs.Ytdpifddmhbeklaa
