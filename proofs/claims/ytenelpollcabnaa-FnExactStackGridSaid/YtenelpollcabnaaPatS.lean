/-
  DERIVED. The patterns: spec.l17Patterns.
-/
import Derived.Test.YtenelpollcabnaaPatP
namespace Go.Proofs.Ytenelpollcabnaa
open Go.RowKit
set_option linter.unusedVariables false
theorem one_hdr {W : World} {p : Nat → Prop} (x : Int) (hp : p W.heap.size) : HdrOk (W.alloc (.cells #[.int .i64 x] 2)) p [x] (.slice (some ⟨W.heap.size, 0, none⟩) 1 1) := by
  refine ⟨some ⟨W.heap.size, 0, none⟩, 1, rfl, fun _ => ⟨W.heap.size, 0, rfl, hp, by simp, fun j hj => ?_⟩⟩
  have hb := Blk.new W 2 #[.int .i64 x]
  rw [hb.cell]
  have : j = 0 := by simp at hj; omega
  subst this
  rfl
/-- A slice of slices of one row, just built. -/
theorem srow_lit1 (w : World) (x : Int) : SRow ((w.alloc (.cells #[.int .i64 x] 2)).alloc (.cells #[.slice (some ⟨w.heap.size, 0, none⟩) 1 1] 24)) w.heap.size (.slice (some ⟨w.heap.size + 1, 0, none⟩) 1 1) [[x]] := by
  have h1 := World.ownsRow_lit (base := w.heap.size) (e := 24) (size := 1) (w.alloc (.cells #[.int .i64 x] 2)) #[.slice (some ⟨w.heap.size, 0, none⟩) 1 1] 1 (by simp) (by unfold maxLen; omega) (by simp)
  simp only [World.size_alloc] at h1
  refine ⟨_, h1, fun i hi => ?_⟩
  have : i = 0 := by simp at hi; omega
  subst this
  refine ⟨_, rfl, ?_⟩
  refine (one_hdr (W := w) (p := fun b => b = w.heap.size) x rfl).kept (by simp) fun b hb hp => ⟨Below.heap_alloc _ _ b hb, ?_⟩
  subst hp
  exact ⟨Nat.le_refl _, by simp [Value.ownBlock]⟩
theorem own_hdr {W : World} {base n cp g : Nat} {zs : List Int} {p : Nat → Prop} (h : W.ownsRow base 2 1 (.slice (some ⟨g, 0, none⟩) n cp) n (zs.map (Value.int .i64))) (hn : zs.length = n) (hp : p g) : HdrOk W p zs (.slice (some ⟨g, 0, none⟩) n cp) := by
  subst hn
  refine ⟨_, _, rfl, fun h0 => ⟨g, 0, rfl, hp, (h.lt g rfl).2, fun j hj => ?_⟩⟩
  have := h.cellAt j (by omega)
  rw [Nat.zero_add]
  rw [this]
  simp [List.getD_eq_getElem?_getD, List.getElem?_eq_getElem hj]
theorem own_one (w : World) (x : Int) : (w.alloc (.cells #[.int .i64 x] 2)).ownsRow w.heap.size 2 1 (.slice (some ⟨w.heap.size, 0, none⟩) 1 1) 1 [.int .i64 x] := by
  have := World.ownsRow_lit (base := w.heap.size) (e := 2) (size := 1) w #[.int .i64 x] 1 (Nat.le_refl _) (by unfold maxLen; omega) (by simp)
  simpa using this
set_option maxRecDepth 20000 in
set_option maxHeartbeats 8000000 in
theorem sPats : ∀ (p s : Nat) (w : World), p + 1 ≤ s → s ≤ 11 → Calls Try.prog 98 #[.int .i64 ((p : Int) + 1), .int .i64 (s : Int)] w (NewSRow w (pats p s)) := by
  obtain ⟨i0, hi, hiz, hi1, hi2⟩ := info_parts infoRow
  obtain ⟨jI, hj, hy0, hy1, hy2⟩ := info_parts infoInt
  intro p
  induction p with
  | zero =>
    intro s w hp hs
    go_enter Try.func98, Try.ntmps98
    go_wp2
    go_returns
    exact ⟨_, _, rfl, srow_lit1 w s, by repeat' (first | (with_reducible exact Below.refl _ _) | (with_reducible assumption) | (with_reducible refine Below.alloc ?_ ?_ _) | (with_reducible refine Below.setCell ?_ ?_ _) | (with_reducible refine Below.drew ?_) | (with_reducible refine below_drewN ?_ _) | (with_reducible refine below_via (by with_reducible assumption) ?_ ?_) | go_size), by simp [pats]⟩
  | succ p ih =>
    intro s w hp hs
    have HI := Lib.hid ih
    have HO0 : Hid (SRow (w.alloc (.cells #[] 24)) w.heap.size (.slice (some ⟨w.heap.size, 0, none⟩) 0 0) []) := SRow.lit w w.heap.size (Nat.le_refl _)
    have HLn : Hid (∀ k, k ≤ s → (patK (fun f => pats p (s - f)) k).length ≤ 2048) := fun k hk => by
      have h1 := patK_len (g := fun f => pats p (s - f)) (s := s) (fun f _ => pats_len p (s - f)) k hk
      have h2 : 2 ^ s ≤ 2 ^ 11 := Nat.pow_le_pow_right (by omega) hs
      have h3 := Nat.le_trans (Nat.le_add_right _ (2 ^ (s - k))) h1
      exact Nat.le_trans h3 h2
    obtain ⟨q, hq⟩ : ∃ q : Int, ((p + 1 : Nat) : Int) + 1 = q := ⟨_, rfl⟩
    have hq1 : q ≤ (p : Int) + 2 := by omega
    have hq2 : (p : Int) + 2 ≤ q := by omega
    rw [hq]
    clear hq
    have t0 : (q == 1) = false := by simp; omega
    clear ih
    go_enter Try.func98, Try.ntmps98
    go_wp2
    go_loopw [5, 6] (fun v i wr => ∃ k : Nat, k ≤ s - (p + 1) ∧ i = .int .i64 ((k : Int) + 1) ∧ Hid (SRow wr w.heap.size v (patK (fun f => pats p (s - f)) k)) ∧ Below w.heap.size w wr) (fun _ i _ => s - (intOf i).toNat)
    case atStart => exact ⟨0, Nat.zero_le _, rfl, HO0.out, by repeat' (first | (with_reducible exact Below.refl _ _) | (with_reducible assumption) | (with_reducible refine Below.alloc ?_ ?_ _) | (with_reducible refine Below.setCell ?_ ?_ _) | (with_reducible refine Below.drew ?_) | (with_reducible refine below_drewN ?_ _) | (with_reducible refine below_via (by with_reducible assumption) ?_ ?_) | go_size)⟩
    case round =>
      obtain ⟨k, hk, rfl, HS, hbel⟩ := hrel
      have hzr := hbel.size
      by_cases hlt : k < s - (p + 1)
      · have hkI : (k : Int) + 1 ≤ (s : Int) - q + 1 := by omega
        obtain ⟨t, ht⟩ : ∃ t : Nat, s - (k + 1) = t := ⟨_, rfl⟩
        have htI : (s : Int) - ((k : Int) + 1) = (t : Int) := by omega
        have HC : Hid (∀ (a b : Int) (W : World), a = (p : Int) + 1 → b = (t : Int) → Calls Try.prog 98 #[.int .i64 a, .int .i64 b] W (NewSRow W (pats p t))) := fun a b W ha hb => by
          subst ha hb
          exact HI.out t W (by omega) (by omega)
        have HGt : Hid (patK (fun f => pats p (s - f)) (k + 1) = patK (fun f => pats p (s - f)) k ++ (pats p t).map (((k : Int) + 1) :: ·)) := by
          unfold Hid
          rw [← ht]
          rfl
        have HRw : Hid (∀ x ∈ pats p t, x.length = p + 1) := pats_row p t
        have hR9 : (pats p t).length ≤ 2048 := Nat.le_trans (pats_len p t) (show 2 ^ t ≤ 2 ^ 11 from Nat.pow_le_pow_right (by omega) (by omega))
        have hK9 := HLn.out k (by omega)
        generalize pats p t = R at HC HGt HRw hR9
        obtain ⟨n, hn⟩ : ∃ n, R.length = n := ⟨_, rfl⟩
        have HN := Lib.hid hn
        rw [hn] at hR9
        have hkk := hkI
        clear ht hn
        go_wp2_with fail
        refine (HC.out _ _ _ (by omega) (by omega)).mono ?_
        rintro e w1 ⟨a, cp, rfl, hS1, hb1, hL1⟩
        have hz1 := hb1.size
        rw [HN.out]
        have HRR : Hid (RRow w1 wr.heap.size w1.heap.size a n R) := by have := hS1.read; rw [HN.out] at this; exact this
        have HS1 := Lib.hid (HS.out.keep hb1)
        have HO1 := Lib.hid HS.out.lt
        have HB1 : Hid (Below w.heap.size w w1) := hbel.trans (hb1.mono (by omega))
        obtain ⟨B, hB⟩ : ∃ B, wr.heap.size = B := ⟨_, rfl⟩
        obtain ⟨Z, hZ⟩ : ∃ Z, w1.heap.size = Z := ⟨_, rfl⟩
        rw [hB] at HRR
        rw [hZ] at HRR
        have hBZ : B ≤ Z := by omega
        have hB0 : w.heap.size ≤ B := by omega
        have HBB := Lib.hid hB
        have HZZ := Lib.hid hZ
        clear hS1 hb1 hbel HS hL1 hB hZ
        go_wp2
        go_loopw [5, 8] (fun v i wq => ∃ j : Nat, j ≤ n ∧ i = .int .i64 j ∧ Hid (SRow wq w.heap.size v (patK (fun f => pats p (s - f)) k ++ (R.take j).map (((k : Int) + 1) :: ·))) ∧ Hid (Kin B Z w1 wq) ∧ Hid (∀ b, v.ownBlock = some b → b < B ∨ Z ≤ b) ∧ Below w.heap.size w wq) (fun _ i _ => n - (intOf i).toNat)
        case atStart => exact ⟨0, Nat.zero_le _, rfl, by simpa using HS1, Kin.refl _ _ _, fun b hb => by have := HO1.out b hb; have := HBB.out; omega, HB1.out⟩
        case round =>
          clear HS1 HO1 HB1
          obtain ⟨j, hjn, rfl, HS, HK, HO, hbel⟩ := hrel
          by_cases hlt2 : j < n
          · obtain ⟨b1, off1, a2, cp2, rfl, hb1, hc1, hr1⟩ := (HRR.out.kin HK.out).at hlt2
            have hjR : j < R.length := by rw [HN.out]; exact hlt2
            have hrl := HRw.out _ (getD_mem' hjR)
            have HTk : Hid ((R.take (j + 1)).map (((k : Int) + 1) :: ·) = (R.take j).map (((k : Int) + 1) :: ·) ++ [((k : Int) + 1) :: R.getD j []]) := by
              unfold Hid
              rw [take_succ' hjR, List.map_append]
              rfl
            have hmn : (R.take j).length = j := by rw [List.length_take]; omega
            generalize hrow : R.getD j [] = row at hc1 hr1 hrl HTk
            rw [hrl] at hc1 hr1
            obtain ⟨b2, off2, rfl, hb2, hc2⟩ := hr1.2 (by omega)
            have HC2 := Lib.hid hc2
            have HRL := Lib.hid hrl
            have j0 : (0 : Int) ≤ (j : Int) := by omega
            have j1 : (j : Int) < (n : Int) := by omega
            have HLen : Hid ((patK (fun f => pats p (s - f)) k ++ (R.take j).map (((k : Int) + 1) :: ·)).length ≤ 4096) := by
              unfold Hid
              rw [List.length_append, List.length_map, hmn]
              omega
            have hK3 := HK.out.1
            have hwq := hbel.size
            clear hr1 hc2 hrl hrow hmn
            have HN1 : Hid (∀ j u, (row.map (Value.int .i64))[j]? = some u → (wr.alloc (.cells #[.int .i64 ((k : Int) + 1)] 2)).cell? ((⟨b2, off2, none⟩ : Addr).add j) = some u) := rd_news HRL.out (fun i hi => (((Below.refl _ wr).alloc (Nat.le_refl _) _).cell (p := ⟨b2, off2 + i, none⟩) hb2).trans (HC2.out i hi))
            have HLT : Hid (∀ b, u5.ownBlock = some b → b < wr.heap.size) := fun b hb => (HS.out.lt b hb).2
            have HLT2 : Hid (∀ b, u5.ownBlock = some b → w.heap.size ≤ b) := fun b hb => (HS.out.lt b hb).1
            go_wp2_with (first
              | (at_builtin; refine wpList_append_lies _ rfl (.tmp 37) (.tmp 41) 24 rfl wr.heap.size 2 jI _ 1 8 Try.underlying24 hj hy0 hy1 hy2 rfl (by decide) _ 1 [.int .i64 ((k : Int) + 1)] rfl (own_one wr _) ⟨b2, off2, none⟩ (p + 1) cp2 (row.map (Value.int .i64)) rfl (by rw [List.length_map, HRL.out]; omega) HN1.out (by simp [Value.oneCell']) (by omega) (by unfold maxLen; omega) (by omega) (by simp) _ rfl ?_; intro g1 cap1 w2 hown1 hgrow1 hat1 hlt1; have hbw : Below wr.heap.size wr w2 := ((Below.refl _ wr).alloc (Nat.le_refl _) _).grown hgrow1 (by simp) (fun j e => by cases e; exact Nat.le_refl _); have hg1 : wr.heap.size ≤ g1 := (by rcases hat1 with h | h; (· cases h; exact Nat.le_refl _); (· simp at h; omega)); obtain ⟨hs5, ho5, hr5⟩ := HS.out.keep hbw; have HH := Lib.hid (own_hdr (p := fun b => w.heap.size ≤ b ∧ u5.ownBlock ≠ some b) (zs := ((k : Int) + 1) :: row) hown1 (by simp [HRL.out]; omega) ⟨by omega, fun e => by have := HLT.out _ e; omega⟩); have HO5 := Lib.hid ho5; have HR5 := Lib.hid hr5; have HBW := Lib.hid hbw; have hsw := hbw.size; clear hown1 hgrow1 hat1 hlt1 hbw ho5 hr5)
              | (at_builtin; refine wpList_append_lies _ rfl (.tmp 35) (.tmp 43) 102 rfl w.heap.size 24 i0 _ 1 24 Try.underlying102 hi hiz hi1 hi2 rfl (by decide) _ _ _ rfl (HO5.out.alloc _) ⟨w2.heap.size, 0, none⟩ 1 1 [.slice (some ⟨g1, 0, none⟩) (1 + (p + 1)) cap1] rfl rfl (World.news_of_block (heap_alloc_new w2 _)) (by simp [Value.oneCell']) (by omega) (by unfold maxLen; have := HLen.out; omega) (by have := HLen.out; omega) (by simp; omega) (w2.heap.size + 1) (by simp) ?_; intro g2 cap2 w3 hown2 hgrow2 hat2 hlt2; have HQ := Lib.hid (srow_add HO5.out HR5.out HH.out _ hgrow2 g2 rfl hat2 hown2); have HG2 := Lib.hid hgrow2; have HA2 := Lib.hid hat2; clear hown2 hgrow2 hat2 hlt2))
            have HZ2 : Z ≤ wr.heap.size := by have := HZZ.out; omega
            have HK4 : Hid (Kin B Z w1 w3) := ((HK.out.trans (Kin.below HBW.out HZ2)).trans (Kin.below ((Below.refl _ w2).alloc (Nat.le_refl _) _) (by omega))).trans (Kin.grown HG2.out (by simp; omega) HO.out)
            have HB4 : Hid (Below w.heap.size w w3) := ((hbel.trans (HBW.out.mono (by omega))).alloc (by omega) _).grown HG2.out (by simp; omega) HLT2.out
            have HO4 : Hid (∀ (l c b : Nat), (Value.slice (some ⟨g2, 0, none⟩) l c).ownBlock = some b → b < B ∨ Z ≤ b) := fun l c b hb => by
              have hb' : g2 = b := by simpa [Value.ownBlock] using hb
              rcases HA2.out with h | h
              · rw [hb'] at h; exact HO.out _ h
              · right; omega
            clear HG2 HA2 HBW HH HO5 HR5 HS HK HO hbel
            go_wp2
            go_roundw
            case rel => exact ⟨j + 1, by omega, by go_num, by unfold Hid; rw [HTk.out, ← List.append_assoc]; have h := HQ.out; simp only [List.length_append, List.length_map, List.length_take] at h ⊢; exact h, HK4, fun b hb => HO4.out _ _ b hb, HB4.out⟩
            case measure => simp [intOf]; omega
          · have HJ : Hid (j = n) := (by omega : j = n)
            have HE : Hid (patK (fun f => pats p (s - f)) k ++ (R.take j).map (((k : Int) + 1) :: ·) = patK (fun f => pats p (s - f)) (k + 1)) := by
              unfold Hid
              rw [HGt.out, HJ.out, ← HN.out, List.take_length]
            go_wp2
            go_roundw
            case rel => exact ⟨k + 1, by omega, by go_num, by rw [← HE.out]; exact HS.out, hbel⟩
            case measure => simp [intOf]; omega
      · have HE : Hid (patK (fun f => pats p (s - f)) k = pats (p + 1) s) := by
          unfold Hid
          rw [show k = s - (p + 1) by omega]
          rfl
        have hkI : (s : Int) - q + 1 < (k : Int) + 1 := by omega
        have hL9 : (patK (fun f => pats p (s - f)) k).length ≤ 1048576 := by have := HLn.out k (by omega); omega
        go_wp2
        go_returns
        have h1 := HS.out
        rw [HE.out] at h1
        rw [HE.out] at hL9
        obtain ⟨a, cp, e1⟩ := h1.shape
        exact ⟨a, cp, by rw [e1]; rfl, by rw [← e1]; exact h1, hbel, hL9⟩
end Go.Proofs.Ytenelpollcabnaa
