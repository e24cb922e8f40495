/-
  DERIVED. The walk of FnRows.
-/
import Derived.Test.YtdpifddmhbeklaaPntR
import Derived.Test.YtdpifddmhbeklaaPatG
import Derived.Test.YtdpifddmhbeklaaDRowC
import Derived.Test.YtdpifddmhbeklaaDice
import Derived.Test.YtdpifddmhbeklaaLike
import Derived.BigQuiet
namespace Go.Proofs.Ytdpifddmhbeklaa
open Go.RowKit
set_option linter.unusedVariables false
theorem own_caps {w : World} {base n c m : Nat} {t : TypeId} {a : Option Addr} {xs : List Value} (h : w.ownsRow base t m (.slice a n c) n xs) : n ≤ c ∧ c ≤ maxLen := by
  rcases h.2 with ⟨hv, h0⟩ | ⟨g, cap, cur, hv, hg, hh, h1, h2, _⟩
  · injection hv with _ _ e
    unfold maxLen
    omega
  · injection hv with _ _ e
    omega
/-- What RowCells says of drawn values. -/
theorem rows_case (cl : Int) (zs : List Int) (h1 : zs.length ≤ 13) : ∃ (L : List Int) (code : Int),
    (∀ (a : Option Addr) (cp : Nat) (W : World), Rd W a zs.length zs → Calls Try.prog 29 #[.int .i64 cl, .slice a zs.length cp] W (ResI W L code)) ∧
    (∀ (a : Option Addr) (cp : Nat) (W : World), Rd W a zs.length zs → Calls Try.prog 30 #[.int .i64 cl, .slice a zs.length cp] W (ResI W L code)) ∧
    (code ≠ 0 ∨ (code = 0 ∧ 1 ≤ zs.length ∧ zs.length ≤ 12 ∧ (∀ x ∈ zs, 0 ≤ x ∧ x ≤ 31) ∧ ∃ c : Nat, cl = (c : Int) ∧ c ≤ 2 ∧ L = rowC c zs)) := by
  cases hl : inB (zs.length : Int) 1 12
  · exact ⟨[], 3, fun a cp W h => iRC_lim cl a _ cp W (by omega) hl, fun a cp W h => sRC_lim cl a _ cp W (by omega) hl, .inl (by omega)⟩
  have hl2 := inB_iff.1 hl
  cases hc : inB cl 0 2
  · cases ha : zs.all (fun x => inB x 0 31)
    · exact ⟨[], 2, fun a cp W h => iRC_clu cl a _ cp zs W h hl hc, fun a cp W h => sRC_val cl a _ cp zs W h hl ha, .inl (by omega)⟩
    · exact ⟨[], 2, fun a cp W h => iRC_clu cl a _ cp zs W h hl hc, fun a cp W h => sRC_clu cl a _ cp zs W h hl ha hc, .inl (by omega)⟩
  cases ha : zs.all (fun x => inB x 0 31)
  · exact ⟨[], 2, fun a cp W h => iRC_val cl a _ cp zs W h hl ha hc, fun a cp W h => sRC_val cl a _ cp zs W h hl ha, .inl (by omega)⟩
  · obtain ⟨c0, c2⟩ := inB_iff.1 hc
    obtain ⟨c, rfl⟩ := Int.eq_ofNat_of_zero_le c0
    refine ⟨rowC c zs, 0, fun a cp W h => iRC_ok c a _ cp zs W h hl ha (by omega), fun a cp W h => sRC_ok c a _ cp zs W h hl ha (by omega), .inr ⟨rfl, by omega, by omega, fun x hx => ?_, c, rfl, by omega, rfl⟩⟩
    rw [List.all_eq_true] at ha
    exact inB_iff.1 (ha x hx)
set_option maxRecDepth 100000 in
set_option maxHeartbeats 8000000 in
theorem walk_FnRows (code_a : Option Addr) (code_n code_c : Nat) (code_z : List Int) (w : World) (h_code : Ints .u8 w code_a code_n code_c code_z) :
    Calls Try.prog 7 #[.slice code_a code_n code_c] w fun e w' => e = .returned (.bool true) ∧ Below w.heap.size w w' := by
  obtain ⟨i0, hi, iz0, iz1, iz2⟩ := info_parts infoInt
  have hmx := h_code.max
  have HBY := Lib.hid h_code.bytes
  clear h_code
  by_cases hbig : 4096 < code_n
  · have tb : decide ((4096 : Int) < (code_n : Int)) = true := by simp; omega
    go_enter Try.func7, Try.ntmps7
    go_wp2_with fail
    refine (lBig _ _ _ _ hmx).mono ?_
    rintro e w' ⟨rfl, rfl⟩
    rw [tb]
    go_wp2
    go_returns
    exact ⟨rfl, by repeat' (first | (with_reducible exact Below.refl _ _) | (with_reducible assumption) | (with_reducible refine Below.alloc ?_ ?_ _) | (with_reducible refine Below.setCell ?_ ?_ _) | (with_reducible refine Below.drew ?_) | (with_reducible refine below_drewN ?_ _) | (with_reducible refine below_via (by with_reducible assumption) ?_ ?_) | go_size)⟩
  have tb : decide ((4096 : Int) < (code_n : Int)) = false := by simp; omega
  go_enter Try.func7, Try.ntmps7
  go_wp2_with fail
  refine (lBig _ _ _ _ hmx).mono ?_
  rintro e w' ⟨rfl, rfl⟩
  rw [tb]
  go_wp2_with fail
  refine (dRowC _ _ _ _ HBY.out (by omega)).mono ?_
  rintro e w1 ⟨cl, v, zs, rfl, cl0, cl3, ho, hzl, -, hb1⟩
  obtain ⟨va, vc, rfl⟩ := ownN_shape ho
  obtain ⟨L, code, hI, hS, hcase⟩ := rows_case cl zs hzl
  obtain ⟨n, hn⟩ : ∃ n, zs.length = n := ⟨_, rfl⟩
  have HZ := Lib.hid hn
  rw [hn] at ho hI hS hzl ⊢
  have HI := Lib.hid hI
  have HS := Lib.hid hS
  have HV : Hid (Rd w1 va n zs) := own_rd ho
  have HVc : Hid (n ≤ vc) := (own_caps ho).1
  have HCs := Lib.hid hcase
  have HB1 := Lib.hid hb1
  have hz1 := hb1.size
  clear hn ho hI hS hcase hb1 tb
  go_wp2_with fail
  refine (HI.out _ _ _ HV.out).mono ?_
  rintro e w2 ⟨ca, cc, rfl, ho2, hb2, hL⟩
  obtain ⟨N, hN⟩ : ∃ N, L.length = N := ⟨_, rfl⟩
  have HNL := Lib.hid hN
  rw [hN] at ho2 hL ⊢
  have HO2 := Lib.hid ho2
  have HV2 : Hid (Rd w2 va n zs) := HV.out.below hb2
  have HB2 : Hid (Below w.heap.size w w2) := HB1.out.trans (hb2.mono hz1)
  clear hN ho2 HI HB1
  have hz2 := hb2.size
  clear hb2
  go_wp2_with fail
  refine (HS.out _ _ _ HV2.out).mono ?_
  rintro e w3 ⟨sa, sc, rfl, ho3, hb3, _⟩
  rw [HNL.out] at ho3 ⊢
  have hz3 := hb3.size
  have HO3 : Hid (w3.ownsRow w1.heap.size 2 1 (.slice ca N cc) N (L.map (Value.int .i64))) := ownN_below HO2.out hb3
  have HM3 : Hid (Rd w3 sa N L) := own_rd ho3
  have HV3 : Hid (Rd w3 va n zs) := HV2.out.below hb3
  have HB3 : Hid (Below w.heap.size w w3) := HB2.out.trans (hb3.mono (by omega))
  clear ho3 HS HO2 HB2 hb3
  go_wp2_with fail
  refine (lLike _ _ _ _ _ _ L _ (own_rd HO3.out) HM3.out (by omega)).mono ?_
  rintro e w4 ⟨rfl, hb4⟩
  have hz4 := hb4.size
  have HO4 : Hid (w4.ownsRow w1.heap.size 2 1 (.slice ca N cc) N (L.map (Value.int .i64))) := ownN_below HO3.out hb4
  have HV4 : Hid (Rd w4 va n zs) := HV3.out.below hb4
  have HB4 : Hid (Below w.heap.size w w4) := HB3.out.trans (hb4.mono (by omega))
  clear HO3 HM3 HV3 HB3 hb4
  by_cases hc0 : code = 0
  rotate_left
  · have t0 : (code != 0) = true := by simp [hc0]
    clear hc0
    go_wp2_with fail
    go_returns
    exact ⟨rfl, HB4.out⟩
  subst hc0
  rcases HCs.out with h | ⟨_, n1, n12, hbd, c, rfl, hc2, rfl⟩
  · exact absurd rfl h
  rw [HZ.out] at n1 n12
  have HBd := Lib.hid hbd
  have HC2 := Lib.hid hc2
  have HN15 : Hid (N = 15 + 11 * n) := by unfold Hid; rw [← HNL.out, rowC_len hc2 hbd, HZ.out]
  have HBack : Hid (rowF (rowC c zs) (c : Int) n = zs) := by unfold Hid; rw [← HZ.out]; exact row_back hc2 hbd
  have HK : Hid ((N - 15) / 11 = n) := by unfold Hid; have := HN15.out; omega
  have HLim : Hid (limB N = true) := limB_iff.2 (by have := HN15.out; omega)
  have HCl : Hid (inB (c : Int) 0 2 = true) := inB_yes (by omega) (by omega)
  have hN1 : 1 ≤ N := by have := HN15.out; omega
  have hN2 : N ≤ 1000 := by have := HN15.out; omega
  clear hbd hc2 HCs
  obtain ⟨cs, hcs⟩ : ∃ cs, rowC c zs = cs := ⟨_, rfl⟩
  have HCE := Lib.hid hcs
  have HAll : Hid (cs.all (fun x => inB x (-1) 1) = true) := by
    unfold Hid
    rw [List.all_eq_true]
    intro x hx
    rw [← hcs] at hx
    have := rowC_bd c zs x hx
    exact inB_yes (by omega) (by omega)
  rw [hcs] at HO4 HBack HNL
  clear hcs
  go_wp2_with fail
  refine (iRR_gen ca N cc cs (c : Int) _ (own_rd HO4.out) (by omega) (own_caps HO4.out).1 (own_caps HO4.out).2 HAll.out HLim.out HCl.out).mono ?_
  rintro e w5 ⟨ba, bc, rfl, ho5, hb5, hbl⟩
  rw [HK.out, HBack.out, HZ.out] at ho5 ⊢
  have hz5 := hb5.size
  have HO5 : Hid (w5.ownsRow w1.heap.size 2 1 (.slice ca N cc) N (cs.map (Value.int .i64))) := ownN_below HO4.out hb5
  have HV5 : Hid (Rd w5 va n zs) := HV4.out.below hb5
  have HR5 : Hid (Rd w5 ba n zs) := own_rd ho5
  have HB5 : Hid (Below w.heap.size w w5) := HB4.out.trans (hb5.mono (by omega))
  clear ho5 HO4 HV4 HB4 hb5 hbl
  go_wp2_with fail
  refine (lLike _ _ _ _ _ _ zs _ HR5.out HV5.out (by omega)).mono ?_
  rintro e w6 ⟨rfl, hb6⟩
  have hz6 := hb6.size
  have HO6 : Hid (w6.ownsRow w1.heap.size 2 1 (.slice ca N cc) N (cs.map (Value.int .i64))) := ownN_below HO5.out hb6
  have HV6 : Hid (Rd w6 va n zs) := HV5.out.below hb6
  have HB6 : Hid (Below w.heap.size w w6) := HB5.out.trans (hb6.mono (by omega))
  clear HO5 HR5 HV5 HB5 hb6
  go_wp2_with fail
  refine (lRoll _ _ _ _ _ (HBY.out.kept (fun b hb => HB6.out.block b hb) |> fun h hp => by obtain ⟨b, off, e, h1, h2⟩ := h hp; exact ⟨b, off, e, Nat.lt_of_lt_of_le h1 HB6.out.size, h2⟩) (by omega)).mono ?_
  rintro e w7 ⟨rfl, hd7, hb7⟩
  have hz7 := hb7.size
  have HD7 := Lib.hid hd7
  have HO7 : Hid (w7.ownsRow w1.heap.size 2 1 (.slice ca N cc) N (cs.map (Value.int .i64))) := ownN_below HO6.out hb7
  have HV7 : Hid (Rd w7 va n zs ∧ ∀ b off, va = some ⟨b, off, none⟩ → 0 < n → b < w6.heap.size) := ⟨HV6.out.below hb7, HV6.out.lt⟩
  have HB7 : Hid (Below w.heap.size w w7) := HB6.out.trans (hb7.mono (by omega))
  have HOb : Hid (∀ k, (Value.slice ca N cc).ownBlock = some k → k < w6.heap.size) := fun k e => (HO6.out.lt k e).2
  clear HO6 HV6 HB6 hd7 hb7
  go_wp2_with fail
  refine (lBelow _ _ _ HD7.out (by omega) (by omega)).mono ?_
  rintro e w8 ⟨p, rfl, p0, p1, hd8, hg8⟩
  have hz8 := hg8.size
  have HD8 := Lib.hid hd8
  have HO8 : Hid (w8.ownsRow w1.heap.size 2 1 (.slice ca N cc) N (cs.map (Value.int .i64))) := HO7.out.kept hg8 (by
    cases hv : (Value.slice ca N cc).ownBlock with
    | none => exact .inl rfl
    | some j => right; intro e; injection e with e; have := HOb.out j hv; omega)
  have HV8 : Hid (Rd w8 va n zs ∧ ∀ b off, va = some ⟨b, off, none⟩ → 0 < n → b < w6.heap.size) := ⟨HV7.out.1.only hg8 (fun b off e => by
    intro h
    rcases Nat.eq_zero_or_pos n with h0 | h0
    · omega
    · have := HV7.out.2 b off e h0; omega), HV7.out.2⟩
  have HB8 : Hid (Below w.heap.size w w8) := HB7.out.grown hg8 (by omega) (fun j e => by injection e with e; omega)
  clear HD7 HO7 HV7 HB7 hd8 hg8
  obtain ⟨p, rfl⟩ := Int.eq_ofNat_of_zero_le p0
  go_wp2_with fail
  refine (lBelow _ _ _ HD8.out (by omega) (by omega)).mono ?_
  rintro e w9 ⟨y, rfl, y0, y1, hd9, hg9⟩
  have hz9 := hg9.size
  have HO9 : Hid (w9.ownsRow w1.heap.size 2 1 (.slice ca N cc) N (cs.map (Value.int .i64))) := HO8.out.kept hg9 (by
    cases hv : (Value.slice ca N cc).ownBlock with
    | none => exact .inl rfl
    | some j => right; intro e; injection e with e; have := HOb.out j hv; omega)
  have HV9 : Hid (Rd w9 va n zs ∧ ∀ b off, va = some ⟨b, off, none⟩ → 0 < n → b < w6.heap.size) := ⟨HV8.out.1.only hg9 (fun b off e => by
    intro h
    rcases Nat.eq_zero_or_pos n with h0 | h0
    · omega
    · have := HV8.out.2 b off e h0; omega), HV8.out.2⟩
  have HB9 : Hid (Below w.heap.size w w9) := HB8.out.grown hg9 (by omega) (fun j e => by injection e with e; omega)
  clear HD8 HO8 HV8 HB8 hd9 hg9
  have hpN : p < N := by omega
  obtain ⟨g, cap, hv, hgb, -⟩ := HO9.out.form (by omega)
  injection hv with hv1 hv2 hv3
  subst hv1 hv3
  clear hv2
  have hcp : w9.cell? ⟨g, p, none⟩ = some (.int .i64 (cs.getD p 0)) := by
    rw [HO9.out.cellAt p (by omega)]
    have : p < cs.length := by rw [HNL.out]; exact hpN
    simp [List.getElem?_map, List.getElem?_eq_getElem this, List.getD_eq_getElem?_getD]
  have hfp : w9.frozen? ⟨g, p, none⟩ = false := HO9.out.frozenAt p
  obtain ⟨x0, hx0⟩ : ∃ x, cs.getD p 0 = x := ⟨_, rfl⟩
  rw [hx0] at hcp
  have hst := HO9.out.stored p (.int .i64 (y - 1))
  rw [← List.map_set] at hst
  have HOA : Hid ((w9.setCell ⟨g, p, none⟩ (.int .i64 (y - 1))).ownsRow w1.heap.size 2 1 (.slice (some ⟨g, 0, none⟩) N cc) N ((cs.set p (y - 1)).map (Value.int .i64))) := hst.1
  have hne : ∀ b off, va = some ⟨b, off, none⟩ → 0 < n → b ≠ g := fun b off e hp => by
    have := (HV.out.lt b off e hp)
    omega
  have HVA : Hid (Rd (w9.setCell ⟨g, p, none⟩ (.int .i64 (y - 1))) va n zs) := by
    refine ⟨HV9.out.1.1, fun hn => ?_⟩
    obtain ⟨b, off, e, hb, hc⟩ := HV9.out.1.2 hn
    exact ⟨b, off, e, by simpa [World.setCell] using hb, fun i hi => (World.cell?_of_block (a := ⟨b, off + i, none⟩) (Below.heap_setCell w9 ⟨g, p, none⟩ _ b (hne b off e hn))).trans (hc i hi)⟩
  have HBA : Hid (Below w.heap.size w (w9.setCell ⟨g, p, none⟩ (.int .i64 (y - 1)))) := HB9.out.setCell (by show w.heap.size ≤ g; omega) _
  have HZA : Hid ((w9.setCell ⟨g, p, none⟩ (.int .i64 (y - 1))).heap.size = w9.heap.size) := by unfold Hid; simp [World.setCell]
  have HAll2 : Hid ((cs.set p (y - 1)).all (fun x => inB x (-1) 1) = true) := by
    unfold Hid
    rw [List.all_eq_true]
    intro x hx
    rcases List.mem_or_eq_of_mem_set hx with h | h
    · have h2 := HAll.out
      rw [List.all_eq_true] at h2
      exact h2 x h
    · subst h; exact inB_yes (by omega) (by omega)
  have hpI : (p : Int) < (N : Int) := by omega
  clear hst hne hx0 HV9 HB9 HO9
  go_wp2_with fail
  obtain ⟨wA, hwA⟩ : ∃ wA : World, w9.setCell ⟨g, p, none⟩ (.int .i64 (y - 1)) = wA := ⟨_, rfl⟩
  rw [hwA] at HOA HVA HBA HZA ⊢
  clear hwA hcp hfp
  have hzA := HZA.out
  refine (iRR_gen (some ⟨g, 0, none⟩) N cc (cs.set p (y - 1)) (c : Int) _ (own_rd HOA.out) (by omega) (own_caps HOA.out).1 (own_caps HOA.out).2 HAll2.out HLim.out HCl.out).mono ?_
  rintro e wB ⟨da, dc, rfl, hoB, hbB, -⟩
  have HRl : Hid ((rowF (cs.set p (y - 1)) (c : Int) n).length = n) := rowF_len _ _ _
  rw [HK.out, HRl.out] at hoB ⊢
  have HHurt : Hid (∀ k, k < n → (p < 7 + 11 * k ∨ 7 + 11 * k + 11 ≤ p) → (rowF (cs.set p (y - 1)) (c : Int) n).getD k 0 = zs.getD k 0) := fun k hk hp => by
    rw [← HCE.out, ← HZ.out]
    exact row_hurt (y - 1) HC2.out HBd.out (by rw [HZ.out]; exact hk) hp
  obtain ⟨hs, hhs⟩ : ∃ hs, rowF (cs.set p (y - 1)) (c : Int) n = hs := ⟨_, rfl⟩
  rw [hhs] at hoB HHurt HRl
  have HRB : Hid (Rd wB da n hs) := own_rd hoB
  have HVB : Hid (Rd wB va n zs) := HVA.out.below hbB
  have HBB : Hid (Below w.heap.size w wB) := HBA.out.trans (hbB.mono (by omega))
  clear hhs hoB hbB HOA HVA HBA HZA
  go_wp2
  go_loopw [15] (fun i wr => ∃ k : Nat, k ≤ n ∧ i = .int .i64 (k : Int) ∧ Hid (Below wB.heap.size wB wr)) (fun i _ => n - (intOf i).toNat)
  case atStart => exact ⟨0, Nat.zero_le _, rfl, Below.refl _ _⟩
  case round =>
    obtain ⟨k, hk, rfl, HBk⟩ := hrel
    by_cases hlt : k < n
    · obtain ⟨b1, o1, rfl, hb1, hc1⟩ := (HRB.out.below HBk.out).2 (by omega)
      obtain ⟨b2, o2, rfl, hb2, hc2⟩ := (HVB.out.below HBk.out).2 (by omega)
      have hx := hc1 k hlt
      have hz := hc2 k hlt
      have hh := HHurt.out k hlt
      obtain ⟨x, hxe⟩ : ∃ x, hs.getD k 0 = x := ⟨_, rfl⟩
      obtain ⟨z, hze⟩ : ∃ z, zs.getD k 0 = z := ⟨_, rfl⟩
      rw [hxe] at hx hh
      rw [hze] at hz hh
      have hkI : (k : Int) < (n : Int) := by omega
      clear hc1 hc2 hxe hze hb1 hb2
      by_cases hxz : x = z
      · have d1 : (x != z) = false := by simp [hxz]
        clear hxz hh
        go_wp2_with fail
        go_quiet (fail)
        go_wp2
        go_roundw
        case rel => exact ⟨k + 1, by omega, by go_num, below_drewN HBk.out _⟩
        case measure => simp [intOf]; omega
      · have d1 : (x != z) = true := by simp [hxz]
        have hp7 : 7 + 11 * k ≤ p ∧ p < 7 + 11 * k + 11 := by
          by_cases h1 : p < 7 + 11 * k
          · exact absurd (hh (.inl h1)) hxz
          · by_cases h2 : 7 + 11 * k + 11 ≤ p
            · exact absurd (hh (.inr h2)) hxz
            · omega
        have h70 : (0 : Int) ≤ (p : Int) - 7 := by omega
        have hq : ((p : Int) - 7) / 11 = (k : Int) := by omega
        have hk12 : k ≤ 12 := by omega
        clear hxz hh hp7
        go_wp2_with fail
        go_quiet (fail)
        go_wp2
        go_roundw
        case rel => exact ⟨k + 1, by omega, by go_num, below_drewN HBk.out _⟩
        case measure => simp [intOf]; omega
    · have hke : (n : Int) ≤ (k : Int) := by omega
      go_wp2
      go_returns
      exact ⟨rfl, HBB.out.trans (HBk.out.mono (by have := HBB.out.size; omega))⟩
end Go.Proofs.Ytdpifddmhbeklaa
