/-
  DERIVED. PatD, PatE.
-/
import Derived.Test.YtdpifddmhbeklaaPatC
import Derived.Test.YtdpifddmhbeklaaResQ
namespace Go.Proofs.Ytdpifddmhbeklaa
open Go.RowKit
set_option linter.unusedVariables false
theorem SameR_eq (w : World) (xs ys : List Int) : SameR w xs ys = fun e w' => e = .returned (.bool (decide (xs = ys))) ∧ Below w.heap.size w w' := rfl
set_option maxRecDepth 20000 in
set_option maxHeartbeats 8000000 in
theorem sValue (a ca : Option Addr) (n cp ccp B Z : Nat) (c : List Int) (cl : Int) (w : World) (hR : RRow w B Z a 120 PATS) (h : Rd w ca n c) (hp : 0 < n) (hn : n ≤ 900) :
    Calls Try.prog 107 #[.slice a 120 cp, .slice ca n ccp, .int .i64 cl] w fun e w' => e = .returned (.int .i64 (valF c cl)) ∧ Below w.heap.size w w' := by
  have HR := Lib.hid hR
  have HH := Lib.hid h
  have HL : Hid (c.length = n) := h.1
  clear hR h
  go_enter Try.func107, Try.ntmps107
  go_wp2_with fail
  refine (sWidths ca n ccp c _ HH.out hp hn).mono ?_
  rintro e w1 ⟨hb1, hcase⟩
  have HB1 := Lib.hid hb1
  have hz1 := hb1.size
  clear hb1
  rcases hcase with ⟨hok, aw, cw, rfl, how⟩ | ⟨hok, rfl⟩
  · obtain ⟨W, hW⟩ : ∃ W, wid c n = W := ⟨_, rfl⟩
    obtain ⟨L, hL⟩ : ∃ L, (wid c n).length = L := ⟨_, rfl⟩
    have hLn : L ≤ n := by rw [← hL]; exact (wid_len c n).1
    rw [hL] at how ⊢
    rw [hW] at how
    have HRW := Lib.hid (own_rd how)
    have HWe : Hid (wid c c.length = W) := by rw [HL.out]; exact hW
    have HOK := Lib.hid hok
    clear how hok hW hL
    go_wp2
    go_loopw [9] (fun i wr => ∃ k : Nat, k ≤ 120 ∧ i = .int .i64 k ∧ Hid (∀ j, j < k → ¬ (PATS.getD j [] = W ∧ ((j % 3 : Nat) : Int) = cl ∧ j / 3 < 32)) ∧ Hid (Below w1.heap.size w1 wr)) (fun i _ => 120 - (intOf i).toNat)
    case atStart => exact ⟨0, Nat.zero_le _, rfl, fun j hj => absurd hj (by omega), Below.refl _ _⟩
    case round =>
      obtain ⟨k, hk, rfl, HA, HB⟩ := hrel
      by_cases hlt : k < 120
      · have hZ := HR.out.2.1
        obtain ⟨b, off, a', cp', rfl, hbl, hcell, hrd⟩ := ((HR.out.keep (HB1.out.mono hZ)).keep (HB.out.mono (by omega))).at hlt
        have h8 : (PATS.getD k []).length = 8 := PATS_row _ (pat_at hlt)
        rw [h8] at hcell hrd
        obtain ⟨R, hRe⟩ : ∃ R, PATS.getD k [] = R := ⟨_, rfl⟩
        rw [hRe] at hrd
        have HRD := Lib.hid hrd
        have HRE := Lib.hid hRe
        have k0 : (0 : Int) ≤ (k : Int) := by omega
        have k1 : (k : Int) < 120 := by omega
        clear hrd hRe h8
        by_cases hRW : R = W
        · have HC : Hid (∀ X, Below w1.heap.size w1 X → Rd X a' 8 R → Calls Try.prog 133 #[.slice a' 8 cp', .slice aw L cw] X fun e w' => e = .returned (.bool true) ∧ Below X.heap.size X w') := fun X hX hr => by
            have := sSame a' aw 8 L cp' cw R W X hr (HRW.out.below hX) (by omega) (by omega)
            rw [SameR_eq, decide_eq_true hRW] at this
            exact this
          have HRW2 := Lib.hid hRW
          clear hRW
          by_cases hm : ((k % 3 : Nat) : Int) = cl
          · by_cases h96 : k / 3 < 32
            · have HV : Hid (((k / 3 : Nat) : Int) = valF c cl) := (valF_hit HOK.out hlt (by rw [HRE.out, HRW2.out, HWe.out]) hm h96).symm
              have tm : (((k : Int) % 3) == cl) = true := by simp; omega
              have t96 : decide ((k : Int) / 3 < 32) = true := by simp; omega
              have h96I : (k : Int) / 3 < 32 := by omega
              clear hm h96
              go_wp2_with (go_at_call 133; refine (HC.out _ HB.out HRD.out).mono ?_; rintro e w2 ⟨rfl, hb2⟩)
              go_returns
              exact ⟨ret_int (by rw [← HV.out]; omega), HB1.out.trans ((HB.out.trans (hb2.mono HB.out.size)).mono (by omega))⟩
            · have HA2 : Hid (∀ j, j < k + 1 → ¬ (PATS.getD j [] = W ∧ ((j % 3 : Nat) : Int) = cl ∧ j / 3 < 32)) := fun j hj => by
                rcases Nat.lt_or_ge j k with h1 | h1
                · exact HA.out j h1
                · obtain rfl : j = k := by omega
                  exact fun h => h96 h.2.2
              have tm : (((k : Int) % 3) == cl) = true := by simp; omega
              have t96 : decide ((k : Int) / 3 < 32) = false := by simp; omega
              clear hm h96
              go_wp2_with (go_at_call 133; refine (HC.out _ HB.out HRD.out).mono ?_; rintro e w2 ⟨rfl, hb2⟩; have HB2 := Lib.hid (HB.out.trans (hb2.mono HB.out.size)); clear hb2)
              go_roundw
              case rel => exact ⟨k + 1, by omega, by go_num, HA2, HB2⟩
              case measure => simp [intOf]; omega
          · have HA2 : Hid (∀ j, j < k + 1 → ¬ (PATS.getD j [] = W ∧ ((j % 3 : Nat) : Int) = cl ∧ j / 3 < 32)) := fun j hj => by
              rcases Nat.lt_or_ge j k with h1 | h1
              · exact HA.out j h1
              · obtain rfl : j = k := by omega
                exact fun h => hm h.2.1
            have tm : (((k : Int) % 3) == cl) = false := by simp; omega
            clear hm
            go_wp2_with (go_at_call 133; refine (HC.out _ HB.out HRD.out).mono ?_; rintro e w2 ⟨rfl, hb2⟩; have HB2 := Lib.hid (HB.out.trans (hb2.mono HB.out.size)); clear hb2)
            go_roundw
            case rel => exact ⟨k + 1, by omega, by go_num, HA2, HB2⟩
            case measure => simp [intOf]; omega
        · have HC : Hid (∀ X, Below w1.heap.size w1 X → Rd X a' 8 R → Calls Try.prog 133 #[.slice a' 8 cp', .slice aw L cw] X fun e w' => e = .returned (.bool false) ∧ Below X.heap.size X w') := fun X hX hr => by
            have := sSame a' aw 8 L cp' cw R W X hr (HRW.out.below hX) (by omega) (by omega)
            rw [SameR_eq, decide_eq_false hRW] at this
            exact this
          have HA2 : Hid (∀ j, j < k + 1 → ¬ (PATS.getD j [] = W ∧ ((j % 3 : Nat) : Int) = cl ∧ j / 3 < 32)) := fun j hj => by
            rcases Nat.lt_or_ge j k with h1 | h1
            · exact HA.out j h1
            · obtain rfl : j = k := by omega
              exact fun h => hRW (by rw [← HRE.out]; exact h.1)
          clear hRW
          go_wp2_with (go_at_call 133; refine (HC.out _ HB.out HRD.out).mono ?_; rintro e w2 ⟨rfl, hb2⟩; have HB2 := Lib.hid (HB.out.trans (hb2.mono HB.out.size)); clear hb2)
          go_roundw
          case rel => exact ⟨k + 1, by omega, by go_num, HA2, HB2⟩
          case measure => simp [intOf]; omega
      · have HV : Hid (-1 = valF c cl) := (valF_none (fun j hj => by rw [HWe.out]; exact HA.out j (by omega))).symm
        have hkI : (120 : Int) ≤ (k : Int) := by omega
        have hdk : decide ((k : Int) < 120) = false := by simp; omega
        go_wp2
        go_returns
        exact ⟨ret_int HV.out, HB1.out.trans (HB.out.mono (by omega))⟩
  · have HV : Hid (-1 = valF c cl) := (valF_bad cl (fun h => by rw [hok] at h; cases h.1)).symm
    clear hok
    go_wp2
    refine wp_loop_rounds 1 ?_; rw [rounds_succ]
    go_wp2
    go_returns
    exact ⟨ret_int HV.out, HB1.out⟩
set_option maxRecDepth 20000 in
set_option maxHeartbeats 8000000 in
theorem sRead (a : Option Addr) (n cp : Nat) (c : List Int) (cl : Int) (w : World) (h : Rd w a n c) (hn : n ≤ 1048576) (hcp : n ≤ cp) :
    Calls Try.prog 68 #[.slice a n cp, .int .i64 cl] w fun e w' => ∃ a' cp', e = .returned (.slice a' ((n - 15) / 11) cp') ∧ w'.ownsRow w.heap.size 2 1 (.slice a' ((n - 15) / 11) cp') ((n - 15) / 11) ((rowF c cl ((n - 15) / 11)).map (Value.int .i64)) ∧ Below w.heap.size w w' := by
  obtain ⟨i0, hi, hiz, hi1, hi2⟩ := info_parts infoInt
  have HH := Lib.hid h
  obtain ⟨K, hK⟩ : ∃ K, (n - 15) / 11 = K := ⟨_, rfl⟩
  rw [hK]
  have HKe := Lib.hid hK
  clear h hK
  go_enter Try.func68, Try.ntmps68
  go_wp2_with fail
  refine (sAll _).mono ?_
  rintro e w1 ⟨aa, ac, rfl, hR, hb1⟩
  have HR := Lib.hid hR
  have HB1 := Lib.hid hb1
  have hz1 := hb1.size
  have HO0 : Hid ((w1.alloc (.cells #[] 2)).ownsRow w.heap.size 2 1 (.slice (some ⟨w1.heap.size, 0, none⟩) 0 0) 0 []) := by
    have := World.ownsRow_lit (base := w.heap.size) (e := 2) (size := 1) w1 #[] 0 (by omega) (by unfold maxLen; omega) (by simp)
    simp at this
    exact this
  have HB0 : Hid (Below w1.heap.size w1 (w1.alloc (.cells #[] 2))) := by unfold Hid; repeat' (first | (with_reducible exact Below.refl _ _) | (with_reducible assumption) | (with_reducible refine Below.alloc ?_ ?_ _) | (with_reducible refine Below.setCell ?_ ?_ _) | (with_reducible refine Below.drew ?_) | (with_reducible refine below_drewN ?_ _) | (with_reducible refine below_via (by with_reducible assumption) ?_ ?_) | go_size)
  have HX0 : Hid (∀ b, (Value.slice (some ⟨w1.heap.size, 0, none⟩) 0 0).ownBlock = some b → w1.heap.size ≤ b) := fun b hb => by
    have : w1.heap.size = b := by simpa [Value.ownBlock] using hb
    omega
  clear hR hb1
  go_wp2
  go_loopw [6, 7] (fun v i wr => ∃ k : Nat, k ≤ K ∧ i = .int .i64 (7 + 11 * (k : Int)) ∧ Hid (wr.ownsRow w1.heap.size 2 1 v k ((rowF c cl k).map (Value.int .i64))) ∧ Hid (Below w1.heap.size w1 wr)) (fun _ i _ => n + 20 - (intOf i).toNat)
  case atStart => exact ⟨0, Nat.zero_le _, rfl, by
    have := World.ownsRow_lit (base := w1.heap.size) (e := 2) (size := 1) w1 #[] 0 (by omega) (by unfold maxLen; omega) (by simp)
    simp at this
    exact this, HB0.out⟩
  case round =>
    clear HO0 HB0 HX0
    obtain ⟨k, hk, rfl, HO, HB⟩ := hrel
    have hzz := HB.out.size
    have hK := HKe.out
    by_cases hlt : k < K
    · have hkn : 7 + 11 * k + 19 ≤ n := by omega
      obtain ⟨b, off, rfl, hbl, -⟩ := HH.out.2 (by omega)
      have hkI : 7 + 11 * (k : Int) + 19 ≤ (n : Int) := by omega
      have hkc : 7 + 11 * (k : Int) + 11 ≤ (cp : Int) := by omega
      have hk0 : (0 : Int) ≤ 7 + 11 * (k : Int) := by omega
      have hkt : (7 + 11 * (k : Int)).toNat = 7 + 11 * k := by omega
      have hkt2 : (7 + 11 * (k : Int) + 11).toNat = 7 + 11 * k + 11 := by omega
      have hk6 : k ≤ 100000 := by omega
      have HRd : Hid (∀ W, Below w.heap.size w W → Rd W (some ⟨b, off + (7 + 11 * k), none⟩) (10 + 1) ((c.drop (7 + 11 * k)).take 11)) := fun W hW => rd_part (HH.out.below hW) (by omega)
      have HBw : Hid (Below w.heap.size w wr) := HB1.out.trans (HB.out.mono hz1)
      obtain ⟨v, hv⟩ : ∃ v, valF ((c.drop (7 + 11 * k)).take 11) cl = v := ⟨_, rfl⟩
      have HVV := Lib.hid hv
      clear hK hv
      go_wp2_with fail
      refine (sValue _ _ 11 _ _ w.heap.size w1.heap.size ((c.drop (7 + 11 * k)).take 11) cl _ (HR.out.keep HB.out) (HRd.out _ HBw.out) (by omega) (by omega)).mono ?_
      rintro e w2 ⟨rfl, hb2⟩
      rw [HVV.out]
      have HO2 := Lib.hid (ownN_below HO.out hb2)
      have HB2 : Hid (Below w1.heap.size w1 w2) := HB.out.trans (hb2.mono hzz)
      have hz2 := HB2.out.size
      clear hb2 HO HB HRd hbl HBw
      go_wp2_with (at_builtin; refine wpList_append_own _ rfl _ _ 36 rfl w1.heap.size 2 i0 _ 1 8 Try.underlying36 hi hiz hi1 hi2 rfl (by decide) _ _ _ rfl (HO2.out.alloc _) ⟨w2.heap.size, 0, none⟩ 1 1 [.int .i64 v] rfl rfl (World.news_of_block (heap_alloc_new w2 _)) (by simp [Value.oneCell']) (by unfold maxLen; omega) (by omega) (by simp; omega) ?_; intro v' w3 hown' hgrow _)
      have HO3 : Hid (w3.ownsRow w1.heap.size 2 1 v' (k + 1) ((rowF c cl (k + 1)).map (Value.int .i64))) := by
        unfold Hid
        rw [rowF, List.map_append, HVV.out]
        exact hown'
      have HB3 : Hid (Below w1.heap.size w1 w3) := ((HB2.out.alloc (by omega) _).grown hgrow (by simp; omega) (fun j e => (HO2.out.lt j e).1))
      clear hown' hgrow
      go_wp2
      go_roundw
      case rel => exact ⟨k + 1, by omega, by go_num, HO3, HB3⟩
      case measure => simp [intOf]; omega
    · have hke : Hid (k = K) := (by omega : k = K)
      have hk6 : k ≤ 100000 := by omega
      have hkI : (n : Int) < 7 + 11 * (k : Int) + 11 + 8 := by have := HKe.out; omega
      clear hK
      go_wp2
      go_returns
      have h1 := HO.out
      rw [hke.out] at h1
      obtain ⟨av, cv, e⟩ := ownN_shape h1
      exact ⟨av, cv, by rw [e]; rfl, by rw [← e]; exact ownN_mono h1 hz1, HB1.out.trans (HB.out.mono hz1)⟩
end Go.Proofs.Ytdpifddmhbeklaa
namespace Go.Proofs.Ytdpifddmhbeklaa
open Go.RowKit
set_option linter.unusedVariables false
def limB (n : Nat) : Bool := decide (26 ≤ n ∧ n ≤ 147 ∧ (n - 15) % 11 = 0)
theorem limB_iff {n : Nat} : limB n = true ↔ 26 ≤ n ∧ n ≤ 147 ∧ (n - 15) % 11 = 0 := by simp [limB]
theorem limB_no {n : Nat} (h : limB n = false) : ¬ (26 ≤ n ∧ n ≤ 147 ∧ (n - 15) % 11 = 0) := by simpa [limB] using h
def tmodN (n : Nat) : Int := Int.tmod ((n : Int) - 7 - 8) 11
def tdivN (n : Nat) : Int := Int.tdiv ((n : Int) - 7 - 8) 11
theorem tdivN_neg {n : Nat} (h : n < 15) : -1 ≤ tdivN n ∧ tdivN n ≤ 0 := by
  unfold tdivN
  have : n = 0 ∨ n = 1 ∨ n = 2 ∨ n = 3 ∨ n = 4 ∨ n = 5 ∨ n = 6 ∨ n = 7 ∨ n = 8 ∨ n = 9 ∨ n = 10 ∨ n = 11 ∨ n = 12 ∨ n = 13 ∨ n = 14 := by omega
  rcases this with rfl | rfl | rfl | rfl | rfl | rfl | rfl | rfl | rfl | rfl | rfl | rfl | rfl | rfl | rfl <;> decide
theorem sCluster (cl : Int) (w : World) : Calls Try.prog 67 #[.int .i64 cl] w fun e w' => e = .returned (.bool (inB cl 0 2)) ∧ w = w' := by
  go_enter Try.func67, Try.ntmps67
  go_wp2_with (go_at_call 55; refine (sIn _ _ _ _).mono ?_; rintro e w' ⟨rfl, rfl⟩)
  go_ret
  exact ⟨rfl, rfl⟩
set_option maxRecDepth 20000 in
set_option maxHeartbeats 8000000 in
theorem sRR_bad (a : Option Addr) (n cp : Nat) (c : List Int) (cl : Int) (w : World) (h : Rd w a n c) (hn : n ≤ 1048576) (hcp : n = cp) (hx : c.all (fun x => inB x (-1) 1) = false) :
    Calls Try.prog 21 #[.slice a n cp, .int .i64 cl] w (ResI w [] 1) := by
  have HH := Lib.hid h
  have HL := Lib.hid h.1
  have HCp : Hid (n ≤ cp) := Nat.le_of_eq hcp
  have HCp2 : Hid (cp ≤ maxLen) := by rw [← hcp]; exact Nat.le_trans hn (by decide)
  clear hcp
  have HAll := Lib.hid hx
  clear h hx
  go_enter Try.func21, Try.ntmps21
  go_wp2
  go_loop [6] (fun i => ∃ k : Nat, k ≤ n ∧ i = .int .i64 k ∧ Hid (∀ j, j < k → inB (c.getD j 0) (-1) 1 = true)) (fun i => n - (intOf i).toNat)
  case atStart => exact ⟨0, Nat.zero_le _, rfl, fun j hj => absurd hj (by omega)⟩
  case round =>
    obtain ⟨k, hk, rfl, HA⟩ := hrel
    by_cases hlt : k < n
    · obtain ⟨b, off, rfl, hbl, hc⟩ := HH.out.2 (by omega)
      have hx := hc k hlt
      clear hc
      obtain ⟨x, hxv⟩ : ∃ x, c.getD k 0 = x := ⟨_, rfl⟩
      rw [hxv] at hx
      have HX := Lib.hid hxv
      have k0 : (0 : Int) ≤ (k : Int) := by omega
      have k1 : (k : Int) < (n : Int) := by omega
      clear hxv
      cases hg : inB x (-1) 1
      · go_wp2_with (go_at_call 55; refine (sIn _ _ _ _).mono ?_; rintro e w' ⟨rfl, rfl⟩)
        go_returns
        exact ⟨none, 0, rfl, World.ownsRow_nil _ _ _ _, by repeat' (first | (with_reducible exact Below.refl _ _) | (with_reducible assumption) | (with_reducible refine Below.alloc ?_ ?_ _) | (with_reducible refine Below.setCell ?_ ?_ _) | (with_reducible refine Below.drew ?_) | (with_reducible refine below_drewN ?_ _) | (with_reducible refine below_via (by with_reducible assumption) ?_ ?_) | go_size), by simp⟩
      · have HA2 : Hid (∀ j, j < k + 1 → inB (c.getD j 0) (-1) 1 = true) := fun j hj => by
          rcases Nat.lt_or_ge j k with h4 | h4
          · exact HA.out j h4
          · obtain rfl : j = k := by omega
            rw [HX.out]; exact hg
        go_wp2_with (go_at_call 55; refine (sIn _ _ _ _).mono ?_; rintro e w' ⟨rfl, rfl⟩)
        go_round
        case rel => exact ⟨k + 1, by omega, by go_num, HA2⟩
        case measure => simp [intOf]; omega
    · have hnk : (n : Int) ≤ (k : Int) := by omega
      exact absurd (all_yes (zs := c) (fun i hi => HA.out i (by have := HL.out; omega))) (by rw [HAll.out]; decide)
set_option maxRecDepth 20000 in
set_option maxHeartbeats 8000000 in
theorem sRR_lim (a : Option Addr) (n cp : Nat) (c : List Int) (cl : Int) (w : World) (h : Rd w a n c) (hn : n ≤ 1048576) (hcp : n = cp) (hx : c.all (fun x => inB x (-1) 1) = true) (hl : limB n = false) :
    Calls Try.prog 21 #[.slice a n cp, .int .i64 cl] w (ResI w [] 3) := by
  have HH := Lib.hid h
  have HL := Lib.hid h.1
  have HCp : Hid (n ≤ cp) := Nat.le_of_eq hcp
  have HCp2 : Hid (cp ≤ maxLen) := by rw [← hcp]; exact Nat.le_trans hn (by decide)
  clear hcp
  have HAll : Hid (∀ x ∈ c, inB x (-1) 1 = true) := fun x h2 => by rw [List.all_eq_true] at hx; exact hx x h2
  have HNo := Lib.hid (limB_no hl)
  have HT : Hid (Int.tmod ((n : Int) - 7 - 8) 11 = tmodN n ∧ Int.tdiv ((n : Int) - 7 - 8) 11 = tdivN n) := ⟨rfl, rfl⟩
  have HTn : Hid (n < 15 → -1 ≤ tdivN n ∧ tdivN n ≤ 0) := tdivN_neg
  clear h hx hl
  go_enter Try.func21, Try.ntmps21
  go_wp2
  go_loop [6] (fun i => ∃ k : Nat, k ≤ n ∧ i = .int .i64 k ∧ Hid (∀ j, j < k → inB (c.getD j 0) (-1) 1 = true)) (fun i => n - (intOf i).toNat)
  case atStart => exact ⟨0, Nat.zero_le _, rfl, fun j hj => absurd hj (by omega)⟩
  case round =>
    obtain ⟨k, hk, rfl, HA⟩ := hrel
    by_cases hlt : k < n
    · obtain ⟨b, off, rfl, hbl, hc⟩ := HH.out.2 (by omega)
      have hx := hc k hlt
      clear hc
      obtain ⟨x, hxv⟩ : ∃ x, c.getD k 0 = x := ⟨_, rfl⟩
      rw [hxv] at hx
      have HX := Lib.hid hxv
      have k0 : (0 : Int) ≤ (k : Int) := by omega
      have k1 : (k : Int) < (n : Int) := by omega
      clear hxv
      have hg : inB x (-1) 1 = true := by rw [← HX.out]; exact HAll.out _ (getD_mem (by rw [HL.out]; exact hlt))
      have HA2 : Hid (∀ j, j < k + 1 → inB (c.getD j 0) (-1) 1 = true) := fun j hj => by
        rcases Nat.lt_or_ge j k with h4 | h4
        · exact HA.out j h4
        · obtain rfl : j = k := by omega
          rw [HX.out]; exact hg
      go_wp2_with (go_at_call 55; refine (sIn _ _ _ _).mono ?_; rintro e w' ⟨rfl, rfl⟩)
      go_round
      case rel => exact ⟨k + 1, by omega, by go_num, HA2⟩
      case measure => simp [intOf]; omega
    · have hnk : (n : Int) ≤ (k : Int) := by omega
      by_cases h15 : n < 15
      · have e1 := HT.out.1
        have e2 := HT.out.2
        obtain ⟨g1, g2⟩ := HTn.out h15
        generalize tmodN n = r at e1
        generalize tdivN n = q at e2 g1 g2
        have hi : inB q 1 12 = false := by simp [inB]; omega
        by_cases hr : r = 0
        · have tr : (r != 0) = false := by simpa using hr
          go_wp2_with (first | (go_at_call 55; refine (sIn _ _ _ _).mono ?_; rintro e w' ⟨rfl, rfl⟩; rw [hi]))
          go_returns
          exact ⟨none, 0, rfl, World.ownsRow_nil _ _ _ _, by repeat' (first | (with_reducible exact Below.refl _ _) | (with_reducible assumption) | (with_reducible refine Below.alloc ?_ ?_ _) | (with_reducible refine Below.setCell ?_ ?_ _) | (with_reducible refine Below.drew ?_) | (with_reducible refine below_drewN ?_ _) | (with_reducible refine below_via (by with_reducible assumption) ?_ ?_) | go_size), by simp⟩
        · have tr : (r != 0) = true := by simpa using hr
          go_wp2
          go_returns
          exact ⟨none, 0, rfl, World.ownsRow_nil _ _ _ _, by repeat' (first | (with_reducible exact Below.refl _ _) | (with_reducible assumption) | (with_reducible refine Below.alloc ?_ ?_ _) | (with_reducible refine Below.setCell ?_ ?_ _) | (with_reducible refine Below.drew ?_) | (with_reducible refine below_drewN ?_ _) | (with_reducible refine below_via (by with_reducible assumption) ?_ ?_) | go_size), by simp⟩
      · have hge : (0 : Int) ≤ (n : Int) - 7 - 8 := by omega
        obtain ⟨r, hr⟩ : ∃ r : Int, ((n : Int) - 7 - 8) % 11 = r := ⟨_, rfl⟩
        obtain ⟨q, hq⟩ : ∃ q : Int, ((n : Int) - 7 - 8) / 11 = q := ⟨_, rfl⟩
        have hi : r = 0 → inB q 1 12 = false := fun h0 => by have := HNo.out; simp [inB]; omega
        by_cases hr0 : r = 0
        · have hi2 := hi hr0
          have tr : (r != 0) = false := by simpa using hr0
          clear hi hr0
          go_wp2_with (first | (go_at_call 55; refine (sIn _ _ _ _).mono ?_; rintro e w' ⟨rfl, rfl⟩; rw [hi2]))
          go_returns
          exact ⟨none, 0, rfl, World.ownsRow_nil _ _ _ _, by repeat' (first | (with_reducible exact Below.refl _ _) | (with_reducible assumption) | (with_reducible refine Below.alloc ?_ ?_ _) | (with_reducible refine Below.setCell ?_ ?_ _) | (with_reducible refine Below.drew ?_) | (with_reducible refine below_drewN ?_ _) | (with_reducible refine below_via (by with_reducible assumption) ?_ ?_) | go_size), by simp⟩
        · have tr : (r != 0) = true := by simpa using hr0
          clear hi hr0
          go_wp2
          go_returns
          exact ⟨none, 0, rfl, World.ownsRow_nil _ _ _ _, by repeat' (first | (with_reducible exact Below.refl _ _) | (with_reducible assumption) | (with_reducible refine Below.alloc ?_ ?_ _) | (with_reducible refine Below.setCell ?_ ?_ _) | (with_reducible refine Below.drew ?_) | (with_reducible refine below_drewN ?_ _) | (with_reducible refine below_via (by with_reducible assumption) ?_ ?_) | go_size), by simp⟩
set_option maxRecDepth 20000 in
set_option maxHeartbeats 8000000 in
theorem sRR_cl (a : Option Addr) (n cp : Nat) (c : List Int) (cl : Int) (w : World) (h : Rd w a n c) (hn : n ≤ 1048576) (hcp : n = cp) (hx : c.all (fun x => inB x (-1) 1) = true) (hl : limB n = true) (hcl : inB cl 0 2 = false) :
    Calls Try.prog 21 #[.slice a n cp, .int .i64 cl] w (ResI w [] 2) := by
  have HH := Lib.hid h
  have HL := Lib.hid h.1
  have HCp : Hid (n ≤ cp) := Nat.le_of_eq hcp
  have HCp2 : Hid (cp ≤ maxLen) := by rw [← hcp]; exact Nat.le_trans hn (by decide)
  clear hcp
  have HAll : Hid (∀ x ∈ c, inB x (-1) 1 = true) := fun x h2 => by rw [List.all_eq_true] at hx; exact hx x h2
  have HLm := Lib.hid (limB_iff.1 hl)
  have HCl := Lib.hid hcl
  clear hl
  clear h hx hcl
  go_enter Try.func21, Try.ntmps21
  go_wp2
  go_loop [6] (fun i => ∃ k : Nat, k ≤ n ∧ i = .int .i64 k ∧ Hid (∀ j, j < k → inB (c.getD j 0) (-1) 1 = true)) (fun i => n - (intOf i).toNat)
  case atStart => exact ⟨0, Nat.zero_le _, rfl, fun j hj => absurd hj (by omega)⟩
  case round =>
    obtain ⟨k, hk, rfl, HA⟩ := hrel
    by_cases hlt : k < n
    · obtain ⟨b, off, rfl, hbl, hc⟩ := HH.out.2 (by omega)
      have hx := hc k hlt
      clear hc
      obtain ⟨x, hxv⟩ : ∃ x, c.getD k 0 = x := ⟨_, rfl⟩
      rw [hxv] at hx
      have HX := Lib.hid hxv
      have k0 : (0 : Int) ≤ (k : Int) := by omega
      have k1 : (k : Int) < (n : Int) := by omega
      clear hxv
      have hg : inB x (-1) 1 = true := by rw [← HX.out]; exact HAll.out _ (getD_mem (by rw [HL.out]; exact hlt))
      have HA2 : Hid (∀ j, j < k + 1 → inB (c.getD j 0) (-1) 1 = true) := fun j hj => by
        rcases Nat.lt_or_ge j k with h4 | h4
        · exact HA.out j h4
        · obtain rfl : j = k := by omega
          rw [HX.out]; exact hg
      go_wp2_with (go_at_call 55; refine (sIn _ _ _ _).mono ?_; rintro e w' ⟨rfl, rfl⟩)
      go_round
      case rel => exact ⟨k + 1, by omega, by go_num, HA2⟩
      case measure => simp [intOf]; omega
    · have hnk : (n : Int) ≤ (k : Int) := by omega
      have hge : (0 : Int) ≤ (n : Int) - 7 - 8 := by have := HLm.out; omega
      have hr : ((n : Int) - 7 - 8) % 11 = 0 := by have := HLm.out; omega
      obtain ⟨q, hq⟩ : ∃ q : Int, ((n : Int) - 7 - 8) / 11 = q := ⟨_, rfl⟩
      have hi : inB q 1 12 = true := inB_yes (by have := HLm.out; omega) (by have := HLm.out; omega)
      go_wp2_with (first | (go_at_call 55; refine (sIn _ _ _ _).mono ?_; rintro e w' ⟨rfl, rfl⟩; rw [hi]) | (go_at_call 67; refine (sCluster _ _).mono ?_; rintro e w' ⟨rfl, rfl⟩; rw [HCl.out]))
      go_returns
      exact ⟨none, 0, rfl, World.ownsRow_nil _ _ _ _, by repeat' (first | (with_reducible exact Below.refl _ _) | (with_reducible assumption) | (with_reducible refine Below.alloc ?_ ?_ _) | (with_reducible refine Below.setCell ?_ ?_ _) | (with_reducible refine Below.drew ?_) | (with_reducible refine below_drewN ?_ _) | (with_reducible refine below_via (by with_reducible assumption) ?_ ?_) | go_size), by simp⟩
set_option maxRecDepth 20000 in
set_option maxHeartbeats 8000000 in
theorem sRR_ok (a : Option Addr) (n cp : Nat) (c : List Int) (cl : Int) (w : World) (h : Rd w a n c) (hn : n ≤ 1048576) (hcp : n = cp) (hx : c.all (fun x => inB x (-1) 1) = true) (hl : limB n = true) (hcl : inB cl 0 2 = true) :
    Calls Try.prog 21 #[.slice a n cp, .int .i64 cl] w (ResI w (rowF c cl ((n - 15) / 11)) 0) := by
  have HH := Lib.hid h
  have HL := Lib.hid h.1
  have HCp : Hid (n ≤ cp) := Nat.le_of_eq hcp
  have HCp2 : Hid (cp ≤ maxLen) := by rw [← hcp]; exact Nat.le_trans hn (by decide)
  clear hcp
  have HAll : Hid (∀ x ∈ c, inB x (-1) 1 = true) := fun x h2 => by rw [List.all_eq_true] at hx; exact hx x h2
  have HLm := Lib.hid (limB_iff.1 hl)
  have HCl := Lib.hid hcl
  clear hl
  obtain ⟨cl0, cl2⟩ := inB_iff.1 hcl
  have HBd : Hid (∀ x ∈ c, -1 ≤ x ∧ x ≤ 1) := fun x hx => inB_iff.1 (HAll.out x hx)
  have hK9 : (n - 15) / 11 ≤ 100000 := by omega
  clear h hx hcl
  go_enter Try.func21, Try.ntmps21
  go_wp2
  go_loop [6] (fun i => ∃ k : Nat, k ≤ n ∧ i = .int .i64 k ∧ Hid (∀ j, j < k → inB (c.getD j 0) (-1) 1 = true)) (fun i => n - (intOf i).toNat)
  case atStart => exact ⟨0, Nat.zero_le _, rfl, fun j hj => absurd hj (by omega)⟩
  case round =>
    obtain ⟨k, hk, rfl, HA⟩ := hrel
    by_cases hlt : k < n
    · obtain ⟨b, off, rfl, hbl, hc⟩ := HH.out.2 (by omega)
      have hx := hc k hlt
      clear hc
      obtain ⟨x, hxv⟩ : ∃ x, c.getD k 0 = x := ⟨_, rfl⟩
      rw [hxv] at hx
      have HX := Lib.hid hxv
      have k0 : (0 : Int) ≤ (k : Int) := by omega
      have k1 : (k : Int) < (n : Int) := by omega
      clear hxv
      have hg : inB x (-1) 1 = true := by rw [← HX.out]; exact HAll.out _ (getD_mem (by rw [HL.out]; exact hlt))
      have HA2 : Hid (∀ j, j < k + 1 → inB (c.getD j 0) (-1) 1 = true) := fun j hj => by
        rcases Nat.lt_or_ge j k with h4 | h4
        · exact HA.out j h4
        · obtain rfl : j = k := by omega
          rw [HX.out]; exact hg
      go_wp2_with (go_at_call 55; refine (sIn _ _ _ _).mono ?_; rintro e w' ⟨rfl, rfl⟩)
      go_round
      case rel => exact ⟨k + 1, by omega, by go_num, HA2⟩
      case measure => simp [intOf]; omega
    · have hnk : (n : Int) ≤ (k : Int) := by omega
      have hge : (0 : Int) ≤ (n : Int) - 7 - 8 := by have := HLm.out; omega
      have hr : ((n : Int) - 7 - 8) % 11 = 0 := by have := HLm.out; omega
      obtain ⟨q, hq⟩ : ∃ q : Int, ((n : Int) - 7 - 8) / 11 = q := ⟨_, rfl⟩
      have hi : inB q 1 12 = true := inB_yes (by have := HLm.out; omega) (by have := HLm.out; omega)
      go_wp2_with (first | (go_at_call 55; refine (sIn _ _ _ _).mono ?_; rintro e w' ⟨rfl, rfl⟩; rw [hi]) | (go_at_call 67; refine (sCluster _ _).mono ?_; rintro e w' ⟨rfl, rfl⟩; rw [HCl.out]))
      refine (sRead a n cp c cl _ HH.out hn HCp.out).mono ?_
      rintro e w1 ⟨av, cv, rfl, ho, hb1⟩
      have HO := Lib.hid ho
      have HB := Lib.hid hb1
      clear ho hb1
      go_wp2
      go_returns
      refine ⟨av, cv, by rw [rowF_len]; rfl, by rw [rowF_len]; exact HO.out, HB.out, by rw [rowF_len]; omega⟩
set_option maxRecDepth 20000 in
set_option maxHeartbeats 8000000 in
theorem iRR_bad (a : Option Addr) (n cp : Nat) (c : List Int) (cl : Int) (w : World) (h : Rd w a n c) (hn : n ≤ 1048576) (hcp : n = cp) (hx : c.all (fun x => inB x (-1) 1) = false) :
    Calls Try.prog 23 #[.slice a n cp, .int .i64 cl] w (ResI w [] 1) := by
  have HH := Lib.hid h
  have HL := Lib.hid h.1
  have HCp : Hid (n ≤ cp) := Nat.le_of_eq hcp
  have HCp2 : Hid (cp ≤ maxLen) := by rw [← hcp]; exact Nat.le_trans hn (by decide)
  clear hcp
  have HAll := Lib.hid hx
  clear h hx
  go_enter Try.func23, Try.ntmps23
  go_wp2
  go_loop [11] (fun i => ∃ k : Nat, k ≤ n ∧ i = .int .i64 k ∧ Hid (∀ j, j < k → inB (c.getD j 0) (-1) 1 = true)) (fun i => n - (intOf i).toNat)
  case atStart => exact ⟨0, Nat.zero_le _, rfl, fun j hj => absurd hj (by omega)⟩
  case round =>
    obtain ⟨k, hk, rfl, HA⟩ := hrel
    by_cases hlt : k < n
    · obtain ⟨b, off, rfl, hbl, hc⟩ := HH.out.2 (by omega)
      have hx := hc k hlt
      clear hc
      obtain ⟨x, hxv⟩ : ∃ x, c.getD k 0 = x := ⟨_, rfl⟩
      rw [hxv] at hx
      have HX := Lib.hid hxv
      have k0 : (0 : Int) ≤ (k : Int) := by omega
      have k1 : (k : Int) < (n : Int) := by omega
      clear hxv
      cases hg : inB x (-1) 1
      · go_wp2_with (go_at_call 59; refine (iIn _ _ _ _).mono ?_; rintro e w' ⟨rfl, rfl⟩)
        go_returns
        exact ⟨none, 0, rfl, World.ownsRow_nil _ _ _ _, by repeat' (first | (with_reducible exact Below.refl _ _) | (with_reducible assumption) | (with_reducible refine Below.alloc ?_ ?_ _) | (with_reducible refine Below.setCell ?_ ?_ _) | (with_reducible refine Below.drew ?_) | (with_reducible refine below_drewN ?_ _) | (with_reducible refine below_via (by with_reducible assumption) ?_ ?_) | go_size), by simp⟩
      · have HA2 : Hid (∀ j, j < k + 1 → inB (c.getD j 0) (-1) 1 = true) := fun j hj => by
          rcases Nat.lt_or_ge j k with h4 | h4
          · exact HA.out j h4
          · obtain rfl : j = k := by omega
            rw [HX.out]; exact hg
        go_wp2_with (go_at_call 59; refine (iIn _ _ _ _).mono ?_; rintro e w' ⟨rfl, rfl⟩)
        go_round
        case rel => exact ⟨k + 1, by omega, by go_num, HA2⟩
        case measure => simp [intOf]; omega
    · have hnk : (n : Int) ≤ (k : Int) := by omega
      exact absurd (all_yes (zs := c) (fun i hi => HA.out i (by have := HL.out; omega))) (by rw [HAll.out]; decide)
set_option maxRecDepth 20000 in
set_option maxHeartbeats 8000000 in
theorem iRR_lim (a : Option Addr) (n cp : Nat) (c : List Int) (cl : Int) (w : World) (h : Rd w a n c) (hn : n ≤ 1048576) (hcp : n = cp) (hx : c.all (fun x => inB x (-1) 1) = true) (hl : limB n = false) :
    Calls Try.prog 23 #[.slice a n cp, .int .i64 cl] w (ResI w [] 3) := by
  have HH := Lib.hid h
  have HL := Lib.hid h.1
  have HCp : Hid (n ≤ cp) := Nat.le_of_eq hcp
  have HCp2 : Hid (cp ≤ maxLen) := by rw [← hcp]; exact Nat.le_trans hn (by decide)
  clear hcp
  have HAll : Hid (∀ x ∈ c, inB x (-1) 1 = true) := fun x h2 => by rw [List.all_eq_true] at hx; exact hx x h2
  have HNo := Lib.hid (limB_no hl)
  have HT : Hid (Int.tmod ((n : Int) - 7 - 8) 11 = tmodN n ∧ Int.tdiv ((n : Int) - 7 - 8) 11 = tdivN n) := ⟨rfl, rfl⟩
  have HTn : Hid (n < 15 → -1 ≤ tdivN n ∧ tdivN n ≤ 0) := tdivN_neg
  clear h hx hl
  go_enter Try.func23, Try.ntmps23
  go_wp2
  go_loop [11] (fun i => ∃ k : Nat, k ≤ n ∧ i = .int .i64 k ∧ Hid (∀ j, j < k → inB (c.getD j 0) (-1) 1 = true)) (fun i => n - (intOf i).toNat)
  case atStart => exact ⟨0, Nat.zero_le _, rfl, fun j hj => absurd hj (by omega)⟩
  case round =>
    obtain ⟨k, hk, rfl, HA⟩ := hrel
    by_cases hlt : k < n
    · obtain ⟨b, off, rfl, hbl, hc⟩ := HH.out.2 (by omega)
      have hx := hc k hlt
      clear hc
      obtain ⟨x, hxv⟩ : ∃ x, c.getD k 0 = x := ⟨_, rfl⟩
      rw [hxv] at hx
      have HX := Lib.hid hxv
      have k0 : (0 : Int) ≤ (k : Int) := by omega
      have k1 : (k : Int) < (n : Int) := by omega
      clear hxv
      have hg : inB x (-1) 1 = true := by rw [← HX.out]; exact HAll.out _ (getD_mem (by rw [HL.out]; exact hlt))
      have HA2 : Hid (∀ j, j < k + 1 → inB (c.getD j 0) (-1) 1 = true) := fun j hj => by
        rcases Nat.lt_or_ge j k with h4 | h4
        · exact HA.out j h4
        · obtain rfl : j = k := by omega
          rw [HX.out]; exact hg
      go_wp2_with (go_at_call 59; refine (iIn _ _ _ _).mono ?_; rintro e w' ⟨rfl, rfl⟩)
      go_round
      case rel => exact ⟨k + 1, by omega, by go_num, HA2⟩
      case measure => simp [intOf]; omega
    · have hnk : (n : Int) ≤ (k : Int) := by omega
      by_cases h15 : n < 15
      · have e2 := HT.out.2
        obtain ⟨g1, g2⟩ := HTn.out h15
        generalize tdivN n = q at e2 g1 g2
        have hi : inB q 1 12 = false := by simp [inB]; omega
        go_wp2_with (first | (go_at_call 59; refine (iIn _ _ _ _).mono ?_; rintro e w' ⟨rfl, rfl⟩; rw [hi]))
        go_returns
        exact ⟨none, 0, rfl, World.ownsRow_nil _ _ _ _, by repeat' (first | (with_reducible exact Below.refl _ _) | (with_reducible assumption) | (with_reducible refine Below.alloc ?_ ?_ _) | (with_reducible refine Below.setCell ?_ ?_ _) | (with_reducible refine Below.drew ?_) | (with_reducible refine below_drewN ?_ _) | (with_reducible refine below_via (by with_reducible assumption) ?_ ?_) | go_size), by simp⟩
      · have hge : (0 : Int) ≤ (n : Int) - 7 - 8 := by omega
        obtain ⟨q, hq⟩ : ∃ q : Int, ((n : Int) - 7 - 8) / 11 = q := ⟨_, rfl⟩
        cases hi : inB q 1 12
        · go_wp2_with (first | (go_at_call 59; refine (iIn _ _ _ _).mono ?_; rintro e w' ⟨rfl, rfl⟩; rw [hi]))
          go_returns
          exact ⟨none, 0, rfl, World.ownsRow_nil _ _ _ _, by repeat' (first | (with_reducible exact Below.refl _ _) | (with_reducible assumption) | (with_reducible refine Below.alloc ?_ ?_ _) | (with_reducible refine Below.setCell ?_ ?_ _) | (with_reducible refine Below.drew ?_) | (with_reducible refine below_drewN ?_ _) | (with_reducible refine below_via (by with_reducible assumption) ?_ ?_) | go_size), by simp⟩
        · obtain ⟨q1, q2⟩ := inB_iff.1 hi
          have tw : ((7 + 11 * q + 8) != (n : Int)) = true := by have := HNo.out; simp; omega
          go_wp2_with (first | (go_at_call 59; refine (iIn _ _ _ _).mono ?_; rintro e w' ⟨rfl, rfl⟩; rw [hi]) | (go_at_call 69; refine (iWidth _ _ (by omega) (by omega)).mono ?_; rintro e w' ⟨rfl, rfl⟩))
          go_returns
          exact ⟨none, 0, rfl, World.ownsRow_nil _ _ _ _, by repeat' (first | (with_reducible exact Below.refl _ _) | (with_reducible assumption) | (with_reducible refine Below.alloc ?_ ?_ _) | (with_reducible refine Below.setCell ?_ ?_ _) | (with_reducible refine Below.drew ?_) | (with_reducible refine below_drewN ?_ _) | (with_reducible refine below_via (by with_reducible assumption) ?_ ?_) | go_size), by simp⟩
set_option maxRecDepth 20000 in
set_option maxHeartbeats 8000000 in
theorem iRR_cl (a : Option Addr) (n cp : Nat) (c : List Int) (cl : Int) (w : World) (h : Rd w a n c) (hn : n ≤ 1048576) (hcp : n = cp) (hx : c.all (fun x => inB x (-1) 1) = true) (hl : limB n = true) (hcl : inB cl 0 2 = false) :
    Calls Try.prog 23 #[.slice a n cp, .int .i64 cl] w (ResI w [] 2) := by
  have HH := Lib.hid h
  have HL := Lib.hid h.1
  have HCp : Hid (n ≤ cp) := Nat.le_of_eq hcp
  have HCp2 : Hid (cp ≤ maxLen) := by rw [← hcp]; exact Nat.le_trans hn (by decide)
  clear hcp
  have HAll : Hid (∀ x ∈ c, inB x (-1) 1 = true) := fun x h2 => by rw [List.all_eq_true] at hx; exact hx x h2
  have HLm := Lib.hid (limB_iff.1 hl)
  have HCl := Lib.hid hcl
  clear hl
  clear h hx hcl
  go_enter Try.func23, Try.ntmps23
  go_wp2
  go_loop [11] (fun i => ∃ k : Nat, k ≤ n ∧ i = .int .i64 k ∧ Hid (∀ j, j < k → inB (c.getD j 0) (-1) 1 = true)) (fun i => n - (intOf i).toNat)
  case atStart => exact ⟨0, Nat.zero_le _, rfl, fun j hj => absurd hj (by omega)⟩
  case round =>
    obtain ⟨k, hk, rfl, HA⟩ := hrel
    by_cases hlt : k < n
    · obtain ⟨b, off, rfl, hbl, hc⟩ := HH.out.2 (by omega)
      have hx := hc k hlt
      clear hc
      obtain ⟨x, hxv⟩ : ∃ x, c.getD k 0 = x := ⟨_, rfl⟩
      rw [hxv] at hx
      have HX := Lib.hid hxv
      have k0 : (0 : Int) ≤ (k : Int) := by omega
      have k1 : (k : Int) < (n : Int) := by omega
      clear hxv
      have hg : inB x (-1) 1 = true := by rw [← HX.out]; exact HAll.out _ (getD_mem (by rw [HL.out]; exact hlt))
      have HA2 : Hid (∀ j, j < k + 1 → inB (c.getD j 0) (-1) 1 = true) := fun j hj => by
        rcases Nat.lt_or_ge j k with h4 | h4
        · exact HA.out j h4
        · obtain rfl : j = k := by omega
          rw [HX.out]; exact hg
      go_wp2_with (go_at_call 59; refine (iIn _ _ _ _).mono ?_; rintro e w' ⟨rfl, rfl⟩)
      go_round
      case rel => exact ⟨k + 1, by omega, by go_num, HA2⟩
      case measure => simp [intOf]; omega
    · have hnk : (n : Int) ≤ (k : Int) := by omega
      have hge : (0 : Int) ≤ (n : Int) - 7 - 8 := by have := HLm.out; omega
      obtain ⟨q, hq⟩ : ∃ q : Int, ((n : Int) - 7 - 8) / 11 = q := ⟨_, rfl⟩
      have q1 : 1 ≤ q := by have := HLm.out; omega
      have q2 : q ≤ 12 := by have := HLm.out; omega
      have hi : inB q 1 12 = true := inB_yes q1 q2
      have tw : ((7 + 11 * q + 8) != (n : Int)) = false := by have := HLm.out; simp; omega
      go_wp2_with (first | (go_at_call 59; refine (iIn _ _ _ _).mono ?_; rintro e w' ⟨rfl, rfl⟩; (first | rw [hi] | rw [HCl.out])) | (go_at_call 69; refine (iWidth _ _ (by omega) (by omega)).mono ?_; rintro e w' ⟨rfl, rfl⟩))
      go_returns
      exact ⟨none, 0, rfl, World.ownsRow_nil _ _ _ _, by repeat' (first | (with_reducible exact Below.refl _ _) | (with_reducible assumption) | (with_reducible refine Below.alloc ?_ ?_ _) | (with_reducible refine Below.setCell ?_ ?_ _) | (with_reducible refine Below.drew ?_) | (with_reducible refine below_drewN ?_ _) | (with_reducible refine below_via (by with_reducible assumption) ?_ ?_) | go_size), by simp⟩
set_option maxRecDepth 20000 in
set_option maxHeartbeats 8000000 in
theorem iRR_ok (a : Option Addr) (n cp : Nat) (c : List Int) (cl : Int) (w : World) (h : Rd w a n c) (hn : n ≤ 1048576) (hcp : n = cp) (hx : c.all (fun x => inB x (-1) 1) = true) (hl : limB n = true) (hcl : inB cl 0 2 = true) :
    Calls Try.prog 23 #[.slice a n cp, .int .i64 cl] w (ResI w (rowF c cl ((n - 15) / 11)) 0) := by
  have HH := Lib.hid h
  have HL := Lib.hid h.1
  have HCp : Hid (n ≤ cp) := Nat.le_of_eq hcp
  have HCp2 : Hid (cp ≤ maxLen) := by rw [← hcp]; exact Nat.le_trans hn (by decide)
  clear hcp
  have HAll : Hid (∀ x ∈ c, inB x (-1) 1 = true) := fun x h2 => by rw [List.all_eq_true] at hx; exact hx x h2
  have HLm := Lib.hid (limB_iff.1 hl)
  have HCl := Lib.hid hcl
  clear hl
  obtain ⟨cl0, cl2⟩ := inB_iff.1 hcl
  have HBd : Hid (∀ x ∈ c, -1 ≤ x ∧ x ≤ 1) := fun x hx => inB_iff.1 (HAll.out x hx)
  have hK9 : (n - 15) / 11 ≤ 100000 := by omega
  clear h hx hcl
  go_enter Try.func23, Try.ntmps23
  go_wp2
  go_loop [11] (fun i => ∃ k : Nat, k ≤ n ∧ i = .int .i64 k ∧ Hid (∀ j, j < k → inB (c.getD j 0) (-1) 1 = true)) (fun i => n - (intOf i).toNat)
  case atStart => exact ⟨0, Nat.zero_le _, rfl, fun j hj => absurd hj (by omega)⟩
  case round =>
    obtain ⟨k, hk, rfl, HA⟩ := hrel
    by_cases hlt : k < n
    · obtain ⟨b, off, rfl, hbl, hc⟩ := HH.out.2 (by omega)
      have hx := hc k hlt
      clear hc
      obtain ⟨x, hxv⟩ : ∃ x, c.getD k 0 = x := ⟨_, rfl⟩
      rw [hxv] at hx
      have HX := Lib.hid hxv
      have k0 : (0 : Int) ≤ (k : Int) := by omega
      have k1 : (k : Int) < (n : Int) := by omega
      clear hxv
      have hg : inB x (-1) 1 = true := by rw [← HX.out]; exact HAll.out _ (getD_mem (by rw [HL.out]; exact hlt))
      have HA2 : Hid (∀ j, j < k + 1 → inB (c.getD j 0) (-1) 1 = true) := fun j hj => by
        rcases Nat.lt_or_ge j k with h4 | h4
        · exact HA.out j h4
        · obtain rfl : j = k := by omega
          rw [HX.out]; exact hg
      go_wp2_with (go_at_call 59; refine (iIn _ _ _ _).mono ?_; rintro e w' ⟨rfl, rfl⟩)
      go_round
      case rel => exact ⟨k + 1, by omega, by go_num, HA2⟩
      case measure => simp [intOf]; omega
    · have hnk : (n : Int) ≤ (k : Int) := by omega
      have hge : (0 : Int) ≤ (n : Int) - 7 - 8 := by have := HLm.out; omega
      obtain ⟨q, hq⟩ : ∃ q : Int, ((n : Int) - 7 - 8) / 11 = q := ⟨_, rfl⟩
      have q1 : 1 ≤ q := by have := HLm.out; omega
      have q2 : q ≤ 12 := by have := HLm.out; omega
      have hi : inB q 1 12 = true := inB_yes q1 q2
      have tw : ((7 + 11 * q + 8) != (n : Int)) = false := by have := HLm.out; simp; omega
      go_wp2_with (first | (go_at_call 59; refine (iIn _ _ _ _).mono ?_; rintro e w' ⟨rfl, rfl⟩; (first | rw [hi] | rw [HCl.out])) | (go_at_call 69; refine (iWidth _ _ (by omega) (by omega)).mono ?_; rintro e w' ⟨rfl, rfl⟩))
      refine (iIdx _).mono ?_
      rintro e w1 ⟨mb, rfl, hm, hmb, hb1⟩
      have HM := Lib.hid hm
      have HB1 := Lib.hid hb1
      have hz1 := hb1.size
      clear hm hb1
      go_wp2_with fail
      refine (iReadRow mb a n cp c cl _ (HH.out.below HB1.out) hn HCp.out HCp2.out HBd.out cl0 cl2 HM.out).mono ?_
      rintro e w2 ⟨av, cv, rfl, ho, hb2⟩
      have HO := Lib.hid (ownN_mono ho hz1)
      have HB : Hid (Below w.heap.size w w2) := HB1.out.trans (hb2.mono hz1)
      clear ho hb2
      go_wp2
      go_returns
      refine ⟨av, cv, by rw [rowF_len]; rfl, by rw [rowF_len]; exact HO.out, HB.out, by rw [rowF_len]; omega⟩
end Go.Proofs.Ytdpifddmhbeklaa
