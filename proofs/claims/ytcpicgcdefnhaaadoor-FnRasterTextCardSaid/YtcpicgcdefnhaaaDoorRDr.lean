/-
  DERIVED. spec.ReadRaster.
-/
import Derived.Test.YtcpicgcdefnhaaaDoorRDs
import Derived.Test.YtcpicgcdefnhaaaDoorCReadR
namespace Go.Proofs.YtcpicgcdefnhaaaDoor
open Go.RowKit Go.Lib
set_option linter.unusedVariables false
/-- What a string reads as. -/
def RVC (l : List UInt8) (R C : Int) (L : List Int) (ok : Bool) : Prop := (ok = true ∧ RV l R C L) ∨ (ok = false ∧ R = 0 ∧ C = 0 ∧ L = [] ∧ ∀ r c zs, ¬ RV l r c zs)
theorem rvc_one {l : List UInt8} {R C R' C' : Int} {L L' : List Int} {ok ok' : Bool} (h : RVC l R C L ok) (h' : RVC l R' C' L' ok') : R = R' ∧ C = C' ∧ L = L' ∧ ok = ok' := by
  rcases h with ⟨rfl, h1⟩ | ⟨rfl, rfl, rfl, rfl, h1⟩ <;> rcases h' with ⟨rfl, h2⟩ | ⟨rfl, rfl, rfl, rfl, h2⟩
  · have e := (rv_spl h1).symm.trans (rv_spl h2)
    have e2 : (R :: C :: L).map Int.toNat = (R' :: C' :: L').map Int.toNat := by
      refine map_dec_inj ?_
      rw [List.map_map, List.map_map]
      have f1 : (R :: C :: L).map (decDigits ∘ Int.toNat) = (R :: C :: L).map itoa := List.map_congr_left fun x hx => (itoa_dec (rv_bd h1 x hx).1).symm
      have f2 : (R' :: C' :: L').map (decDigits ∘ Int.toNat) = (R' :: C' :: L').map itoa := List.map_congr_left fun x hx => (itoa_dec (rv_bd h2 x hx).1).symm
      rw [f1, f2, e]
    have e3 := congrArg (List.map (fun n : Nat => (n : Int))) e2
    rw [List.map_map, List.map_map] at e3
    have g1 : (R :: C :: L).map ((fun n : Nat => (n : Int)) ∘ Int.toNat) = (R :: C :: L).map id := List.map_congr_left fun x hx => by
      have := (rv_bd h1 x hx).1
      simp
      omega
    have g2 : (R' :: C' :: L').map ((fun n : Nat => (n : Int)) ∘ Int.toNat) = (R' :: C' :: L').map id := List.map_congr_left fun x hx => by
      have := (rv_bd h2 x hx).1
      simp
      omega
    rw [g1, g2, List.map_id, List.map_id] at e3
    injection e3 with e4 e5
    injection e5 with e5 e6
    exact ⟨e4, e5, e6, rfl⟩
  · exact absurd h1 (h2 _ _ _)
  · exact absurd h2 (h1 _ _ _)
  · exact ⟨rfl, rfl, rfl, rfl⟩
theorem rvc_is (l : List UInt8) : ∃ R C L ok, RVC l R C L ok := by
  by_cases h : ∃ r c zs, RV l r c zs
  · obtain ⟨r, c, zs, h⟩ := h
    exact ⟨r, c, zs, true, .inl ⟨rfl, h⟩⟩
  · exact ⟨0, 0, [], false, .inr ⟨rfl, rfl, rfl, rfl, fun r c zs h2 => h ⟨r, c, zs, h2⟩⟩⟩
/-- A raster read, or none. -/
def ResR (l : List UInt8) (w : World) (e : Ending) (w' : World) : Prop := ∃ R C L ok, RVC l R C L ok ∧ ResB w R C L ok e w'
theorem resR_no {l : List UInt8} {w w' : World} (h : ∀ r c zs, ¬ RV l r c zs) (hb : Below w.heap.size w w') : ResR l w (.returned (.tuple #[.agg #[.int .i64 0, .int .i64 0, .slice none 0 0], .bool false])) w' :=
  ⟨0, 0, [], false, .inr ⟨rfl, rfl, rfl, rfl, h⟩, none, 0, rfl, OwnO.nil _ _, hb, by simp⟩
theorem own_cellS {w : World} {base N : Nat} {v : Value} {ws : List ByteArray} (h : w.ownsRow base 9 1 v N (ws.map Value.string)) (hN : 0 < N) : ∃ g cap, v = .slice (some ⟨g, 0, none⟩) N cap ∧ base ≤ g ∧ g < w.heap.size ∧ ws.length = N ∧ ∀ i, i < N → w.cell? ⟨g, i, none⟩ = some (.string (ws.getD i ByteArray.empty)) := by
  obtain ⟨g, cap, hv, hb, hc⟩ := h.form hN
  have hl : ws.length = N := by simpa using h.1
  subst hv
  refine ⟨g, cap, rfl, hb, (h.lt g rfl).2, hl, fun i hi => ?_⟩
  have hi2 : i < ws.length := by omega
  rw [h.cellAt i (by omega)]
  simp [List.getElem?_map, List.getElem?_eq_getElem hi2, List.getD_eq_getElem?_getD]
theorem rd_newsS {w : World} {b off n : Nat} {zs : List Int} (h : Rd w (some ⟨b, off, none⟩) n zs) (hn : 1 ≤ n) : ∀ j u, (zs.map (Value.int .i64))[j]? = some u → w.cell? ((⟨b, off, none⟩ : Addr).add j) = some u := by
  intro j u hj
  obtain ⟨b', off', e, hlt, hc⟩ := h.2 (by omega)
  injection e with e
  injection e with e1 e2
  subst e1 e2
  have hlen := h.1
  have hj2 : j < zs.length := by
    have := (List.getElem?_eq_some_iff.1 hj).1
    simpa using this
  rw [Addr.add_lit, hc j (by omega)]
  simp [List.getElem?_map, List.getElem?_eq_getElem hj2] at hj
  rw [← hj, List.getD_eq_getElem?_getD, List.getElem?_eq_getElem hj2]
  rfl
set_option maxHeartbeats 2000000 in
theorem sOwnR (a : Option Addr) (n cp : Nat) (zs : List Int) (w : World) (h : Rd w a n zs) (hn : n ≤ 1048576) (h1 : 1 ≤ n) :
    Calls Tryd.prog 25 #[.slice a n cp] w fun e w' => ∃ v, e = .returned v ∧ w'.ownsRow w.heap.size 2 1 v n (zs.map (Value.int .i64)) ∧ Below w.heap.size w w' := by
  obtain ⟨i0, hi0, hz0, hz1', hz2⟩ := info_parts infoInt
  have HH := Lib.hid h
  obtain ⟨hl, hr⟩ := h
  obtain ⟨b, off, rfl, hb, hc⟩ := hr (by omega)
  have HO0 : Hid ((w.alloc (.cells #[] 2)).ownsRow w.heap.size 2 1 (.slice (some ⟨w.heap.size, 0, none⟩) 0 0) 0 []) :=
    World.ownsRow_lit (base := w.heap.size) (e := 2) (size := 1) w #[] 0 (by simp) (by unfold maxLen; omega) (by simp)
  have HNEW : Hid (∀ j u, (zs.map (Value.int .i64))[j]? = some u → (w.alloc (.cells #[] 2)).cell? ((⟨b, off, none⟩ : Addr).add j) = some u) := rd_newsS (HH.out.below ((Below.refl _ _).alloc (Nat.le_refl _) _)) h1
  have HLEN : Hid ((zs.map (Value.int .i64)).length = n * 1) := by unfold Hid; rw [List.length_map, hl, Nat.mul_one]
  have HONE : Hid (∀ u ∈ zs.map (Value.int .i64), u.oneCell' = true) := fun u hu => by
    obtain ⟨_, _, rfl⟩ := List.mem_map.1 hu
    rfl
  obtain ⟨news, hnews⟩ : ∃ l, zs.map (Value.int .i64) = l := ⟨_, rfl⟩
  rw [hnews] at HNEW HONE HLEN ⊢
  clear hnews hr hl hc HH
  go_enter Tryd.func25, Tryd.ntmps25
  go_wp2_with (at_builtin; refine wpList_append_own _ rfl _ _ 22 rfl w.heap.size 2 i0 (.int .i64 0) 1 8 Tryd.underlying22 hi0 hz0 hz1' hz2 rfl (by decide) _ _ _ rfl HO0.out ⟨b, off, none⟩ n cp news rfl HLEN.out HNEW.out HONE.out (by unfold maxLen; omega) (by omega) (by simp) ?_; intro v' w2 hown' hgrow _)
  rw [Nat.zero_add, List.nil_append] at hown'
  have HO := Lib.hid hown'
  have HB : Hid (Below w.heap.size w w2) := (((Below.refl w.heap.size w).alloc (Nat.le_refl _) _)).grown hgrow (by simp) (fun j e => (HO0.out.lt j e).1)
  clear hown' hgrow
  go_wp2
  go_returns
  exact ⟨_, rfl, HO.out, HB.out⟩
theorem own_capsS {w : World} {base n c m : Nat} {t : TypeId} {a : Option Addr} {xs : List Value} (h : w.ownsRow base t m (.slice a n c) n xs) : n ≤ c ∧ c ≤ maxLen := by
  rcases h.2 with ⟨hv, h0⟩ | ⟨g, cap, cur, hv, hg, hh, h1, h2, _⟩
  · injection hv with _ _ e
    unfold maxLen
    omega
  · injection hv with _ _ e
    omega
def ints (L : List Nat) : List Int := L.map fun n : Nat => (n : Int)
theorem ints_app (L : List Nat) (u : Nat) : ints (L ++ [u]) = ints L ++ [(u : Int)] := by simp [ints]
theorem dat_take {ws : List ByteArray} {k : Nat} (h : k < ws.length) : dat (ws.take (k + 1)) = dat (ws.take k) ++ [(ws.getD k ByteArray.empty).data.toList] := by
  rw [List.take_add_one, List.getElem?_eq_getElem h, List.getD_eq_getElem?_getD, List.getElem?_eq_getElem h]
  unfold dat
  rw [List.map_append]
  rfl
theorem own_shapeS {w : World} {base n m : Nat} {t : TypeId} {v : Value} {xs : List Value} (h : w.ownsRow base t m v n xs) : ∃ a cp, v = .slice a n cp := by
  rcases h.2 with ⟨rfl, h0⟩ | ⟨g, cap, cur, rfl, _⟩
  · exact ⟨none, 0, by rw [h0]⟩
  · exact ⟨_, _, rfl⟩
theorem ints_bd (L : List Nat) : (ints L).length = L.length := by simp [ints]
theorem Out3.mk7 {w : World} {b : Nat} (h : b < w.heap.size) (c0 : w.cell? ⟨b, 0, none⟩ = some (.int .i64 0)) (c1 : w.cell? ⟨b, 1, none⟩ = some (.int .i64 0)) (c2 : w.cell? ⟨b, 2, none⟩ = some (.slice none 0 0)) (f0 : w.frozen? ⟨b, 0, none⟩ = false) (f1 : w.frozen? ⟨b, 1, none⟩ = false) (f2 : w.frozen? ⟨b, 2, none⟩ = false) : Out3 w b := ⟨h, c0, c1, c2, f0, f1, f2⟩
theorem box3_set {w : World} {b : Nat} {x y z : Value} (h : Out3 w b) : Box3 (((w.setCell ⟨b, 0, none⟩ x).setCell ⟨b, 1, none⟩ y).setCell ⟨b, 2, none⟩ z) b x y z := by
  obtain ⟨h0, c0, c1, c2, _⟩ := h
  refine ⟨by simpa using h0, ?_, ?_, ?_⟩ <;> simp [go_sem, c0, c1, c2]
theorem dat_getD {ws : List ByteArray} {k : Nat} (h : k < ws.length) : (dat ws).getD k [] = (ws.getD k ByteArray.empty).data.toList := by
  simp [dat, List.getD_eq_getElem?_getD, List.getElem?_map, List.getElem?_eq_getElem h]
set_option maxRecDepth 20000 in
set_option maxHeartbeats 3000000 in
theorem sReadR (s : ByteArray) (w : World) (hs : s.size ≤ 1048576) : Calls Tryd.prog 6 #[.string s] w (ResR s.data.toList w) := by
  obtain ⟨n, hn⟩ : ∃ n, s.size = n := ⟨_, rfl⟩
  have HN : Hid (s.data.toList.length = n) := by unfold Hid; rw [← hn]; exact Array.length_toList
  have K0 : Hid (Out3 (w.alloc (.cells #[.int .i64 0, .int .i64 0, .slice none 0 0] 24)) w.heap.size) := Out3.new w 24
  have HB0 : Hid (Below w.heap.size w (w.alloc (.cells #[.int .i64 0, .int .i64 0, .slice none 0 0] 24))) := (Below.refl _ _).alloc (Nat.le_refl _) _
  by_cases hbig : 160008 < n
  · have HV : Hid (∀ r c zs, ¬ RV s.data.toList r c zs) := rv_long (by rw [HN.out]; exact hbig)
    obtain ⟨q_, q0, q1, q2, q3, q4, q5⟩ := K0.out
    go_enter Tryd.func6, Tryd.ntmps6
    go_wp2_with fail
    refine bodyPost_ret (v := .tuple #[.agg #[.int .i64 0, .int .i64 0, .slice none 0 0], .bool false]) (by simp [results, Tryd.results6, go_sem, q0, q1, q2]) rfl ?_
    exact resR_no HV.out HB0.out
  obtain ⟨i0, hi, hiz, hi1, hi2⟩ := info_parts infoInt
  obtain ⟨W0, hW0⟩ : ∃ W : World, W = w.alloc (.cells #[.int .i64 0, .int .i64 0, .slice none 0 0] 24) := ⟨_, rfl⟩
  have hz0 : W0.heap.size = w.heap.size + 1 := by rw [hW0]; simp
  rw [← hW0] at K0 HB0
  go_enter Tryd.func6, Tryd.ntmps6
  go_wp2_with fail
  rw [← hW0]
  clear hW0
  refine (sSplit s W0 hs).mono ?_
  rintro e w1 ⟨v1, ws, rfl, how1, hdat, hb1, hwl, hws⟩
  have HDat := Lib.hid hdat
  have HWs := Lib.hid hws
  have hN1 : 1 ≤ ws.length := by
    have h1 := congrArg List.length hdat
    have h2 := spl_ne s.data.toList
    have h3 : (dat ws).length = ws.length := by simp [dat]
    cases hsp : spl s.data.toList with
    | nil => exact absurd hsp h2
    | cons x r => rw [hsp] at h1; simp only [List.length_cons] at h1; omega
  obtain ⟨g1, cap1, rfl, hg1, hg1z, -, hcs⟩ := own_cellS how1 (by omega)
  have HCs := Lib.hid hcs
  obtain ⟨N, hNE⟩ : ∃ N, ws.length = N := ⟨_, rfl⟩
  have HNE := Lib.hid hNE
  rw [hNE] at hN1 hwl HCs ⊢
  have hNb : N ≤ 160009 := by rw [HN.out] at hwl; omega
  have K1 := Lib.hid (K0.out.keep hb1)
  have HB1 : Hid (Below w.heap.size w w1) := HB0.out.trans (hb1.mono (by omega))
  have hz1 := hb1.size
  clear hdat hws how1 hcs hwl hNE hb1 K0
  have HO0 : Hid ((w1.alloc (.cells #[] 2)).ownsRow w1.heap.size 2 1 (.slice (some ⟨w1.heap.size, 0, none⟩) 0 0) 0 []) := World.ownsRow_lit (base := w1.heap.size) (e := 2) (size := 1) w1 #[] 0 (Nat.le_refl _) (by unfold maxLen; omega) (by simp)
  have HBq : Hid (Below w1.heap.size w1 (w1.alloc (.cells #[] 2))) := (Below.refl _ _).alloc (Nat.le_refl _) _
  go_wp2_with fail
  go_loopw [5, 6] (fun v i wr => ∃ (k : Nat) (L : List Nat), k ≤ N ∧ i = .int .i64 (k : Int) ∧ Hid (dat (ws.take k) = L.map decDigits) ∧ Hid (wr.ownsRow w1.heap.size 2 1 v k ((ints L).map (Value.int .i64))) ∧ Hid (Below w1.heap.size w1 wr)) (fun _ i _ => N - (RowKit.intOf i).toNat)
  case atStart => exact ⟨0, [], Nat.zero_le _, rfl, rfl, HO0.out, HBq.out⟩
  case round =>
    clear HO0 HBq
    obtain ⟨k, L, hk, rfl, HD, HO, HB⟩ := hrel
    have hzr := HB.out.size
    by_cases hlt : k < N
    · have hx := (HB.out.cell (p := ⟨g1, k, none⟩) hg1z).trans (HCs.out k hlt)
      obtain ⟨E, hE⟩ : ∃ E, ws.getD k ByteArray.empty = E := ⟨_, rfl⟩
      rw [hE] at hx
      have HE := Lib.hid hE
      have hkw : k < ws.length := by rw [HNE.out]; exact hlt
      have hEs : E.size ≤ 1048576 := by
        have h1 := HWs.out E (by
          rw [← HE.out, List.getD_eq_getElem?_getD, List.getElem?_eq_getElem hkw]
          exact List.getElem_mem hkw)
        rw [HN.out] at h1
        omega
      have k0 : (0 : Int) ≤ (k : Int) := by omega
      have k1 : (k : Int) < (N : Int) := by omega
      clear hE
      go_wp2_with fail
      refine (sValue E wr hEs).mono ?_
      rintro e w2 ⟨nv, ok, rfl, hW, hb2⟩
      have HW := Lib.hid hW
      have HB2 : Hid (Below w1.heap.size w1 w2) := HB.out.trans (hb2.mono (by omega))
      have hz2 := hb2.size
      have HO2 := Lib.hid (ownN_below HO.out hb2)
      clear hW hb2 HO HB hx
      cases ok
      · have HV : Hid (∀ r c zs, ¬ RV s.data.toList r c zs) := rv_word (k := k) (by rw [← HDat.out]; simp only [dat, List.length_map]; exact hkw) (fun u hu => by
          rw [← HDat.out, dat_getD hkw, HE.out]
          exact HW.out.2 rfl u hu)
        obtain ⟨q_, q0, q1, q2, q3, q4, q5⟩ := K1.out.keep HB2.out
        go_wp2_with fail
        refine bodyPost_ret (v := .tuple #[.agg #[.int .i64 0, .int .i64 0, .slice none 0 0], .bool false]) (by simp [results, Tryd.results6, go_sem, q0, q1, q2]) rfl ?_
        exact resR_no HV.out ((((HB1.out.trans (HB2.out.mono (by omega))).setCell (by simp) _).setCell (by simp) _).setCell (by simp) _)
      · obtain ⟨u, rfl, hu⟩ := HW.out.1 rfl
        have HD2 : Hid (dat (ws.take (k + 1)) = (L ++ [u]).map decDigits) := by
          unfold Hid
          rw [dat_take hkw, HD.out, HE.out, hu]
          simp
        have HMp : Hid ((ints L).map (Value.int .i64) ++ [Value.int .i64 (u : Int)] = (ints (L ++ [u])).map (Value.int .i64)) := by unfold Hid; rw [ints_app, List.map_append]; rfl
        clear hu HW
        go_wp2_with (at_builtin; refine wpList_append_own _ rfl _ _ 22 rfl w1.heap.size 2 i0 _ 1 8 Tryd.underlying22 hi hiz hi1 hi2 rfl (by decide) _ _ _ rfl (HO2.out.alloc _) ⟨w2.heap.size, 0, none⟩ 1 1 [.int .i64 (u : Int)] rfl rfl (news8 w2 _ _) (by simp [Value.oneCell']) (by unfold maxLen; omega) (by omega) (by simp; omega) ?_; intro v3 w3 hown3 hgrow3 _; have HO3 : Hid (w3.ownsRow w1.heap.size 2 1 v3 (k + 1) ((ints (L ++ [u])).map (Value.int .i64))) := (by have h := hown3; rw [HMp.out] at h; exact h); have HB3 : Hid (Below w1.heap.size w1 w3) := HB2.out.trans (own_belowS HO2.out (by omega) hgrow3); clear hown3 hgrow3)
        go_roundw
        case rel => exact ⟨k + 1, L ++ [u], by omega, by go_num, HD2.out, HO3.out, HB3.out⟩
        case measure => simp [RowKit.intOf]; omega
    · have hkN : k = N := by omega
      subst hkN
      have HA : Hid (spl s.data.toList = L.map decDigits) := by
        unfold Hid
        rw [← HDat.out, ← HD.out, ← HNE.out, List.take_length]
      have hLk : L.length = k := by
        have h1 := HO.out.1
        simp [ints] at h1
        exact h1
      have K2 := Lib.hid (K1.out.keep HB.out)
      have HBw : Hid (Below w.heap.size w wr) := HB1.out.trans (HB.out.mono (by omega))
      clear hlt
      by_cases h3 : k < 3
      · have HV : Hid (∀ r c zs, ¬ RV s.data.toList r c zs) := rv_short HA.out (by omega)
        obtain ⟨q_, q0, q1, q2, q3, q4, q5⟩ := K2.out
        obtain ⟨va, vc, rfl⟩ := own_shapeS HO.out
        have h3I : (k : Int) < 3 := by omega
        go_wp2_with fail
        refine bodyPost_ret (v := .tuple #[.agg #[.int .i64 0, .int .i64 0, .slice none 0 0], .bool false]) (by simp [results, Tryd.results6, go_sem, q0, q1, q2]) rfl ?_
        exact resR_no HV.out (((HBw.out.setCell (by simp) _).setCell (by simp) _).setCell (by simp) _)
      · obtain ⟨r, c, zs, hrc⟩ : ∃ r c zs, ints L = r :: c :: zs := by
          have h4 := ints_bd L
          match hm : ints L, h4 with
          | [], h4 => simp at h4; omega
          | [x], h4 => simp at h4; omega
          | x :: y :: zs, _ => exact ⟨x, y, zs, rfl⟩
        have HRC := Lib.hid hrc
        have hzl : zs.length = k - 2 := by
          have h4 := ints_bd L
          rw [hrc] at h4
          simp only [List.length_cons] at h4
          omega
        obtain ⟨m, hm⟩ : ∃ m, k = m + 2 := ⟨k - 2, by omega⟩
        subst hm
        have hm1 : 1 ≤ m := by omega
        have hzl2 : zs.length = m := by omega
        have HZl := Lib.hid hzl2
        have HRC' : Hid ((L.map fun n : Nat => (n : Int)) = r :: c :: zs) := hrc
        have HO3 : Hid (wr.ownsRow w1.heap.size 2 1 u5 (m + 2) ((r :: c :: zs).map (Value.int .i64))) := by rw [← HRC.out]; exact HO.out
        obtain ⟨g, cap, hv, hgb, -⟩ := HO3.out.form (by omega)
        subst hv
        have hcapG := own_capsS HO3.out
        have hgz : g < wr.heap.size := (HO3.out.lt g rfl).2
        have hc0 : wr.cell? ⟨g, 0, none⟩ = some (.int .i64 r) := by rw [HO3.out.cellAt 0 (by omega)]; simp
        have hc1 : wr.cell? ⟨g, 1, none⟩ = some (.int .i64 c) := by rw [HO3.out.cellAt 1 (by omega)]; simp
        have HRd : Hid (Rd wr (some ⟨g, 2, none⟩) m zs) := by
          refine ⟨HZl.out, fun _ => ⟨g, 2, rfl, hgz, fun i hi => ?_⟩⟩
          rw [HO3.out.cellAt (2 + i) (by omega)]
          have h5 : i < zs.length := by rw [HZl.out]; exact hi
          rw [show 2 + i = i + 1 + 1 by omega]
          simp [List.getElem?_eq_getElem h5, List.getD_eq_getElem?_getD]
        have HIo : Hid (∀ W, Below wr.heap.size wr W → Calls Tryd.prog 25 #[.slice (some ⟨g, 2, none⟩) m (cap - 2)] W fun e w' => ∃ v, e = .returned v ∧ w'.ownsRow W.heap.size 2 1 v m (zs.map (Value.int .i64)) ∧ Below W.heap.size W w') := fun W hW => sOwnR _ m _ zs W (HRd.out.below hW) (by omega) hm1
        have hcap2 : 2 ≤ cap := by omega
        have hcap3 : ¬ (cap = 2) := by omega
        have hcap4 : ¬ (cap - 2 = 0) := by omega
        have m2 : ((m : Int) + 2) - 2 = (m : Int) := by omega
        have m3 : (2 : Int) ≤ (m : Int) + 2 := by omega
        have m4 : ((m : Int) + 2).toNat = m + 2 := by omega
        have m5 : m + 2 - 2 = m := by omega
        have m6 : ¬ ((m : Int) + 2 < 3) := by omega
        have m7 : (0 : Int) < (m : Int) + 2 := by omega
        have m8 : (1 : Int) < (m : Int) + 2 := by omega
        clear HO HRC hrc hzl hzl2 h3 HD hLk hk hN1 HCs
        have DB : Below wr.heap.size wr wr.drew := (Below.refl _ _).drew
        have DBh := Lib.hid DB
        go_upto_region 14 with (fail)
        go_cut [9] from 42 (fun p wx => ∃ (b9 : Nat) (av : Option Addr) (cv : Nat), p = .pointer (some ⟨b9, 0, none⟩) ∧ Hid (Box3 wx b9 (.int .i64 r) (.int .i64 c) (.slice av m cv)) ∧ Hid (wx.ownsRow wr.heap.size 2 1 (.slice av m cv) m (zs.map (Value.int .i64))) ∧ Hid (Below wr.heap.size wr wx))
        case first =>
          have o8 : Out3 (wr.alloc (.cells #[.int .i64 0, .int .i64 0, .slice none 0 0] 24)).drew wr.heap.size := Out3.new wr 24
          go_region_law ((go_simp; refine (HIo.out _ (by repeat' (first | (with_reducible exact Below.refl _ _) | (with_reducible assumption) | (with_reducible refine Below.alloc ?_ ?_ _) | (with_reducible refine Below.setCell ?_ ?_ _) | (with_reducible refine Below.drew ?_) | (with_reducible refine below_drewN ?_ _) | (with_reducible refine below_via (by with_reducible assumption) ?_ ?_) | go_size))).mono ?_; rintro e w4 ⟨v4, rfl, ho4, hb4⟩; have HB4 : Below wr.heap.size wr w4 := (by repeat' (first | (with_reducible exact Below.refl _ _) | (with_reducible assumption) | (with_reducible refine Below.alloc ?_ ?_ _) | (with_reducible refine Below.setCell ?_ ?_ _) | (with_reducible refine Below.drew ?_) | (with_reducible refine below_drewN ?_ _) | (with_reducible refine below_via (by with_reducible assumption) ?_ ?_) | go_size)); have hd0 := (HB4.cell (p := ⟨g, 0, none⟩) hgz).trans hc0; have hd1 := (HB4.cell (p := ⟨g, 1, none⟩) hgz).trans hc1; have h7 := own_shapeS ho4; obtain ⟨av, cv, rfl⟩ := h7; have hz4 : wr.heap.size ≤ w4.heap.size := HB4.size; have hz4' : wr.heap.size ≤ wr.drew.heap.size := Nat.le_refl _; have hgz4 : g < w4.heap.size := Nat.lt_of_lt_of_le hgz hz4; (try (have o9 := o8.keep hb4; obtain ⟨o9z, o90, o91, o92, o93, o94, o95⟩ := o9))))
          all_goals
            clear hd0 hd1 hc0 hc1 hgz4 HIo HRd m2 m3 m4 m5 m6 m7 m8 hcap2 hcap3 hcap4 o8
            go_wp2_with fail
            go_meet
            case rel => first
              | exact ⟨_, av, cv, rfl, Box3.new w4 24 _ _ _, ownN_mono (ho4.alloc _) hz4', HB4.alloc hz4 _⟩
              | exact ⟨_, av, cv, rfl, box3_set (Out3.mk7 o9z o90 o91 o92 o93 o94 o95), ownN_mono (ownN_far (ownN_far (ownN_far ho4 (ltNew1 wr _) _) (ltNew1 wr _) _) (ltNew1 wr _) _) (Nat.le_of_lt (ltNew1 wr _)), ((HB4.setCell (Nat.le_refl _) _).setCell (Nat.le_refl _) _).setCell (Nat.le_refl _) _⟩
        obtain ⟨b9, av, cv, rfl, HX, HO9, HB9⟩ := hcut
        obtain ⟨w9, rfl⟩ : ∃ W : World, W = wc := ⟨_, rfl⟩
        have K9 := Lib.hid (K2.out.keep HB9.out)
        have HBw9 : Hid (Below w.heap.size w w9) := HBw.out.trans (HB9.out.mono HBw.out.size)
        have hz9 := HB9.out.size
        have hwz9 := HBw9.out.size
        have HR9 := Lib.hid (own_rd HO9.out)
        clear HB9 K2 HBw HRd HIo hc0 hc1 m2 m3 m4 m5 m6 m7 m8 hcap2 hcap3 hcap4
        obtain ⟨x_, x0, x1, x2⟩ := HX.out
        cases hrb : rasterB r c m zs
        · have HV : Hid (∀ r c zs, ¬ RV s.data.toList r c zs) := rv_bad HA.out HRC'.out (by rw [HZl.out]; exact hrb)
          go_wp2_with fail
          refine (sIsRaster r c av m cv zs w9 HR9.out (by omega)).mono ?_
          rintro e w10 ⟨rfl, hb10⟩
          rw [hrb]
          obtain ⟨q_, q0, q1, q2, q3, q4, q5⟩ := K9.out.keep hb10
          have HBz : Hid (Below w.heap.size w w10) := HBw9.out.trans (hb10.mono hwz9)
          clear hb10 HX x_ x0 x1 x2
          go_wp2_with fail
          refine bodyPost_ret (v := .tuple #[.agg #[.int .i64 0, .int .i64 0, .slice none 0 0], .bool false]) (by simp [results, Tryd.results6, go_sem, q0, q1, q2]) rfl ?_
          exact resR_no HV.out (((HBz.out.setCell (by simp) _).setCell (by simp) _).setCell (by simp) _)
        · have HV : Hid (RV s.data.toList r c zs) := rv_good HA.out HRC'.out (by rw [HZl.out]; exact hrb)
          go_wp2_with fail
          refine (sIsRaster r c av m cv zs w9 HR9.out (by omega)).mono ?_
          rintro e w10 ⟨rfl, hb10⟩
          rw [hrb]
          obtain ⟨q_, q0, q1, q2, q3, q4, q5⟩ := K9.out.keep hb10
          obtain ⟨y_, y0, y1, y2⟩ := HX.out.keep hb10
          have HO10 := Lib.hid (ownN_below HO9.out hb10)
          have HBz : Hid (Below w.heap.size w w10) := HBw9.out.trans (hb10.mono hwz9)
          clear hb10 HX x_ x0 x1 x2
          go_wp2_with fail
          refine bodyPost_ret (v := .tuple #[.agg #[.int .i64 r, .int .i64 c, .slice av m cv], .bool true]) (by simp [results, Tryd.results6, go_sem, q0, q1, q2]) rfl ?_
          have hfar : w.heap.size < wr.heap.size := by omega
          refine ⟨r, c, zs, true, .inl ⟨rfl, HV.out⟩, av, cv, by rw [HZl.out], ?_, ((HBz.out.setCell (by simp) _).setCell (by simp) _).setCell (by simp) _, by rw [HZl.out]; omega⟩
          rw [HZl.out]
          exact OwnO.of (ownN_mono (ownN_far (ownN_far (ownN_far HO10.out hfar _) hfar _) hfar _) (by omega))
end Go.Proofs.YtcpicgcdefnhaaaDoor
