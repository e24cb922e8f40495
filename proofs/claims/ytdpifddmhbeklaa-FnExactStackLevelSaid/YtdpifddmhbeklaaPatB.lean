/-
  DERIVED. impl.readRow.
-/
import Derived.Test.YtdpifddmhbeklaaPatA
import Derived.Test.YtdpifddmhbeklaaPatJ
namespace Go.Proofs.Ytdpifddmhbeklaa
open Go.RowKit Go.Maps Go.WideMaps Go.WideShapes
set_option linter.unusedVariables false
/-- The first k values of a row. -/
def rowF (c : List Int) (cl : Int) : Nat → List Int
  | 0 => []
  | k + 1 => rowF c cl k ++ [valF ((c.drop (7 + 11 * k)).take 11) cl]
theorem rowF_len (c : List Int) (cl : Int) : ∀ k, (rowF c cl k).length = k
  | 0 => rfl
  | k + 1 => by rw [rowF, List.length_append, rowF_len c cl k]; rfl
/-- Eleven cells within the row. -/
theorem rd_part {w : World} {b off n : Nat} {c : List Int} (h : Rd w (some ⟨b, off, none⟩) n c) {lo : Nat} (hl : lo + 11 ≤ n) : Rd w (some ⟨b, off + lo, none⟩) (10 + 1) ((c.drop lo).take 11) := by
  have hcl := h.1
  have hlen : ((c.drop lo).take 11).length = 11 := by rw [List.length_take, List.length_drop]; omega
  refine ⟨hlen, fun _ => ?_⟩
  obtain ⟨b', off', e, hb, hc⟩ := h.2 (by omega)
  injection e with e
  injection e with e1 e2
  subst e1 e2
  refine ⟨b, off + lo, rfl, hb, fun i hi => ?_⟩
  have := hc (lo + i) (by omega)
  rw [← Nat.add_assoc] at this
  rw [this]
  have h1 : i < ((c.drop lo).take 11).length := by omega
  simp [List.getD_eq_getElem?_getD, List.getElem?_eq_getElem h1, List.getElem?_eq_getElem (show lo + i < c.length by omega)]
theorem newsB (w : World) (o : Obj) (v : Value) (t : TypeId) : ∀ j u, ([v] : List Value)[j]? = some u → ((w.alloc o).alloc (.cells #[v] t)).cell? ((⟨w.heap.size + 1, 0, none⟩ : Addr).add j) = some u := by
  have h := heap_alloc_new (w.alloc o) (.cells #[v] t)
  rw [World.size_alloc] at h
  exact World.news_of_block h
theorem part_mem {c : List Int} {lo : Nat} {x : Int} (h : x ∈ (c.drop lo).take 11) : x ∈ c := List.mem_of_mem_drop (List.mem_of_mem_take h)
theorem zeroI (w : World) : (zeroValue 2).run Try.prog w = .ok (.int .i64 0) w := by kernel_rfl
section
variable {H : Type} {P : Program} (w : World) {ops : Array Oper} {rest : List Oper} {o : Oper} {a : Act} {Q : Exit → Act → World → Prop}
/-- A lookup whose outcome is known. -/
theorem look_at (hg : o.guard = none) (m x : Operand) (t : TypeId) (hop : o.op = Op.lookup t m x true)
    (k e : TypeId) (q : IntKind) (K : Keyed P k) (ht : P.underlying t = some (.map k e)) (he : P.underlying e = some (.int q)) (hz : (zeroValue e).run P w = .ok (.int q 0) w) (b n : Nat) (D : DataW H)
    (hm : a.eval m = .map (some b)) (hown : w.ownsMap P k (plainElem P e) b n D) (key : Value) (kl : Lit) (hx : a.eval x = key) (hkey : keyOf P k key = some kl)
    (i : Int) (hi : D.atKey kl (.lit (.int q 0)) = .lit (.int q i)) (bb : Bool) (hh : Maps.has D kl = bb)
    (hK : wpList P ops Q rest (a.put o.dst (.tuple #[.int q i, .bool bb])) w) : wpList P ops Q (o :: rest) a w :=
  wpList_lookup_own_ok_int w hg m x t hop k e q K ht he hz b n D hm hown key kl hx hkey (fun c hc _ => by
    have e : c = i := by
      rw [hi] at hc
      injection hc with hc
      injection hc with _ hc
      exact hc.symm
    subst e
    rw [hh]
    exact hK)
end
set_option maxRecDepth 20000 in
set_option maxHeartbeats 8000000 in
theorem iReadRow (mb : Nat) (a : Option Addr) (n cp : Nat) (c : List Int) (cl : Int) (w : World) (h : Rd w a n c) (hn : n ≤ 1048576) (hcp : n ≤ cp) (hcp2 : cp ≤ maxLen) (hb : ∀ x ∈ c, -1 ≤ x ∧ x ≤ 1) (hc0 : 0 ≤ cl) (hc2 : cl ≤ 2)
    (hm : w.ownsMap Try.prog 132 (plainElem (H := Nat) Try.prog 2) mb 120 (idxD 120)) :
    Calls Try.prog 70 #[.map (some mb), .slice a n cp, .int .i64 cl] w fun e w' => ∃ a' cp', e = .returned (.slice a' ((n - 15) / 11) cp') ∧ w'.ownsRow w.heap.size 2 1 (.slice a' ((n - 15) / 11) cp') ((n - 15) / 11) ((rowF c cl ((n - 15) / 11)).map (Value.int .i64)) ∧ Below w.heap.size w w' := by
  obtain ⟨i0, hi, hiz, hi1, hi2⟩ := info_parts infoInt
  unfold maxLen at hcp2
  have HH := Lib.hid h
  have HBd := Lib.hid hb
  have HM := Lib.hid hm
  have HML := Lib.hid hm.lt
  have HO0 : Hid ((w.alloc (.cells #[] 2)).ownsRow w.heap.size 2 1 (.slice (some ⟨w.heap.size, 0, none⟩) 0 0) 0 []) := by
    have := World.ownsRow_lit (base := w.heap.size) (e := 2) (size := 1) w #[] 0 (by simp) (by unfold maxLen; omega) (by simp)
    simp at this
    exact this
  obtain ⟨K, hK⟩ : ∃ K, (n - 15) / 11 = K := ⟨_, rfl⟩
  rw [hK]
  have HKe := Lib.hid hK
  clear h hb hm hK
  go_enter Try.func70, Try.ntmps70
  go_wp2
  go_loopw [7, 8] (fun v i wr => ∃ k : Nat, k ≤ K ∧ i = .int .i64 (7 + 11 * (k : Int)) ∧ Hid (wr.ownsRow w.heap.size 2 1 v k ((rowF c cl k).map (Value.int .i64))) ∧ Hid (Below w.heap.size w wr)) (fun _ i _ => n + 20 - (intOf i).toNat)
  case atStart => exact ⟨0, Nat.zero_le _, rfl, HO0.out, by unfold Hid; repeat' (first | (with_reducible exact Below.refl _ _) | (with_reducible assumption) | (with_reducible refine Below.alloc ?_ ?_ _) | (with_reducible refine Below.setCell ?_ ?_ _) | (with_reducible refine Below.drew ?_) | (with_reducible refine below_drewN ?_ _) | (with_reducible refine below_via (by with_reducible assumption) ?_ ?_) | go_size)⟩
  case round =>
    clear HO0
    obtain ⟨k, hk, rfl, HO, HB⟩ := hrel
    have hzz := HB.out.size
    have hK := HKe.out
    by_cases hlt : k < K
    · have hkn : 7 + 11 * k + 19 ≤ n := by omega
      obtain ⟨b, off, rfl, hbl, -⟩ := HH.out.2 (by omega)
      have hkI : 7 + 11 * (k : Int) + 19 ≤ (n : Int) := by omega
      have hkc : 7 + 11 * (k : Int) + 11 ≤ (cp : Int) := by omega
      have hk0 : (0 : Int) ≤ 7 + 11 * (k : Int) := by omega
      have hkt : (7 + 11 * (k : Int)).toNat = 7 + 11 * k := by omega
      have hkt2 : (7 + 11 * (k : Int) + 11).toNat = 7 + 11 * k + 11 := by omega
      have hk6 : k ≤ 100000 := by omega
      have HRd : Hid (∀ W, Below w.heap.size w W → Rd W (some ⟨b, off + (7 + 11 * k), none⟩) (10 + 1) ((c.drop (7 + 11 * k)).take 11)) := fun W hW => rd_part (HH.out.below hW) (by omega)
      have HLs : Hid (((c.drop (7 + 11 * k)).take 11).length = 11) := (HRd.out w (Below.refl _ _)).1
      clear hK
      go_wp2_with fail
      refine (iShown _ 10 _ ((c.drop (7 + 11 * k)).take 11) _ (HRd.out _ HB.out) (by omega) (fun x hx => HBd.out x (part_mem hx))).mono ?_
      rintro e w2 ⟨P, bb, rfl, hb2, hw8, h1, h2⟩
      obtain ⟨p0, p1, p2, p3, p4, p5, p6, p7, rfl⟩ := list8 hw8.1
      rw [show vals [p0, p1, p2, p3, p4, p5, p6, p7] = #[.int .i64 p0, .int .i64 p1, .int .i64 p2, .int .i64 p3, .int .i64 p4, .int .i64 p5, .int .i64 p6, .int .i64 p7] from rfl]
      have HW8 := Lib.hid hw8
      have HKY : Hid (keyOf Try.prog 132 (.agg #[.int .i64 p0, .int .i64 p1, .int .i64 p2, .int .i64 p3, .int .i64 p4, .int .i64 p5, .int .i64 p6, .int .i64 p7]) = some (KL [p0, p1, p2, p3, p4, p5, p6, p7])) := keyOf8 (x := [p0, p1, p2, p3, p4, p5, p6, p7]) hw8
      have HM2 : Hid (w2.ownsMap Try.prog 132 (plainElem (H := Nat) Try.prog 2) mb 120 (idxD 120)) := HM.out.kept (only_of_below (HB.out.trans (hb2.mono hzz)) none) (by simp)
      have HO2 : Hid (w2.ownsRow w.heap.size 2 1 _ k ((rowF c cl k).map (Value.int .i64))) := ownN_below HO.out hb2
      have HB2 : Hid (Below w.heap.size w w2) := HB.out.trans (hb2.mono hzz)
      have hz2 := HB2.out.size
      have HH1 := Lib.hid h1
      have HH2 := Lib.hid h2
      clear hw8 h1 h2 hb2 HO HB HRd hbl
      cases bb with
      | false =>
        obtain ⟨iv, bh, hat, hhas⟩ : ∃ iv bh, (idxD 120).atKey (KL [p0, p1, p2, p3, p4, p5, p6, p7]) (.lit (.int .i64 0)) = .lit (.int .i64 iv) ∧ Maps.has (idxD 120) (KL [p0, p1, p2, p3, p4, p5, p6, p7]) = bh := by
          rcases idx_look HW8.out with ⟨x1, _, x2⟩ | ⟨x1, _⟩
          · exact ⟨_, _, x2, x1⟩
          · exact ⟨0, _, atKey_of_not_has x1 _, x1⟩
        have HAT := Lib.hid hat
        have HHAS := Lib.hid hhas
        clear hat hhas
        have HVV : Hid (valF ((c.drop (7 + 11 * k)).take 11) cl = (-1)) := by
          unfold Hid
          exact valF_bad cl (HH2.out rfl)
        go_wp2_with (first | (at_lookup; refine look_at _ rfl _ _ 96 rfl 132 2 .i64 lawW Try.underlying96 Try.underlying2 (zeroI _) mb 120 (idxD 120) rfl (HM2.out.kept (World.grownBy_alloc _ _ none) (by simp)) _ (KL [p0, p1, p2, p3, p4, p5, p6, p7]) rfl HKY.out iv HAT.out _ HHAS.out ?_) | (at_builtin; refine wpList_append_own _ rfl _ _ 36 rfl w.heap.size 2 i0 _ 1 8 Try.underlying36 hi hiz hi1 hi2 rfl (by decide) _ _ _ rfl ((HO2.out.alloc _).alloc _) ⟨w2.heap.size + 1, 0, none⟩ 1 1 [.int .i64 (-1)] rfl rfl (newsB w2 _ _ _) (by simp [Value.oneCell']) (by unfold maxLen; omega) (by omega) (by simp; omega) ?_; intro v' w3 hown' hgrow _))
        have HO3 : Hid (w3.ownsRow w.heap.size 2 1 v' (k + 1) ((rowF c cl (k + 1)).map (Value.int .i64))) := by
          unfold Hid
          rw [rowF, List.map_append, HVV.out]
          exact hown'
        have HB3 : Hid (Below w.heap.size w w3) := (((HB2.out.alloc (by omega) _).alloc (by simp; omega) _).grown hgrow (by simp; omega) (fun j e => (HO2.out.lt j e).1))
        clear hown' hgrow
        go_wp2
        go_roundw
        case rel => exact ⟨k + 1, by omega, by go_num, HO3, HB3⟩
        case measure => simp [intOf]; omega
      | true =>
        obtain ⟨hok, hPw⟩ := HH1.out rfl
        rcases idx_look HW8.out with ⟨hhas, hmem, hat⟩ | ⟨hhas, hmem⟩
        · obtain ⟨i, hiv⟩ : ∃ i, PATS.idxOf [p0, p1, p2, p3, p4, p5, p6, p7] = i := ⟨_, rfl⟩
          rw [hiv] at hat
          rw [hPw] at hiv
          have hi120 : i < 120 := by rw [← hiv, ← hPw]; exact (idx_mem hmem).1
          have HAT := Lib.hid hat
          have HHAS := Lib.hid hhas
          have HOK := Lib.hid hok
          have HIV := Lib.hid hiv
          clear hat hhas hok hiv hPw hmem
          have hi0 : (0 : Int) ≤ (i : Int) := by omega
          have hi1' : (i : Int) < 120 := by omega
          by_cases hi96 : i < 96
          · have d96 : decide ((i : Int) < 96) = true := by simp; omega
            by_cases hmod : ((i % 3 : Nat) : Int) = cl
            · have tm : (((i : Int) % 3) == cl) = true := by simp; omega
              obtain ⟨qv, hqv⟩ : ∃ qv : Nat, i / 3 = qv := ⟨_, rfl⟩
              have hq3 : (i : Int) / 3 = (qv : Int) := by omega
              have HMD := Lib.hid hmod
              have HQV := Lib.hid hqv
              clear hmod hqv
              have HVV : Hid (valF ((c.drop (7 + 11 * k)).take 11) cl = (qv : Int)) := by
                unfold Hid
                unfold valF
                rw [HIV.out, if_pos ⟨HOK.out, hi96, HMD.out⟩, HQV.out]
              go_wp2_with (first | (at_lookup; refine look_at _ rfl _ _ 96 rfl 132 2 .i64 lawW Try.underlying96 Try.underlying2 (zeroI _) mb 120 (idxD 120) rfl (HM2.out.kept (World.grownBy_alloc _ _ none) (by simp)) _ (KL [p0, p1, p2, p3, p4, p5, p6, p7]) rfl HKY.out (i : Int) HAT.out true HHAS.out ?_) | (at_builtin; refine wpList_append_own _ rfl _ _ 36 rfl w.heap.size 2 i0 _ 1 8 Try.underlying36 hi hiz hi1 hi2 rfl (by decide) _ _ _ rfl ((HO2.out.alloc _).alloc _) ⟨w2.heap.size + 1, 0, none⟩ 1 1 [.int .i64 (qv : Int)] rfl rfl (newsB w2 _ _ _) (by simp [Value.oneCell']) (by unfold maxLen; omega) (by omega) (by simp; omega) ?_; intro v' w3 hown' hgrow _))
              have HO3 : Hid (w3.ownsRow w.heap.size 2 1 v' (k + 1) ((rowF c cl (k + 1)).map (Value.int .i64))) := by
                unfold Hid
                rw [rowF, List.map_append, HVV.out]
                exact hown'
              have HB3 : Hid (Below w.heap.size w w3) := (((HB2.out.alloc (by omega) _).alloc (by simp; omega) _).grown hgrow (by simp; omega) (fun j e => (HO2.out.lt j e).1))
              clear hown' hgrow
              go_wp2
              go_roundw
              case rel => exact ⟨k + 1, by omega, by go_num, HO3, HB3⟩
              case measure => simp [intOf]; omega
            · have tm : (((i : Int) % 3) == cl) = false := by simp; omega
              have HMD := Lib.hid hmod
              clear hmod
              have HVV : Hid (valF ((c.drop (7 + 11 * k)).take 11) cl = (-1)) := by
                unfold Hid
                unfold valF
                rw [HIV.out, if_neg (fun h => HMD.out h.2.2)]
              go_wp2_with (first | (at_lookup; refine look_at _ rfl _ _ 96 rfl 132 2 .i64 lawW Try.underlying96 Try.underlying2 (zeroI _) mb 120 (idxD 120) rfl (HM2.out.kept (World.grownBy_alloc _ _ none) (by simp)) _ (KL [p0, p1, p2, p3, p4, p5, p6, p7]) rfl HKY.out (i : Int) HAT.out true HHAS.out ?_) | (at_builtin; refine wpList_append_own _ rfl _ _ 36 rfl w.heap.size 2 i0 _ 1 8 Try.underlying36 hi hiz hi1 hi2 rfl (by decide) _ _ _ rfl ((HO2.out.alloc _).alloc _) ⟨w2.heap.size + 1, 0, none⟩ 1 1 [.int .i64 (-1)] rfl rfl (newsB w2 _ _ _) (by simp [Value.oneCell']) (by unfold maxLen; omega) (by omega) (by simp; omega) ?_; intro v' w3 hown' hgrow _))
              have HO3 : Hid (w3.ownsRow w.heap.size 2 1 v' (k + 1) ((rowF c cl (k + 1)).map (Value.int .i64))) := by
                unfold Hid
                rw [rowF, List.map_append, HVV.out]
                exact hown'
              have HB3 : Hid (Below w.heap.size w w3) := (((HB2.out.alloc (by omega) _).alloc (by simp; omega) _).grown hgrow (by simp; omega) (fun j e => (HO2.out.lt j e).1))
              clear hown' hgrow
              go_wp2
              go_roundw
              case rel => exact ⟨k + 1, by omega, by go_num, HO3, HB3⟩
              case measure => simp [intOf]; omega
          · have d96 : decide ((i : Int) < 96) = false := by simp; omega
            have HI9 := Lib.hid hi96
            clear hi96
            have HVV : Hid (valF ((c.drop (7 + 11 * k)).take 11) cl = (-1)) := by
              unfold Hid
              unfold valF
              rw [HIV.out, if_neg (fun h => HI9.out h.2.1)]
            go_wp2_with (first | (at_lookup; refine look_at _ rfl _ _ 96 rfl 132 2 .i64 lawW Try.underlying96 Try.underlying2 (zeroI _) mb 120 (idxD 120) rfl (HM2.out.kept (World.grownBy_alloc _ _ none) (by simp)) _ (KL [p0, p1, p2, p3, p4, p5, p6, p7]) rfl HKY.out (i : Int) HAT.out true HHAS.out ?_) | (at_builtin; refine wpList_append_own _ rfl _ _ 36 rfl w.heap.size 2 i0 _ 1 8 Try.underlying36 hi hiz hi1 hi2 rfl (by decide) _ _ _ rfl ((HO2.out.alloc _).alloc _) ⟨w2.heap.size + 1, 0, none⟩ 1 1 [.int .i64 (-1)] rfl rfl (newsB w2 _ _ _) (by simp [Value.oneCell']) (by unfold maxLen; omega) (by omega) (by simp; omega) ?_; intro v' w3 hown' hgrow _))
            have HO3 : Hid (w3.ownsRow w.heap.size 2 1 v' (k + 1) ((rowF c cl (k + 1)).map (Value.int .i64))) := by
              unfold Hid
              rw [rowF, List.map_append, HVV.out]
              exact hown'
            have HB3 : Hid (Below w.heap.size w w3) := (((HB2.out.alloc (by omega) _).alloc (by simp; omega) _).grown hgrow (by simp; omega) (fun j e => (HO2.out.lt j e).1))
            clear hown' hgrow
            go_wp2
            go_roundw
            case rel => exact ⟨k + 1, by omega, by go_num, HO3, HB3⟩
            case measure => simp [intOf]; omega
        · have HAT := Lib.hid (atKey_of_not_has hhas (.lit (.int .i64 0)))
          have HHAS := Lib.hid hhas
          have HME : Hid (wid ((c.drop (7 + 11 * k)).take 11) ((c.drop (7 + 11 * k)).take 11).length ∉ PATS) := by rw [← hPw]; exact hmem
          clear hhas hmem hok hPw
          have HVV : Hid (valF ((c.drop (7 + 11 * k)).take 11) cl = (-1)) := by
            unfold Hid
            unfold valF
            rw [idx_none HME.out, if_neg (fun h => by omega)]
          go_wp2_with (first | (at_lookup; refine look_at _ rfl _ _ 96 rfl 132 2 .i64 lawW Try.underlying96 Try.underlying2 (zeroI _) mb 120 (idxD 120) rfl (HM2.out.kept (World.grownBy_alloc _ _ none) (by simp)) _ (KL [p0, p1, p2, p3, p4, p5, p6, p7]) rfl HKY.out 0 HAT.out false HHAS.out ?_) | (at_builtin; refine wpList_append_own _ rfl _ _ 36 rfl w.heap.size 2 i0 _ 1 8 Try.underlying36 hi hiz hi1 hi2 rfl (by decide) _ _ _ rfl ((HO2.out.alloc _).alloc _) ⟨w2.heap.size + 1, 0, none⟩ 1 1 [.int .i64 (-1)] rfl rfl (newsB w2 _ _ _) (by simp [Value.oneCell']) (by unfold maxLen; omega) (by omega) (by simp; omega) ?_; intro v' w3 hown' hgrow _))
          have HO3 : Hid (w3.ownsRow w.heap.size 2 1 v' (k + 1) ((rowF c cl (k + 1)).map (Value.int .i64))) := by
            unfold Hid
            rw [rowF, List.map_append, HVV.out]
            exact hown'
          have HB3 : Hid (Below w.heap.size w w3) := (((HB2.out.alloc (by omega) _).alloc (by simp; omega) _).grown hgrow (by simp; omega) (fun j e => (HO2.out.lt j e).1))
          clear hown' hgrow
          go_wp2
          go_roundw
          case rel => exact ⟨k + 1, by omega, by go_num, HO3, HB3⟩
          case measure => simp [intOf]; omega
    · have hke : Hid (k = K) := (by omega : k = K)
      have hk6 : k ≤ 100000 := by omega
      have hkI : (n : Int) < 7 + 11 * (k : Int) + 11 + 8 := by have := HKe.out; omega
      clear hK
      go_wp2
      go_returns
      have h1 := HO.out
      rw [hke.out] at h1
      obtain ⟨av, cv, e⟩ := ownN_shape h1
      exact ⟨av, cv, by rw [e]; rfl, by rw [← e]; exact h1, HB.out⟩
end Go.Proofs.Ytdpifddmhbeklaa
