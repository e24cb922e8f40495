/-
  DERIVED. StreamIndex: spec.
-/
import Derived.Test.YtdpifddmhbeklaaStrO
import Derived.Test.YtdpifddmhbeklaaStrI0
import Derived.Deep.RegionHeld3
namespace Go.Proofs.Ytdpifddmhbeklaa
open Go.RowKit
set_option linter.unusedVariables false
noncomputable def ixV (L : List (Int × Int)) (b e : Int) : Int × Int := if (b, e) ∈ L then (((ordAt (b, e) L : Nat) : Int), 0) else (0, 2)
theorem ordAt_first {L : List (Int × Int)} {x : Int × Int} {k : Nat} (hk : k < L.length) (h : L.getD k (0, 0) = x) (hf : ∀ j, j < k → L.getD j (0, 0) ≠ x) : x ∈ L ∧ ordAt x L = k := by
  have e : L = L.take k ++ x :: L.drop (k + 1) := by
    have : L[k] = x := by simpa [List.getD_eq_getElem?_getD, List.getElem?_eq_getElem hk] using h
    rw [← this]
    simp
  have hn : x ∉ L.take k := fun hm => by
    obtain ⟨j, hj, hx⟩ := List.getElem_of_mem hm
    have hj2 : j < k := by simp at hj; omega
    refine hf j hj2 ?_
    rw [List.getElem_take] at hx
    simp [List.getD_eq_getElem?_getD, List.getElem?_eq_getElem (show j < L.length by omega), hx]
  refine ⟨by rw [e]; simp, ?_⟩
  rw [e, ordAt_app _ hn]
  simp; omega
theorem ixV_at {L : List (Int × Int)} {b e : Int} {k : Nat} (hk : k < L.length) (h : L.getD k (0, 0) = (b, e)) (hf : ∀ j, j < k → L.getD j (0, 0) ≠ (b, e)) : ixV L b e = ((k : Int), 0) := by
  obtain ⟨h1, h2⟩ := ordAt_first hk h hf
  unfold ixV
  rw [if_pos h1, h2]
theorem ixV_no {L : List (Int × Int)} {b e : Int} (hf : ∀ j, j < L.length → L.getD j (0, 0) ≠ (b, e)) : ixV L b e = (0, 2) := by
  unfold ixV
  refine if_neg fun hm => ?_
  obtain ⟨j, hj, hx⟩ := List.getElem_of_mem hm
  exact hf j hj (by simp [List.getD_eq_getElem?_getD, List.getElem?_eq_getElem hj, hx])
theorem RRow.pl {W : World} {B Z n k : Nat} {a : Option Addr} {L : List (Int × Int)} (h : RRow W B Z a n (L.map pl)) (hk : k < n) : ∃ b off b' off' cp, a = some ⟨b, off, none⟩ ∧ b < W.heap.size ∧ W.cell? ⟨b, off + k, none⟩ = some (.slice (some ⟨b', off', none⟩) 2 cp) ∧ b' < W.heap.size ∧ W.cell? ⟨b', off', none⟩ = some (.int .i64 (L.getD k (0, 0)).1) ∧ W.cell? ⟨b', off' + 1, none⟩ = some (.int .i64 (L.getD k (0, 0)).2) := by
  obtain ⟨b, off, a', cp, e, hb, hc, hr⟩ := h.at hk
  have hkl : k < L.length := by have := h.1; rw [List.length_map] at this; omega
  have e1 : (L.map Go.Proofs.Ytdpifddmhbeklaa.pl).getD k [] = Go.Proofs.Ytdpifddmhbeklaa.pl (L.getD k (0, 0)) := by
    simp [List.getD_eq_getElem?_getD, List.getElem?_eq_getElem hkl]
  rw [e1] at hc hr
  obtain ⟨b', off', e2, hb', hc'⟩ := hr.2 (by simp [Go.Proofs.Ytdpifddmhbeklaa.pl])
  subst e2
  exact ⟨b, off, b', off', cp, e, hb, hc, hb', hc' 0 (by simp [Go.Proofs.Ytdpifddmhbeklaa.pl]), hc' 1 (by simp [Go.Proofs.Ytdpifddmhbeklaa.pl])⟩
theorem sOrderR (p pw po d chk c : Int) (C K : Nat) (w : World) (c1 : 1 ≤ c) (c16 : c ≤ 16) (c2 : c ≤ d) (d2 : d ≤ 1500) (k1 : 1 ≤ chk) (k2 : chk ≤ 64) (hC : c = (C : Int)) (hK : chk = (K : Int)) (n : Nat) (hn : (ordL d c C K).length = n) :
    Calls Try.prog 63 #[.agg #[.int .i64 p, .int .i64 pw, .int .i64 po, .int .i64 d, .int .i64 chk, .int .i64 c]] w fun e w' => ∃ a cp, e = .returned (.slice a n cp) ∧ RRow w' w.heap.size w'.heap.size a n ((ordL d c C K).map pl) ∧ Below w.heap.size w w' ∧ n ≤ 1048576 :=
  (sOrder p pw po d chk c C K w c1 c16 c2 d2 k1 k2 hC hK).mono fun e w' ⟨a, cp, e1, h1, h2, h3⟩ => by
    rw [List.length_map, hn] at e1 h1 h3
    exact ⟨a, cp, e1, h1.read, h2, h3⟩
set_option maxRecDepth 20000 in
set_option maxHeartbeats 4000000 in
theorem sStrNo (p pw po d chk c b e : Int) (w : World) (h : layB p pw po d chk c = false) :
    Calls Try.prog 17 #[.agg #[.int .i64 p, .int .i64 pw, .int .i64 po, .int .i64 d, .int .i64 chk, .int .i64 c], .int .i64 b, .int .i64 e] w fun x w' => x = .returned (.tuple #[.int .i64 0, .int .i64 1]) ∧ Below w.heap.size w w' := by
  go_enter Try.func17, Try.ntmps17
  go_wp2_with (go_at_call 14; refine (sIsLayout _ _ _ _ _ _ _).mono ?_; rintro e w' ⟨rfl, hb⟩; rw [h]; obtain ⟨hc, hf⟩ := bcell hb; have hz := hb.size; (try simp at hz); have hz0 : w.heap.size < w'.heap.size := (by omega))
  go_returns
  exact ⟨rfl, by repeat' (first | (with_reducible exact Below.refl _ _) | (with_reducible assumption) | (with_reducible refine Below.alloc ?_ ?_ _) | (with_reducible refine Below.setCell ?_ ?_ _) | (with_reducible refine Below.drew ?_) | (with_reducible refine below_drewN ?_ _) | (with_reducible refine below_via (by with_reducible assumption) ?_ ?_) | go_size)⟩
set_option maxRecDepth 20000 in
set_option maxHeartbeats 4000000 in
theorem iStrNo (p pw po d chk c b e : Int) (w : World) (h : layB p pw po d chk c = false) :
    Calls Try.prog 18 #[.agg #[.int .i64 p, .int .i64 pw, .int .i64 po, .int .i64 d, .int .i64 chk, .int .i64 c], .int .i64 b, .int .i64 e] w fun x w' => x = .returned (.tuple #[.int .i64 0, .int .i64 1]) ∧ Below w.heap.size w w' := by
  go_enter Try.func18, Try.ntmps18
  go_wp2_with (go_at_call 16; refine (iIsLayout _ _ _ _ _ _ _).mono ?_; rintro e w' ⟨rfl, hb⟩; rw [h]; obtain ⟨hc, hf⟩ := bcell hb; have hz := hb.size; (try simp at hz); have hz0 : w.heap.size < w'.heap.size := (by omega))
  go_returns
  exact ⟨rfl, by repeat' (first | (with_reducible exact Below.refl _ _) | (with_reducible assumption) | (with_reducible refine Below.alloc ?_ ?_ _) | (with_reducible refine Below.setCell ?_ ?_ _) | (with_reducible refine Below.drew ?_) | (with_reducible refine below_drewN ?_ _) | (with_reducible refine below_via (by with_reducible assumption) ?_ ?_) | go_size)⟩
set_option maxRecDepth 20000 in
set_option maxHeartbeats 4000000 in
theorem sStrIx (p pw po d chk c b e : Int) (C K : Nat) (w : World) (h : layB p pw po d chk c = true) (hC : c = (C : Int)) (hK : chk = (K : Int)) :
    Calls Try.prog 17 #[.agg #[.int .i64 p, .int .i64 pw, .int .i64 po, .int .i64 d, .int .i64 chk, .int .i64 c], .int .i64 b, .int .i64 e] w fun x w' => x = .returned (.tuple #[.int .i64 (ixV (ordL d c C K) b e).1, .int .i64 (ixV (ordL d c C K) b e).2]) ∧ Below w.heap.size w w' := by
  obtain ⟨c1, c16, c2, d2, k1, k2, -⟩ := layB_true h
  obtain ⟨n, hn⟩ : ∃ n, (ordL d c C K).length = n := ⟨_, rfl⟩
  have HO := Lib.hid (fun W => sOrderR p pw po d chk c C K W c1 c16 c2 d2 k1 k2 hC hK n hn)
  have HN := Lib.hid hn
  clear hC hK hn c1 c16 c2 d2 k1 k2
  go_enter Try.func17, Try.ntmps17
  go_wp2_with (go_at_call 14; refine (sIsLayout _ _ _ _ _ _ _).mono ?_; rintro e w' ⟨rfl, hb⟩; rw [h]; obtain ⟨hc, hf⟩ := bcell hb; have hz := hb.size; (try simp at hz); have hz0 : w.heap.size < w'.heap.size := (by omega))
  refine (HO.out _).mono ?_
  rintro x w2 ⟨a, cp, rfl, hR, hb2, hn9⟩
  have HB : Hid (Below w.heap.size w w2) := by unfold Hid; repeat' (first | (with_reducible exact Below.refl _ _) | (with_reducible assumption) | (with_reducible refine Below.alloc ?_ ?_ _) | (with_reducible refine Below.setCell ?_ ?_ _) | (with_reducible refine Below.drew ?_) | (with_reducible refine below_drewN ?_ _) | (with_reducible refine below_via (by with_reducible assumption) ?_ ?_) | go_size)
  have HR := Lib.hid hR
  clear hR hb2 hb hc hf hz hz0 HO h
  go_wp2
  go_loop [9] (fun i => ∃ k : Nat, k ≤ n ∧ i = .int .i64 k ∧ Hid (∀ j, j < k → (ordL d c C K).getD j (0, 0) ≠ (b, e))) (fun i => n - (intOf i).toNat)
  case atStart => exact ⟨0, Nat.zero_le _, rfl, fun j hj => absurd hj (by omega)⟩
  case round =>
    obtain ⟨k, hk, rfl, HA⟩ := hrel
    by_cases hlt : k < n
    · obtain ⟨b1, off, b2, off2, cp2, rfl, hb1, hc1, hb2, hx, hy⟩ := HR.out.pl hlt
      have HE : Hid ((ordL d c C K).getD k (0, 0) = (((ordL d c C K).getD k (0, 0)).1, ((ordL d c C K).getD k (0, 0)).2)) := rfl
      generalize ((ordL d c C K).getD k (0, 0)).1 = x at hx HE
      generalize ((ordL d c C K).getD k (0, 0)).2 = y at hy HE
      have q0 : (0 : Int) ≤ (k : Int) := Int.natCast_nonneg _
      have q1 : (k : Int) < (n : Int) := by omega
      have HK : ¬ (x = b ∧ y = e) → Hid (∀ j, j < k + 1 → (ordL d c C K).getD j (0, 0) ≠ (b, e)) := fun hne j hj => by
        rcases Nat.lt_or_ge j k with h1 | h1
        · exact HA.out j h1
        · obtain rfl : j = k := by omega
          rw [HE.out]
          intro h2
          injection h2 with h3 h4
          exact hne ⟨h3, h4⟩
      by_cases hxb : x = b
      · subst hxb
        by_cases hye : y = e
        · subst hye
          have HV := Lib.hid (ixV_at (by rw [HN.out]; exact hlt) HE.out HA.out)
          have t1 : (x == x) = true := by simp
          have t2 : (y == y) = true := by simp
          clear HK
          go_wp2
          go_returns
          exact ⟨ret_ints2 (by rw [HV.out]) (by rw [HV.out]), HB.out⟩
        · have HK2 := Lib.hid (HK (fun h => hye h.2))
          have t1 : (x == x) = true := by simp
          have t2 : (y == e) = false := by simpa using hye
          clear HK hye
          go_wp2
          go_round
          case rel => exact ⟨k + 1, by omega, by go_num, HK2.out⟩
          case measure => simp [intOf]; omega
      · have HK2 := Lib.hid (HK (fun h => hxb h.1))
        have t1 : (x == b) = false := by simpa using hxb
        clear HK hxb
        go_wp2
        go_round
        case rel => exact ⟨k + 1, by omega, by go_num, HK2.out⟩
        case measure => simp [intOf]; omega
    · have HV : Hid (ixV (ordL d c C K) b e = (0, 2)) := ixV_no (fun j hj => HA.out j (by rw [HN.out] at hj; omega))
      go_wp2
      go_returns
      exact ⟨ret_ints2 (by rw [HV.out]) (by rw [HV.out]), HB.out⟩
end Go.Proofs.Ytdpifddmhbeklaa
