/-
  DERIVED. BurstBound: spec, whole.
-/
import Derived.Test.YtdpifddmhbeklaaBurS
namespace Go.Proofs.Ytdpifddmhbeklaa
open Go.RowKit
set_option linter.unusedVariables false
theorem held_l6 (g : Nat) (p pw po d chk c : Int) (W0 : World) (hg : g < W0.heap.size) (h0 : W0.cell? ⟨g, 0, none⟩ = some (.int .i64 p)) (h1 : W0.cell? ⟨g, 1, none⟩ = some (.int .i64 pw)) (h2 : W0.cell? ⟨g, 2, none⟩ = some (.int .i64 po)) (h3 : W0.cell? ⟨g, 3, none⟩ = some (.int .i64 d)) (h4 : W0.cell? ⟨g, 4, none⟩ = some (.int .i64 chk)) (h5 : W0.cell? ⟨g, 5, none⟩ = some (.int .i64 c)) : ∀ w', Below (g + 1) W0 w' → Below (g + 1) W0 w' ∧ g < w'.heap.size ∧ w'.cell? ⟨g, 0, none⟩ = some (.int .i64 p) ∧ w'.cell? ⟨g, 1, none⟩ = some (.int .i64 pw) ∧ w'.cell? ⟨g, 2, none⟩ = some (.int .i64 po) ∧ w'.cell? ⟨g, 3, none⟩ = some (.int .i64 d) ∧ w'.cell? ⟨g, 4, none⟩ = some (.int .i64 chk) ∧ w'.cell? ⟨g, 5, none⟩ = some (.int .i64 c) := by
  intro w' h
  have hs := h.size
  refine ⟨h, by omega, ?_, ?_, ?_, ?_, ?_, ?_⟩ <;> (refine (h.cell (p := ⟨_, _, none⟩) (by simp)).trans ?_; assumption)
theorem fst_bd {d c : Int} {C K : Nat} (hC : c = (C : Int)) (c1 : 1 ≤ c) (c16 : c ≤ 16) (c2 : c ≤ d) (d2 : d ≤ 1500) {i : Nat} (hi : i < (ordL d c C K).length) : 0 ≤ fst' (ordL d c C K) i ∧ fst' (ordL d c C K) i < 16 := by
  have e : (ordL d c C K).getD i (0, 0) ∈ ordL d c C K := by simp [List.getD_eq_getElem?_getD, List.getElem?_eq_getElem hi]
  have := (mem_ord' hC c1 c2 d2 ((ordL d c C K).getD i (0, 0)).1 ((ordL d c C K).getD i (0, 0)).2).1 e
  unfold fst'
  omega
/-- The bound that is handed back. -/
def BurR (w : World) (f : Nat → Int) (h : Int) (n : Nat) (e : Ending) (w' : World) : Prop := ∃ R : Nat, Bnd f h n R ∧ e = .returned (.tuple #[.int .i64 (R : Int), .int .i64 0]) ∧ Below w.heap.size w w'
set_option maxRecDepth 20000 in
set_option maxHeartbeats 4000000 in
theorem sBurNo (p pw po d chk c : Int) (w : World) (h : layB p pw po d chk c = false) :
    Calls Try.prog 19 #[.agg #[.int .i64 p, .int .i64 pw, .int .i64 po, .int .i64 d, .int .i64 chk, .int .i64 c]] w fun x w' => x = .returned (.tuple #[.int .i64 0, .int .i64 1]) ∧ Below w.heap.size w w' := by
  go_enter Try.func19, Try.ntmps19
  go_wp2_with (go_at_call 14; refine (sIsLayout _ _ _ _ _ _ _).mono ?_; rintro e w' ⟨rfl, hb⟩; rw [h]; obtain ⟨hc, hf⟩ := bcell hb; have hz := hb.size; (try simp at hz); have hz0 : w.heap.size < w'.heap.size := (by omega))
  go_returns
  exact ⟨rfl, by repeat' (first | (with_reducible exact Below.refl _ _) | (with_reducible assumption) | (with_reducible refine Below.alloc ?_ ?_ _) | (with_reducible refine Below.setCell ?_ ?_ _) | (with_reducible refine Below.drew ?_) | (with_reducible refine below_drewN ?_ _) | (with_reducible refine below_via (by with_reducible assumption) ?_ ?_) | go_size)⟩
set_option maxRecDepth 20000 in
set_option maxHeartbeats 4000000 in
theorem iBurNo (p pw po d chk c : Int) (w : World) (h : layB p pw po d chk c = false) :
    Calls Try.prog 20 #[.agg #[.int .i64 p, .int .i64 pw, .int .i64 po, .int .i64 d, .int .i64 chk, .int .i64 c]] w fun x w' => x = .returned (.tuple #[.int .i64 0, .int .i64 1]) ∧ Below w.heap.size w w' := by
  go_enter Try.func20, Try.ntmps20
  go_wp2_with (go_at_call 16; refine (iIsLayout _ _ _ _ _ _ _).mono ?_; rintro e w' ⟨rfl, hb⟩; rw [h]; obtain ⟨hc, hf⟩ := bcell hb; have hz := hb.size; (try simp at hz); have hz0 : w.heap.size < w'.heap.size := (by omega))
  go_returns
  exact ⟨rfl, by repeat' (first | (with_reducible exact Below.refl _ _) | (with_reducible assumption) | (with_reducible refine Below.alloc ?_ ?_ _) | (with_reducible refine Below.setCell ?_ ?_ _) | (with_reducible refine Below.drew ?_) | (with_reducible refine below_drewN ?_ _) | (with_reducible refine below_via (by with_reducible assumption) ?_ ?_) | go_size)⟩
set_option maxRecDepth 20000 in
set_option maxHeartbeats 4000000 in
theorem sBurst (p pw po d chk c : Int) (C K : Nat) (w : World) (h : layB p pw po d chk c = true) (hC : c = (C : Int)) (hK : chk = (K : Int)) :
    Calls Try.prog 19 #[.agg #[.int .i64 p, .int .i64 pw, .int .i64 po, .int .i64 d, .int .i64 chk, .int .i64 c]] w (BurR w (fst' (ordL d c C K)) (chk / 2) (ordL d c C K).length) := by
  obtain ⟨c1, c16, c2, d2, k1, k2, -⟩ := layB_true h
  obtain ⟨n, hn⟩ : ∃ n, (ordL d c C K).length = n := ⟨_, rfl⟩
  have HO := Lib.hid (fun W => sOrderR p pw po d chk c C K W c1 c16 c2 d2 k1 k2 hC hK n hn)
  have HF : Hid (∀ i, i < n → 0 ≤ fst' (ordL d c C K) i ∧ fst' (ordL d c C K) i < 16) := fun i hi => fst_bd hC c1 c16 c2 d2 (by rw [hn]; exact hi)
  have HN := Lib.hid hn
  rw [hn]
  obtain ⟨q, hq⟩ : ∃ q, chk / 2 = q := ⟨_, rfl⟩
  have q0 : 0 ≤ q := by omega
  have q64 : q ≤ 64 := by omega
  have hqt : Int.tdiv chk 2 = q := by rw [Int.tdiv_eq_ediv_of_nonneg (by omega)]; exact hq
  have hqw : IntKind.i64.wrap q = q := IntWalk.i64_in _ (by omega)
  rw [hq]
  have HQ := Lib.hid hq
  have HL0 := Lib.hid (Lay6.new w 29 p pw po d chk c)
  generalize hL : ordL d c C K = L at HO HF HN
  clear hC hK hn c1 c16 c2 d2 hq hL
  go_enter Try.func19, Try.ntmps19
  go_wp2_with (go_at_call 14; refine (sIsLayout _ _ _ _ _ _ _).mono ?_; rintro e w1 ⟨rfl, hb⟩; rw [h]; obtain ⟨hc, hf⟩ := bcell hb; have hz := hb.size; (try simp at hz); have hz0 : w.heap.size < w1.heap.size := (by omega))
  refine (HO.out _).mono ?_
  rintro x w2 ⟨a, cp, rfl, hR, hb2, hn9⟩
  have hz2 := hb2.size
  have HL2 : Hid (Lay6 w2 w.heap.size p pw po d chk c) := (HL0.out.below hb (by simp)).below hb2 (by omega)
  have HB : Hid (Below w.heap.size w w2) := by unfold Hid; repeat' (first | (with_reducible exact Below.refl _ _) | (with_reducible assumption) | (with_reducible refine Below.alloc ?_ ?_ _) | (with_reducible refine Below.setCell ?_ ?_ _) | (with_reducible refine Below.drew ?_) | (with_reducible refine below_drewN ?_ _) | (with_reducible refine below_via (by with_reducible assumption) ?_ ?_) | go_size)
  have HR := Lib.hid hR
  have hzz : w.heap.size < w2.heap.size := by omega
  have HM : Hid (∀ (s k : Nat) (t : Int) (m : Nat) (W : World), Below w2.heap.size w2 W → s + k ≤ n → t = (s : Int) + (k : Int) → wmost (fst' L) s k = m → Calls Try.prog 66 #[.slice a n cp, .int .i64 (s : Int), .int .i64 t] W fun e w' => e = .returned (.int .i64 (m : Int)) ∧ Below W.heap.size W w') := fun s k t m W hW hs ht hm => by
    subst hm
    have := sMost a n cp w1.heap.size w2.heap.size s k L W (HR.out.keep hW) hn9 hs HF.out
    rw [ht]
    simpa using this
  clear hR hb2 hb hc hf hz hz0 HO h HL0
  go_wp2
  go_loopw [5] (fun i wr => ∃ b : Nat, 1 ≤ b ∧ b ≤ n + 1 ∧ i = .int .i64 b ∧ Hid (∀ b' s, b' < b → s + b' ≤ n → Fine (fst' L) q s b') ∧ Below w2.heap.size w2 wr) (fun i _ => n + 1 - (intOf i).toNat)
  case atStart => exact ⟨1, by omega, by omega, rfl, (fun b' s hb hs => by rw [show b' = 0 by omega]; exact Fine.zero q0), Below.refl _ _⟩
  case round =>
    obtain ⟨b, hb1, hb2, rfl, HA, hbel⟩ := hrel
    by_cases hlt : b ≤ n
    · have hltI : (b : Int) ≤ (n : Int) := by omega
      obtain ⟨wo, hwo⟩ : ∃ wo : World, wo = wr := ⟨_, rfl⟩
      subst hwo
      go_wp2
      go_loopw [6] (fun i wr => ∃ t : Nat, t ≤ n ∧ i = .int .i64 t ∧ Hid (∀ s, s < t → s + b ≤ n → Fine (fst' L) q s b) ∧ Below w2.heap.size w2 wr) (fun i _ => n + 1 - (intOf i).toNat)
      case atStart => exact ⟨0, by omega, rfl, fun s hs => absurd hs (by omega), hbel⟩
      case round =>
        clear hbel
        obtain ⟨t, ht, rfl, HT, hbel⟩ := hrel
        have wb : IntKind.i64.wrap ((t : Int) + (b : Int)) = (t : Int) + (b : Int) := IntWalk.i64_in _ (by omega)
        by_cases htn : t + b ≤ n
        · have htI : (t : Int) + (b : Int) ≤ (n : Int) := by omega
          have hzr := hbel.size
          obtain ⟨hl0, a0, a1, a2, a3, a4, a5⟩ := HL2.out.below hbel hzz
          obtain ⟨m, hm⟩ : ∃ m, wmost (fst' L) t b = m := ⟨_, rfl⟩
          have hmn : m ≤ n := by have := wmost_le (fst' L) t b; omega
          have HMf : Hid ((m : Int) ≤ q ↔ Fine (fst' L) q t b) := by unfold Hid; rw [← hm]; exact wmost_fine q0 t b
          have HC := Lib.hid (fun W hW => HM.out t b ((t : Int) + (b : Int)) m W hW htn rfl hm)
          have HS := Lib.hid (held_l6 w.heap.size p pw po d chk c wr hl0 a0 a1 a2 a3 a4 a5)
          have HBel := Lib.hid hbel
          clear hm
          go_wp2
          go_region_held3 (fun w' => Below (w.heap.size + 1) wr w' ∧ w.heap.size < w'.heap.size ∧ w'.cell? ⟨w.heap.size, 0, none⟩ = some (.int .i64 p) ∧ w'.cell? ⟨w.heap.size, 1, none⟩ = some (.int .i64 pw) ∧ w'.cell? ⟨w.heap.size, 2, none⟩ = some (.int .i64 po) ∧ w'.cell? ⟨w.heap.size, 3, none⟩ = some (.int .i64 d) ∧ w'.cell? ⟨w.heap.size, 4, none⟩ = some (.int .i64 chk) ∧ w'.cell? ⟨w.heap.size, 5, none⟩ = some (.int .i64 c)) (exact HS.out _ (by repeat' (first | (with_reducible exact Below.refl _ _) | (with_reducible assumption) | (with_reducible refine Below.alloc ?_ ?_ _) | (with_reducible refine Below.setCell ?_ ?_ _) | (with_reducible refine Below.drew ?_) | (with_reducible refine below_drewN ?_ _) | (with_reducible refine below_via (by with_reducible assumption) ?_ ?_) | go_size))) ((go_at_call 66; refine (HC.out _ (by repeat' (first | (with_reducible exact Below.refl _ _) | (with_reducible assumption) | (with_reducible refine Below.alloc ?_ ?_ _) | (with_reducible refine Below.setCell ?_ ?_ _) | (with_reducible refine Below.drew ?_) | (with_reducible refine below_drewN ?_ _) | (with_reducible refine below_via (by with_reducible assumption) ?_ ?_) | go_size))).mono ?_; rintro e w' ⟨rfl, hb⟩; obtain ⟨hc, hf⟩ := bcell hb; have hz := hb.size; (try simp at hz)))
          all_goals
            by_cases hmq : (m : Int) ≤ q
            · have HT2 : Hid (∀ s, s < t + 1 → s + b ≤ n → Fine (fst' L) q s b) := fun s hs hn => by
                rcases Nat.lt_or_ge s t with h1 | h1
                · exact HT.out s h1 hn
                · obtain rfl : s = t := by omega
                  exact HMf.out.1 hmq
              have HBB : Hid (Below w2.heap.size w2 w') := by unfold Hid; repeat' (first | (with_reducible exact Below.refl _ _) | (with_reducible assumption) | (with_reducible refine Below.alloc ?_ ?_ _) | (with_reducible refine Below.setCell ?_ ?_ _) | (with_reducible refine Below.drew ?_) | (with_reducible refine below_drewN ?_ _) | (with_reducible refine below_via (by with_reducible assumption) ?_ ?_) | go_size)
              clear hb hc hf hz
              go_wp2
              go_roundw
              case rel => exact ⟨t + 1, by omega, by go_num, HT2, HBB.out⟩
              case measure => simp [intOf]; omega
            · have HBd : Hid (Bnd (fst' L) q n (b - 1)) := ⟨by omega, fun b' s hb' hs => HA.out b' s (by omega) hs, .inr ⟨t, by omega, by
                rw [show b - 1 + 1 = b by omega]
                exact fun hf => hmq (HMf.out.2 hf)⟩⟩
              have HB3 : Below w2.heap.size w2 w' := by repeat' (first | (with_reducible exact Below.refl _ _) | (with_reducible assumption) | (with_reducible refine Below.alloc ?_ ?_ _) | (with_reducible refine Below.setCell ?_ ?_ _) | (with_reducible refine Below.drew ?_) | (with_reducible refine below_drewN ?_ _) | (with_reducible refine below_via (by with_reducible assumption) ?_ ?_) | go_size)
              have HBB : Hid (Below w.heap.size w w') := HB.out.trans (HB3.mono (by omega))
              have hmq2 : q < (m : Int) := by omega
              clear hb hc hf hz HB3
              go_wp2
              go_returns
              exact ⟨b - 1, HBd.out, by rw [show ((b - 1 : Nat) : Int) = (b : Int) - 1 by omega]; rfl, HBB.out⟩
        · have htI : (n : Int) < (t : Int) + (b : Int) := by omega
          have HA2 : Hid (∀ b' s, b' < b + 1 → s + b' ≤ n → Fine (fst' L) q s b') := fun b' s hb' hs => by
            rcases Nat.lt_or_ge b' b with h1 | h1
            · exact HA.out b' s h1 hs
            · obtain rfl : b' = b := by omega
              exact HT.out s (by omega) hs
          clear wb
          go_wp2
          go_roundw
          case rel => exact ⟨b + 1, by omega, by omega, by go_num, HA2, hbel⟩
          case measure => simp [intOf]; omega
    · have hltI : (n : Int) < (b : Int) := by omega
      have HBd : Hid (Bnd (fst' L) q n n) := ⟨Nat.le_refl _, fun b' s hb' hs => HA.out b' s (by omega) hs, .inl rfl⟩
      have HBB : Hid (Below w.heap.size w wr) := HB.out.trans (hbel.mono (by omega))
      go_wp2
      go_returns
      exact ⟨n, HBd.out, rfl, HBB.out⟩
end Go.Proofs.Ytdpifddmhbeklaa
