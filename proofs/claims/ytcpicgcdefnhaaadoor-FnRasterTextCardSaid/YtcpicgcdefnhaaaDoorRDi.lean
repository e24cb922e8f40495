/-
  DERIVED. impl.readDecimal; strconv.ParseInt and strings.Index off the shelf.
-/
import Derived.Test.YtcpicgcdefnhaaaDoorRDs
import Derived.Test.YtcpicgcdefnhaaaDoorShl
namespace Go.Proofs.YtcpicgcdefnhaaaDoor
open Go.RowKit Go.Lib
set_option linter.unusedVariables false
/-- The two sentinels of strconv are there. -/
def ErrB (B : Nat) (w : World) : Prop := 4 < B ∧ B ≤ w.heap.size ∧ ∃ tp p tq q, w.cell? ⟨3, 0, none⟩ = some (.iface tp p) ∧ w.cell? ⟨4, 0, none⟩ = some (.iface tq q)
theorem ErrB.on {B B' : Nat} {w w' : World} (h : ErrB B w) (hb : Below B w w') (hB : B ≤ B') (hB' : B' ≤ w'.heap.size) : ErrB B' w' := by
  obtain ⟨h1, h2, tp, p, tq, q, c3, c4⟩ := h
  exact ⟨by omega, hB', tp, p, tq, q, (hb.cell (p := ⟨3, 0, none⟩) (by show 3 < B; omega)).trans c3, (hb.cell (p := ⟨4, 0, none⟩) h1).trans c4⟩
/-- What ParseInt hands back, as its caller sees it. -/
def ResP (l : List UInt8) (w : World) (e : Ending) (w' : World) : Prop := ((∃ v, parseIntB 64 l = .ok v ∧ e = .returned (.tuple #[.int .i64 v, .nilIface])) ∨ ((∀ v, parseIntB 64 l ≠ .ok v) ∧ ∃ v t p, e = .returned (.tuple #[.int .i64 v, .iface t p]))) ∧ Below w.heap.size w w'
theorem lParse (s : ByteArray) (w : World) (hs : s.size ≤ 1048576) (B : Nat) (hE : ErrB B w) : Calls Tryd.prog 49 #[.string s, .int .i64 10, .int .i64 64] w (ResP s.data.toList w) := by
  obtain ⟨h1, h2, tp, p, tq, q, c3, c4⟩ := hE
  cases hp : parseIntB 64 s.data.toList with
  | ok v =>
    have hcon := Any.strconv_ParseInt_10_at64_ok Tryd.laysParseInt s (by omega) v hp w
    change Calls Tryd.prog 49 _ _ _ at hcon
    refine hcon.mono fun e w' ⟨h3, h4⟩ => ⟨.inl ⟨v, hp, h3⟩, ?_⟩
    rcases h4 with rfl | ⟨t, rfl⟩
    · exact Below.refl _ _
    · exact Joins.below_bytesWorld _ w _ t (Nat.le_refl _)
  | range =>
    have hcon := Any.strconv_ParseInt_10_at64_range Tryd.laysParseInt s (by omega) hp (.iface tq q) w c4 (Or.inr ⟨tq, q, rfl⟩)
    change Calls Tryd.prog 49 _ _ _ at hcon
    exact hcon.mono fun e w' ⟨N, h3, _, _, h4⟩ => ⟨.inr ⟨(fun v e => by rw [hp] at e; cases e), _, _, _, h3⟩, h4⟩
  | _ =>
    have hcon := Any.strconv_ParseInt_10_at64_syntax Tryd.laysParseInt s (by omega) hp (.iface tp p) w c3 (Or.inr ⟨tp, p, rfl⟩)
    change Calls Tryd.prog 49 _ _ _ at hcon
    exact hcon.mono fun e w' ⟨N, h3, _, _, h4⟩ => ⟨.inr ⟨(fun v e => by rw [hp] at e; cases e), _, _, _, h3⟩, h4⟩
theorem lIndex (s : ByteArray) (w : World) : Calls Tryd.prog 54 #[.string s, .string ⟨#[32]⟩] w fun e w' => e = .returned (.int .i64 (Lib.indexByte s.data.toList 32)) ∧ w' = w := by
  have hcon := Any.strings_Index_one Tryd.laysIndex s 32 w
  change Calls Tryd.prog 54 _ _ _ at hcon
  exact hcon
theorem wd_noN {l : List UInt8} {n : Int} (h : ∀ u : Nat, u ≤ 999 → l ≠ decDigits u) : Wd l n false := ⟨fun e => absurd e (by decide), fun _ => h⟩
theorem head_get {l : List UInt8} (h : l ≠ []) : l.head? = some (l.getD 0 0) := by
  cases l with
  | nil => exact absurd rfl h
  | cons c r => rfl
/-- A zero ahead of other digits. -/
theorem wd_zero {l : List UInt8} {n : Int} (h1 : 1 < l.length) (h : l.head? = some 48) : Wd l n false := wd_noN fun u hu e => by
  cases l with
  | nil => simp at h1
  | cons c r =>
    simp only [List.head?_cons, Option.some.injEq] at h
    subst h
    have h2 := dec_head u r e.symm
    subst h2
    have h3 : decDigits 0 = [48] := by rw [decDigits_one (by omega)]; rfl
    rw [h3] at e
    rw [e] at h1
    simp at h1
theorem wd_sign {l : List UInt8} {n : Int} {c : UInt8} (h : l.head? = some c) (hc : ¬ dg8 c) : Wd l n false := wd_noN fun u hu e => by
  cases l with
  | nil => simp at h
  | cons x r =>
    simp only [List.head?_cons, Option.some.injEq] at h
    subst h
    exact hc (dec_dig u x (by rw [← e]; simp))
theorem empty_eq (s : ByteArray) : s.toList.isEmpty = decide (s.size = 0) := by
  rw [ByteArray.toList_eq]
  have h1 : s.data.toList.length = s.size := Array.length_toList
  cases hl : s.data.toList with
  | nil => rw [hl] at h1; simp at h1; simp [← h1]
  | cons c r => rw [hl] at h1; simp at h1; simp [← h1]
set_option maxRecDepth 20000 in
set_option maxHeartbeats 1000000 in
theorem iReadDec (s : ByteArray) (w : World) (hs : s.size ≤ 1048576) (B : Nat) (hE : ErrB B w) : Calls Tryd.prog 27 #[.string s] w (ResV s w) := by
  obtain ⟨n, hn⟩ : ∃ n, s.size = n := ⟨_, rfl⟩
  have HN : Hid (s.data.toList.length = n) := by unfold Hid; rw [← hn]; exact Array.length_toList
  have HE := Lib.hid hE
  have he := empty_eq s
  rw [hn] at he
  clear hE
  rcases Nat.eq_zero_or_pos n with h0 | h0
  · have te : s.toList.isEmpty = true := by rw [he]; exact decide_eq_true h0
    clear he
    go_enter Tryd.func27, Tryd.ntmps27
    go_wp2_with fail
    go_returns
    exact ⟨_, _, rfl, wd_empty (List.eq_nil_of_length_eq_zero (by rw [HN.out]; omega)), Below.refl _ _⟩
  · have te : s.toList.isEmpty = false := by rw [he]; exact decide_eq_false (by omega)
    have hks : 0 < s.size := by omega
    have HB : Hid (s[0] = s.data.toList.getD 0 0) := byteAt s 0 hks
    have HNE : Hid (s.data.toList ≠ []) := fun e => by have h1 := HN.out; rw [e] at h1; simp at h1; omega
    obtain ⟨c, hc⟩ : ∃ c, s[0] = c := ⟨_, rfl⟩
    rw [hc] at HB
    have HH : Hid (s.data.toList.head? = some c) := by rw [HB.out]; exact head_get HNE.out
    have h0I : (0 : Int) < (n : Int) := by omega
    clear he
    by_cases h48 : 1 < n ∧ c = 48
    · have HW : Hid (Wd s.data.toList 0 false) := wd_zero (by rw [HN.out]; exact h48.1) (by rw [HH.out, h48.2])
      have h1 : (1 : Int) < (n : Int) := by omega
      have hcn : (c.toNat : Int) = 48 := by rw [h48.2]; rfl
      have tc : ((c.toNat : Int) == 48) = true := by rw [hcn]; rfl
      clear h48
      go_enter Tryd.func27, Tryd.ntmps27
      go_wp2_with fail
      go_returns
      exact ⟨_, _, rfl, HW.out, Below.refl _ _⟩
    have t48 : (decide ((1 : Int) < (n : Int)) && ((c.toNat : Int) == 48)) = false := by
      rcases Nat.lt_or_ge 1 n with h | h
      · have h5 : ¬ (c.toNat : Int) = 48 := by
          intro e
          refine h48 ⟨h, UInt8.toNat_inj.1 ?_⟩
          have h6 : c.toNat = 48 := by omega
          rw [h6]
          rfl
        simp [h5]
      · simp; omega
    have n48 : (1 : Int) < (n : Int) → ¬ (c.toNat : Int) = 48 := by
      intro h e
      refine h48 ⟨by omega, UInt8.toNat_inj.1 ?_⟩
      have h6 : c.toNat = 48 := by omega
      rw [h6]
      rfl
    by_cases h43 : (c.toNat : Int) = 43 ∨ (c.toNat : Int) = 45
    · have HW : Hid (Wd s.data.toList 0 false) := wd_sign HH.out (by unfold dg8; omega)
      have n48' : ((c.toNat : Int) == 48) = false := by simp; omega
      clear h48 t48 n48
      rcases h43 with h43 | h43
      · have tc : ((c.toNat : Int) == 43) = true := by rw [h43]; rfl
        by_cases h1 : (1 : Int) < (n : Int)
        all_goals
          go_enter Tryd.func27, Tryd.ntmps27
          go_wp2_with fail
          go_returns
          exact ⟨_, _, rfl, HW.out, Below.refl _ _⟩
      · have tc : ((c.toNat : Int) == 45) = true := by rw [h43]; rfl
        have tc2 : ((c.toNat : Int) == 43) = false := by rw [h43]; rfl
        by_cases h1 : (1 : Int) < (n : Int)
        all_goals
          go_enter Tryd.func27, Tryd.ntmps27
          go_wp2_with fail
          go_returns
          exact ⟨_, _, rfl, HW.out, Below.refl _ _⟩
    have tc1 : ((c.toNat : Int) == 43) = false := by simp; omega
    have tc2 : ((c.toNat : Int) == 45) = false := by simp; omega
    have HHs : Hid (s.data.toList.head? ≠ some 43 ∧ s.data.toList.head? ≠ some 45) := by
      unfold Hid
      rw [HH.out]
      refine ⟨fun e => h43 (.inl ?_), fun e => h43 (.inr ?_)⟩ <;> (injection e with e; subst e; rfl)
    have HZ : Hid (1 < s.data.toList.length → s.data.toList.head? ≠ some 48) := fun h e => by
      rw [HN.out] at h
      rw [HH.out] at e
      injection e with e
      exact h48 ⟨h, e⟩
    clear h48 h43
    by_cases h1 : (1 : Int) < (n : Int)
    all_goals
      first
        | (have n48' : ((c.toNat : Int) == 48) = false := by simpa using n48 h1)
        | skip
      clear n48
      go_enter Tryd.func27, Tryd.ntmps27
      go_wp2_with fail
      refine (lParse s w hs B HE.out).mono ?_
      rintro e w1 ⟨⟨v, hv, rfl⟩ | ⟨hno, v, tt, pp, rfl⟩, hb1⟩
      · have HW : Hid (Wd s.data.toList v true) := ⟨fun _ => parse_ok hv HNE.out HZ.out HHs.out.1 HHs.out.2, fun e => absurd e (by decide)⟩
        clear hv
        go_wp2_with fail
        (try go_quiet (fail))
        go_wp2_with fail
        go_returns
        exact ⟨_, _, rfl, HW.out, below_drewN hb1 _⟩
      · have HW : Hid (Wd s.data.toList v false) := wd_noN fun u hu e => hno u (by rw [e]; exact parse_dec hu)
        clear hno
        go_wp2_with fail
        (try go_quiet (fail))
        go_wp2_with fail
        go_returns
        exact ⟨_, _, rfl, HW.out, below_drewN hb1 _⟩
end Go.Proofs.YtcpicgcdefnhaaaDoor
