/-
  DERIVED. spec.l01Value, spec.l01Split, spec.l01Own, spec.ReadRaster.
-/
import Derived.Test.YtcpicgcdefnhaaaDoorRDq
import Derived.Test.YtcpicgcdefnhaaaDoorRTs
namespace Go.Proofs.YtcpicgcdefnhaaaDoor
open Go.RowKit Go.Lib
set_option linter.unusedVariables false
theorem wd_no {l : List UInt8} (h : ∀ u : Nat, u ≤ 999 → l ≠ decDigits u) : Wd l 0 false := ⟨fun e => absurd e (by decide), fun _ => h⟩
theorem wd_empty {l : List UInt8} (h : l = []) : Wd l 0 false := wd_no fun u _ e => dec_ne u (by rw [← e, h])
theorem wd_long {l : List UInt8} (h : 3 < l.length) : Wd l 0 false := wd_no fun u hu e => by
  have h1 := decDigits_length u
  have h2 := nDig_3 (u := u) (by omega)
  rw [← e] at h1
  omega
theorem wd_char {l : List UInt8} {k : Nat} (hk : k < l.length) (h : ¬ dg8 (l.getD k 0)) : Wd l 0 false := wd_no fun u hu e => by
  subst e
  refine h (dec_dig u _ ?_)
  rw [List.getD_eq_getElem?_getD, List.getElem?_eq_getElem hk]
  exact List.getElem_mem hk
theorem own_belowS {w w' : World} {base n m : Nat} {t : TypeId} {v : Value} {xs : List Value} {o : Obj} (h : w.ownsRow base t m v n xs) (hb : base ≤ w.heap.size) (hg : (w.alloc o).grownBy w' v.ownBlock) : Below base w w' :=
  ((Below.refl base w).alloc hb o).grown hg (by simp; omega) (fun j e => (h.lt j e).1)
theorem take_step8 {Q : List UInt8} {k : Nat} (h : k < Q.length) : Q.take (k + 1) = Q.take k ++ [Q.getD k 0] := by
  rw [List.take_add_one, List.getD_eq_getElem?_getD, List.getElem?_eq_getElem h]; rfl
theorem byteAt (s : ByteArray) (k : Nat) (h : k < s.size) : s[k] = s.data.toList.getD k 0 := by
  have h2 : k < s.data.toList.length := by rw [Array.length_toList]; exact h
  rw [List.getD_eq_getElem?_getD, List.getElem?_eq_getElem h2]
  rfl
theorem dec_eq (s : ByteArray) (m : Nat) : ((⟨(decDigits m).toArray⟩ : ByteArray).toList == s.toList) = decide (decDigits m = s.data.toList) := by
  rw [ByteArray.toList_eq, ByteArray.toList_eq]
  have : (⟨(decDigits m).toArray⟩ : ByteArray).data.toList = decDigits m := by simp
  rw [this]
  cases hb : (decDigits m == s.data.toList)
  · exact (decide_eq_false (by simpa using hb)).symm
  · exact (decide_eq_true (by simpa using hb)).symm
theorem wd_end {l : List UInt8} : Wd l (val8 0 l : Nat) (decide (decDigits (val8 0 l) = l)) := by
  by_cases h : decDigits (val8 0 l) = l
  · rw [decide_eq_true h]
    exact ⟨fun _ => ⟨_, rfl, h.symm⟩, fun e => absurd e (by decide)⟩
  · rw [decide_eq_false h]
    exact ⟨fun e => absurd e (by decide), fun _ u _ e => h (by rw [e, dec_val])⟩
/-- A number and whether it was read. -/
def ResV (s : ByteArray) (w : World) (e : Ending) (w' : World) : Prop := ∃ n ok, e = .returned (.tuple #[.int .i64 n, .bool ok]) ∧ Wd s.data.toList n ok ∧ Below w.heap.size w w'
set_option maxRecDepth 20000 in
set_option maxHeartbeats 1000000 in
theorem sValue (s : ByteArray) (w : World) (hs : s.size ≤ 1048576) : Calls Tryd.prog 24 #[.string s] w (ResV s w) := by
  obtain ⟨n, hn⟩ : ∃ n, s.size = n := ⟨_, rfl⟩
  have HN : Hid (s.data.toList.length = n) := by unfold Hid; rw [← hn]; exact Array.length_toList
  by_cases h1 : n < 1
  · go_enter Tryd.func24, Tryd.ntmps24
    go_wp2_with fail
    go_returns
    exact ⟨_, _, rfl, wd_empty (List.eq_nil_of_length_eq_zero (by rw [HN.out]; omega)), by repeat' (first | (with_reducible exact Below.refl _ _) | (with_reducible assumption) | (with_reducible refine Below.alloc ?_ ?_ _) | (with_reducible refine Below.setCell ?_ ?_ _) | (with_reducible refine Below.drew ?_) | (with_reducible refine below_drewN ?_ _) | (with_reducible refine below_via (by with_reducible assumption) ?_ ?_) | go_size)⟩
  by_cases h2 : 12 < n
  · go_enter Tryd.func24, Tryd.ntmps24
    go_wp2_with fail
    go_returns
    exact ⟨_, _, rfl, wd_long (by rw [HN.out]; omega), by repeat' (first | (with_reducible exact Below.refl _ _) | (with_reducible assumption) | (with_reducible refine Below.alloc ?_ ?_ _) | (with_reducible refine Below.setCell ?_ ?_ _) | (with_reducible refine Below.drew ?_) | (with_reducible refine below_drewN ?_ _) | (with_reducible refine below_via (by with_reducible assumption) ?_ ?_) | go_size)⟩
  go_enter Tryd.func24, Tryd.ntmps24
  go_wp2_with fail
  go_loop [4, 5] (fun v i => ∃ k m : Nat, k ≤ n ∧ i = .int .i64 (k : Int) ∧ v = .int .i64 (m : Int) ∧ Hid (m = val8 0 (s.data.toList.take k)) ∧ Hid (m < 10 ^ k) ∧ Hid (∀ c ∈ s.data.toList.take k, dg8 c)) (fun _ i => n - (RowKit.intOf i).toNat)
  case atStart => exact ⟨0, 0, Nat.zero_le _, rfl, rfl, rfl, by unfold Hid; omega, fun c hc => by simp at hc⟩
  case round =>
    obtain ⟨k, m, hk, rfl, rfl, HM, Hm, HD⟩ := hrel
    have hm12 : m ≤ 1000000000000 := by
      have h1 := Hm.out
      have h2 : 10 ^ k ≤ 10 ^ 12 := Nat.pow_le_pow_right (by omega) (by omega)
      omega
    by_cases hlt : k < n
    · have hks : k < s.size := by omega
      have HB : Hid (s[k] = s.data.toList.getD k 0) := byteAt s k hks
      obtain ⟨c, hc⟩ : ∃ c, s[k] = c := ⟨_, rfl⟩
      rw [hc] at HB
      have hc8 : c.toNat < 256 := c.toNat_lt
      have k0 : (0 : Int) ≤ (k : Int) := by omega
      have k1 : (k : Int) < (n : Int) := by omega
      by_cases hd : dg8 c
      · have hdd := hd
        unfold dg8 at hdd
        obtain ⟨d1, d2⟩ := hdd
        have n1 : ¬ ((c.toNat : Int) < 48) := by omega
        have n2 : ¬ ((57 : Int) < (c.toNat : Int)) := by omega
        obtain ⟨d, hdE⟩ : ∃ d : Nat, c.toNat - 48 = d := ⟨_, rfl⟩
        have hd9 : d ≤ 9 := by omega
        have e1 : (c.toNat : Int) - 48 = (d : Int) := by omega
        have HM2 : Hid (10 * m + d = val8 0 (s.data.toList.take (k + 1))) := by
          unfold Hid
          rw [take_step8 (by rw [HN.out]; exact hlt), val8_app, ← HM.out, ← HB.out, hdE]
        have Hm2 : Hid (10 * m + d < 10 ^ (k + 1)) := by
          have h1 := Hm.out
          unfold Hid
          rw [Nat.pow_succ]
          omega
        have HD2 : Hid (∀ x ∈ s.data.toList.take (k + 1), dg8 x) := fun x hx => by
          rw [take_step8 (by rw [HN.out]; exact hlt)] at hx
          rcases List.mem_append.1 hx with h | h
          · exact HD.out x h
          · have : x = c := by rw [HB.out]; simpa using h
            rw [this]; exact hd
        have e2 : wrap64 (10 * (m : Int)) = 10 * (m : Int) := by unfold wrap64; omega
        have e3 : wrap64 (10 * (m : Int) + (d : Int)) = ((10 * m + d : Nat) : Int) := by unfold wrap64; omega
        clear hd hdE d1 d2
        go_wp2_with fail
        go_round
        case rel => exact ⟨k + 1, 10 * m + d, by omega, by go_num, by go_num, HM2, Hm2, HD2⟩
        case measure => simp [RowKit.intOf]; omega
      · have hW : Hid (Wd s.data.toList 0 false) := wd_char (k := k) (by rw [HN.out]; exact hlt) (by rw [← HB.out]; exact hd)
        by_cases hlo : (c.toNat : Int) < 48
        · go_wp2_with fail
          go_returns
          exact ⟨_, _, rfl, hW.out, by repeat' (first | (with_reducible exact Below.refl _ _) | (with_reducible assumption) | (with_reducible refine Below.alloc ?_ ?_ _) | (with_reducible refine Below.setCell ?_ ?_ _) | (with_reducible refine Below.drew ?_) | (with_reducible refine below_drewN ?_ _) | (with_reducible refine below_via (by with_reducible assumption) ?_ ?_) | go_size)⟩
        · have hhi : (57 : Int) < (c.toNat : Int) := by unfold dg8 at hd; omega
          go_wp2_with fail
          go_returns
          exact ⟨_, _, rfl, hW.out, by repeat' (first | (with_reducible exact Below.refl _ _) | (with_reducible assumption) | (with_reducible refine Below.alloc ?_ ?_ _) | (with_reducible refine Below.setCell ?_ ?_ _) | (with_reducible refine Below.drew ?_) | (with_reducible refine below_drewN ?_ _) | (with_reducible refine below_via (by with_reducible assumption) ?_ ?_) | go_size)⟩
    · have hkn : k = n := by omega
      subst hkn
      have htk : s.data.toList.take k = s.data.toList := by rw [← HN.out]; exact List.take_length
      rw [htk] at HM
      have HW : Hid (Wd s.data.toList (m : Int) (decide (decDigits m = s.data.toList))) := by unfold Hid; rw [HM.out]; exact wd_end
      have HE := Lib.hid (dec_eq s m)
      obtain ⟨T, hT⟩ : ∃ T : ByteArray, T = ⟨(decDigits m).toArray⟩ := ⟨_, rfl⟩
      have HC : Hid (∀ W, Calls Tryd.prog 33 #[.int .i64 (m : Int)] W fun e w' => e = .returned (.string T) ∧ Below W.heap.size W w') := by rw [hT]; exact sDec m (by omega)
      rw [← hT] at HE
      obtain ⟨bq, hbq⟩ : ∃ b, (T.toList == s.toList) = b := ⟨_, rfl⟩
      rw [hbq] at HE
      rw [← HE.out] at HW
      clear hT HE hlt
      go_wp2_with fail
      refine (HC.out _).mono ?_
      rintro e w2 ⟨rfl, hb2⟩
      go_wp2_with fail
      go_returns
      exact ⟨_, _, rfl, HW.out, hb2⟩
theorem infoStr : (Tryd.prog.info? 9).map (fun i => (i.zero, i.size, i.bytes)) = some (some (.string ByteArray.empty), 1, 16) := by kernel_rfl
def dat (ws : List ByteArray) : List (List UInt8) := ws.map fun s => s.data.toList
theorem dat_app (ws : List ByteArray) (s : ByteArray) : dat (ws ++ [s]) = dat ws ++ [s.data.toList] := by simp [dat]
/-- Words of the call's own. -/
def ResS (l : List UInt8) (w : World) (e : Ending) (w' : World) : Prop := ∃ (v : Value) (ws : List ByteArray), e = .returned v ∧ w'.ownsRow w.heap.size 9 1 v ws.length (ws.map Value.string) ∧ dat ws = spl l ∧ Below w.heap.size w w' ∧ ws.length ≤ l.length + 1 ∧ ∀ s ∈ ws, s.size ≤ l.length
theorem drop_step8 {l : List UInt8} {f k : Nat} (hf : f ≤ k) (hk : k < l.length) : l.drop f = (l.drop f).take (k - f) ++ l.getD k 0 :: l.drop (k + 1) := by
  have h1 : (l.drop f).drop (k - f) = l.drop k := by rw [List.drop_drop]; congr 1; omega
  have h2 : l.drop k = l.getD k 0 :: l.drop (k + 1) := by
    rw [List.drop_eq_getElem_cons hk, List.getD_eq_getElem?_getD, List.getElem?_eq_getElem hk]
    rfl
  rw [← h2, ← h1, List.take_append_drop]
theorem ext_dat (s : ByteArray) (a b : Nat) : (s.extract a b).data.toList = (s.data.toList.drop a).take (b - a) := by
  rw [Lib.extract_data]
theorem ext_size (s : ByteArray) (a b : Nat) (hb : b ≤ s.size) : (s.extract a b).size ≤ s.size := by
  rw [ByteArray.size_extract]
  omega
/-- What the loop knows: the pieces so far, and no blank behind the last. -/
def SpI (l : List UInt8) (f k : Nat) (ws : List ByteArray) : Prop := (k ≤ l.length ∧ f ≤ k ∧ spl l = dat ws ++ spl (l.drop f) ∧ ∀ c ∈ (l.drop f).take (k - f), c ≠ 32) ∨ (k = l.length + 1 ∧ spl l = dat ws)
theorem SpI.start (l : List UInt8) : SpI l 0 0 [] := .inl ⟨Nat.zero_le _, Nat.le_refl _, by simp [dat], fun c hc => by simp at hc⟩
theorem SpI.go {l : List UInt8} {f k : Nat} {ws : List ByteArray} (h : SpI l f k ws) (hk : k < l.length) (hc : l.getD k 0 ≠ 32) : SpI l f (k + 1) ws := by
  rcases h with ⟨_, h2, h3, h4⟩ | ⟨h1, _⟩
  · refine .inl ⟨by omega, by omega, h3, fun c hm => ?_⟩
    have e : (l.drop f).take (k + 1 - f) = (l.drop f).take (k - f) ++ [l.getD k 0] := by
      have h5 : k + 1 - f = (k - f) + 1 := by omega
      rw [h5, take_step8 (by rw [List.length_drop]; omega)]
      congr 2
      rw [List.getD_eq_getElem?_getD, List.getElem?_drop, List.getD_eq_getElem?_getD]
      congr 2
      omega
    rw [e] at hm
    rcases List.mem_append.1 hm with h | h
    · exact h4 c h
    · rw [show c = l.getD k 0 by simpa using h]; exact hc
  · omega
theorem SpI.cut {s : ByteArray} {f k : Nat} {ws : List ByteArray} (h : SpI s.data.toList f k ws) (hk : k < s.data.toList.length) (hc : s.data.toList.getD k 0 = 32) : SpI s.data.toList (k + 1) (k + 1) (ws ++ [s.extract f k]) := by
  rcases h with ⟨_, h2, h3, h4⟩ | ⟨h1, _⟩
  · refine .inl ⟨by omega, Nat.le_refl _, ?_, fun c hm => by simp at hm⟩
    have e := drop_step8 h2 hk
    rw [hc] at e
    rw [h3, dat_app, ext_dat]
    conv => lhs; rw [e, spl_cons h4]
    simp
  · omega
theorem SpI.last {s : ByteArray} {f k : Nat} {ws : List ByteArray} (h : SpI s.data.toList f k ws) (hk : k = s.data.toList.length) : SpI s.data.toList (k + 1) (k + 1) (ws ++ [s.extract f k]) := by
  rcases h with ⟨_, h2, h3, h4⟩ | ⟨h1, _⟩
  · refine .inr ⟨by omega, ?_⟩
    have e : (s.data.toList.drop f).take (k - f) = s.data.toList.drop f := List.take_of_length_le (by rw [List.length_drop]; omega)
    rw [e] at h4
    rw [h3, dat_app, ext_dat, e, spl_last h4]
  · omega
theorem SpI.fk {l : List UInt8} {f k : Nat} {ws : List ByteArray} (h : SpI l f k ws) (hk : k ≤ l.length) : f ≤ k := by
  rcases h with ⟨_, h2, _⟩ | ⟨h1, _⟩
  · exact h2
  · omega
set_option maxRecDepth 20000 in
set_option maxHeartbeats 2000000 in
theorem sSplit (s : ByteArray) (w : World) (hs : s.size ≤ 1048576) : Calls Tryd.prog 23 #[.string s, .int .u8 32] w (ResS s.data.toList w) := by
  obtain ⟨n, hn⟩ : ∃ n, s.size = n := ⟨_, rfl⟩
  have HN : Hid (s.data.toList.length = n) := by unfold Hid; rw [← hn]; exact Array.length_toList
  obtain ⟨i0, hi, hiz, hi1, hi2⟩ := info_parts infoStr
  have HO0 : Hid ((w.alloc (.cells #[] 9)).ownsRow w.heap.size 9 1 (.slice (some ⟨w.heap.size, 0, none⟩) 0 0) 0 []) := World.ownsRow_lit (base := w.heap.size) (e := 9) (size := 1) w #[] 0 (Nat.le_refl _) (by unfold maxLen; omega) (by simp)
  have HB0 : Hid (Below w.heap.size w (w.alloc (.cells #[] 9))) := (Below.refl _ _).alloc (Nat.le_refl _) _
  go_enter Tryd.func23, Tryd.ntmps23
  go_wp2_with fail
  go_loopw [5, 6, 7] (fun v fv i wr => ∃ (f k N : Nat) (ws : List ByteArray), k ≤ n + 1 ∧ fv = .int .i64 (f : Int) ∧ i = .int .i64 (k : Int) ∧ Hid (SpI s.data.toList f k ws) ∧ Hid (ws.length = N) ∧ N ≤ k ∧ Hid (wr.ownsRow w.heap.size 9 1 v N (ws.map Value.string)) ∧ Hid (Below w.heap.size w wr) ∧ Hid (∀ x ∈ ws, x.size ≤ n)) (fun _ _ i _ => n + 1 - (RowKit.intOf i).toNat)
  case atStart => exact ⟨0, 0, 0, [], Nat.zero_le _, rfl, rfl, SpI.start _, rfl, Nat.le_refl _, HO0.out, HB0.out, fun x hx => by simp at hx⟩
  case round =>
    clear HO0 HB0
    obtain ⟨f, k, N, ws, hk, rfl, rfl, HS, HW, hN, HO, HB, HZ⟩ := hrel
    have hzr := HB.out.size
    have k0 : (0 : Int) ≤ (k : Int) := by omega
    have f0 : (0 : Int) ≤ (f : Int) := by omega
    by_cases hle : k ≤ n
    · have hkI : (k : Int) ≤ (n : Int) := by omega
      have hfk : f ≤ k := HS.out.fk (by rw [HN.out]; exact hle)
      have hfkI : (f : Int) ≤ (k : Int) := by omega
      have HX : Hid (∀ x ∈ ws ++ [s.extract f k], x.size ≤ n) := fun x hx => by
        rcases List.mem_append.1 hx with h | h
        · exact HZ.out x h
        · rw [show x = s.extract f k by simpa using h, ← hn]
          exact ext_size s f k (by omega)
      have HMp : Hid ((ws.map Value.string) ++ [Value.string (s.extract f k)] = (ws ++ [s.extract f k]).map Value.string) := by unfold Hid; simp
      have HW2 : Hid ((ws ++ [s.extract f k]).length = N + 1) := by unfold Hid; rw [List.length_append, HW.out]; rfl
      obtain ⟨E, hE⟩ : ∃ E, s.extract f k = E := ⟨_, rfl⟩
      by_cases hkn : k = n
      · have HS2 : Hid (SpI s.data.toList (k + 1) (k + 1) (ws ++ [s.extract f k])) := HS.out.last (by rw [HN.out]; exact hkn)
        rw [hE] at HS2 HX HMp HW2
        have te : ((k : Int) == (n : Int)) = true := by simp; omega
        clear hle hkn
        go_wp2_with (at_builtin; refine wpList_append_own _ rfl _ _ 45 rfl w.heap.size 9 i0 _ 1 16 Tryd.underlying45 hi hiz hi1 hi2 rfl (by decide) _ _ _ rfl (HO.out.alloc _) ⟨wr.heap.size, 0, none⟩ 1 1 [.string E] rfl rfl (news8 wr _ _) (by simp [Value.oneCell']) (by unfold maxLen; omega) (by omega) (by simp; omega) ?_; intro v2 w2 hown2 hgrow2 _; have HO2 : Hid (w2.ownsRow w.heap.size 9 1 v2 (N + 1) ((ws ++ [E]).map Value.string)) := (by have h := hown2; rw [HMp.out] at h; exact h); have HB2 : Hid (Below w.heap.size w w2) := HB.out.trans (own_belowS HO.out (by omega) hgrow2); clear hown2 hgrow2)
        go_roundw
        case rel => exact ⟨k + 1, k + 1, N + 1, ws ++ [E], by omega, by go_num, by go_num, HS2.out, HW2.out, by omega, HO2.out, HB2.out, HX.out⟩
        case measure => simp [RowKit.intOf]; omega
      · have hks : k < s.size := by omega
        have te : ((k : Int) == (n : Int)) = false := by simp; omega
        have HBy : Hid (s[k] = s.data.toList.getD k 0) := byteAt s k hks
        obtain ⟨c, hc⟩ : ∃ c, s[k] = c := ⟨_, rfl⟩
        rw [hc] at HBy
        have hkI2 : (k : Int) < (n : Int) := by omega
        by_cases h32 : c = 32
        · have HS2 : Hid (SpI s.data.toList (k + 1) (k + 1) (ws ++ [s.extract f k])) := HS.out.cut (by rw [HN.out]; omega) (by rw [← HBy.out]; exact h32)
          rw [hE] at HS2 HX HMp HW2
          have h3 : (c.toNat : Int) = 32 := by rw [h32]; rfl
          have tc : ((c.toNat : Int) == 32) = true := by rw [h3]; rfl
          clear hle h32 hkn
          go_wp2_with (at_builtin; refine wpList_append_own _ rfl _ _ 45 rfl w.heap.size 9 i0 _ 1 16 Tryd.underlying45 hi hiz hi1 hi2 rfl (by decide) _ _ _ rfl (HO.out.alloc _) ⟨wr.heap.size, 0, none⟩ 1 1 [.string E] rfl rfl (news8 wr _ _) (by simp [Value.oneCell']) (by unfold maxLen; omega) (by omega) (by simp; omega) ?_; intro v2 w2 hown2 hgrow2 _; have HO2 : Hid (w2.ownsRow w.heap.size 9 1 v2 (N + 1) ((ws ++ [E]).map Value.string)) := (by have h := hown2; rw [HMp.out] at h; exact h); have HB2 : Hid (Below w.heap.size w w2) := HB.out.trans (own_belowS HO.out (by omega) hgrow2); clear hown2 hgrow2)
          go_roundw
          case rel => exact ⟨k + 1, k + 1, N + 1, ws ++ [E], by omega, by go_num, by go_num, HS2.out, HW2.out, by omega, HO2.out, HB2.out, HX.out⟩
          case measure => simp [RowKit.intOf]; omega
        · have HS2 : Hid (SpI s.data.toList f (k + 1) ws) := HS.out.go (by rw [HN.out]; omega) (by rw [← HBy.out]; exact h32)
          have h3 : ¬ (c.toNat : Int) = 32 := by
            intro e
            refine h32 (UInt8.toNat_inj.1 ?_)
            have h5 : c.toNat = 32 := by omega
            rw [h5]
            rfl
          have tc : ((c.toNat : Int) == 32) = false := by simpa using h3
          clear hle h32 hkn
          go_wp2_with fail
          go_roundw
          case rel => exact ⟨f, k + 1, N, ws, by omega, rfl, by go_num, HS2.out, HW.out, by omega, HO.out, HB.out, HZ.out⟩
          case measure => simp [RowKit.intOf]; omega
    · have hkn : k = n + 1 := by omega
      have HF : Hid (dat ws = spl s.data.toList) := by
        rcases HS.out with ⟨h1, _⟩ | ⟨_, h2⟩
        · rw [HN.out] at h1; omega
        · exact h2.symm
      have hkI : ¬ ((k : Int) ≤ (n : Int)) := by omega
      clear hle
      go_wp2
      go_returns
      exact ⟨_, ws, rfl, by rw [HW.out]; exact HO.out, HF.out, HB.out, by rw [HW.out, HN.out]; omega, fun x hx => by rw [HN.out]; exact HZ.out x hx⟩
end Go.Proofs.YtcpicgcdefnhaaaDoor
