/-
  DERIVED. strings.SplitSeq at a blank.
-/
import Derived.Test.YtcpicgcdefnhaaaDoorRngS
namespace Go.Proofs.YtcpicgcdefnhaaaDoor
open Go.RowKit Go.Shelf
set_option linter.unusedVariables false
theorem ix_cases : ∀ l : List UInt8, (Lib.indexByte l 32 = -1 ∧ ∀ c ∈ l, c ≠ 32) ∨ ∃ k : Nat, Lib.indexByte l 32 = (k : Int) ∧ k < l.length ∧ l.getD k 0 = 32 ∧ ∀ c ∈ l.take k, c ≠ 32
  | [] => .inl ⟨rfl, by simp⟩
  | x :: r => by
    by_cases hx : x = 32
    · subst hx
      exact .inr ⟨0, by simp [Lib.indexByte], by simp, by simp, by simp⟩
    · have hb : (x == 32) = false := by simpa using hx
      rcases ix_cases r with ⟨h1, h2⟩ | ⟨k, h1, h2, h3, h4⟩
      · refine .inl ⟨by simp [Lib.indexByte, hb, h1], fun c hc => ?_⟩
        rcases List.mem_cons.1 hc with rfl | hc
        · exact hx
        · exact h2 c hc
      · refine .inr ⟨k + 1, ?_, by simp; omega, by simpa using h3, fun c hc => ?_⟩
        · have h5 : ¬ ((k : Int) = -1) := by omega
          simp [Lib.indexByte, hb, h1, h5]
        · rw [List.take_succ_cons] at hc
          rcases List.mem_cons.1 hc with rfl | hc
          · exact hx
          · exact h4 c hc
def strAt (w : World) (b : Nat) : Nat := match w.cell? ⟨b, 0, none⟩ with | some (.string r) => r.size | _ => 0
theorem strAt_box {w : World} {b : Nat} {t : TypeId} {r : ByteArray} (h : Boxed w b t (.string r)) : strAt w b = r.size := by
  unfold strAt
  rw [h.cell]
theorem size_dat (s : ByteArray) : s.data.toList.length = s.size := Array.length_toList
/-- What has come and what is left. -/
def SpJ (s : ByteArray) (pre : List ByteArray) (r : ByteArray) : Prop := dat pre ++ spl r.data.toList = spl s.data.toList ∧ pre.length + r.size ≤ s.size ∧ (∀ x ∈ pre, x.size ≤ s.size)
theorem SpJ.start (s : ByteArray) : SpJ s [] s := ⟨by simp [dat], by simp, fun x hx => by simp at hx⟩
theorem SpJ.word {s r : ByteArray} {pre : List ByteArray} {k : Nat} (h : SpJ s pre r) (hk : k < r.size) (h32 : r.data.toList.getD k 0 = 32) (hne : ∀ c ∈ r.data.toList.take k, c ≠ 32) : SpJ s (pre ++ [r.extract 0 k]) (r.extract (k + 1) r.size) := by
  obtain ⟨h1, h2, h3⟩ := h
  have hl : k < r.data.toList.length := by rw [size_dat]; exact hk
  refine ⟨?_, ?_, fun x hx => ?_⟩
  · rw [← h1, dat_app, ext_dat, ext_dat, List.append_assoc]
    congr 1
    have e := drop_step8 (l := r.data.toList) (f := 0) (k := k) (by omega) hl
    rw [h32, List.drop_zero] at e
    have e2 : (r.data.toList.drop (k + 1)).take (r.size - (k + 1)) = r.data.toList.drop (k + 1) := List.take_of_length_le (by rw [List.length_drop, size_dat]; omega)
    rw [e2, List.drop_zero]
    conv => rhs; rw [e, spl_cons (by simpa using hne)]
    simp
  · rw [List.length_append, ByteArray.size_extract]
    simp only [List.length_cons, List.length_nil]
    omega
  · rcases List.mem_append.1 hx with h | h
    · exact h3 x h
    · rw [show x = r.extract 0 k by simpa using h, ByteArray.size_extract]
      omega
theorem SpJ.last {s r : ByteArray} {pre : List ByteArray} (h : SpJ s pre r) (hne : ∀ c ∈ r.data.toList, c ≠ 32) : dat (pre ++ [r]) = spl s.data.toList ∧ ∀ x ∈ pre ++ [r], x.size ≤ s.size := by
  obtain ⟨h1, h2, h3⟩ := h
  refine ⟨by rw [dat_app, ← h1, spl_last hne], fun x hx => ?_⟩
  rcases List.mem_append.1 hx with h | h
  · exact h3 x h
  · rw [show x = r by simpa using h]; omega
/-- The words that have come. -/
def SpA (s : ByteArray) (xs : List ByteArray) : Prop := dat xs = spl s.data.toList ∧ ∀ x ∈ xs, x.size ≤ s.size
def SpB (s : ByteArray) (pre : List ByteArray) : Prop := ∃ t, dat pre ++ t = spl s.data.toList
attribute [local go_sem] Oper.semAt_some
set_option maxRecDepth 100000 in
set_option maxHeartbeats 4000000 in
theorem splitS (n : Nat) (hn : 1 ≤ n) (s : ByteArray) (hs : s.size ≤ 1048576) (b : Nat) (w : World) (hb0 : Boxed w b 9 (.string s)) (hb1 : Boxed w (b + 1) 9 (.string ⟨#[32]⟩)) (hb2 : Boxed w (b + 2) 3 (.int .i64 0)) :
    SeqS n Tryd.prog 52 #[.pointer (some ⟨b + 1, 0, none⟩), .pointer (some ⟨b, 0, none⟩), .pointer (some ⟨b + 2, 0, none⟩)] b (SpA s) (SpB s) 1048578 w := by
  intro l J Jx W hW hJs hY h0
  have q0 : Boxed W b 9 (.string s) := (hW.block b hb0.lt).trans hb0
  have q1 : Boxed W (b + 1) 9 (.string ⟨#[32]⟩) := (hW.block (b + 1) hb1.lt).trans hb1
  have q2 : Boxed W (b + 2) 3 (.int .i64 0) := (hW.block (b + 2) hb2.lt).trans hb2
  have HY := Lib.hid hY
  have HJs := Lib.hid hJs
  have HJ0 := Lib.hid h0
  clear hY hJs h0 hb0 hb1 hb2
  refine callsIn_of_wp Tryd.func52 rfl trivial ?_ rfl
  simp only [Tryd.ntmps52, List.size_toArray, List.length_cons, List.length_nil, Nat.reduceAdd, Nat.reduceSub, Array.replicate_succ, Array.replicate_zero, List.push_toArray, List.append_toArray, List.nil_append, List.cons_append]
  have c1 := q1.cell
  have c0 := q0.cell
  have c2 := q2.cell
  gi_wp2
  gi_loopw [7] (fun _ wr => ∃ (pre : List ByteArray) (r : ByteArray), Hid (SpJ s pre r) ∧ Hid (J pre wr) ∧ Hid (Boxed wr b 9 (.string r)) ∧ Hid (Boxed wr (b + 1) 9 (.string ⟨#[32]⟩)) ∧ Hid (Boxed wr (b + 2) 3 (.int .i64 0))) (fun _ wr => strAt wr b)
  case atStart => exact ⟨[], s, SpJ.start s, HJ0.out, q0, q1, q2⟩
  case round =>
    clear HJ0 q0 q1 q2 c0 c1 c2
    obtain ⟨pre, r, HS, HJ, B0, B1, B2⟩ := hrel
    have c0 := B0.out.cell
    have c1 := B1.out.cell
    have c2 := B2.out.cell
    have f0 := B0.out.frozen
    obtain ⟨m, hm⟩ : ∃ m, r.size = m := ⟨_, rfl⟩
    have hle := HS.out.2.1
    have hlen : pre.length < 1048578 := by omega
    have hst := strAt_box B0.out
    rcases ix_cases r.data.toList with ⟨hix, hne⟩ | ⟨k, hix, hkl, h32, hne⟩
    · have HL := Lib.hid (HS.out.last hne)
      obtain ⟨fn, tmps, assign, body, hy, hRd⟩ := HY.out pre r wr HJ.out hlen (by omega)
      have HRd := Lib.hid hRd
      clear hRd hne
      gi_wp2_with (refine ⟨trivial, ?_⟩; gi_at_call 54; refine (callsIn_wide.2 (lIndex _ _)).mono ?_; rintro e1 w1 ⟨rfl, rfl⟩; (try rw [hix]))
      refine HRd.out.mono ?_
      rintro e2 W3 (⟨rfl, hJ3, hk3⟩ | ⟨rfl, hJx3⟩)
      · clear hy
        gi_wp2
        go_end0
        exact ⟨⟨_, rfl⟩, .inl ⟨_, HL.out, hJ3⟩⟩
      · clear hy
        gi_wp2
        go_end0
        exact ⟨⟨_, rfl⟩, .inr ⟨_, ⟨[], by rw [List.append_nil]; exact HL.out.1⟩, hJx3⟩⟩
    · rw [size_dat] at hkl
      have HS2 := Lib.hid (HS.out.word hkl h32 hne)
      obtain ⟨E, hE⟩ : ∃ E, r.extract 0 k = E := ⟨_, rfl⟩
      obtain ⟨T, hT⟩ : ∃ T, r.extract (k + 1) r.size = T := ⟨_, rfl⟩
      have hEs : E.size ≤ 1048576 := by rw [← hE, ByteArray.size_extract]; omega
      have hTs : T.size < m := by rw [← hT, ByteArray.size_extract]; omega
      rw [hE, hT] at HS2
      rw [hm] at hT
      obtain ⟨fn, tmps, assign, body, hy, hRd⟩ := HY.out pre E wr HJ.out hlen hEs
      have HRd := Lib.hid hRd
      have k0 : (0 : Int) ≤ (k : Int) := by omega
      have k1 : (k : Int) ≤ (m : Int) := by omega
      have k2 : (k : Int) + 1 ≤ (m : Int) := by omega
      have k3 : ¬ ((k : Int) < 0) := by omega
      have k4 : ((k : Int) + 1).toNat = k + 1 := by omega
      clear hRd hne h32
      gi_wp2_with (refine ⟨trivial, ?_⟩; gi_at_call 54; refine (callsIn_wide.2 (lIndex _ _)).mono ?_; rintro e1 w1 ⟨rfl, rfl⟩; (try rw [hix]))
      refine HRd.out.mono ?_
      rintro e2 W3 (⟨rfl, hJ3, hk3⟩ | ⟨rfl, hJx3⟩)
      · have D0 : Boxed W3 b 9 (.string r) := hk3.2.1.trans B0.out
        have D1 : Boxed W3 (b + 1) 9 (.string ⟨#[32]⟩) := hk3.2.2.1.trans B1.out
        have D2 : Boxed W3 (b + 2) 3 (.int .i64 0) := hk3.2.2.2.trans B2.out
        have d0 := D0.cell
        have d1 := D1.cell
        have d2 := D2.cell
        have df := D0.frozen
        have E0 : Hid (Boxed (W3.setCell ⟨b, 0, none⟩ (.string T)) b 9 (.string T)) := D0.set _
        have E1 : Hid (Boxed (W3.setCell ⟨b, 0, none⟩ (.string T)) (b + 1) 9 (.string ⟨#[32]⟩)) := D1.other (by omega) _
        have E2 : Hid (Boxed (W3.setCell ⟨b, 0, none⟩ (.string T)) (b + 2) 3 (.int .i64 0)) := D2.other (by omega) _
        have HJ3 : Hid (J (pre ++ [E]) (W3.setCell ⟨b, 0, none⟩ (.string T))) := HJs.out _ _ _ hJ3
        have hst2 := strAt_box E0.out
        clear hy c0 c1 c2 f0 hJ3 hk3 D0 D1 D2
        gi_wp2
        go_roundw
        case rel => exact ⟨pre ++ [E], T, HS2, HJ3, E0, E1, E2⟩
        case measure => rw [hst2, hst]; omega
      · clear hy c0 c1 c2 f0
        gi_wp2
        refine bodyPost_ret (results_none rfl _ _ _) rfl ?_
        exact ⟨⟨_, rfl⟩, .inr ⟨_, ⟨spl T.data.toList, HS2.out.1⟩, hJx3⟩⟩
set_option maxRecDepth 20000 in
theorem mkSplit2 (s : ByteArray) (w : World) : Calls Tryd.prog 48 #[.string s, .string ⟨#[32]⟩, .int .i64 0] w fun e w' => e = .returned (.func (.func 52) #[] #[.pointer (some ⟨w.heap.size + 1, 0, none⟩), .pointer (some ⟨w.heap.size, 0, none⟩), .pointer (some ⟨w.heap.size + 2, 0, none⟩)]) ∧ ((w.alloc (.cells #[.string s] 9)).alloc (.cells #[.string ⟨#[32]⟩] 9)).alloc (.cells #[.int .i64 0] 3) = w' := by
  go_enter Tryd.func48, Tryd.ntmps48
  go_wp2
  go_returns
  exact ⟨rfl, rfl⟩
set_option maxRecDepth 20000 in
theorem mkSplit (s : ByteArray) (w : World) : Calls Tryd.prog 26 #[.string s, .string ⟨#[32]⟩] w fun e w' => e = .returned (.func (.func 52) #[] #[.pointer (some ⟨w.heap.size + 1, 0, none⟩), .pointer (some ⟨w.heap.size, 0, none⟩), .pointer (some ⟨w.heap.size + 2, 0, none⟩)]) ∧ ((w.alloc (.cells #[.string s] 9)).alloc (.cells #[.string ⟨#[32]⟩] 9)).alloc (.cells #[.int .i64 0] 3) = w' := by
  go_enter Tryd.func26, Tryd.ntmps26
  go_wp2_with fail
  refine (mkSplit2 s w).mono ?_
  rintro e w' ⟨rfl, rfl⟩
  go_wp2_with fail
  go_returns
  exact ⟨rfl, rfl⟩
end Go.Proofs.YtcpicgcdefnhaaaDoor
