/-
  DERIVED. StkP, StkV.
-/
import Derived.Test.YtdpifddmhbeklaaPatF
import Derived.Maps.AppendAt
import Derived.Test.YtdpifddmhbeklaaPatN
import Derived.Test.YtdpifddmhbeklaaPatB
namespace Go.Proofs.Ytdpifddmhbeklaa
open Go.RowKit
set_option linter.unusedVariables false
def gRow (gs : List Int) (C i : Nat) : List Int := (gs.drop (i * C)).take C
def gVal (gs : List Int) (C i : Nat) : List Int := rowF (gRow gs C i) ((i % 3 : Nat) : Int) ((C - 15) / 11)
theorem gVal_len (gs : List Int) (C i : Nat) : (gVal gs C i).length = (C - 15) / 11 := rowF_len _ _ _
def gVals (gs : List Int) (C R : Nat) : List (List Int) := (List.range R).map (gVal gs C)
theorem gVals_len (gs : List Int) (C R : Nat) : (gVals gs C R).length = R := by simp [gVals]
theorem gVals_get (gs : List Int) (C : Nat) {R i : Nat} (h : i < R) : (gVals gs C R).getD i [] = gVal gs C i := by
  simp [gVals, List.getD_eq_getElem?_getD, h]
def inner (v : List Int) : List Int := (v.drop 1).take (v.length - 2)
theorem inner_len (v : List Int) : (inner v).length = v.length - 2 := by simp [inner]; omega
theorem inner_get {v : List Int} {k : Nat} (h : k < v.length - 2) : (inner v).getD k 0 = v.getD (k + 1) 0 := by
  simp [inner, List.getD_eq_getElem?_getD, h]
def flatP (gs : List Int) (C : Nat) (r : Nat) : List Int := (List.range r).flatMap fun i => inner (gVal gs C i)
theorem flatP_zero (gs : List Int) (C : Nat) : flatP gs C 0 = [] := rfl
theorem flatP_succ (gs : List Int) (C r : Nat) : flatP gs C (r + 1) = flatP gs C r ++ inner (gVal gs C r) := by
  simp [flatP, List.range_succ, List.flatMap_append]
theorem flatP_len (gs : List Int) (C : Nat) : ∀ r, (flatP gs C r).length = r * ((C - 15) / 11 - 2)
  | 0 => by simp [flatP]
  | r + 1 => by rw [flatP_succ, List.length_append, flatP_len gs C r, inner_len, gVal_len, Nat.add_mul, Nat.one_mul]
theorem take_step {Q : List Int} {k : Nat} (h : k < Q.length) : Q.take (k + 1) = Q.take k ++ [Q.getD k 0] := by
  rw [List.take_add_one, List.getD_eq_getElem?_getD, List.getElem?_eq_getElem h]; rfl
def pos0 (x : Int) : Int := if x < 0 then 0 else x
theorem pos0_max (x : Int) : (if (0 : Int) < x then x else 0) = pos0 x := by unfold pos0; split <;> split <;> omega
def elV (X : List Int) : List Int := X.map pos0
theorem elV_len (X : List Int) : (elV X).length = X.length := by simp [elV]
theorem elV_app (X : List Int) (x : Int) : elV (X ++ [x]) = elV X ++ [pos0 x] := by simp [elV]
def negs (X : List Int) : List Int := ((List.range X.length).filter fun i => decide (X.getD i 0 < 0)).map (fun i : Nat => (i : Int))
theorem negs_app (X : List Int) (x : Int) : negs (X ++ [x]) = negs X ++ (if x < 0 then [(X.length : Int)] else []) := by
  unfold negs
  rw [List.length_append, List.length_singleton, List.range_succ, List.filter_append, List.map_append]
  congr 1
  · congr 1
    apply List.filter_congr
    intro i hi
    have hi2 : i < X.length := by simpa using hi
    simp [List.getD_eq_getElem?_getD, List.getElem?_append_left hi2]
  · by_cases h : x < 0
    · simp [List.getD_eq_getElem?_getD, h]
    · simp [List.getD_eq_getElem?_getD, h]
theorem negs_len (X : List Int) : (negs X).length ≤ X.length := by
  unfold negs
  rw [List.length_map]
  exact Nat.le_trans (List.length_filter_le _ _) (by simp)
/-- Two rows of the call's own, side by side, and blocks from L to Z that are as they were. -/
structure Duo (W0 W : World) (B L Z : Nat) (v : Value) (n : Nat) (xs : List Value) (u : Value) (m : Nat) (ys : List Value) : Prop where
  rowV : W.ownsRow B 2 1 v n xs
  rowU : W.ownsRow B 2 1 u m ys
  apart : ∀ b, v.ownBlock = some b → u.ownBlock ≠ some b
  outV : ∀ b, v.ownBlock = some b → b < L ∨ Z ≤ b
  outU : ∀ b, u.ownBlock = some b → b < L ∨ Z ≤ b
  same : ∀ b, L ≤ b → b < Z → W.heap[b]? = W0.heap[b]?
  size : Z ≤ W.heap.size
theorem Duo.symm {W0 W : World} {B L Z n m : Nat} {v u : Value} {xs ys : List Value} (h : Duo W0 W B L Z v n xs u m ys) : Duo W0 W B L Z u m ys v n xs :=
  ⟨h.rowU, h.rowV, fun b hb e => h.apart b e hb, h.outU, h.outV, h.same, h.size⟩
theorem Duo.push {W0 W W' : World} {B L Z n m : Nat} {v u v' : Value} {xs ys zs : List Value} (h : Duo W0 W B L Z v n xs u m ys) (o : Obj) (hg : (W.alloc o).grownBy W' v.ownBlock)
    (ho : W'.ownsRow B 2 1 v' (n + 1) zs) (hat : v'.ownBlock = v.ownBlock ∨ v'.ownBlock = some (W.alloc o).heap.size) : Duo W0 W' B L Z v' (n + 1) zs u m ys := by
  have hsz := h.size
  have hz : (W.alloc o).heap.size = W.heap.size + 1 := by simp
  have hu : ∀ b, u.ownBlock = some b → b < W.heap.size := fun b hb => (h.rowU.lt b hb).2
  refine ⟨ho, ?_, ?_, ?_, h.outU, ?_, ?_⟩
  · refine (h.rowU.alloc o).kept hg ?_
    cases hub : u.ownBlock with
    | none => exact .inl rfl
    | some b =>
      right
      intro e
      exact h.apart b e.symm hub
  · intro b hb e
    rcases hat with h1 | h1
    · exact h.apart b (by rw [← h1]; exact hb) e
    · rw [h1] at hb
      injection hb with hb
      have := hu b e
      omega
  · intro b hb
    rcases hat with h1 | h1
    · exact h.outV b (by rw [← h1]; exact hb)
    · rw [h1] at hb
      injection hb with hb
      right; omega
  · intro b h1 h2
    have e1 : (W.alloc o).heap[b]? = W.heap[b]? := Below.heap_alloc W o b (by omega)
    have e2 : W'.heap[b]? = (W.alloc o).heap[b]? := hg.block b (by omega) (fun e => by have := h.outV b e.symm; omega)
    rw [e2, e1]
    exact h.same b h1 h2
  · have := hg.size
    omega
/-- Behind a call. -/
theorem Duo.enter {W0 W W1 : World} {B L Z n m : Nat} {v u : Value} {xs ys : List Value} (h : Duo W0 W B L Z v n xs u m ys) (hb : Below W.heap.size W W1) : Duo W1 W1 B W.heap.size W1.heap.size v n xs u m ys :=
  ⟨ownN_below h.rowV hb, ownN_below h.rowU hb, h.apart, fun b e => .inl (h.rowV.lt b e).2, fun b e => .inl (h.rowU.lt b e).2, fun _ _ _ => rfl, Nat.le_refl _⟩
theorem Duo.below {W0 W W' : World} {B L Z n m : Nat} {v u : Value} {xs ys : List Value} (h : Duo W0 W B L Z v n xs u m ys) (o : Obj) (hB : B ≤ W.heap.size) (hb : Below B W0 W) (hg : (W.alloc o).grownBy W' v.ownBlock) : Below B W0 W' :=
  (hb.alloc hB o).grown hg (by simp; omega) (fun j e => (h.rowV.lt j e).1)
theorem Duo.rd {W0 W : World} {B L Z n m k : Nat} {v u : Value} {xs ys : List Value} {zs : List Int} {a : Option Addr} (h : Duo W0 W B L Z v n xs u m ys) (hr : Rd W0 a k zs) (hl : ∀ b off, a = some ⟨b, off, none⟩ → 0 < k → L ≤ b ∧ b < Z) : Rd W a k zs := by
  refine ⟨hr.1, fun hk => ?_⟩
  obtain ⟨b, off, e, hb, hc⟩ := hr.2 hk
  obtain ⟨h1, h2⟩ := hl b off e hk
  exact ⟨b, off, e, by have := h.size; omega, fun i hi => (World.cell?_of_block (a := ⟨b, off + i, none⟩) (h.same b h1 h2)).trans (hc i hi)⟩
theorem Duo.rrow {W0 W : World} {B L Z n m k : Nat} {v u : Value} {xs ys : List Value} {a : Option Addr} {Ls : List (List Int)} (h : Duo W0 W B L Z v n xs u m ys) (hr : RRow W0 L Z a k Ls) (hs : W0.heap.size ≤ W.heap.size) : RRow W L Z a k Ls :=
  hr.kept hs h.same
theorem own_rdI {w : World} {base n c : Nat} {a : Option Addr} {zs : List Int} (h : w.ownsRow base 2 1 (.slice a n c) n (zs.map (Value.int .i64))) : Rd w a n zs ∧ (∀ b off, a = some ⟨b, off, none⟩ → 0 < n → base ≤ b ∧ b < w.heap.size) := by
  have hl : zs.length = n := by have := h.1; simpa using this
  have hv := own_rdV h
  refine ⟨⟨hl, fun hp => ?_⟩, fun b off e hp => ?_⟩
  · obtain ⟨b, off, e, hb, hc⟩ := hv.2 hp
    refine ⟨b, off, e, hb, fun i hi => ?_⟩
    rw [hc i (by omega), List.getElem?_map, List.getD_eq_getElem?_getD, List.getElem?_eq_getElem (by omega)]
    rfl
  · have h1 := h.lt b (by rw [e]; rfl)
    exact h1
end Go.Proofs.Ytdpifddmhbeklaa
namespace Go.Proofs.Ytdpifddmhbeklaa
open Go.RowKit
set_option linter.unusedVariables false
theorem rd_sub {w : World} {b off n m : Nat} {c : List Int} (h : Rd w (some ⟨b, off, none⟩) n c) {lo : Nat} (hl : lo + m ≤ n) : Rd w (some ⟨b, off + lo, none⟩) m ((c.drop lo).take m) := by
  have hlen := h.1
  refine ⟨by simp; omega, fun hm => ?_⟩
  obtain ⟨b', off', e, hlt, hc⟩ := h.2 (by omega)
  injection e with e
  injection e with e1 e2
  subst e1 e2
  refine ⟨b, off + lo, rfl, hlt, fun i hi => ?_⟩
  have := hc (lo + i) (by omega)
  rw [show off + lo + i = off + (lo + i) by omega, this]
  simp [List.getD_eq_getElem?_getD, hi]
theorem row_fits {R C r : Nat} (h : r < R) : r * C + C ≤ R * C := by
  have : (r + 1) * C ≤ R * C := Nat.mul_le_mul_right _ h
  rw [Nat.add_mul, Nat.one_mul] at this
  exact this
theorem row_mem {gs : List Int} {C r : Nat} {x : Int} (h : x ∈ gRow gs C r) : x ∈ gs := List.mem_of_mem_drop (List.mem_of_mem_take h)
set_option maxRecDepth 20000 in
set_option maxHeartbeats 4000000 in
theorem sValues (R C gn gc r : Nat) (ga : Option Addr) (gs : List Int) (w : World) (h : Rd w ga gn gs) (hn : gn ≤ 40000) (hc : gn ≤ gc) (hgn : gn = R * C) (hr : r < R) (hC : 1 ≤ C) :
    Calls Try.prog 122 #[.agg #[.int .i64 (R : Int), .int .i64 (C : Int), .slice ga gn gc], .int .i64 (r : Int)] w fun e w' => ∃ a' cp', e = .returned (.slice a' ((C - 15) / 11) cp') ∧ w'.ownsRow w.heap.size 2 1 (.slice a' ((C - 15) / 11) cp') ((C - 15) / 11) ((gVal gs C r).map (Value.int .i64)) ∧ Below w.heap.size w w' := by
  have hfit := row_fits (C := C) hr
  rw [← hgn] at hfit
  obtain ⟨b, off, rfl, hb, -⟩ := h.2 (by omega)
  obtain ⟨m, hm⟩ : ∃ m, r * C = m := ⟨_, rfl⟩
  rw [hm] at hfit
  obtain ⟨q, hq⟩ : ∃ q, r % 3 = q := ⟨_, rfl⟩
  have hq3 : (r : Int) % 3 = (q : Int) := by omega
  have hpI : (r : Int) * (C : Int) = (m : Int) := by rw [← hm]; simp
  have hpI2 : ((r : Int) + 1) * (C : Int) = (m : Int) + (C : Int) := by rw [Int.add_mul, hpI]; omega
  have ht2 : ((m : Int) + (C : Int)).toNat = m + C := by omega
  have hm0 : (m : Int) + (C : Int) ≤ (gc : Int) := by omega
  have hr4 : r ≤ 40000 := by have : r * 1 ≤ r * C := Nat.mul_le_mul_left _ hC; omega
  have HV : Hid (gVal gs C r = rowF ((gs.drop m).take C) (q : Int) ((C - 15) / 11)) := by unfold Hid gVal gRow; rw [hm, hq]
  have HRd : Hid (∀ W, Below w.heap.size w W → Rd W (some ⟨b, off + m, none⟩) C ((gs.drop m).take C)) := fun W hW => rd_sub (h.below hW) hfit
  have hcm : C ≤ gc - m := by omega
  have hC4 : C ≤ 40000 := by omega
  have hm4 : m ≤ 40000 := by omega
  clear h hgn hm hq hb hfit
  go_enter Try.func122, Try.ntmps122
  go_wp2_with fail
  refine (sRead _ C _ ((gs.drop m).take C) (q : Int) _ (HRd.out _ (by repeat' (first | (with_reducible exact Below.refl _ _) | (with_reducible assumption) | (with_reducible refine Below.alloc ?_ ?_ _) | (with_reducible refine Below.setCell ?_ ?_ _) | (with_reducible refine Below.drew ?_) | (with_reducible refine below_drewN ?_ _) | (with_reducible refine below_via (by with_reducible assumption) ?_ ?_) | go_size))) (by omega) hcm).mono ?_
  rintro e w2 ⟨a', cp', rfl, ho, hb2⟩
  have HO := Lib.hid ho
  have HB : Hid (Below w.heap.size w w2) := by unfold Hid; repeat' (first | (with_reducible exact Below.refl _ _) | (with_reducible assumption) | (with_reducible refine Below.alloc ?_ ?_ _) | (with_reducible refine Below.setCell ?_ ?_ _) | (with_reducible refine Below.drew ?_) | (with_reducible refine below_drewN ?_ _) | (with_reducible refine below_via (by with_reducible assumption) ?_ ?_) | go_size)
  clear ho hb2
  go_wp2
  go_returns
  exact ⟨a', cp', rfl, by rw [HV.out]; exact ownN_mono HO.out (by simp), HB.out⟩
theorem make_rows (R : Nat) (hR : R ≤ 40000) : ∃ cs : Array Value, cs.size = R ∧ ∀ w : World, (Instr.makeSlice 86 (.int .i64 (R : Int)) (.int .i64 (R : Int))).run Try.prog w = .ok (.slice (some ⟨w.heap.size, 0, none⟩) R R) (w.alloc (.cells cs 36)) := by
  obtain ⟨i0, hi, hz0, hz1, hz2⟩ := info_parts infoRow
  refine ⟨madeCells (Value.slice none 0 0).cells (R * 1), by simp [madeCells], fun w => ?_⟩
  have hr := run_make (P := Try.prog) w 86 36 i0 _ Try.underlying86 hi hz0 .i64 .i64 R R (by omega) (by omega) (by rw [hz2]; omega) (by omega)
  simp only [Int.toNat_natCast] at hr
  rw [hr, hz1]
/-- Headers that are laid one after another. -/
def Laid (w : World) (g : Nat) (cs : Array Value) (R : Nat) (Ls : List (List Int)) (k : Nat) : Prop :=
  Blk w g 36 cs ∧ cs.size = R ∧ ∀ i, i < k → ∃ h, cs[i]? = some h ∧ HdrOk w (fun b => g < b) (Ls.getD i []) h ∧ ∀ a n c, h = .slice a n c → n ≤ c
theorem Laid.step {w w2 : World} {g R k : Nat} {cs : Array Value} {Ls : List (List Int)} {h : Value} (H : Laid w g cs R Ls k) (hb : Below w.heap.size w w2) (hk : k < R) (hh : HdrOk w2 (fun b => g < b) (Ls.getD k []) h) (hcp : ∀ a n c, h = .slice a n c → n ≤ c) :
    Laid (w2.setCell ⟨g, k, none⟩ h) g (cs.setIfInBounds k h) R Ls (k + 1) := by
  obtain ⟨h1, h2, h3⟩ := H
  have hk2 := h1.keep hb
  have key : ∀ {zs : List Int} {x : Value}, HdrOk w2 (fun b => g < b) zs x → HdrOk (w2.setCell ⟨g, k, none⟩ h) (fun b => g < b) zs x := fun X => X.kept (by simp [World.setCell]) fun b hb hp => ⟨Below.heap_setCell w2 ⟨g, k, none⟩ h b (by show b ≠ g; omega), hp⟩
  refine ⟨hk2.set_ k h, by simp [h2], fun i hi => ?_⟩
  by_cases he : i = k
  · subst he
    exact ⟨h, by rw [Array.getElem?_setIfInBounds]; simp; omega, key hh, hcp⟩
  · obtain ⟨x, hx, hx2, hx3⟩ := h3 i (by omega)
    exact ⟨x, by rw [Array.getElem?_setIfInBounds]; simp [Ne.symm he, hx], key (hx2.kept hb.size fun b hb2 hp => ⟨hb.block b hb2, hp⟩), hx3⟩
theorem Laid.read {w : World} {g R B : Nat} {cs : Array Value} {Ls : List (List Int)} (H : Laid w g cs R Ls R) (hl : Ls.length = R) (hB : B ≤ g) : RRow w B w.heap.size (some ⟨g, 0, none⟩) R Ls := by
  obtain ⟨h1, h2, h3⟩ := H
  refine ⟨hl, Nat.le_refl _, fun _ => ⟨g, 0, rfl, hB, h1.lt, fun i hi => ?_⟩⟩
  obtain ⟨x, hx, hx2, _⟩ := h3 i hi
  exact ⟨x, by rw [h1.cell, Nat.zero_add]; exact hx, hx2.kept (Nat.le_refl _) fun b hb hp => ⟨rfl, by omega, hb⟩⟩
/-- The headers' capacities. -/
def Caps (w : World) (g R : Nat) : Prop := ∀ i, i < R → ∀ a n c, w.cell? ⟨g, i, none⟩ = some (.slice a n c) → n ≤ c
theorem Laid.caps {w : World} {g R : Nat} {cs : Array Value} {Ls : List (List Int)} (H : Laid w g cs R Ls R) : Caps w g R := by
  obtain ⟨h1, h2, h3⟩ := H
  intro i hi a n c hc
  obtain ⟨x, hx, _, hx3⟩ := h3 i hi
  rw [h1.cell, hx] at hc
  injection hc with hc
  exact hx3 a n c hc
theorem Caps.kept {w w' : World} {g R : Nat} (H : Caps w g R) (h : w'.heap[g]? = w.heap[g]?) : Caps w' g R := fun i hi a n c hc =>
  H i hi a n c ((World.cell?_of_block (a := ⟨g, i, none⟩) h).symm.trans hc)
theorem own_cap {w : World} {base n c m : Nat} {t : TypeId} {a : Option Addr} {xs : List Value} (h : w.ownsRow base t m (.slice a n c) n xs) : ∀ a' n' c', Value.slice a n c = .slice a' n' c' → n' ≤ c' := by
  intro a' n' c' e
  injection e with _ e2 e3
  subst e2 e3
  rcases h.2 with ⟨hv, h0⟩ | ⟨g, cap, cur, hv, hg, hh, h1, _⟩
  · omega
  · injection hv with _ _ e
    omega
theorem hdr_own {w : World} {base n c g : Nat} {a : Option Addr} {zs : List Int} (h : w.ownsRow base 2 1 (.slice a n c) n (zs.map (Value.int .i64))) (hg : g < base) : HdrOk w (fun b => g < b) zs (.slice a n c) := by
  obtain ⟨⟨hl, hr⟩, hb⟩ := own_rdI h
  refine ⟨a, c, by rw [hl], fun hp => ?_⟩
  obtain ⟨b, off, e, hlt, hc⟩ := hr (by omega)
  have := hb b off e (by omega)
  exact ⟨b, off, e, by omega, hlt, fun j hj => hc j (by omega)⟩
set_option maxRecDepth 20000 in
set_option maxHeartbeats 8000000 in
theorem iValues (R C gn gc : Nat) (ga : Option Addr) (gs : List Int) (w : World) (h : Rd w ga gn gs) (hn : gn ≤ 40000) (hc : gn ≤ gc) (hc2 : gc ≤ maxLen) (hgn : gn = R * C) (hC : 1 ≤ C) (hbd : ∀ x ∈ gs, -1 ≤ x ∧ x ≤ 1) :
    Calls Try.prog 123 #[.agg #[.int .i64 (R : Int), .int .i64 (C : Int), .slice ga gn gc]] w fun e w' => ∃ g, e = .returned (.slice (some ⟨g, 0, none⟩) R R) ∧ RRow w' w.heap.size w'.heap.size (some ⟨g, 0, none⟩) R (gVals gs C R) ∧ Caps w' g R ∧ w.heap.size ≤ g ∧ g < w'.heap.size ∧ Below w.heap.size w w' := by
  have hR4 : R ≤ 40000 := by have : R * 1 ≤ R * C := Nat.mul_le_mul_left _ hC; omega
  obtain ⟨cs0, hcs, hmk⟩ := make_rows R hR4
  have HH := Lib.hid h
  have HBd := Lib.hid hbd
  have HG := Lib.hid hgn
  have HCS := Lib.hid hcs
  clear h hbd hgn hcs
  go_enter Try.func123, Try.ntmps123
  go_wp2_with fail
  refine (iIdx _).mono ?_
  rintro e w1 ⟨mb, rfl, hm, hmb, hb1⟩
  have HM := Lib.hid hm
  have HK0 : Hid (Blk w1 w.heap.size 62 #[.int .i64 (R : Int), .int .i64 (C : Int), .slice ga gn gc]) := (Blk.new w 62 _).keep hb1
  have hB1 : Below w.heap.size w w1 := by repeat' (first | (with_reducible exact Below.refl _ _) | (with_reducible assumption) | (with_reducible refine Below.alloc ?_ ?_ _) | (with_reducible refine Below.setCell ?_ ?_ _) | (with_reducible refine Below.drew ?_) | (with_reducible refine below_drewN ?_ _) | (with_reducible refine below_via (by with_reducible assumption) ?_ ?_) | go_size)
  have HB1 := Lib.hid hB1
  have hz1 : w.heap.size < w1.heap.size := HK0.out.lt
  have HML : Hid (mb < w1.heap.size) := hm.lt
  have c0 : w1.cell? ⟨w.heap.size, 0, none⟩ = some (.int .i64 (R : Int)) := HK0.out.cell 0
  clear hm hb1 hB1 hmb
  go_wp2
  clear hmk c0
  have HL0 : Hid (Laid (w1.alloc (.cells cs0 36)) w1.heap.size cs0 R (gVals gs C R) 0) := ⟨Blk.new _ _ _, HCS.out, fun i hi => absurd hi (by omega)⟩
  go_loopw [13] (fun i wr => ∃ (k : Nat) (cs : Array Value), k ≤ R ∧ i = .int .i64 (k : Int) ∧ Hid (Laid wr w1.heap.size cs R (gVals gs C R) k) ∧ Hid ((w1.alloc (.cells cs0 36)).grownBy wr (some w1.heap.size))) (fun i _ => R - (intOf i).toNat)
  case atStart => exact ⟨0, cs0, Nat.zero_le _, rfl, HL0.out, World.grownBy.refl _ _⟩
  case round =>
    clear HL0
    obtain ⟨k, cs, hk, rfl, HL, HGr⟩ := hrel
    by_cases hlt : k < R
    · have hfit := row_fits (C := C) hlt
      rw [← HG.out] at hfit
      obtain ⟨b, off, rfl, hb, -⟩ := HH.out.2 (by omega)
      obtain ⟨m, hm⟩ : ∃ m, k * C = m := ⟨_, rfl⟩
      rw [hm] at hfit
      obtain ⟨q, hq⟩ : ∃ q, k % 3 = q := ⟨_, rfl⟩
      have hq3 : (k : Int) % 3 = (q : Int) := by omega
      have hpI : (k : Int) * (C : Int) = (m : Int) := by rw [← hm]; simp
      have ht2 : ((m : Int) + (C : Int)).toNat = m + C := by omega
      have hm0 : (m : Int) + (C : Int) ≤ (gc : Int) := by omega
      have hcm : C ≤ gc - m := by omega
      have hC4 : C ≤ 40000 := by omega
      have hm4 : m ≤ 40000 := by omega
      have hq0 : 0 ≤ (q : Int) ∧ (q : Int) ≤ 2 := by omega
      have HV : Hid (gVal gs C k = rowF ((gs.drop m).take C) (q : Int) ((C - 15) / 11)) := by unfold Hid gVal gRow; rw [hm, hq]
      have HM0 : Hid (∀ x ∈ (gs.drop m).take C, -1 ≤ x ∧ x ≤ 1) := fun x hx => HBd.out x (List.mem_of_mem_drop (List.mem_of_mem_take hx))
      have HB : Hid (Below w.heap.size w wr) := by
        have h1 := HGr.out
        have h2 : Below w.heap.size w (w1.alloc (.cells cs0 36)) := HB1.out.alloc (by omega) _
        exact h2.grown h1 (by simp; omega) (fun j e => by injection e with e; omega)
      have HRd : Hid (Rd wr (some ⟨b, off + m, none⟩) C ((gs.drop m).take C)) := rd_sub (HH.out.below HB.out) hfit
      have HKr : Hid (Blk wr w.heap.size 62 #[.int .i64 (R : Int), .int .i64 (C : Int), .slice (some ⟨b, off, none⟩) gn gc]) := (HGr.out.block w.heap.size (by simp; omega) (by simp; omega)).trans (HK0.out.alloc _)
      have HMr : Hid (wr.ownsMap Try.prog 132 (plainElem (H := Nat) Try.prog 2) mb 120 (idxD 120)) := (HM.out.kept (World.grownBy_alloc _ _ none) (by simp)).kept HGr.out (by have := HML.out; simp; omega)
      have c1 : wr.cell? ⟨w.heap.size, 1, none⟩ = some (.int .i64 (C : Int)) := HKr.out.cell 1
      have c2 : wr.cell? ⟨w.heap.size, 2, none⟩ = some (.slice (some ⟨b, off, none⟩) gn gc) := HKr.out.cell 2
      have hzr : w1.heap.size < wr.heap.size := HL.out.1.lt
      clear hm hq hb hfit
      go_wp2_with fail
      refine (iReadRow mb _ C _ ((gs.drop m).take C) (q : Int) _ HRd.out (by omega) hcm (by omega) HM0.out hq0.1 hq0.2 HMr.out).mono ?_
      rintro e w2 ⟨a', cp', rfl, ho, hb2⟩
      have HS : Hid (Laid (w2.setCell ⟨w1.heap.size, k, none⟩ (.slice a' ((C - 15) / 11) cp')) w1.heap.size (cs.setIfInBounds k (.slice a' ((C - 15) / 11) cp')) R (gVals gs C R) (k + 1)) := by
        refine HL.out.step hb2 hlt ?_ (own_cap ho)
        rw [gVals_get _ _ hlt, HV.out]
        exact hdr_own ho hzr
      have HG3 : Hid ((w1.alloc (.cells cs0 36)).grownBy (w2.setCell ⟨w1.heap.size, k, none⟩ (.slice a' ((C - 15) / 11) cp')) (some w1.heap.size)) := only_setCell (only_below HGr.out hb2) _
      obtain ⟨x0, hx0⟩ : ∃ x0, w2.cell? ⟨w1.heap.size, k, none⟩ = some x0 := by
        have := (HL.out.1.keep hb2).cell k
        rw [this]
        exact ⟨_, Array.getElem?_eq_getElem (by rw [HL.out.2.1]; exact hlt)⟩
      have hf0 : w2.frozen? ⟨w1.heap.size, k, none⟩ = false := (HL.out.1.keep hb2).frozen k
      clear ho hb2 HL HGr HKr HMr c1 c2 HRd
      go_wp2
      go_roundw
      case rel => exact ⟨k + 1, _, by omega, by go_num, HS, HG3⟩
      case measure => simp [intOf]; omega
    · have hke : k = R := by omega
      have HKe := Lib.hid hke
      clear hke
      go_wp2
      go_returns
      have h1 := HL.out
      rw [HKe.out] at h1
      have h2 : Below w.heap.size w (w1.alloc (.cells cs0 36)) := HB1.out.alloc (by omega) _
      exact ⟨_, rfl, h1.read (gVals_len _ _ _) (by omega), h1.caps, by omega, h1.1.lt, h2.grown HGr.out (by simp; omega) (fun j e => by injection e with e; omega)⟩
end Go.Proofs.Ytdpifddmhbeklaa
