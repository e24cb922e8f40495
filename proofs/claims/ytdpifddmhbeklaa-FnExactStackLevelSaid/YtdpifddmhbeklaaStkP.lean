/-
  DERIVED. Stacked symbols: rows of a grid, elements, erasures: plain laws; two rows of the call's own side by side.
-/
import Derived.Test.YtdpifddmhbeklaaPatD
import Derived.Maps.AppendAt
namespace Go.Proofs.Ytdpifddmhbeklaa
open Go.RowKit
set_option linter.unusedVariables false
def gRow (gs : List Int) (C i : Nat) : List Int := (gs.drop (i * C)).take C
def gVal (gs : List Int) (C i : Nat) : List Int := rowF (gRow gs C i) ((i % 3 : Nat) : Int) ((C - 15) / 11)
theorem gVal_len (gs : List Int) (C i : Nat) : (gVal gs C i).length = (C - 15) / 11 := rowF_len _ _ _
def gVals (gs : List Int) (C R : Nat) : List (List Int) := (List.range R).map (gVal gs C)
theorem gVals_len (gs : List Int) (C R : Nat) : (gVals gs C R).length = R := by simp [gVals]
theorem gVals_get (gs : List Int) (C : Nat) {R i : Nat} (h : i < R) : (gVals gs C R).getD i [] = gVal gs C i := by
  simp [gVals, List.getD_eq_getElem?_getD, h]
def inner (v : List Int) : List Int := (v.drop 1).take (v.length - 2)
theorem inner_len (v : List Int) : (inner v).length = v.length - 2 := by simp [inner]; omega
theorem inner_get {v : List Int} {k : Nat} (h : k < v.length - 2) : (inner v).getD k 0 = v.getD (k + 1) 0 := by
  simp [inner, List.getD_eq_getElem?_getD, h]
def flatP (gs : List Int) (C : Nat) (r : Nat) : List Int := (List.range r).flatMap fun i => inner (gVal gs C i)
theorem flatP_zero (gs : List Int) (C : Nat) : flatP gs C 0 = [] := rfl
theorem flatP_succ (gs : List Int) (C r : Nat) : flatP gs C (r + 1) = flatP gs C r ++ inner (gVal gs C r) := by
  simp [flatP, List.range_succ, List.flatMap_append]
theorem flatP_len (gs : List Int) (C : Nat) : ∀ r, (flatP gs C r).length = r * ((C - 15) / 11 - 2)
  | 0 => by simp [flatP]
  | r + 1 => by rw [flatP_succ, List.length_append, flatP_len gs C r, inner_len, gVal_len, Nat.add_mul, Nat.one_mul]
theorem take_step {Q : List Int} {k : Nat} (h : k < Q.length) : Q.take (k + 1) = Q.take k ++ [Q.getD k 0] := by
  rw [List.take_add_one, List.getD_eq_getElem?_getD, List.getElem?_eq_getElem h]; rfl
def pos0 (x : Int) : Int := if x < 0 then 0 else x
theorem pos0_max (x : Int) : (if (0 : Int) < x then x else 0) = pos0 x := by unfold pos0; split <;> split <;> omega
def elV (X : List Int) : List Int := X.map pos0
theorem elV_len (X : List Int) : (elV X).length = X.length := by simp [elV]
theorem elV_app (X : List Int) (x : Int) : elV (X ++ [x]) = elV X ++ [pos0 x] := by simp [elV]
def negs (X : List Int) : List Int := ((List.range X.length).filter fun i => decide (X.getD i 0 < 0)).map (fun i : Nat => (i : Int))
theorem negs_app (X : List Int) (x : Int) : negs (X ++ [x]) = negs X ++ (if x < 0 then [(X.length : Int)] else []) := by
  unfold negs
  rw [List.length_append, List.length_singleton, List.range_succ, List.filter_append, List.map_append]
  congr 1
  · congr 1
    apply List.filter_congr
    intro i hi
    have hi2 : i < X.length := by simpa using hi
    simp [List.getD_eq_getElem?_getD, List.getElem?_append_left hi2]
  · by_cases h : x < 0
    · simp [List.getD_eq_getElem?_getD, h]
    · simp [List.getD_eq_getElem?_getD, h]
theorem negs_len (X : List Int) : (negs X).length ≤ X.length := by
  unfold negs
  rw [List.length_map]
  exact Nat.le_trans (List.length_filter_le _ _) (by simp)
/-- Two rows of the call's own, side by side, and blocks from L to Z that are as they were. -/
structure Duo (W0 W : World) (B L Z : Nat) (v : Value) (n : Nat) (xs : List Value) (u : Value) (m : Nat) (ys : List Value) : Prop where
  rowV : W.ownsRow B 2 1 v n xs
  rowU : W.ownsRow B 2 1 u m ys
  apart : ∀ b, v.ownBlock = some b → u.ownBlock ≠ some b
  outV : ∀ b, v.ownBlock = some b → b < L ∨ Z ≤ b
  outU : ∀ b, u.ownBlock = some b → b < L ∨ Z ≤ b
  same : ∀ b, L ≤ b → b < Z → W.heap[b]? = W0.heap[b]?
  size : Z ≤ W.heap.size
theorem Duo.symm {W0 W : World} {B L Z n m : Nat} {v u : Value} {xs ys : List Value} (h : Duo W0 W B L Z v n xs u m ys) : Duo W0 W B L Z u m ys v n xs :=
  ⟨h.rowU, h.rowV, fun b hb e => h.apart b e hb, h.outU, h.outV, h.same, h.size⟩
theorem Duo.push {W0 W W' : World} {B L Z n m : Nat} {v u v' : Value} {xs ys zs : List Value} (h : Duo W0 W B L Z v n xs u m ys) (o : Obj) (hg : (W.alloc o).grownBy W' v.ownBlock)
    (ho : W'.ownsRow B 2 1 v' (n + 1) zs) (hat : v'.ownBlock = v.ownBlock ∨ v'.ownBlock = some (W.alloc o).heap.size) : Duo W0 W' B L Z v' (n + 1) zs u m ys := by
  have hsz := h.size
  have hz : (W.alloc o).heap.size = W.heap.size + 1 := by simp
  have hu : ∀ b, u.ownBlock = some b → b < W.heap.size := fun b hb => (h.rowU.lt b hb).2
  refine ⟨ho, ?_, ?_, ?_, h.outU, ?_, ?_⟩
  · refine (h.rowU.alloc o).kept hg ?_
    cases hub : u.ownBlock with
    | none => exact .inl rfl
    | some b =>
      right
      intro e
      exact h.apart b e.symm hub
  · intro b hb e
    rcases hat with h1 | h1
    · exact h.apart b (by rw [← h1]; exact hb) e
    · rw [h1] at hb
      injection hb with hb
      have := hu b e
      omega
  · intro b hb
    rcases hat with h1 | h1
    · exact h.outV b (by rw [← h1]; exact hb)
    · rw [h1] at hb
      injection hb with hb
      right; omega
  · intro b h1 h2
    have e1 : (W.alloc o).heap[b]? = W.heap[b]? := Below.heap_alloc W o b (by omega)
    have e2 : W'.heap[b]? = (W.alloc o).heap[b]? := hg.block b (by omega) (fun e => by have := h.outV b e.symm; omega)
    rw [e2, e1]
    exact h.same b h1 h2
  · have := hg.size
    omega
/-- Behind a call. -/
theorem Duo.enter {W0 W W1 : World} {B L Z n m : Nat} {v u : Value} {xs ys : List Value} (h : Duo W0 W B L Z v n xs u m ys) (hb : Below W.heap.size W W1) : Duo W1 W1 B W.heap.size W1.heap.size v n xs u m ys :=
  ⟨ownN_below h.rowV hb, ownN_below h.rowU hb, h.apart, fun b e => .inl (h.rowV.lt b e).2, fun b e => .inl (h.rowU.lt b e).2, fun _ _ _ => rfl, Nat.le_refl _⟩
theorem Duo.below {W0 W W' : World} {B L Z n m : Nat} {v u : Value} {xs ys : List Value} (h : Duo W0 W B L Z v n xs u m ys) (o : Obj) (hB : B ≤ W.heap.size) (hb : Below B W0 W) (hg : (W.alloc o).grownBy W' v.ownBlock) : Below B W0 W' :=
  (hb.alloc hB o).grown hg (by simp; omega) (fun j e => (h.rowV.lt j e).1)
theorem Duo.rd {W0 W : World} {B L Z n m k : Nat} {v u : Value} {xs ys : List Value} {zs : List Int} {a : Option Addr} (h : Duo W0 W B L Z v n xs u m ys) (hr : Rd W0 a k zs) (hl : ∀ b off, a = some ⟨b, off, none⟩ → 0 < k → L ≤ b ∧ b < Z) : Rd W a k zs := by
  refine ⟨hr.1, fun hk => ?_⟩
  obtain ⟨b, off, e, hb, hc⟩ := hr.2 hk
  obtain ⟨h1, h2⟩ := hl b off e hk
  exact ⟨b, off, e, by have := h.size; omega, fun i hi => (World.cell?_of_block (a := ⟨b, off + i, none⟩) (h.same b h1 h2)).trans (hc i hi)⟩
theorem Duo.rrow {W0 W : World} {B L Z n m k : Nat} {v u : Value} {xs ys : List Value} {a : Option Addr} {Ls : List (List Int)} (h : Duo W0 W B L Z v n xs u m ys) (hr : RRow W0 L Z a k Ls) (hs : W0.heap.size ≤ W.heap.size) : RRow W L Z a k Ls :=
  hr.kept hs h.same
theorem own_rdI {w : World} {base n c : Nat} {a : Option Addr} {zs : List Int} (h : w.ownsRow base 2 1 (.slice a n c) n (zs.map (Value.int .i64))) : Rd w a n zs ∧ (∀ b off, a = some ⟨b, off, none⟩ → 0 < n → base ≤ b ∧ b < w.heap.size) := by
  have hl : zs.length = n := by have := h.1; simpa using this
  have hv := own_rdV h
  refine ⟨⟨hl, fun hp => ?_⟩, fun b off e hp => ?_⟩
  · obtain ⟨b, off, e, hb, hc⟩ := hv.2 hp
    refine ⟨b, off, e, hb, fun i hi => ?_⟩
    rw [hc i (by omega), List.getElem?_map, List.getD_eq_getElem?_getD, List.getElem?_eq_getElem (by omega)]
    rfl
  · have h1 := h.lt b (by rw [e]; rfl)
    exact h1
end Go.Proofs.Ytdpifddmhbeklaa
