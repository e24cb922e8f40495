/-
  DERIVED. Candidates: plain laws of the program's side.
-/
import Derived.Test.YtcpicgcdefnhaaaCacP
import Derived.Test.YtcpicgcdefnhaaaCndS
namespace Go.Proofs.Ytcpicgcdefnhaaa
open Go.RowKit
set_option linter.unusedVariables false
theorem secL_bd {L : List R3} {n : Nat} (h : Chain L n) : ∀ k, ∀ x ∈ secL L k, 0 ≤ x.1 ∧ x.1 ≤ n ∧ 0 ≤ x.2.1 ∧ x.2.1 ≤ n ∧ 0 ≤ x.2.2.1 ∧ 1 ≤ x.2.2.2.1 ∧ x.2.2.1 + x.2.2.2.1 ≤ n
  | 0, x, hx => by simp [secL] at hx
  | k + 1, x, hx => by
    cases hs : secI L k with
    | false => rw [secL_no hs] at hx; exact secL_bd h k x hx
    | true =>
      rw [secL_yes hs, List.mem_append] at hx
      rcases hx with hx | hx
      · exact secL_bd h k x hx
      · obtain rfl := List.mem_singleton.1 hx
        have h5 := secI_bd hs
        have F := five_bd h h5
        have b2 := h.bd (j := k + 2) (by omega)
        unfold stR lnR at b2
        exact ⟨F.1, F.2.2.1, F.2.1, F.2.2.2, b2.2.2.2.1, b2.2.1, b2.2.2.2.2⟩
/-- The first section of a column that crosses a row. -/
def hitB (r : Int) (y : S5) : Bool := inB r y.2.2.1 (y.2.2.1 + y.2.2.2.1 - 1)
def hitF (st five : Int) (y : S5) : F4 := (2 * y.1 + y.2.1, 2 * st + five, y.2.1, five)
theorem oneF_no {r st five : Int} {y : S5} (h : hitB r y = false) : oneF r st five y = [] := by
  unfold oneF
  rw [if_neg]
  unfold hitB at h
  rw [h]; decide
theorem oneF_yes {r st five : Int} {y : S5} (h : hitB r y = true) : oneF r st five y = [hitF st five y] := by
  unfold oneF
  unfold hitB at h
  rw [if_pos h]
  rfl
def s0 : S5 := (0, 0, rz)
theorem none_hit (Y : List S5) (r st five : Int) (h : ∀ i, i < Y.length → hitB r (Y.getD i s0) = false) : Y.flatMap (oneF r st five) = [] := by
  rw [List.flatMap_eq_nil_iff]
  intro y hy
  obtain ⟨i, hi, rfl⟩ := List.getElem_of_mem hy
  have := h i hi
  rw [List.getD_eq_getElem?_getD, List.getElem?_eq_getElem hi] at this
  exact oneF_no this
theorem first_hit (Y : List S5) (r st five : Int) (j : Nat) (hj : j < Y.length) (h : ∀ i, i < j → hitB r (Y.getD i s0) = false) (hy : hitB r (Y.getD j s0) = true) (hl : (Y.flatMap (oneF r st five)).length ≤ 1) : Y.flatMap (oneF r st five) = [hitF st five (Y.getD j s0)] := by
  have e : Y = Y.take j ++ (Y.getD j s0 :: Y.drop (j + 1)) := by
    rw [List.getD_eq_getElem?_getD, List.getElem?_eq_getElem hj]
    simp
  have h1 : (Y.take j).flatMap (oneF r st five) = [] := by
    refine none_hit _ _ _ _ (fun i hi => ?_)
    have hi' : i < j := by simp at hi; omega
    have := h i hi'
    simp only [List.getD_eq_getElem?_getD, List.getElem?_take, if_pos hi'] at this ⊢
    exact this
  generalize Y.getD j s0 = y at e hy ⊢
  rw [e, List.flatMap_append, h1, List.flatMap_cons, oneF_yes hy] at hl ⊢
  simp only [List.nil_append, List.singleton_append, List.length_cons] at hl ⊢
  rw [List.eq_nil_of_length_eq_zero (l := List.flatMap (oneF r st five) (List.drop (j + 1) Y)) (by omega)]
theorem col_hits (gs : List Int) (C R c : Nat) (r st five : Int) : ((colS gs C R c).flatMap (oneF r st five)).length ≤ 1 := by
  unfold colS
  rw [← dwn_secs]
  exact (dwn_len (runF_chain (colL gs C R c) R) r st five _).1
/-- What the sections of a row give, the first i of them. -/
def acq (gs : List Int) (C R : Nat) (r : Int) (S : List S5) (i : Nat) : List F4 := (S.take i).flatMap (acrF gs C R r)
theorem acq_zero (gs : List Int) (C R : Nat) (r : Int) (S : List S5) : acq gs C R r S 0 = [] := rfl
theorem acq_succ (gs : List Int) (C R : Nat) (r : Int) (S : List S5) (i : Nat) (h : i < S.length) : acq gs C R r S (i + 1) = acq gs C R r S i ++ acrF gs C R r (S.getD i s0) := by
  unfold acq
  rw [List.take_succ_eq_append_getElem h, List.flatMap_append]
  simp [List.getD_eq_getElem?_getD, List.getElem?_eq_getElem h]
theorem acq_all (gs : List Int) (C R : Nat) (r : Int) (L : List R3) : acq gs C R r (secL L L.length) (secL L L.length).length = acr gs C R r L L.length := by
  unfold acq
  rw [List.take_length, acr_secs]
theorem acq_len (gs : List Int) (C R : Nat) (r : Int) (S : List S5) : ∀ i, i ≤ S.length → (acq gs C R r S i).length ≤ i
  | 0, _ => Nat.le_refl _
  | i + 1, hi => by
    have h1 := acq_len gs C R r S i (by omega)
    rw [acq_succ gs C R r S i (by omega), List.length_append]
    have h2 := col_hits gs C R ((S.getD i s0).2.2.1 + (S.getD i s0).2.2.2.1 / 2).toNat r (S.getD i s0).1 (S.getD i s0).2.1
    unfold acrF secD
    unfold colS at h2
    omega
theorem acrF_col (gs : List Int) (C R : Nat) (r : Int) (x : S5) (c : Nat) (h : x.2.2.1 + x.2.2.2.1 / 2 = (c : Int)) : acrF gs C R r x = (colS gs C R c).flatMap (oneF r x.1 x.2.1) := by
  unfold acrF secD colS
  rw [h, Int.toNat_natCast]
/-- Blocks that are neither the row's nor the store's. -/
def Apart (v : Value) (dr fr : Nat) (b : Nat) : Prop := v.ownBlock ≠ some b ∧ b ≠ dr ∧ b ≠ fr
theorem Cache.app {wq w2 : World} {v v' : Value} {db fb dr fr C : Nat} {F : Nat → List S5} {o : Obj} (h : Cache wq (Apart v dr fr) db fb dr fr C F) (hg : (wq.alloc o).grownBy w2 v.ownBlock) (hat : v'.ownBlock = v.ownBlock ∨ v'.ownBlock = some (wq.alloc o).heap.size)
    {B : Nat} (hv : ∀ b, v.ownBlock = some b → B ≤ b) (h1 : db < B) (h2 : fb < B) (h3 : dr < B) (h4 : fr < B) : Cache w2 (Apart v' dr fr) db fb dr fr C F := by
  obtain ⟨l1, l2, l3, l4⟩ := h.lt
  have hs := hg.size
  simp only [World.size_alloc] at hs hat
  have far : ∀ b, b < wq.heap.size → v.ownBlock ≠ some b → w2.heap[b]? = wq.heap[b]? := fun b hb hn => (hg.block b (by simp; omega) (fun e => hn e.symm)).trans (Below.heap_alloc wq o b hb)
  have low : ∀ b, b < B → v.ownBlock ≠ some b := fun b hb e => by have := hv b e; omega
  refine h.kept (by omega) (far _ l1 (low _ h1)) (far _ l2 (low _ h2)) (far _ l3 (low _ h3)) (far _ l4 (low _ h4)) (fun b hb hp => ⟨far b hb hp.1, fun e => ?_, hp.2⟩)
  rcases hat with hh | hh
  · exact hp.1 (by rw [← hh]; exact e)
  · rw [hh] at e; injection e with e; omega
end Go.Proofs.Ytcpicgcdefnhaaa
