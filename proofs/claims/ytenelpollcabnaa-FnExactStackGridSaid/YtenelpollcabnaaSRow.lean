/-
  DERIVED. SLICES OF SLICES OF NUMBERS: what the call itself made, and what is read.
-/
import Derived.Test.YtenelpollcabnaaOwnN
import Derived.Deep.AppendLies
namespace Go.Proofs.Ytenelpollcabnaa
open Go.RowKit
set_option linter.unusedVariables false
/-- A header whose row reads as zs and lies in blocks that p allows. -/
def HdrOk (W : World) (p : Nat → Prop) (zs : List Int) (h : Value) : Prop :=
  ∃ a cp, h = .slice a zs.length cp ∧ (0 < zs.length → ∃ b off, a = some ⟨b, off, none⟩ ∧ p b ∧ b < W.heap.size ∧ ∀ j, j < zs.length → W.cell? ⟨b, off + j, none⟩ = some (.int .i64 (zs.getD j 0)))
theorem HdrOk.kept {W W' : World} {p q : Nat → Prop} {zs : List Int} {h : Value} (H : HdrOk W p zs h) (hs : W.heap.size ≤ W'.heap.size) (hk : ∀ b, b < W.heap.size → p b → W'.heap[b]? = W.heap[b]? ∧ q b) : HdrOk W' q zs h := by
  obtain ⟨a, cp, e, hr⟩ := H
  refine ⟨a, cp, e, fun hp => ?_⟩
  obtain ⟨b, off, e2, hpb, hlt, hc⟩ := hr hp
  obtain ⟨k1, k2⟩ := hk b hlt hpb
  exact ⟨b, off, e2, k2, by omega, fun j hj => (World.cell?_of_block (a := ⟨b, off + j, none⟩) k1).trans (hc j hj)⟩
theorem HdrOk.oneCell {W : World} {p : Nat → Prop} {zs : List Int} {h : Value} (H : HdrOk W p zs h) : h.oneCell' = true := by
  obtain ⟨a, cp, rfl, _⟩ := H
  rfl
theorem HdrOk.rd {W : World} {p : Nat → Prop} {zs : List Int} {h : Value} (H : HdrOk W p zs h) : ∃ a cp, h = .slice a zs.length cp ∧ Rd W a zs.length zs := by
  obtain ⟨a, cp, rfl, hr⟩ := H
  refine ⟨a, cp, rfl, rfl, fun hp => ?_⟩
  obtain ⟨b, off, e, _, hlt, hc⟩ := hr hp
  exact ⟨b, off, e, hlt, hc⟩
/-- A slice of slices that the call made, the headers' own row at v. -/
def SRow (W : World) (B : Nat) (v : Value) (Ls : List (List Int)) : Prop :=
  ∃ hs : List Value, W.ownsRow B 24 1 v Ls.length hs ∧ ∀ i, i < Ls.length → ∃ h, hs[i]? = some h ∧ HdrOk W (fun b => B ≤ b ∧ v.ownBlock ≠ some b) (Ls.getD i []) h
theorem SRow.lit (w : World) (B : Nat) (hB : B ≤ w.heap.size) : SRow (w.alloc (.cells #[] 24)) B (.slice (some ⟨w.heap.size, 0, none⟩) 0 0) [] := by
  have := World.ownsRow_lit (base := B) (e := 24) (size := 1) w #[] 0 hB (by unfold maxLen; omega) (by simp)
  simp at this
  exact ⟨[], this, fun i hi => absurd hi (by simp)⟩
theorem SRow.nil (w : World) (B : Nat) : SRow w B (.slice none 0 0) [] := ⟨[], World.ownsRow_nil _ _ _ _, fun i hi => absurd hi (by simp)⟩
theorem SRow.shape {W : World} {B : Nat} {v : Value} {Ls : List (List Int)} (h : SRow W B v Ls) : ∃ a cp, v = .slice a Ls.length cp := by
  obtain ⟨hs, ho, _⟩ := h
  exact ownN_shape ho
theorem SRow.lt {W : World} {B : Nat} {v : Value} {Ls : List (List Int)} (h : SRow W B v Ls) : ∀ k, v.ownBlock = some k → B ≤ k ∧ k < W.heap.size := by
  obtain ⟨hs, ho, _⟩ := h
  exact ho.lt
theorem SRow.grown {W W' : World} {B : Nat} {v : Value} {Ls : List (List Int)} {row : Option Nat} (h : SRow W B v Ls) (hg : W.grownBy W' row) (hr : ∀ k, row = some k → k < B ∨ W.heap.size ≤ k) : SRow W' B v Ls := by
  obtain ⟨hs, ho, hh⟩ := h
  refine ⟨hs, ho.kept hg (ownN_apart ho hr), fun i hi => ?_⟩
  obtain ⟨x, hx, hx2⟩ := hh i hi
  exact ⟨x, hx, hx2.kept hg.size fun b hb hp => ⟨hg.block b hb (fun e => by have := hr b e.symm; omega), hp⟩⟩
theorem SRow.keep {W W' : World} {B : Nat} {v : Value} {Ls : List (List Int)} (h : SRow W B v Ls) (hb : Below W.heap.size W W') : SRow W' B v Ls :=
  h.grown (only_of_below hb none) (fun k e => by cases e)
theorem SRow.alloc {W : World} {B : Nat} {v : Value} {Ls : List (List Int)} (h : SRow W B v Ls) (o : Obj) : SRow (W.alloc o) B v Ls :=
  h.keep ((Below.refl _ _).alloc (Nat.le_refl _) _)
theorem SRow.mono {W : World} {B B' : Nat} {v : Value} {Ls : List (List Int)} (h : SRow W B v Ls) (hB : B' ≤ B) : SRow W B' v Ls := by
  obtain ⟨hs, ho, hh⟩ := h
  refine ⟨hs, ownN_mono ho hB, fun i hi => ?_⟩
  obtain ⟨x, hx, hx2⟩ := hh i hi
  exact ⟨x, hx, hx2.kept (Nat.le_refl _) fun b hb hp => ⟨rfl, by omega, hp.2⟩⟩
/-- One row more. -/
theorem SRow.push {W W2 : World} {B : Nat} {v v' h : Value} {Ls : List (List Int)} {hs : List Value} {zs : List Int} (ho : W.ownsRow B 24 1 v Ls.length hs)
    (hr : ∀ i, i < Ls.length → ∃ h, hs[i]? = some h ∧ HdrOk W (fun b => B ≤ b ∧ v.ownBlock ≠ some b) (Ls.getD i []) h)
    (hh : HdrOk W (fun b => B ≤ b ∧ v.ownBlock ≠ some b) zs h) (hgrow : W.grownBy W2 v.ownBlock) (hlies : ∀ b, b < W.heap.size → v.ownBlock ≠ some b → v'.ownBlock ≠ some b)
    (hown : W2.ownsRow B 24 1 v' (Ls.length + 1) (hs ++ [h])) : SRow W2 B v' (Ls ++ [zs]) := by
  have hl : hs.length = Ls.length := by have := ho.1; omega
  refine ⟨hs ++ [h], by rw [List.length_append]; exact hown, fun i hi => ?_⟩
  simp only [List.length_append, List.length_cons, List.length_nil] at hi
  have key : ∀ {zs : List Int} {x : Value}, HdrOk W (fun b => B ≤ b ∧ v.ownBlock ≠ some b) zs x → HdrOk W2 (fun b => B ≤ b ∧ v'.ownBlock ≠ some b) zs x := fun H => H.kept hgrow.size fun b hb hp => ⟨hgrow.block b hb (fun e => hp.2 e.symm), hp.1, hlies b hb hp.2⟩
  rcases Nat.lt_or_ge i Ls.length with hlt | hge
  · obtain ⟨x, hx, hx2⟩ := hr i hlt
    refine ⟨x, by rw [List.getElem?_append_left (by omega)]; exact hx, ?_⟩
    rw [show (Ls ++ [zs]).getD i [] = Ls.getD i [] by simp [List.getD_eq_getElem?_getD, List.getElem?_append_left hlt]]
    exact key hx2
  · obtain rfl : i = Ls.length := by omega
    refine ⟨h, by rw [← hl]; simp, ?_⟩
    rw [show (Ls ++ [zs]).getD Ls.length [] = zs by simp [List.getD_eq_getElem?_getD]]
    exact key hh
/-- A slice of slices that is only read: all of its blocks from B to Z. -/
def RRow (W : World) (B Z : Nat) (a : Option Addr) (n : Nat) (Ls : List (List Int)) : Prop :=
  Ls.length = n ∧ Z ≤ W.heap.size ∧ (0 < n → ∃ b off, a = some ⟨b, off, none⟩ ∧ B ≤ b ∧ b < Z ∧ ∀ i, i < n → ∃ h, W.cell? ⟨b, off + i, none⟩ = some h ∧ HdrOk W (fun b => B ≤ b ∧ b < Z) (Ls.getD i []) h)
theorem SRow.read {W : World} {B n cp : Nat} {a : Option Addr} {Ls : List (List Int)} (h : SRow W B (.slice a n cp) Ls) : RRow W B W.heap.size a n Ls := by
  obtain ⟨a', cp', e⟩ := h.shape
  injection e with _ en _
  obtain ⟨hs, ho, hh⟩ := h
  refine ⟨en.symm, Nat.le_refl _, fun hn => ?_⟩
  rw [← en] at ho
  obtain ⟨b, off, e2, hlt, hc⟩ := (own_rdV ho).2 hn
  have h1 : B ≤ b := by
    rcases ho.2 with ⟨_, h0⟩ | ⟨g, cap, cur, hv, hg, _⟩
    · omega
    · injection hv with hv1
      rw [e2] at hv1
      injection hv1 with hv1
      injection hv1 with hv1
      omega
  refine ⟨b, off, e2, h1, hlt, fun i hi => ?_⟩
  obtain ⟨x, hx, hx2⟩ := hh i (by omega)
  exact ⟨x, (hc i (by omega)).trans hx, hx2.kept (Nat.le_refl _) fun b hb hp => ⟨rfl, hp.1, hb⟩⟩
theorem RRow.kept {W W' : World} {B Z n : Nat} {a : Option Addr} {Ls : List (List Int)} (h : RRow W B Z a n Ls) (hs : W.heap.size ≤ W'.heap.size) (hk : ∀ b, B ≤ b → b < Z → W'.heap[b]? = W.heap[b]?) : RRow W' B Z a n Ls := by
  obtain ⟨h1, h2, h3⟩ := h
  refine ⟨h1, by omega, fun hn => ?_⟩
  obtain ⟨b, off, e, hb1, hb2, hc⟩ := h3 hn
  refine ⟨b, off, e, hb1, hb2, fun i hi => ?_⟩
  obtain ⟨x, hx, hx2⟩ := hc i hi
  exact ⟨x, (World.cell?_of_block (a := ⟨b, off + i, none⟩) (hk b hb1 hb2)).trans hx, hx2.kept hs fun b hb hp => ⟨hk b hp.1 hp.2, hp⟩⟩
theorem RRow.keep {W W' : World} {B Z n : Nat} {a : Option Addr} {Ls : List (List Int)} (h : RRow W B Z a n Ls) (hb : Below Z W W') : RRow W' B Z a n Ls :=
  h.kept hb.size fun b _ hz => hb.block b hz
/-- The header k, and its row. -/
theorem RRow.at {W : World} {B Z n k : Nat} {a : Option Addr} {Ls : List (List Int)} (h : RRow W B Z a n Ls) (hk : k < n) : ∃ b off a' cp, a = some ⟨b, off, none⟩ ∧ b < W.heap.size ∧ W.cell? ⟨b, off + k, none⟩ = some (.slice a' (Ls.getD k []).length cp) ∧ Rd W a' (Ls.getD k []).length (Ls.getD k []) := by
  obtain ⟨h1, h2, h3⟩ := h
  obtain ⟨b, off, e, hb1, hb2, hc⟩ := h3 (by omega)
  obtain ⟨x, hx, hx2⟩ := hc k hk
  obtain ⟨a', cp, rfl, hr⟩ := hx2.rd
  exact ⟨b, off, a', cp, e, by omega, hx, hr⟩
/-- What hands back a slice of slices of the call's own. -/
def NewSRow (w : World) (Ls : List (List Int)) (e : Ending) (w' : World) : Prop :=
  ∃ a cp, e = .returned (.slice a Ls.length cp) ∧ SRow w' w.heap.size (.slice a Ls.length cp) Ls ∧ Below w.heap.size w w' ∧ Ls.length ≤ 1048576
theorem infoRow : (Try.prog.info? 24).map (fun i => (i.zero, i.size, i.bytes)) = some (some (.slice none 0 0), 1, 24) := by kernel_rfl
end Go.Proofs.Ytenelpollcabnaa
