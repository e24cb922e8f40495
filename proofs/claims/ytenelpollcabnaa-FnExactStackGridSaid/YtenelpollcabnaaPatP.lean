/-
  DERIVED. The patterns: plain laws, and one row more on a slice of slices.
-/
import Derived.Test.YtenelpollcabnaaSRow
namespace Go.Proofs.Ytenelpollcabnaa
open Go.RowKit
set_option linter.unusedVariables false
/-- The lists that begin with 1, .., k. -/
def patK (g : Nat → List (List Int)) : Nat → List (List Int)
  | 0 => []
  | k + 1 => patK g k ++ (g (k + 1)).map (((k + 1 : Nat) : Int) :: ·)
/-- The lists of p + 1 widths with the sum s. -/
def pats : Nat → Nat → List (List Int)
  | 0, s => [[(s : Int)]]
  | p + 1, s => patK (fun f => pats p (s - f)) (s - (p + 1))
theorem patK_row {g : Nat → List (List Int)} {n : Nat} (hg : ∀ f, ∀ x ∈ g f, x.length = n) : ∀ k, ∀ x ∈ patK g k, x.length = n + 1
  | 0, x, h => by simp [patK] at h
  | k + 1, x, h => by
    unfold patK at h
    rcases List.mem_append.1 h with h | h
    · exact patK_row hg k x h
    · obtain ⟨y, hy, rfl⟩ := List.mem_map.1 h
      simp [hg _ y hy]
theorem pats_row : ∀ (p s : Nat), ∀ x ∈ pats p s, x.length = p + 1
  | 0, s, x, h => by simp [pats] at h; subst h; rfl
  | p + 1, s, x, h => patK_row (fun f => pats_row p (s - f)) _ x h
theorem patK_len {g : Nat → List (List Int)} {s : Nat} (hg : ∀ f, f ≤ s → (g f).length ≤ 2 ^ (s - f)) : ∀ k, k ≤ s → (patK g k).length + 2 ^ (s - k) ≤ 2 ^ s
  | 0, _ => by simp [patK]
  | k + 1, h => by
    have h1 := patK_len hg k (by omega)
    have h2 := hg (k + 1) h
    have h3 : s - k = (s - (k + 1)) + 1 := by omega
    rw [h3, Nat.pow_succ] at h1
    unfold patK
    rw [List.length_append, List.length_map]
    omega
theorem pats_len : ∀ (p s : Nat), (pats p s).length ≤ 2 ^ s
  | 0, s => by simp [pats]; exact Nat.pos_of_ne_zero (by simp)
  | p + 1, s => by
    have := patK_len (g := fun f => pats p (s - f)) (s := s) (fun f _ => pats_len p (s - f)) (s - (p + 1)) (by omega)
    exact Nat.le_trans (Nat.le_add_right _ _) this
theorem patK_mono {g : Nat → List (List Int)} {k n : Nat} (h : k ≤ n) : (patK g k).length ≤ (patK g n).length := by
  induction n with
  | zero => obtain rfl : k = 0 := by omega
            exact Nat.le_refl _
  | succ n ih =>
    rcases Nat.lt_or_ge k (n + 1) with h1 | h1
    · have h2 := ih (by omega)
      have h3 : (patK g (n + 1)).length = (patK g n).length + (g (n + 1)).length := by
        show (patK g n ++ _).length = _
        rw [List.length_append, List.length_map]
      omega
    · obtain rfl : k = n + 1 := by omega
      exact Nat.le_refl _
theorem getD_mem' {Ls : List (List Int)} {i : Nat} (h : i < Ls.length) : Ls.getD i [] ∈ Ls := by
  simp [List.getD_eq_getElem?_getD, List.getElem?_eq_getElem h]
theorem take_succ' {Ls : List (List Int)} {i : Nat} (h : i < Ls.length) : Ls.take (i + 1) = Ls.take i ++ [Ls.getD i []] := by
  rw [List.take_succ_eq_append_getElem h]
  simp [List.getD_eq_getElem?_getD, List.getElem?_eq_getElem h]
theorem rd_news {W : World} {b off n : Nat} {zs : List Int} (hl : zs.length = n) (hc : ∀ i, i < n → W.cell? ⟨b, off + i, none⟩ = some (.int .i64 (zs.getD i 0))) : ∀ j u, (zs.map (Value.int .i64))[j]? = some u → W.cell? ((⟨b, off, none⟩ : Addr).add j) = some u := fun j u hu => by
  rw [List.getElem?_map] at hu
  have hj : j < zs.length := by
    rcases Nat.lt_or_ge j zs.length with h | h
    · exact h
    · rw [List.getElem?_eq_none h] at hu; cases hu
  rw [Addr.add_lit, hc j (by omega)]
  rw [List.getElem?_eq_getElem hj] at hu
  simp [List.getD_eq_getElem?_getD, List.getElem?_eq_getElem hj] at hu ⊢
  exact hu
/-- One row more, its header laid into a block of its own first. -/
theorem srow_add {W W2 : World} {B : Nat} {v v' h : Value} {Ls : List (List Int)} {hs : List Value} {zs : List Int} (ho : W.ownsRow B 24 1 v Ls.length hs)
    (hr : ∀ i, i < Ls.length → ∃ h, hs[i]? = some h ∧ HdrOk W (fun b => B ≤ b ∧ v.ownBlock ≠ some b) (Ls.getD i []) h)
    (hh : HdrOk W (fun b => B ≤ b ∧ v.ownBlock ≠ some b) zs h) (o : Obj) (hgrow : (W.alloc o).grownBy W2 v.ownBlock)
    (g : Nat) (hg : v'.ownBlock = some g) (hat : v.ownBlock = some g ∨ g = W.heap.size + 1)
    (hown : W2.ownsRow B 24 1 v' (Ls.length + 1) (hs ++ [h])) : SRow W2 B v' (Ls ++ [zs]) := by
  refine SRow.push ho hr hh ((World.grownBy_alloc _ _ _).trans hgrow) (fun b hb h1 h2 => ?_) hown
  rw [hg] at h2
  injection h2 with h2
  subst h2
  rcases hat with h3 | h3
  · exact h1 h3
  · omega
/-- In the blocks from B to Z all lies as it lay. -/
def Kin (B Z : Nat) (W W' : World) : Prop := W.heap.size ≤ W'.heap.size ∧ ∀ b, B ≤ b → b < Z → W'.heap[b]? = W.heap[b]?
theorem Kin.refl (B Z : Nat) (W : World) : Kin B Z W W := ⟨Nat.le_refl _, fun _ _ _ => rfl⟩
theorem Kin.trans {B Z : Nat} {X Y W : World} (h : Kin B Z X Y) (k : Kin B Z Y W) : Kin B Z X W := ⟨Nat.le_trans h.1 k.1, fun b h1 h2 => (k.2 b h1 h2).trans (h.2 b h1 h2)⟩
theorem Kin.below {B Z : Nat} {W W' : World} (h : Below W.heap.size W W') (hZ : Z ≤ W.heap.size) : Kin B Z W W' := ⟨h.size, fun b _ h2 => h.block b (by omega)⟩
theorem Kin.grown {B Z : Nat} {W W' : World} {row : Option Nat} (h : W.grownBy W' row) (hZ : Z ≤ W.heap.size) (hr : ∀ k, row = some k → k < B ∨ Z ≤ k) : Kin B Z W W' :=
  ⟨h.size, fun b h1 h2 => h.block b (by omega) (fun e => by have := hr b e.symm; omega)⟩
theorem RRow.kin {W W' : World} {B Z n : Nat} {a : Option Addr} {Ls : List (List Int)} (h : RRow W B Z a n Ls) (hk : Kin B Z W W') : RRow W' B Z a n Ls := h.kept hk.1 hk.2
end Go.Proofs.Ytenelpollcabnaa
