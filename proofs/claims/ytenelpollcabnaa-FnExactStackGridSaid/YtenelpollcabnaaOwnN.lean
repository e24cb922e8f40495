/-
  DERIVED. Rows of the call's own whose elements have several cells.
-/
import Derived.Test.YtenelpollcabnaaRowV
import Derived.Test.YtenelpollcabnaaMark
namespace Go.Proofs.Ytenelpollcabnaa
open Go.RowKit
set_option linter.unusedVariables false
theorem ownN_below {w w' : World} {base n m : Nat} {t : TypeId} {v : Value} {xs : List Value} (h : w.ownsRow base t m v n xs) (hb : Below w.heap.size w w') : w'.ownsRow base t m v n xs := by
  refine ⟨h.1, ?_⟩
  rcases h.2 with hv | ⟨g, cap, cur, hv, hg, hh, r⟩
  · exact .inl hv
  · have hlt := (h.lt g (by rw [hv]; rfl)).2
    exact .inr ⟨g, cap, cur, hv, hg, by rw [hb.block g hlt]; exact hh, r⟩
theorem ownN_mono {w : World} {base base' n m : Nat} {t : TypeId} {v : Value} {xs : List Value} (h : w.ownsRow base t m v n xs) (hb : base' ≤ base) : w.ownsRow base' t m v n xs := by
  refine ⟨h.1, ?_⟩
  rcases h.2 with hv | ⟨g, cap, cur, hv, hg, r⟩
  · exact .inl hv
  · exact .inr ⟨g, cap, cur, hv, Nat.le_trans hb hg, r⟩
theorem ownN_far {w : World} {base n m : Nat} {t : TypeId} {v : Value} {xs : List Value} (h : w.ownsRow base t m v n xs) {p : Addr} (hp : p.block < base) (u : Value) : (w.setCell p u).ownsRow base t m v n xs := by
  refine ⟨h.1, ?_⟩
  rcases h.2 with hv | ⟨g, cap, cur, hv, hg, hh, r⟩
  · exact .inl hv
  · exact .inr ⟨g, cap, cur, hv, hg, (Below.heap_setCell w p u g (by omega)).trans hh, r⟩
theorem ownN_apart {w : World} {base n m : Nat} {t : TypeId} {v : Value} {xs : List Value} (h : w.ownsRow base t m v n xs) {row : Option Nat} (hr : ∀ k, row = some k → k < base ∨ w.heap.size ≤ k) : v.ownBlock = none ∨ v.ownBlock ≠ row := by
  cases hv : v.ownBlock with
  | none => exact .inl rfl
  | some j =>
    right
    intro e
    have h1 := h.lt j hv
    have h2 := hr j e.symm
    omega
theorem ownN_block {w : World} {base n cp m : Nat} {t : TypeId} {a : Option Addr} {xs : List Value} (h : w.ownsRow base t m (.slice a n cp) n xs) : ∀ k, (Value.slice a n cp).ownBlock = some k → base ≤ k ∧ k < w.heap.size := fun k e => h.lt k e
theorem ownN_shape {w : World} {base n m : Nat} {t : TypeId} {v : Value} {xs : List Value} (h : w.ownsRow base t m v n xs) : ∃ a cp, v = .slice a n cp := by
  rcases h.2 with ⟨rfl, h0⟩ | ⟨g, cap, cur, rfl, _⟩
  · exact ⟨none, 0, by rw [h0]⟩
  · exact ⟨_, _, rfl⟩
theorem RdV.len {w : World} {a : Option Addr} {m n : Nat} {vs : List Value} (h : RdV w a m n vs) : vs.length = n * m := h.1
theorem RdV.lt {w : World} {a : Option Addr} {m n : Nat} {vs : List Value} (h : RdV w a m n vs) : ∀ b off, a = some ⟨b, off, none⟩ → 0 < n → b < w.heap.size := by
  intro b off e hn
  obtain ⟨b', off', e', hlt, _⟩ := h.2 hn
  rw [e] at e'
  injection e' with e'
  injection e' with e1
  omega
theorem RdV.grown {w w' : World} {a : Option Addr} {m n B : Nat} {vs : List Value} {row : Option Nat} (h : RdV w a m n vs) (hb : ∀ b off, a = some ⟨b, off, none⟩ → 0 < n → b < B) (hg : w.grownBy w' row) (hne : ∀ k, row = some k → B ≤ k) : RdV w' a m n vs :=
  ⟨h.1, fun hn => by
    obtain ⟨b, off, e, hlt, hc⟩ := h.2 hn
    have h1 := hb b off e hn
    exact ⟨b, off, e, Nat.lt_of_lt_of_le hlt hg.size, fun i hi => (World.cell?_of_block (a := ⟨b, off + i, none⟩) (hg.block b hlt (fun e' => by have := hne b e'.symm; omega))).trans (hc i hi)⟩⟩
end Go.Proofs.Ytenelpollcabnaa
