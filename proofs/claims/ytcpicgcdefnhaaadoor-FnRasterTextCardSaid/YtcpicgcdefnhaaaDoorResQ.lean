/-
  DERIVED. Grid, Res, ResI.
-/
import Derived.Test.YtcpicgcdefnhaaaDoorRast
import Derived.Test.YtcpicgcdefnhaaaDoorBin
import Derived.Test.YtcpicgcdefnhaaaDoorBas
import Derived.Conc.MuLone
namespace Go.Proofs.YtcpicgcdefnhaaaDoor
open Go.RowKit
set_option linter.unusedVariables false
end Go.Proofs.YtcpicgcdefnhaaaDoor
namespace Go.Proofs.YtcpicgcdefnhaaaDoor
open Go.RowKit
set_option linter.unusedVariables false
def ResG (w : World) (R C : Int) (L : List Int) (code : Int) (e : Ending) (w' : World) : Prop :=
  ∃ a cp, e = .returned (.tuple #[.agg #[.int .i64 R, .int .i64 C, .slice a L.length cp], .int .i64 code]) ∧ w'.ownsRow w.heap.size 2 1 (.slice a L.length cp) L.length (L.map (Value.int .i64)) ∧ Below w.heap.size w w' ∧ L.length ≤ 1048576
theorem own_apart {w : World} {base n : Nat} {t : TypeId} {v : Value} {xs : List Value} (h : w.ownsRow base t 1 v n xs) {row : Option Nat} (hr : ∀ k, row = some k → k < base ∨ w.heap.size ≤ k) : v.ownBlock = none ∨ v.ownBlock ≠ row := by
  cases hv : v.ownBlock with
  | none => exact .inl rfl
  | some j =>
    right
    intro e
    have h1 := h.lt j hv
    have h2 := hr j e.symm
    omega
theorem Box3.grown {w w' : World} {b : Nat} {x y z : Value} {row : Option Nat} (h : Box3 w b x y z) (hg : w.grownBy w' row) (hne : ∀ k, row = some k → k ≠ b) : Box3 w' b x y z := by
  have hb : w'.heap[b]? = w.heap[b]? := hg.block b h.1 (fun e => hne b e.symm rfl)
  exact ⟨Nat.lt_of_lt_of_le h.1 hg.size, (World.cell?_of_block (a := ⟨b, 0, none⟩) hb).trans h.2.1, (World.cell?_of_block (a := ⟨b, 1, none⟩) hb).trans h.2.2.1, (World.cell?_of_block (a := ⟨b, 2, none⟩) hb).trans h.2.2.2⟩
theorem Rd.grown {w w' : World} {a : Option Addr} {n B : Nat} {zs : List Int} {row : Option Nat} (h : Rd w a n zs) (hb : ∀ b off, a = some ⟨b, off, none⟩ → 0 < n → b < B) (hg : w.grownBy w' row) (hne : ∀ k, row = some k → B ≤ k) : Rd w' a n zs :=
  ⟨h.1, fun hn => by
    obtain ⟨b, off, e, hlt, hc⟩ := h.2 hn
    have h1 := hb b off e hn
    exact ⟨b, off, e, Nat.lt_of_lt_of_le hlt hg.size, fun i hi => (World.cell?_of_block (a := ⟨b, off + i, none⟩) (hg.block b hlt (fun e' => by have := hne b e'.symm; omega))).trans (hc i hi)⟩⟩
theorem Rd.lt {w : World} {a : Option Addr} {n : Nat} {zs : List Int} (h : Rd w a n zs) : ∀ b off, a = some ⟨b, off, none⟩ → 0 < n → b < w.heap.size := by
  intro b off e hn
  obtain ⟨b', off', e', hlt, _⟩ := h.2 hn
  rw [e] at e'
  injection e' with e'
  injection e' with e1
  omega
theorem own_block {w : World} {base n cp : Nat} {t : TypeId} {a : Option Addr} {xs : List Value} (h : w.ownsRow base t 1 (.slice a n cp) n xs) : ∀ k, (Value.slice a n cp).ownBlock = some k → base ≤ k ∧ k < w.heap.size := fun k e => h.lt k e
theorem grown_below {w w' : World} {B : Nat} {row : Option Nat} (hg : w.grownBy w' row) (hne : ∀ k, row = some k → B ≤ k) (hB : B ≤ w.heap.size) : Below B w w' := (Below.refl B w).grown hg hB hne
/-- A result's own cell of three: it can be written. -/
def Out3 (w : World) (b : Nat) : Prop := b < w.heap.size ∧ w.cell? ⟨b, 0, none⟩ = some (.int .i64 0) ∧ w.cell? ⟨b, 1, none⟩ = some (.int .i64 0) ∧ w.cell? ⟨b, 2, none⟩ = some (.slice none 0 0) ∧ w.frozen? ⟨b, 0, none⟩ = false ∧ w.frozen? ⟨b, 1, none⟩ = false ∧ w.frozen? ⟨b, 2, none⟩ = false
theorem Out3.keep {w w' : World} {b : Nat} (h : Out3 w b) (hb : Below w.heap.size w w') : Out3 w' b :=
  ⟨Nat.lt_of_lt_of_le h.1 hb.size, (hb.cell (p := ⟨b, 0, none⟩) h.1).trans h.2.1, (hb.cell (p := ⟨b, 1, none⟩) h.1).trans h.2.2.1, (hb.cell (p := ⟨b, 2, none⟩) h.1).trans h.2.2.2.1, (hb.frozen (p := ⟨b, 0, none⟩) h.1).trans h.2.2.2.2.1, (hb.frozen (p := ⟨b, 1, none⟩) h.1).trans h.2.2.2.2.2.1, (hb.frozen (p := ⟨b, 2, none⟩) h.1).trans h.2.2.2.2.2.2⟩
theorem Out3.new (w : World) (t : TypeId) : Out3 (w.alloc (.cells #[.int .i64 0, .int .i64 0, .slice none 0 0] t)) w.heap.size := ⟨by simp, by simp, by simp, by simp, by simp [go_sem], by simp [go_sem], by simp [go_sem]⟩
end Go.Proofs.YtcpicgcdefnhaaaDoor
namespace Go.Proofs.YtcpicgcdefnhaaaDoor
open Go.RowKit
set_option linter.unusedVariables false
/-- A slice of numbers of the call's own, and a code. -/
def ResI (w : World) (L : List Int) (code : Int) (e : Ending) (w' : World) : Prop :=
  ∃ a cp, e = .returned (.tuple #[.slice a L.length cp, .int .i64 code]) ∧ w'.ownsRow w.heap.size 2 1 (.slice a L.length cp) L.length (L.map (Value.int .i64)) ∧ Below w.heap.size w w' ∧ L.length ≤ 1048576
theorem eqIntsT (a a' : Option Addr) (n n' c c' : Nat) (xs : List Int) (w : World) (h : Rd w a n xs) (h' : Rd w a' n' xs) (hn : n ≤ 1048576) (hn' : n' ≤ 1048576) :
    Calls Tryd.prog 29 #[.slice a n c, .slice a' n' c'] w fun e w' => e = .returned (.bool true) ∧ Below w.heap.size w w' :=
  (eqInts a a' n n' c c' xs xs w h h' hn hn').mono fun _ _ ⟨h1, h2⟩ => ⟨by rw [h1]; simp [eqL], h2⟩
end Go.Proofs.YtcpicgcdefnhaaaDoor
