/-
  DERIVED. SMALL LAWS OF MY OWN, for whatever program: a struct argument opened to its leaves; a slice of integers that came in.
-/
import Derived.Test.YtcpicgcdefnhaaaDoorRows
import Derived.WalkKit
import Derived.WalkSpells
import Derived.WalkLawsBesides
import Derived.ProofKit
import Derived.OpenShut
import Derived.ShutString
import Derived.ChangeOld
import Derived.Below
import Derived.Lib.Hide
import Derived.Outline
import Derived.Handy
import Derived.Deep.QuietTactic
import Derived.BigQuiet
import Derived.Lib.SmallJoins
import Derived.Deep.RegionHeld3
namespace Go.Proofs.YtcpicgcdefnhaaaDoor
open Go.ChangeShapes Go.WideShapes Go.ChangeAt Go.RowKit
set_option linter.unusedVariables false

theorem own : ownKnob Tryd.prog.godebug = none := by kernel_rfl
theorem laidOut : laidOutB Tryd.prog = true := by kernel_rfl

/-! ### 1. The leaves of a type of structs: the scalar types of its cells, in order -/
def leavesStep (acc l' : Option (List TypeId)) (off size : Nat) : Option (List TypeId) :=
  match acc, l' with
  | some l, some l' => if off = l.length ∧ size = l'.length then some (l ++ l') else none
  | _, _ => none

def leavesOf (P : Program) : Nat → TypeId → Option (List TypeId)
  | 0, _ => none
  | fuel + 1, t =>
    match P.underlying t with
    | some (.struct fs) => fs.toList.foldl (fun acc f => leavesStep acc (leavesOf P fuel f.type) f.offset (P.cellsOf f.type)) (some [])
    | some (.int _) => some [t]
    | some .bool => some [t]
    | some .string => some [t]
    | some (.slice _) => some [t]
    | _ => none

section
variable {H : Type} {enc : TypeId × Value → H} {P : Program} {w : World} {base : Nat} {spare : Nat → Bool} {held : Bool}

def LeafOk (enc : TypeId × Value → H) (P : Program) (w : World) (base : Nat) (spare : Nat → Bool) (held : Bool) (t : TypeId) (c : Value) : Prop :=
  ∃ fuel x, DataW.trod enc P w base spare held fuel t [c] = some x

def LeavesOk (enc : TypeId × Value → H) (P : Program) (w : World) (base : Nat) (spare : Nat → Bool) (held : Bool) (ts : List TypeId) (cs : List Value) : Prop :=
  ∀ (i : Nat) (t : TypeId), ts[i]? = some t → ∃ c, cs[i]? = some c ∧ LeafOk enc P w base spare held t c

theorem leaves_fold {f : Nat} (cs : List Value) (ih : ∀ (t : TypeId) (fuel : Nat) (cs : List Value) (x : DataW H × List MemPlace) (ts : List TypeId), leavesOf P f t = some ts → DataW.trod enc P w base spare held fuel t cs = some x → LeavesOk enc P w base spare held ts cs) :
    ∀ (fs : List Field) (l r : List TypeId), (∀ g ∈ fs, ∃ n x, DataW.trod enc P w base spare held n g.type ((cs.drop g.offset).take (P.cellsOf g.type)) = some x) →
      LeavesOk enc P w base spare held l cs → fs.foldl (fun acc g => leavesStep acc (leavesOf P f g.type) g.offset (P.cellsOf g.type)) (some l) = some r → LeavesOk enc P w base spare held r cs := by
  intro fs
  induction fs with
  | nil => intro l r _ hl h; simp at h; subst h; exact hl
  | cons g fs iht =>
    intro l r hg hl h
    simp only [List.foldl_cons] at h
    have hnone : ∀ gs : List Field, gs.foldl (fun acc g => leavesStep acc (leavesOf P f g.type) g.offset (P.cellsOf g.type)) none = none := by
      intro gs
      induction gs with
      | nil => rfl
      | cons _ _ ih2 => simpa [leavesStep] using ih2
    cases hl' : leavesOf P f g.type with
    | none => rw [hl', show leavesStep (some l) none g.offset (P.cellsOf g.type) = none from rfl, hnone] at h; cases h
    | some l' =>
      rw [hl'] at h
      by_cases hc : g.offset = l.length ∧ P.cellsOf g.type = l'.length
      · simp only [leavesStep, if_pos hc] at h
        refine iht (l ++ l') r (fun g' hg' => hg g' (List.mem_cons_of_mem _ hg')) ?_ h
        obtain ⟨n, x, hx⟩ := hg g (List.mem_cons_self ..)
        rw [hc.1, hc.2] at hx
        have hs := ih _ _ _ _ _ hl' hx
        intro i t hi
        by_cases hil : i < l.length
        · rw [List.getElem?_append_left hil] at hi
          exact hl i t hi
        · rw [List.getElem?_append_right (by omega)] at hi
          obtain ⟨c, hc', hok⟩ := hs _ t hi
          refine ⟨c, ?_, hok⟩
          have hlt : i - l.length < l'.length := (List.getElem?_eq_some_iff.1 hi).1
          rw [List.getElem?_take_of_lt hlt, List.getElem?_drop] at hc'
          rwa [show l.length + (i - l.length) = i from by omega] at hc'
      · rw [show leavesStep (some l) (some l') g.offset (P.cellsOf g.type) = none from if_neg hc, hnone] at h; cases h

theorem leaves_ok : ∀ (f : Nat) (t : TypeId) (fuel : Nat) (cs : List Value) (x : DataW H × List MemPlace) (ts : List TypeId), leavesOf P f t = some ts → DataW.trod enc P w base spare held fuel t cs = some x → LeavesOk enc P w base spare held ts cs := by
  intro f
  induction f with
  | zero => intro t fuel cs x ts h; simp [leavesOf] at h
  | succ f ih =>
    intro t fuel cs x ts h ht
    have one : ∀ c, cs = [c] → ts = [t] → LeavesOk enc P w base spare held ts cs := by
      rintro c rfl rfl i t' hi
      match i, hi with
      | 0, hi => simp at hi; subst hi; exact ⟨c, rfl, fuel, x, ht⟩
    cases hu : P.underlying t with
    | none => simp [leavesOf, hu] at h
    | some u =>
      cases u with
      | struct fs =>
        simp only [leavesOf, hu] at h
        obtain ⟨xs, n, _, _, _, hlen, hg⟩ := DataW.trod_struct hu ht
        refine leaves_fold cs ih fs.toList [] ts ?_ (fun i t' hi => by simp at hi) h
        intro g hgm
        obtain ⟨i, hi, hgi⟩ := List.getElem_of_mem hgm
        have hi' : i < fs.size := by simpa using hi
        have := hg i g (by rw [Array.getElem?_eq_getElem hi']; simpa using hgi)
        exact ⟨n, xs[i]'(by omega), this.trans (List.getElem?_eq_getElem (by omega))⟩
      | int k => simp only [leavesOf, hu, Option.some.injEq] at h; obtain ⟨m, hm, _⟩ := DataW.trod_int hu ht; exact one _ hm h.symm
      | bool => simp only [leavesOf, hu, Option.some.injEq] at h; obtain ⟨m, hm, _⟩ := DataW.trod_bool hu ht; exact one _ hm h.symm
      | string => simp only [leavesOf, hu, Option.some.injEq] at h; obtain ⟨m, hm, _⟩ := DataW.trod_string hu ht; exact one _ hm h.symm
      | slice e =>
        simp only [leavesOf, hu, Option.some.injEq] at h
        rcases DataW.trod_slice hu ht with ⟨h0, _⟩ | ⟨a, len, cap, elems, rest, n, _, hcs, _⟩
        · exact one _ h0 h.symm
        · exact one _ hcs h.symm
      | _ => simp [leavesOf, hu] at h

/-- A STRUCT BY VALUE, whatever its fields: its cells and what each reads as. -/
theorem open_leaves {r : Reach} {b0 : Nat} {t : TypeId} {fs : Array Field} {ts : List TypeId} {v : Value} {d : DataW H} {p : List MemPlace} {f : Nat} (hs : P.underlying t = some (.struct fs)) (hl : leavesOf P f t = some ts) (hC : P.cellsOf t = ts.length)
    (hv : Value.okWide P w r b0 t v) (h : DataW.Trod enc P w base spare held t v d p) :
    ∃ cs : List Value, v = .agg cs.toArray ∧ cs.length = ts.length ∧ LeavesOk enc P w base spare held ts cs := by
  obtain ⟨cs, rfl, hsz⟩ := okWide_struct hs hv
  obtain ⟨fuel, hf⟩ := h
  obtain ⟨l⟩ := cs
  exact ⟨l, rfl, by simpa [hC] using hsz, leaves_ok f t fuel l _ ts hl (by simpa [Value.cells] using hf)⟩

theorem LeafOk.int {t : TypeId} {k : IntKind} {c : Value} (ht : P.underlying t = some (.int k)) (h : LeafOk enc P w base spare held t c) : ∃ n, c = .int k n ∧ (Lit.int k n).wf = true := by
  obtain ⟨fuel, x, hx⟩ := h
  obtain ⟨n, hn, _, hw⟩ := DataW.trod_int ht hx
  simp at hn
  exact ⟨n, hn, hw⟩
theorem LeafOk.bool {t : TypeId} {c : Value} (ht : P.underlying t = some .bool) (h : LeafOk enc P w base spare held t c) : ∃ b, c = .bool b := by
  obtain ⟨fuel, x, hx⟩ := h
  obtain ⟨n, hn, _⟩ := DataW.trod_bool ht hx
  simp at hn
  exact ⟨n, hn⟩
theorem LeafOk.string {t : TypeId} {c : Value} (ht : P.underlying t = some .string) (h : LeafOk enc P w base spare held t c) : ∃ s : ByteArray, c = .string s ∧ s.size ≤ maxLen := by
  obtain ⟨fuel, x, hx⟩ := h
  obtain ⟨n, hn, _, hw⟩ := DataW.trod_string ht hx
  simp at hn
  exact ⟨n, hn, hw⟩
end

/-- WHAT THE WALK IS TOLD OF A SLICE OF INTEGERS THAT CAME IN: its length, its numbers (the elements alone), where its cells lie. -/
def Ints (k : IntKind) (w : World) (a : Option Addr) (len cap : Nat) (zs : List Int) : Prop :=
  zs.length = len ∧ len ≤ cap ∧ cap ≤ maxLen ∧ (∀ n ∈ zs, (Lit.int k n).wf = true) ∧
  (0 < len → ∃ b off, a = some ⟨b, off, none⟩ ∧ b < w.heap.size ∧ ∀ i, i < len → w.cell? ⟨b, off + i, none⟩ = some (.int k (zs.getD i 0)))

theorem lt_of_cell {w : World} {b off : Nat} {v : Value} (h : w.cell? ⟨b, off, none⟩ = some v) : b < w.heap.size := by
  rcases Nat.lt_or_ge b w.heap.size with h' | h'
  · exact h'
  · unfold World.cell? at h; simp [Array.getElem?_eq_none h'] at h

theorem LeafOk.ints {H : Type} {enc : TypeId × Value → H} {P : Program} {w : World} {base : Nat} {held : Bool} {t e : TypeId} {k : IntKind} {c : Value} (ht : P.underlying t = some (.slice e)) (he : P.underlying e = some (.int k)) (hc : P.cellsOf e = 1) (h : LeafOk enc P w base (fun _ => true) held t c) :
    ∃ a len cap zs, c = .slice a len cap ∧ Ints k w a len cap zs := by
  obtain ⟨fuel, x, hx⟩ := h
  rcases open_ints ht he hc hx with ⟨h0, _⟩ | ⟨a, len, cap, zs, h0, _, hl, hm, hz, _, hcell, hwf⟩
  · simp at h0
    exact ⟨_, _, _, [], h0, rfl, Nat.le_refl _, by unfold maxLen; omega, by simp, fun h => absurd h (by omega)⟩
  · simp at h0 hz
    refine ⟨_, _, _, zs.take len, h0, by rw [List.length_take]; omega, hl, hm, fun n hn => hwf n (List.mem_of_mem_take hn), fun hp => ?_⟩
    obtain ⟨b, off, spot⟩ := a
    have hc0 := hcell 0 (by omega)
    have hspot : spot = none := by simpa [Addr.add] using World.cell?_spot hc0
    subst hspot
    have hcell' : ∀ i, i < zs.length → w.cell? ⟨b, off + i, none⟩ = some (.int k (zs.getD i 0)) := fun i hi => by
      have := hcell i hi
      unfold Addr.add at this
      split at this
      · rename_i h0; subst h0; simpa using this
      · simpa using this
    refine ⟨b, off, rfl, lt_of_cell (hcell' 0 (by omega)), fun i hi => ?_⟩
    rw [hcell' i (by omega)]
    simp [List.getD_eq_getElem?_getD, List.getElem?_take_of_lt hi]

theorem ret_bool {a b : Bool} (h : a = b) : Ending.returned (.bool a) = .returned (.bool b) := by rw [h]
theorem ret_int {k : IntKind} {a b : Int} (h : a = b) : Ending.returned (.int k a) = .returned (.int k b) := by rw [h]

/-- BEHIND A CALL THAT MADE BLOCKS: what was there reads as it did; the heap has not shrunk. -/
theorem after {W w1 : World} (hb : Below W.heap.size W w1) : (∀ b o, b < W.heap.size → w1.cell? ⟨b, o, none⟩ = W.cell? ⟨b, o, none⟩) ∧ (∀ b o, b < W.heap.size → w1.frozen? ⟨b, o, none⟩ = W.frozen? ⟨b, o, none⟩) ∧ W.heap.size ≤ w1.heap.size :=
  ⟨fun _ _ h => hb.cell h, fun _ _ h => hb.frozen h, hb.size⟩
theorem bcell {W w1 : World} (hb : Below W.heap.size W w1) : (∀ b o, b < W.heap.size → w1.cell? ⟨b, o, none⟩ = W.cell? ⟨b, o, none⟩) ∧ (∀ b o, b < W.heap.size → w1.frozen? ⟨b, o, none⟩ = W.frozen? ⟨b, o, none⟩) :=
  ⟨fun _ _ h => hb.cell h, fun _ _ h => hb.frozen h⟩
theorem below_drewN {B : Nat} {a w : World} (h : Below B a w) (n : Nat) : Below B a (w.drewN n) := ⟨h.os, h.tape, h.output, h.size, h.block⟩
theorem below_via {B b : Nat} {w0 W0 w1 : World} (h : Below B W0 w1) (hB : b ≤ B) (h0 : Below b w0 W0) : Below b w0 w1 := h0.trans (h.mono hB)
theorem below_call {B : Nat} {w0 W w1 : World} (hb : Below W.heap.size W w1) (h : Below B w0 W) (hB : B ≤ W.heap.size) : Below B w0 w1 := h.trans (hb.mono hB)
end Go.Proofs.YtcpicgcdefnhaaaDoor
