/-
  DERIVED. SLICES OF STRUCTS: n elements of m cells each that read as a list of values; finders and runs laid out in cells.
-/
import Derived.Test.YtenelpollcabnaaInts
import Derived.Deep.Slices
import Derived.Deep.Fields
import Derived.ChangeSame
namespace Go.Proofs.Ytenelpollcabnaa
open Go.ChangeShapes Go.WideShapes Go.Deep Go.RowKit
set_option linter.unusedVariables false

/-- n elements of m cells each that read as the values vs. -/
def RdV (w : World) (a : Option Addr) (m n : Nat) (vs : List Value) : Prop :=
  vs.length = n * m ∧ (0 < n → ∃ b off, a = some ⟨b, off, none⟩ ∧ b < w.heap.size ∧ ∀ i, i < n * m → w.cell? ⟨b, off + i, none⟩ = vs[i]?)
theorem RdV.below {w w' : World} {a : Option Addr} {m n : Nat} {vs : List Value} (h : RdV w a m n vs) (hb : Below w.heap.size w w') : RdV w' a m n vs :=
  ⟨h.1, fun hn => by
    obtain ⟨b, off, e, hlt, hc⟩ := h.2 hn
    exact ⟨b, off, e, Nat.lt_of_lt_of_le hlt hb.size, fun i hi => (hb.cell (p := ⟨b, off + i, none⟩) hlt).trans (hc i hi)⟩⟩
theorem own_rdV {w : World} {base n c m : Nat} {t : TypeId} {a : Option Addr} {vs : List Value} (h : w.ownsRow base t m (.slice a n c) n vs) : RdV w a m n vs := by
  refine ⟨h.1, fun hn => ?_⟩
  rcases h.2 with ⟨hv, h0⟩ | ⟨g, cap, cur, hv, hg, hh, hnc, hm, hs, ht⟩
  · omega
  · injection hv with hv1 hv2 hv3
    subst hv1 hv3
    have hlt := (h.lt g rfl).2
    refine ⟨g, 0, rfl, hlt, fun i hi => ?_⟩
    have hi' : i < vs.length := by rw [h.1]; exact hi
    rw [Nat.zero_add, cell_of_row w g i cur t (0, 0) hh, ← ht, List.getElem?_take_of_lt hi, Array.getElem?_toList]
theorem Blk.rdV {w : World} {g n m : Nat} {t : TypeId} {vs : List Value} (h : Blk w g t vs.toArray) (hn : vs.length = n * m) : RdV w (some ⟨g, 0, none⟩) m n vs :=
  ⟨hn, fun _ => ⟨g, 0, rfl, h.lt, fun i hi => by rw [h.cell]; simp⟩⟩

abbrev F4 := Int × Int × Int × Int
def finCell (x : F4) : List Value := [.int .i64 x.1, .int .i64 x.2.1, .int .i64 x.2.2.1, .int .i64 x.2.2.2]
def finV (L : List F4) : List Value := L.flatMap finCell
abbrev R3 := Int × Int × Bool
def runCell (x : R3) : List Value := [.int .i64 x.1, .int .i64 x.2.1, .bool x.2.2]
def runV (L : List R3) : List Value := L.flatMap runCell
theorem flat_length {α : Type} (f : α → List Value) (m : Nat) (hf : ∀ x, (f x).length = m) (L : List α) : (L.flatMap f).length = L.length * m := by
  induction L with
  | nil => simp
  | cons x L ih => simp only [List.flatMap_cons, List.length_append, hf, ih, List.length_cons, Nat.add_mul, Nat.one_mul]; omega
theorem flat_get {α : Type} (f : α → List Value) (m : Nat) (hf : ∀ x, (f x).length = m) (L : List α) (k j : Nat) (hk : k < L.length) (hj : j < m) : (L.flatMap f)[k * m + j]? = (f (L[k]))[j]? := by
  induction L generalizing k with
  | nil => simp at hk
  | cons x L ih =>
    rw [List.flatMap_cons]
    cases k with
    | zero => rw [Nat.zero_mul, Nat.zero_add, List.getElem?_append_left (by rw [hf]; exact hj)]; rfl
    | succ k =>
      have e : (k + 1) * m + j = m + (k * m + j) := by rw [Nat.add_mul, Nat.one_mul]; omega
      rw [e, List.getElem?_append_right (by rw [hf]; omega), hf, Nat.add_sub_cancel_left, ih k (by simpa using hk)]
      rfl
theorem finV_length (L : List F4) : (finV L).length = L.length * 4 := flat_length finCell 4 (fun _ => rfl) L
theorem runV_length (L : List R3) : (runV L).length = L.length * 3 := flat_length runCell 3 (fun _ => rfl) L
theorem finV_app (L M : List F4) : finV (L ++ M) = finV L ++ finV M := by simp [finV]
theorem runV_app (L M : List R3) : runV (L ++ M) = runV L ++ runV M := by simp [runV]

/-- The four cells of the finder k; the three of the run k. -/
theorem RdV.fin {w : World} {a : Option Addr} {n : Nat} {L : List F4} (h : RdV w a 4 n (finV L)) {k : Nat} (hk : k < n) : ∃ b off, a = some ⟨b, off, none⟩ ∧ b < w.heap.size ∧
    w.cell? ⟨b, off + k * 4, none⟩ = some (.int .i64 (L.getD k (0, 0, 0, 0)).1) ∧ w.cell? ⟨b, off + k * 4 + 1, none⟩ = some (.int .i64 (L.getD k (0, 0, 0, 0)).2.1) ∧
    w.cell? ⟨b, off + k * 4 + 2, none⟩ = some (.int .i64 (L.getD k (0, 0, 0, 0)).2.2.1) ∧ w.cell? ⟨b, off + k * 4 + 3, none⟩ = some (.int .i64 (L.getD k (0, 0, 0, 0)).2.2.2) := by
  obtain ⟨b, off, e, hb, hc⟩ := h.2 (by omega)
  have hl : L.length = n := by have := h.1; rw [finV_length] at this; omega
  have hkl : k < L.length := by omega
  have g : L.getD k (0, 0, 0, 0) = L[k] := by simp [List.getD_eq_getElem?_getD, List.getElem?_eq_getElem hkl]
  have q : ∀ j, j < 4 → w.cell? ⟨b, off + (k * 4 + j), none⟩ = (finCell (L[k]))[j]? := fun j hj => (hc (k * 4 + j) (by omega)).trans (flat_get finCell 4 (fun _ => rfl) L k j hkl hj)
  rw [g]
  exact ⟨b, off, e, hb, q 0 (by omega), q 1 (by omega), q 2 (by omega), q 3 (by omega)⟩
theorem RdV.run {w : World} {a : Option Addr} {n : Nat} {L : List R3} (h : RdV w a 3 n (runV L)) {k : Nat} (hk : k < n) : ∃ b off, a = some ⟨b, off, none⟩ ∧ b < w.heap.size ∧
    w.cell? ⟨b, off + k * 3, none⟩ = some (.int .i64 (L.getD k (0, 0, false)).1) ∧ w.cell? ⟨b, off + k * 3 + 1, none⟩ = some (.int .i64 (L.getD k (0, 0, false)).2.1) ∧
    w.cell? ⟨b, off + k * 3 + 2, none⟩ = some (.bool (L.getD k (0, 0, false)).2.2) := by
  obtain ⟨b, off, e, hb, hc⟩ := h.2 (by omega)
  have hl : L.length = n := by have := h.1; rw [runV_length] at this; omega
  have hkl : k < L.length := by omega
  have g : L.getD k (0, 0, false) = L[k] := by simp [List.getD_eq_getElem?_getD, List.getElem?_eq_getElem hkl]
  have q : ∀ j, j < 3 → w.cell? ⟨b, off + (k * 3 + j), none⟩ = (runCell (L[k]))[j]? := fun j hj => (hc (k * 3 + j) (by omega)).trans (flat_get runCell 3 (fun _ => rfl) L k j hkl hj)
  rw [g]
  exact ⟨b, off, e, hb, q 0 (by omega), q 1 (by omega), q 2 (by omega)⟩

/-! ### A slice of structs that came in -/
section
variable {H : Type} {enc : TypeId × Value → H} {P : Program} {w : World} {base : Nat} {spare : Nat → Bool} {held : Bool}
theorem open_slice_fields {t e : TypeId} {fs : Array Field} {fuel : Nat} {cs : List Value} {x : DataW H × List MemPlace} (ht : P.underlying t = some (.slice e)) (he : P.underlying e = some (.struct fs))
    (hone : oneCellFields P fs = true) (hC : P.cellsOf e = fs.size) (h : DataW.trod enc P w base spare held fuel t cs = some x) :
    (cs = [.slice none 0 0]) ∨
    ∃ (a : Addr) (len cap m : Nat), cs = [.slice (some a) len cap] ∧ len ≤ cap ∧ cap ≤ maxLen ∧ m = (if spare a.block then cap else len) ∧
      ∀ i, i < m → ∀ (j : Nat) (f : Field), fs[j]? = some f → ∃ (v : Value) (y : DataW H × List MemPlace) (n : Nat), w.cell? (a.add (i * fs.size + j)) = some v ∧ DataW.trod enc P w base spare held n f.type [v] = some y := by
  rcases open_slice ht h with h0 | ⟨a, len, cap, m, n, D, Pl, hcs, hb, hl, hm, hmm, hx, hi⟩
  · exact .inl h0.1
  · refine .inr ⟨a, len, cap, m, hcs, hl, hm, hmm, fun i him => ?_⟩
    obtain ⟨cs', hc, ht'⟩ := hi i him
    rw [hC] at hc
    obtain ⟨ys, n', hn', hy, hlen, hyl, hf⟩ := DataW.trod_struct he ht'
    obtain ⟨_, hcl, hat⟩ := World.cells?_some hc
    intro j f hj
    obtain ⟨ho, hk⟩ := hone_of hone j f hj
    have hjl : j < fs.size := (Array.getElem?_eq_some_iff.1 hj).1
    have hcell := hat j hjl
    have hv : cs'[j]? = some (cs'[j]'(by omega)) := List.getElem?_eq_getElem (by omega)
    have h1 := hf j f hj
    rw [ho, hk] at h1
    have hone' : (cs'.drop j).take 1 = [cs'[j]'(by omega)] := by
      rw [List.drop_eq_getElem_cons (by omega)]
      rfl
    rw [hone'] at h1
    have hys : ys[j]? = some (ys[j]'(by omega)) := List.getElem?_eq_getElem (by omega)
    refine ⟨_, _, n', ?_, h1.trans hys⟩
    rw [← Go.Deep.add_add, hcell, hv]
end
/-- WHAT THE WALK IS TOLD OF A SLICE OF FINDERS THAT CAME IN. -/
def Finders (w : World) (a : Option Addr) (len cap : Nat) (L : List F4) : Prop := len ≤ cap ∧ cap ≤ maxLen ∧ L.length = len ∧ RdV w a 4 len (finV L)
def intAt (w : World) (a : Addr) (i : Nat) : Int := match w.cell? (a.add i) with | some (.int _ x) => x | _ => 0
theorem LeafOk.finders {H : Type} {enc : TypeId × Value → H} {P : Program} {w : World} {base : Nat} {held : Bool} {t e : TypeId} {f0 f1 f2 f3 : Field} {c : Value} (ht : P.underlying t = some (.slice e)) (he : P.underlying e = some (.struct #[f0, f1, f2, f3]))
    (hone : oneCellFields P #[f0, f1, f2, f3] = true) (hC : P.cellsOf e = 4) (h0 : P.underlying f0.type = some (.int .i64)) (h1 : P.underlying f1.type = some (.int .i64)) (h2 : P.underlying f2.type = some (.int .i64)) (h3 : P.underlying f3.type = some (.int .i64))
    (h : LeafOk enc P w base (fun _ => true) held t c) : ∃ a len cap L, c = .slice a len cap ∧ Finders w a len cap L := by
  obtain ⟨fuel, x, hx⟩ := h
  rcases open_slice_fields ht he hone hC hx with hc | ⟨a, len, cap, m, hcs, hl, hm, hmm, hi⟩
  · simp at hc
    exact ⟨_, _, _, [], hc, Nat.le_refl _, by unfold maxLen; omega, rfl, by simp [finV], fun h => absurd h (by omega)⟩
  · simp at hcs
    simp only [if_true] at hmm
    subst hmm
    have key : ∀ i, i < m → ∀ j, j < 4 → w.cell? (a.add (i * 4 + j)) = some (.int .i64 (intAt w a (i * 4 + j))) := by
      intro i him j hj
      have ty : ∃ f, (#[f0, f1, f2, f3] : Array Field)[j]? = some f ∧ P.underlying f.type = some (.int .i64) := by
        have : j = 0 ∨ j = 1 ∨ j = 2 ∨ j = 3 := by omega
        rcases this with rfl | rfl | rfl | rfl
        · exact ⟨f0, rfl, h0⟩
        · exact ⟨f1, rfl, h1⟩
        · exact ⟨f2, rfl, h2⟩
        · exact ⟨f3, rfl, h3⟩
      obtain ⟨f, hf, hft⟩ := ty
      obtain ⟨v, y, n, hcell, hy⟩ := hi i him j f hf
      obtain ⟨z, hz, _⟩ := DataW.trod_int hft hy
      simp at hz
      subst hz
      have hcell' : w.cell? (a.add (i * 4 + j)) = some (.int .i64 z) := hcell
      rw [hcell']
      simp [intAt, hcell']
    let L : List F4 := (List.range len).map fun i => (intAt w a (i * 4), intAt w a (i * 4 + 1), intAt w a (i * 4 + 2), intAt w a (i * 4 + 3))
    have hL : L.length = len := by simp [L]
    refine ⟨_, _, _, L, hcs, hl, hm, hL, by rw [finV_length, hL], fun hp => ?_⟩
    obtain ⟨b, off, spot⟩ := a
    have c0 := key 0 (by omega) 0 (by omega)
    have hspot : spot = none := by simpa [Addr.add] using World.cell?_spot c0
    subst hspot
    have plain : ∀ i, w.cell? ((⟨b, off, none⟩ : Addr).add i) = w.cell? ⟨b, off + i, none⟩ := by
      intro i
      unfold Addr.add
      split
      · rename_i h0; subst h0; rfl
      · rfl
    refine ⟨b, off, rfl, lt_of_cell ((plain 0).symm.trans c0), fun i hi' => ?_⟩
    obtain ⟨q, j, rfl, hj⟩ : ∃ q j, i = q * 4 + j ∧ j < 4 := ⟨i / 4, i % 4, by omega, by omega⟩
    have hk : q < len := by omega
    have hg : L[q]'(by rw [hL]; exact hk) = (intAt w ⟨b, off, none⟩ (q * 4), intAt w ⟨b, off, none⟩ (q * 4 + 1), intAt w ⟨b, off, none⟩ (q * 4 + 2), intAt w ⟨b, off, none⟩ (q * 4 + 3)) := by simp [L]
    refine ((plain _).symm.trans (key q (by omega) j hj)).trans ?_
    refine Eq.trans ?_ (flat_get finCell 4 (fun _ => rfl) L q j (by rw [hL]; exact hk) hj).symm
    rw [hg]
    have hm4 : j = 0 ∨ j = 1 ∨ j = 2 ∨ j = 3 := by omega
    rcases hm4 with h | h | h | h <;> rw [h] <;> rfl
end Go.Proofs.Ytenelpollcabnaa
