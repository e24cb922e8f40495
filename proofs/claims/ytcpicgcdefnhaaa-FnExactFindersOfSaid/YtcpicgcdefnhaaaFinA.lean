/-
  DERIVED. A slice of finders that comes in: copied.
-/
import Derived.Test.YtcpicgcdefnhaaaFinS
import Derived.Test.YtcpicgcdefnhaaaFind
import Derived.Deep.MidRow
import Derived.Conc.MuLone
namespace Go.Proofs.Ytcpicgcdefnhaaa
open Go.RowKit
set_option linter.unusedVariables false
theorem run_make_rowN {P : Program} (t e : TypeId) (i : TypeInfo) (z : Value) (ht : P.underlying t = some (.slice e)) (hi : P.info? e = some i) (hz : i.zero = some z)
    (kl kc : IntKind) (n c : Nat) (hnc : n ≤ c) (hbytes : i.bytes * c ≤ 281474976710656) (h63 : c ≤ 9223372036854775807) (w : World) :
    (Instr.makeSlice t (.int kl (n : Int)) (.int kc (c : Int))).run P w = .ok (.slice (some ⟨w.heap.size, 0, none⟩) n c) (w.alloc (.cells (madeCells z.cells (c * i.size)) e)) := by
  have hb : (i.bytes : Int) * (c : Int) ≤ 281474976710656 := by
    have h : ((i.bytes * c : Nat) : Int) ≤ 281474976710656 := by omega
    rwa [Int.natCast_mul] at h
  have hr := run_make (P := P) w t e i z ht hi hz kl kc n c (by omega) (by omega) hb (by omega)
  simp only [Int.toNat_natCast] at hr
  exact hr
theorem infoFin : (Try.prog.info? 42).map (fun i => (i.zero, i.size, i.bytes)) = some (some (.agg #[.int .i64 0, .int .i64 0, .int .i64 0, .int .i64 0]), 4, 32) := by kernel_rfl
theorem infoFinS : (Try.prog.info? 42).map (·.size) = some 4 := by kernel_rfl
def fpart (L : List F4) (k : Nat) : List F4 := L.take k ++ List.replicate (L.length - k) (0, 0, 0, 0)
theorem fpart_zero (L : List F4) : fpart L 0 = List.replicate L.length (0, 0, 0, 0) := by simp [fpart]
theorem fpart_all (L : List F4) : fpart L L.length = L := by simp [fpart]
theorem fpart_step (L : List F4) (k : Nat) (h : k < L.length) : fpart L k = L.take k ++ (0, 0, 0, 0) :: List.replicate (L.length - (k + 1)) (0, 0, 0, 0) ∧ fpart L (k + 1) = L.take k ++ L.getD k (0, 0, 0, 0) :: List.replicate (L.length - (k + 1)) (0, 0, 0, 0) := by
  refine ⟨?_, ?_⟩
  · have e : L.length - k = (L.length - (k + 1)) + 1 := by omega
    rw [fpart, e, List.replicate_succ]
  · rw [fpart, List.take_succ_eq_append_getElem h, List.append_assoc]
    simp [List.getD_eq_getElem?_getD, List.getElem?_eq_getElem h]
theorem fpart_length (L : List F4) (k : Nat) (h : k ≤ L.length) : (fpart L k).length = L.length := by simp [fpart]; omega
theorem fin_zeros (n : Nat) : madeCells #[Value.int .i64 0, .int .i64 0, .int .i64 0, .int .i64 0] (n * 4) = (finV (List.replicate n (0, 0, 0, 0))).toArray := by
  apply Array.ext
  · simp [madeCells, finV_length]
  · intro i h1 h2
    have hi : i < n * 4 := by simpa [finV_length] using h2
    have e := flat_get finCell 4 (fun _ => rfl) (List.replicate n (0, 0, 0, 0)) (i / 4) (i % 4) (by simp; omega) (by omega)
    rw [show i / 4 * 4 + i % 4 = i by omega, show (List.replicate n ((0, 0, 0, 0) : F4)).flatMap finCell = finV (List.replicate n (0, 0, 0, 0)) from rfl] at e
    have e2 : (finV (List.replicate n (0, 0, 0, 0))).toArray[i] = Value.int .i64 0 := by
      have h3 : i < (finV (List.replicate n (0, 0, 0, 0))).length := by rw [finV_length]; simpa using hi
      rw [List.getElem?_eq_getElem h3] at e
      have hm : i % 4 = 0 ∨ i % 4 = 1 ∨ i % 4 = 2 ∨ i % 4 = 3 := by omega
      rcases hm with h | h | h | h <;> rw [h] at e <;> simpa [finCell] using e
    rw [e2]
    have hm : i % 4 = 0 ∨ i % 4 = 1 ∨ i % 4 = 2 ∨ i % 4 = 3 := by omega
    rcases hm with h | h | h | h <;> simp [madeCells, h]
theorem Blk.fin_set {w w' : World} {g k : Nat} {t : TypeId} {L1 L2 : List F4} {y : F4} (a b c d : Int) (h : Blk w g t (finV (L1 ++ y :: L2)).toArray) (hk : L1.length = k)
    (hw : w.setCells g (k * 4) [.int .i64 a, .int .i64 b, .int .i64 c, .int .i64 d] = w') : Blk w' g t (finV (L1 ++ (a, b, c, d) :: L2)).toArray := by
  subst hw
  subst hk
  simp only [World.setCells]
  have := (((h.set_ (L1.length * 4) (.int .i64 a)).set_ (L1.length * 4 + 1) (.int .i64 b)).set_ (L1.length * 4 + 2) (.int .i64 c)).set_ (L1.length * 4 + 3) (.int .i64 d)
  rw [List.setIfInBounds_toArray, List.setIfInBounds_toArray, List.setIfInBounds_toArray, List.setIfInBounds_toArray, Fin_sets] at this
  exact this
theorem Blk.there {w : World} {g o n : Nat} {t : TypeId} {cs : Array Value} (h : Blk w g t cs) (hn : o + n ≤ cs.size) : w.there g o n := fun j hj => by
  refine ⟨?_, h.frozen _⟩
  rw [h.cell, Array.getElem?_eq_getElem (by omega)]
  rfl
theorem below_setCells {B b : Nat} : ∀ (vs : List Value) (o : Nat) {w w' : World}, Below B w w' → B ≤ b → Below B w (w'.setCells b o vs)
  | [], _, _, _, h, _ => h
  | v :: r, o, _, _, h, hB => by
    rw [World.setCells]
    exact below_setCells r (o + 1) (h.setCell hB v) hB
def NewFins (w : World) (n : Nat) (L : List F4) (e : Ending) (w' : World) : Prop :=
  ∃ g, e = .returned (.slice (some ⟨g, 0, none⟩) n n) ∧ w.heap.size ≤ g ∧ Blk w' g 42 (finV L).toArray ∧ Below w.heap.size w w'
end Go.Proofs.Ytcpicgcdefnhaaa
