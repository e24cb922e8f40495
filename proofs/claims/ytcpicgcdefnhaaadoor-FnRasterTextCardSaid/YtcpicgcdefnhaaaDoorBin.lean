/-
  DERIVED. Binary grids: blank, binary, l22Binary, darkCount, DarkPixels, BinaryOf.
-/
import Derived.Test.YtcpicgcdefnhaaaDoorRast
namespace Go.Proofs.YtcpicgcdefnhaaaDoor
open Go.RowKit
set_option linter.unusedVariables false

/-- The first k cells of a row of n zeros hold v. -/
def fillL (v : Int) (n k : Nat) : List Int := List.replicate k v ++ List.replicate (n - k) 0
theorem fillL_zero (v : Int) (n : Nat) : fillL v n 0 = List.replicate n 0 := by simp [fillL]
theorem fillL_all (v : Int) (n : Nat) : fillL v n n = List.replicate n v := by simp [fillL]
theorem fillL_length (v : Int) (n k : Nat) (h : k ≤ n) : (fillL v n k).length = n := by simp [fillL]; omega
theorem fillL_set (v : Int) (n k : Nat) (h : k < n) : (fillL v n k).set k v = fillL v n (k + 1) := by
  have e : n - k = (n - (k + 1)) + 1 := by omega
  unfold fillL
  rw [List.set_append_right _ _ (by simp), List.length_replicate, Nat.sub_self, e, List.replicate_succ, List.replicate_succ']
  simp
theorem only_cell {a w : World} {g b o : Nat} (h : a.grownBy w (some g)) (hb : b < a.heap.size) (hne : b ≠ g) : w.cell? ⟨b, o, none⟩ = a.cell? ⟨b, o, none⟩ :=
  World.cell?_of_block (a := ⟨b, o, none⟩) (h.block b hb (by intro e; injection e with e; exact hne e))
theorem only_frozen {a w : World} {g b o : Nat} (h : a.grownBy w (some g)) (hb : b < a.heap.size) (hne : b ≠ g) : w.frozen? ⟨b, o, none⟩ = a.frozen? ⟨b, o, none⟩ :=
  World.frozen?_of_block (a := ⟨b, o, none⟩) (h.block b hb (by intro e; injection e with e; exact hne e))
theorem only_keep {a w w' : World} {g : Nat} (h : a.grownBy w (some g)) (k : w.grownBy w' (some g)) : a.grownBy w' (some g) :=
  ⟨k.os.trans h.os, k.tape.trans h.tape, k.output.trans h.output, Nat.le_trans h.size k.size, fun i hi hne => (k.block i (Nat.lt_of_lt_of_le hi h.size) hne).trans (h.block i hi hne)⟩
theorem below_only {B g : Nat} {a b w : World} (h : Below B a b) (k : b.grownBy w (some g)) (hB : B ≤ b.heap.size) (hg : B ≤ g) : Below B a w :=
  h.grown k hB (fun j e => by injection e with e; omega)
/-- The binary cells of a list of grey values. -/
def binF (limit x : Int) : Int := if x < limit then 1 else 0
theorem binF_yes {limit x : Int} (h : x < limit) : binF limit x = 1 := if_pos h
theorem binF_no {limit x : Int} (h : ¬ x < limit) : binF limit x = 0 := if_neg h
def binL (limit : Int) (zs : List Int) : List Int := zs.map (binF limit)
def binP (limit : Int) (zs : List Int) (k : Nat) : List Int := (zs.take k).map (binF limit) ++ List.replicate (zs.length - k) 0
theorem binP_zero (limit : Int) (zs : List Int) : binP limit zs 0 = List.replicate zs.length 0 := by simp [binP]
theorem binP_all (limit : Int) (zs : List Int) : binP limit zs zs.length = binL limit zs := by simp [binP, binL]
theorem binP_length (limit : Int) (zs : List Int) (k : Nat) (h : k ≤ zs.length) : (binP limit zs k).length = zs.length := by simp [binP]; omega
theorem binP_take (limit : Int) (zs : List Int) (k : Nat) (h : k < zs.length) : (zs.take (k + 1)).map (binF limit) = (zs.take k).map (binF limit) ++ [binF limit (zs.getD k 0)] := by
  rw [List.take_succ_eq_append_getElem h, List.map_append, List.map_cons, List.map_nil]
  simp only [List.getD_eq_getElem?_getD, List.getElem?_eq_getElem h, Option.getD_some]
theorem binP_set (limit : Int) (zs : List Int) (k : Nat) (h : k < zs.length) : (binP limit zs k).set k (binF limit (zs.getD k 0)) = binP limit zs (k + 1) := by
  have e : zs.length - k = (zs.length - (k + 1)) + 1 := by omega
  unfold binP
  rw [binP_take _ _ _ h, List.set_append_right _ _ (by simp; omega), e, List.replicate_succ, List.append_assoc]
  simp [Nat.min_eq_left (Nat.le_of_lt h)]
theorem binP_skip (limit : Int) (zs : List Int) (k : Nat) (h : k < zs.length) (hb : binF limit (zs.getD k 0) = 0) : binP limit zs (k + 1) = binP limit zs k := by
  have e : zs.length - k = (zs.length - (k + 1)) + 1 := by omega
  unfold binP
  rw [binP_take _ _ _ h, hb, e, List.replicate_succ, List.append_assoc]
  rfl
def cntV (p : Int → Bool) (zs : List Int) : Nat → Nat
  | 0 => 0
  | k + 1 => cntV p zs k + (if p (zs.getD k 0) then 1 else 0)
theorem cntV_le (p : Int → Bool) (zs : List Int) (k : Nat) : cntV p zs k ≤ k := by
  induction k with
  | zero => simp [cntV]
  | succ k ih => simp only [cntV]; split <;> omega
theorem cntV_bin (limit : Int) (zs : List Int) (k : Nat) (h : k ≤ zs.length) : cntV (fun x => x == 1) (binL limit zs) k = cntV (fun x => decide (x < limit)) zs k := by
  induction k with
  | zero => rfl
  | succ k ih =>
    have hk : k < zs.length := by omega
    simp only [cntV]
    rw [ih (by omega)]
    have e : (binL limit zs).getD k 0 = binF limit (zs.getD k 0) := by
      simp [binL, List.getD_eq_getElem?_getD, List.getElem?_map, List.getElem?_eq_getElem hk]
    rw [e]
    unfold binF
    split <;> simp_all
theorem cntV_yes {p : Int → Bool} {zs : List Int} {k : Nat} {x : Int} (h : zs.getD k 0 = x) (hp : p x = true) : cntV p zs (k + 1) = cntV p zs k + 1 := by simp only [cntV]; rw [h, hp]; rfl
theorem cntV_no {p : Int → Bool} {zs : List Int} {k : Nat} {x : Int} (h : zs.getD k 0 = x) (hp : p x = false) : cntV p zs (k + 1) = cntV p zs k := by simp only [cntV]; rw [h, hp]; rfl
/-- A struct of two numbers and a slice of the call's own. -/
def OwnRast (w : World) (r c : Int) (L : List Int) (e : Ending) (w' : World) : Prop :=
  ∃ a cp, e = .returned (.agg #[.int .i64 r, .int .i64 c, .slice a L.length cp]) ∧ w'.ownsRow w.heap.size 2 1 (.slice a L.length cp) L.length (L.map (Value.int .i64)) ∧ Below w.heap.size w w'
theorem own_shape {w : World} {base n : Nat} {t : TypeId} {v : Value} {xs : List Value} (h : w.ownsRow base t 1 v n xs) : ∃ a cp, v = .slice a n cp := by
  rcases h.2 with ⟨rfl, rfl⟩ | ⟨g, cap, _, rfl, _⟩
  · exact ⟨_, _, rfl⟩
  · exact ⟨_, _, rfl⟩
theorem own_far {w : World} {base n : Nat} {t : TypeId} {v : Value} {xs : List Value} (h : w.ownsRow base t 1 v n xs) {p : Addr} (hp : p.block < base) (u : Value) : (w.setCell p u).ownsRow base t 1 v n xs := ownsRow_setCell_below h hp u
theorem own_mono {w : World} {base base' n : Nat} {t : TypeId} {v : Value} {xs : List Value} (h : w.ownsRow base t 1 v n xs) (hb : base' ≤ base) : w.ownsRow base' t 1 v n xs := by
  refine ⟨h.1, ?_⟩
  rcases h.2 with hv | ⟨g, cap, cur, hv, hg, r⟩
  · exact .inl hv
  · exact .inr ⟨g, cap, cur, hv, by omega, r⟩
theorem NewRast.own {w w' : World} {r c : Int} {n : Nat} {zs : List Int} {e : Ending} (h : NewRast w r c n zs e w') (hl : zs.length = n) (hn : n ≤ 1048576) : OwnRast w r c zs e w' := by
  obtain ⟨g, he, hg, hk, hb⟩ := h
  subst hl
  exact ⟨_, _, he, hk.own hg rfl (by unfold maxLen; omega), hb⟩
end Go.Proofs.YtcpicgcdefnhaaaDoor
