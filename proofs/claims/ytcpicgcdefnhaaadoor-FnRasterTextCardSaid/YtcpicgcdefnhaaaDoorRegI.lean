/-
  DERIVED. A region that draws its order, by an invariant on what has come up: one step for each operation, whatever the order.
-/
import Derived.Test.YtcpicgcdefnhaaaDoorKit
import Derived.Deep.RegionHeld3
namespace Go.Proofs.YtcpicgcdefnhaaaDoor
set_option linter.unusedVariables false
section
variable {P : Program} {ops : Array Oper} {Q : Exit → Act → World → Prop} {md : Region.Mode}
/-- who waits, waits for one further up. -/
def ordB (md : Region.Mode) : Nat → List Oper → Bool
  | _, [] => true
  | k, o :: rest => (o.after.all fun e => !Region.binds md e || decide (e.on < k)) && ordB md (k + 1) rest
theorem ordB_spec : ∀ (l : List Oper) (k : Nat), ordB md k l = true → ∀ i o, l[i]? = some o → ∀ e ∈ o.after, Region.binds md e = true → e.on < k + i := by
  intro l
  induction l with
  | nil => intro k _ i o h; simp at h
  | cons x rest ih =>
    intro k hk i o h e he hb
    simp only [ordB, Bool.and_eq_true] at hk
    rcases i with _ | i
    · simp at h
      subst h
      have := Array.all_eq_true_iff_forall_mem.1 hk.1 e he
      simp [hb] at this
      exact this
    · simp at h
      have := ih (k + 1) hk.2 i o h e he hb
      omega
theorem wpAny_inv (I : (Nat → Bool) → Act → World → Prop) (hord : ∀ i o, ops[i]? = some o → ∀ e ∈ o.after, Region.binds md e = true → e.on < i)
    (hstep : ∀ (d : Nat → Bool) (a : Act) (w : World), I d a w → ∀ i o, ops[i]? = some o → d i = false → (∀ e ∈ o.after, Region.binds md e = true → d e.on = true) → wpOp P ops Q i (I (fun j => j == i || d j)) a w)
    (hdone : ∀ (d : Nat → Bool) (a : Act) (w : World), I d a w → (∀ i, i < ops.size → d i = true) → Q .normal a w) :
    ∀ (fuel : Nat) (l : Array Bool) (a : Act) (w : World), l.size = ops.size → l.toList.count false ≤ fuel → I (fun j => l.getD j false) a w → wpAny P md ops Q fuel l a w := by
  have hall : ∀ (l : Array Bool), l.size = ops.size → Region.ready md ops l = [] → ∀ i, i < ops.size → l.getD i false = true := by
    intro l hl hr i
    induction i using Nat.strongRecOn with
    | _ i ih =>
      intro hi
      cases hc : l.getD i false with
      | true => rfl
      | false =>
        exfalso
        have hm : i ∈ Region.ready md ops l := by
          refine mem_ready.2 ⟨?_, ops[i], Array.getElem?_eq_getElem hi, fun e he hb => ?_⟩
          · have : i < l.size := by omega
            simp [this] at hc ⊢
            exact hc
          · have h1 := hord i ops[i] (Array.getElem?_eq_getElem hi) e he hb
            exact ih e.on h1 (by omega)
        rw [hr] at hm
        cases hm
  intro fuel
  induction fuel with
  | zero =>
    intro l a w hl hc hI
    have hr : Region.ready md ops l = [] := by
      cases hr : Region.ready md ops l with
      | nil => rfl
      | cons i rs =>
        exfalso
        have hi : i ∈ Region.ready md ops l := by rw [hr]; simp
        have h0 := (mem_ready.1 hi).1
        have hlt : i < l.size := by
          rcases Nat.lt_or_ge i l.size with h | h
          · exact h
          · simp [Array.getElem?_eq_none h] at h0
        have hm : false ∈ l.toList := by
          simp [hlt] at h0
          rw [← h0]
          simp
        have := List.count_pos_iff.2 hm
        omega
    exact ⟨hr, hdone _ a w hI (hall l hl hr)⟩
  | succ fuel ih =>
    intro l a w hl hc hI
    refine ⟨fun hr => hdone _ a w hI (hall l hl hr), fun i hi => ?_⟩
    obtain ⟨h0, o, ho, hdep⟩ := mem_ready.1 hi
    have hlt : i < l.size := by
      rcases Nat.lt_or_ge i l.size with h | h
      · exact h
      · simp [Array.getElem?_eq_none h] at h0
    have h0' : l.getD i false = false := by
      simp [hlt] at h0 ⊢
      exact h0
    refine wpOp_mono (fun a' w' h' => ih (l.setIfInBounds i true) a' w' (by simpa using hl) ?_ ?_) (hstep _ a w hI i o ho h0' hdep)
    · rw [Array.toList_setIfInBounds, List.count_set (by simpa using hlt)]
      have hm : l.toList[i]'(by simpa using hlt) = false := by
        simp [hlt] at h0
        simpa using h0
      rw [hm]
      have hp := List.count_pos_iff.2 (show false ∈ l.toList by rw [← hm]; simp)
      rw [if_pos (by decide), if_neg (by decide)]
      omega
    · have e : (fun j => (l.setIfInBounds i true).getD j false) = (fun j => j == i || l.getD j false) := by
        funext j
        by_cases hj : j = i
        · subst hj
          simp [hlt]
        · rw [getD_set_ne false (Ne.symm hj)]
          simp [hj]
      rw [e]
      exact h'
/-- does o wait for number j? -/
def depsB (md : Region.Mode) (o : Oper) (j : Nat) : Bool := o.after.toList.any fun e => Region.binds md e && e.on == j
theorem depsB_spec {o : Oper} {d : Nat → Bool} (h : ∀ e ∈ o.after, Region.binds md e = true → d e.on = true) : ∀ j, depsB md o j = true → d j = true := by
  intro j hj
  obtain ⟨e, he, hb⟩ := List.any_eq_true.1 hj
  simp only [Bool.and_eq_true, beq_iff_eq] at hb
  rw [← hb.2]
  exact h e (Array.mem_toList_iff.1 he) hb.1
def Steps (P : Program) (md : Region.Mode) (ops : Array Oper) (Q : Exit → Act → World → Prop) (I : (Nat → Bool) → Act → World → Prop) : Nat → List Oper → Prop
  | _, [] => True
  | k, o :: rest => (∀ (d : Nat → Bool) (a : Act) (w : World), I d a w → d k = false → (∀ j, depsB md o j = true → d j = true) → ∀ K : Act → World → Prop, (∀ a w, I (fun j => j == k || d j) a w → K a w) →
      if Region.wanted o (yielded ops a.tmps) = true then Oper.wp P o a w K Q else K (a.put o.dst undef) w) ∧ Steps P md ops Q I (k + 1) rest
theorem Steps.nil {I : (Nat → Bool) → Act → World → Prop} {k : Nat} : Steps P md ops Q I k [] := trivial
theorem Steps.cons {I : (Nat → Bool) → Act → World → Prop} {k : Nat} {o : Oper} {rest : List Oper}
    (h : ∀ (d : Nat → Bool) (a : Act) (w : World), I d a w → d k = false → (∀ j, depsB md o j = true → d j = true) → ∀ K : Act → World → Prop, (∀ a w, I (fun j => j == k || d j) a w → K a w) →
      if Region.wanted o (yielded ops a.tmps) = true then Oper.wp P o a w K Q else K (a.put o.dst undef) w) (hr : Steps P md ops Q I (k + 1) rest) : Steps P md ops Q I k (o :: rest) := ⟨h, hr⟩
theorem Steps.get {I : (Nat → Bool) → Act → World → Prop} : ∀ (l : List Oper) (k : Nat), Steps P md ops Q I k l → ∀ i o, l[i]? = some o → ∀ (d : Nat → Bool) (a : Act) (w : World), I d a w → d (k + i) = false → (∀ j, depsB md o j = true → d j = true) → ∀ K : Act → World → Prop, (∀ a w, I (fun j => j == (k + i) || d j) a w → K a w) →
      if Region.wanted o (yielded ops a.tmps) = true then Oper.wp P o a w K Q else K (a.put o.dst undef) w := by
  intro l
  induction l with
  | nil => intro k _ i o h; simp at h
  | cons x rest ih =>
    intro k hk i o h
    rcases i with _ | i
    · simp at h
      subst h
      exact hk.1
    · simp at h
      have := ih (k + 1) hk.2 i o h
      rw [show k + 1 + i = k + (i + 1) by omega] at this
      exact this
/-- A region that draws its order: an invariant of what has come up (d), of the frame and of the world. -/
theorem wp_region_inv {id : Nat} {l : List Oper} {a : Act} {w : World} (I : (Nat → Bool) → Act → World → Prop) (hm : P.follows .mixedOrders = true) (ho : ordB .any 0 l = true)
    (h0 : I (fun _ => false) a w.drew) (hs : Steps P .any l.toArray Q I 0 l)
    (hdone : ∀ (d : Nat → Bool) (a : Act) (w : World), I d a w → (∀ i, i < l.length → d i = true) → Q .normal a w) : (Code.region id l.toArray true).wp P Q a w := by
  refine wp_region_any hm ?_
  refine wpAny_inv I (fun i o h e he hb => ?_) (fun d a w hI i o h h1 h2 => ?_) (fun d a w hI h => hdone d a w hI (fun i hi => h i (by simpa using hi))) _ _ _ _ (by simp) ?_ ?_
  · have := ordB_spec l 0 ho i o (by simpa using h) e he hb
    omega
  · refine wpOp_step h (fun K hK => ?_)
    have := Steps.get l 0 hs i o (by simpa using h) d a w hI (by simpa using h1) ?_ K (fun a w hh => hK a w (by simpa using hh))
    · exact this
    · exact depsB_spec h2
  · simp
  · have e : (fun j => (Array.replicate l.toArray.size false).getD j false) = fun _ => false := by
      funext j
      rcases Nat.lt_or_ge j l.length with h | h
      · simp [h]
      · simp [h]
    rw [e]
    exact h0
end
end Go.Proofs.YtcpicgcdefnhaaaDoor
