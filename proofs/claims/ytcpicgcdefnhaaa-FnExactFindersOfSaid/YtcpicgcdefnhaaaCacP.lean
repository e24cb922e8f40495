/-
  DERIVED. The columns that are found once: plain laws of the store.
-/
import Derived.Test.YtcpicgcdefnhaaaCndC
import Derived.Test.YtcpicgcdefnhaaaSecI0
namespace Go.Proofs.Ytcpicgcdefnhaaa
open Go.RowKit
set_option linter.unusedVariables false
/-- A slice of sections that reads, in a block that p allows. -/
def SecOk (W : World) (p : Nat → Prop) (L : List S5) (h : Value) : Prop :=
  ∃ a cp, h = .slice a L.length cp ∧ RdV W a 5 L.length (secV L) ∧ ∀ b off, a = some ⟨b, off, none⟩ → 0 < L.length → p b
theorem RdV.at_blocks {W W' : World} {a : Option Addr} {m n : Nat} {vs : List Value} (h : RdV W a m n vs) (hs : W.heap.size ≤ W'.heap.size)
    (hk : ∀ b off, a = some ⟨b, off, none⟩ → 0 < n → b < W.heap.size → W'.heap[b]? = W.heap[b]?) : RdV W' a m n vs :=
  ⟨h.1, fun hn => by
    obtain ⟨b, off, e, hlt, hc⟩ := h.2 hn
    exact ⟨b, off, e, Nat.lt_of_lt_of_le hlt hs, fun i hi => (World.cell?_of_block (a := ⟨b, off + i, none⟩) (hk b off e hn hlt)).trans (hc i hi)⟩⟩
theorem SecOk.kept {W W' : World} {p q : Nat → Prop} {L : List S5} {h : Value} (H : SecOk W p L h) (hs : W.heap.size ≤ W'.heap.size) (hk : ∀ b, b < W.heap.size → p b → W'.heap[b]? = W.heap[b]? ∧ q b) : SecOk W' q L h := by
  obtain ⟨a, cp, e, hr, hp⟩ := H
  refine ⟨a, cp, e, hr.at_blocks hs (fun b off eb hn hlt => (hk b hlt (hp b off eb hn)).1), fun b off eb hn => ?_⟩
  exact (hk b (hr.lt b off eb hn) (hp b off eb hn)).2
def bools (ds : List Bool) : Array Value := (ds.map Value.bool).toArray
theorem bools_get (ds : List Bool) (i : Nat) (h : i < ds.length) : (bools ds)[i]? = some (.bool (ds.getD i false)) := by
  simp [bools, List.getElem?_eq_getElem h, List.getD_eq_getElem?_getD]
theorem bools_set (ds : List Bool) (k : Nat) (x : Bool) : (bools ds).setIfInBounds k (.bool x) = bools (ds.set k x) := by simp [bools, List.map_set]
/-- The store of the columns: which are found, and what was found. -/
structure Cache (W : World) (p : Nat → Prop) (db fb dr fr C : Nat) (F : Nat → List S5) : Prop where
  d : Blk W db 61 #[.slice (some ⟨dr, 0, none⟩) C C]
  f : Blk W fb 62 #[.slice (some ⟨fr, 0, none⟩) C C]
  ne : db ≠ dr ∧ db ≠ fr ∧ fb ≠ dr ∧ fb ≠ fr ∧ dr ≠ fr
  rows : ∃ (ds : List Bool) (hs : List Value), ds.length = C ∧ hs.length = C ∧ Blk W dr 4 (bools ds) ∧ Blk W fr 56 hs.toArray ∧ ∀ c, c < C → ds.getD c false = true → ∃ h, hs[c]? = some h ∧ SecOk W p (F c) h
theorem Cache.kept {W W' : World} {p q : Nat → Prop} {db fb dr fr C : Nat} {F : Nat → List S5} (H : Cache W p db fb dr fr C F) (hs : W.heap.size ≤ W'.heap.size)
    (h1 : W'.heap[db]? = W.heap[db]?) (h2 : W'.heap[fb]? = W.heap[fb]?) (h3 : W'.heap[dr]? = W.heap[dr]?) (h4 : W'.heap[fr]? = W.heap[fr]?) (hk : ∀ b, b < W.heap.size → p b → W'.heap[b]? = W.heap[b]? ∧ q b) : Cache W' q db fb dr fr C F := by
  obtain ⟨hd, hf, hne, ds, hs', e1, e2, e3, e4, e5⟩ := H
  refine ⟨h1.trans hd, h2.trans hf, hne, ds, hs', e1, e2, h3.trans e3, h4.trans e4, fun c hc hdc => ?_⟩
  obtain ⟨h, eh, ok⟩ := e5 c hc hdc
  exact ⟨h, eh, ok.kept hs hk⟩
theorem Cache.lt {W : World} {p : Nat → Prop} {db fb dr fr C : Nat} {F : Nat → List S5} (H : Cache W p db fb dr fr C F) : db < W.heap.size ∧ fb < W.heap.size ∧ dr < W.heap.size ∧ fr < W.heap.size := by
  obtain ⟨hd, hf, hne, ds, hs', e1, e2, e3, e4, e5⟩ := H
  exact ⟨hd.lt, hf.lt, e3.lt, e4.lt⟩
theorem Cache.below {W W' : World} {p : Nat → Prop} {db fb dr fr C : Nat} {F : Nat → List S5} (H : Cache W p db fb dr fr C F) (hb : Below W.heap.size W W') : Cache W' p db fb dr fr C F := by
  obtain ⟨l1, l2, l3, l4⟩ := H.lt
  exact H.kept hb.size (hb.block _ l1) (hb.block _ l2) (hb.block _ l3) (hb.block _ l4) (fun b hlt hp => ⟨hb.block b hlt, hp⟩)
/-- Of what there was, only the blocks dr and fr may have turned. -/
def Kp2 (dr fr : Nat) (W W' : World) : Prop := W'.os = W.os ∧ W'.tape = W.tape ∧ W'.output = W.output ∧ W.heap.size ≤ W'.heap.size ∧ ∀ b, b < W.heap.size → b ≠ dr → b ≠ fr → W'.heap[b]? = W.heap[b]?
theorem Kp2.of_below {dr fr : Nat} {W W' : World} (h : Below W.heap.size W W') : Kp2 dr fr W W' := ⟨h.os, h.tape, h.output, h.size, fun b hb _ _ => h.block b hb⟩
theorem Kp2.trans {dr fr : Nat} {W V U : World} (h : Kp2 dr fr W V) (k : Kp2 dr fr V U) : Kp2 dr fr W U :=
  ⟨k.1.trans h.1, k.2.1.trans h.2.1, k.2.2.1.trans h.2.2.1, Nat.le_trans h.2.2.2.1 k.2.2.2.1, fun b hb h1 h2 => (k.2.2.2.2 b (Nat.lt_of_lt_of_le hb h.2.2.2.1) h1 h2).trans (h.2.2.2.2 b hb h1 h2)⟩
theorem Kp2.below {dr fr B : Nat} {w W W' : World} (h : Kp2 dr fr W W') (hb : Below B w W) (h1 : B ≤ dr) (h2 : B ≤ fr) (hB : B ≤ W.heap.size) : Below B w W' :=
  hb.trans ⟨h.1, h.2.1, h.2.2.1, h.2.2.2.1, fun b hlt => h.2.2.2.2 b (by omega) (by omega) (by omega)⟩
theorem Kp2.own {dr fr : Nat} {W W' : World} {base n m : Nat} {t : TypeId} {v : Value} {xs : List Value} (hk : Kp2 dr fr W W') (h : W.ownsRow base t m v n xs) (h1 : dr < base) (h2 : fr < base) : W'.ownsRow base t m v n xs := by
  refine ⟨h.1, ?_⟩
  rcases h.2 with hv | ⟨g, cap, cur, hv, hg, hh, r⟩
  · exact .inl hv
  · have hlt := (h.lt g (by rw [hv]; rfl)).2
    exact .inr ⟨g, cap, cur, hv, hg, by rw [hk.2.2.2.2 g hlt (by omega) (by omega)]; exact hh, r⟩
theorem Kp2.stand {dr fr lo hi : Nat} {w1 W W' : World} {v : Value} (hk : Kp2 dr fr W W') (h : Stand w1 W lo hi v) (h1 : dr < lo) (h2 : fr < lo) : Stand w1 W' lo hi v :=
  ⟨Nat.le_trans h.1 hk.2.2.2.1, fun b e1 e2 => (hk.2.2.2.2 b (by have := h.1; omega) (by omega) (by omega)).trans (h.2.1 b e1 e2), h.2.2⟩
theorem Kp2.blk {dr fr g : Nat} {W W' : World} {t : TypeId} {cs : Array Value} (hk : Kp2 dr fr W W') (h : Blk W g t cs) (h1 : g ≠ dr) (h2 : g ≠ fr) : Blk W' g t cs := (hk.2.2.2.2 g h.lt h1 h2).trans h
/-- One more column is found. -/
theorem Cache.put {W W1 W3 : World} {p : Nat → Prop} {db fb dr fr C c : Nat} {F : Nat → List S5} {h : Value} (H : Cache W p db fb dr fr C F) (hpd : ∀ b, p b → b ≠ dr ∧ b ≠ fr)
    (hb1 : Below W.heap.size W W1) (hb3 : Below W1.heap.size (W1.setCell ⟨dr, c, none⟩ (.bool true)) W3) (ok : SecOk W3 p (F c) h) : Cache (W3.setCell ⟨fr, c, none⟩ h) p db fb dr fr C F ∧ Kp2 dr fr W (W3.setCell ⟨fr, c, none⟩ h) := by
  obtain ⟨l1, l2, l3, l4⟩ := H.lt
  have hs1 := hb1.size
  have hs3 := hb3.size
  have hs2 : (W1.setCell ⟨dr, c, none⟩ (.bool true)).heap.size = W1.heap.size := by simp [World.setCell]
  have hs4 : (W3.setCell ⟨fr, c, none⟩ h).heap.size = W3.heap.size := by simp [World.setCell]
  have far : ∀ b, b < W.heap.size → b ≠ dr → b ≠ fr → (W3.setCell ⟨fr, c, none⟩ h).heap[b]? = W.heap[b]? := fun b hb e1 e2 =>
    (Below.heap_setCell W3 ⟨fr, c, none⟩ h b e2).trans ((hb3.block b (by omega)).trans ((Below.heap_setCell W1 ⟨dr, c, none⟩ _ b e1).trans (hb1.block b hb)))
  obtain ⟨hd, hf, ⟨n1, n2, n3, n4, n5⟩, ds, hs', e1, e2, e3, e4, e5⟩ := H
  refine ⟨⟨(far db l1 n1 n2).trans hd, (far fb l2 n3 n4).trans hf, ⟨n1, n2, n3, n4, n5⟩, ds.set c true, hs'.set c h, by simp [e1], by simp [e2], ?_, ?_, fun c' hc' hdc => ?_⟩, ⟨hb3.os.trans hb1.os, hb3.tape.trans hb1.tape, hb3.output.trans hb1.output, by omega, far⟩⟩
  · have a1 := (e3.keep hb1).set_ c (.bool true)
    rw [bools_set] at a1
    exact (Blk.below a1 hb3 (by omega)).far (by show dr ≠ fr; exact n5) h
  · have a1 := ((e4.keep hb1).far (p := ⟨dr, c, none⟩) (by show fr ≠ dr; exact n5.symm) (.bool true))
    have a2 := (Blk.below a1 hb3 (by omega)).set_ c h
    simp only [List.setIfInBounds_toArray] at a2
    exact a2
  · by_cases hcc : c' = c
    · subst hcc
      refine ⟨h, by simp [e2, hc'], ok.kept (by omega) (fun b hb hp => ⟨Below.heap_setCell W3 ⟨fr, c', none⟩ h b (hpd b hp).2, hp⟩)⟩
    · have hdc2 : ds.getD c' false = true := by
        simp only [List.getD_eq_getElem?_getD, List.getElem?_set] at hdc ⊢
        rw [if_neg (fun e => hcc e.symm)] at hdc
        exact hdc
      obtain ⟨h', eh, ok'⟩ := e5 c' hc' hdc2
      refine ⟨h', by rw [List.getElem?_set, if_neg (fun e => hcc e.symm)]; exact eh, ok'.kept (by omega) (fun b hb hp => ⟨far b hb (hpd b hp).1 (hpd b hp).2, hp⟩)⟩
/-- What is asked for a column: its sections. -/
def colS (gs : List Int) (C R : Nat) (c : Nat) : List S5 := secL (runF (colL gs C R c) R) (runF (colL gs C R c) R).length
def ColGot (W : World) (p : Nat → Prop) (db fb dr fr C R : Nat) (gs : List Int) (c : Nat) (e : Ending) (w' : World) : Prop :=
  ∃ a cp, e = .returned (.slice a (colS gs C R c).length cp) ∧ SecOk w' p (colS gs C R c) (.slice a (colS gs C R c).length cp) ∧ Cache w' p db fb dr fr C (colS gs C R) ∧ Kp2 dr fr W w'
theorem infoBool : (Try.prog.info? 4).map (fun i => (i.zero, i.size, i.bytes)) = some (some (.bool false), 1, 1) := by kernel_rfl
theorem infoSecRow : (Try.prog.info? 56).map (fun i => (i.zero, i.size, i.bytes)) = some (some (.slice none 0 0), 1, 24) := by kernel_rfl
theorem bools_made (n : Nat) : madeCells #[Value.bool false] (n * 1) = bools (List.replicate n false) := by
  apply Array.ext
  · simp [madeCells, bools]
  · intro i h1 h2
    simp [madeCells, bools, Nat.mod_one]
theorem hdrs_made (n : Nat) : madeCells #[Value.slice none 0 0] (n * 1) = (List.replicate n (Value.slice none 0 0)).toArray := by
  apply Array.ext
  · simp [madeCells]
  · intro i h1 h2
    simp [madeCells, Nat.mod_one]
end Go.Proofs.Ytcpicgcdefnhaaa
