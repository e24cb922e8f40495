/-
  DERIVED. Grid, Res, ResI.
-/
import Derived.Test.YtdpifddmhbeklaaRast
import Derived.Test.YtdpifddmhbeklaaBin
import Derived.Test.YtdpifddmhbeklaaBas
import Derived.Conc.MuLone
namespace Go.Proofs.Ytdpifddmhbeklaa
open Go.RowKit
set_option linter.unusedVariables false
set_option maxHeartbeats 400000 in
theorem szGrd (r c : Int) (a : Option Addr) (n cp : Nat) (w : World) (h3 : n ≤ maxLen) :
    Calls Try.prog 35 #[.agg #[.int .i64 r, .int .i64 c, .slice a n cp], .int .i64 1048576] w fun e w' => e = .returned (.int .i64 (szV 1048576 n)) ∧ Below w.heap.size w w' := by
  rcases Int.lt_or_le (1048576 : Int) n with h | h
  · have H := szV_no h
    go_enter Try.func35, Try.ntmps35
    go_wp2_with (go_at_call 77; refine (szInts _ _ _ _ _ (by omega) (by omega) h3).mono ?_; rintro e w' ⟨rfl, rfl⟩)
    go_returns
    exact ⟨by simp [H], by repeat' (first | (with_reducible exact Below.refl _ _) | (with_reducible assumption) | (with_reducible refine Below.alloc ?_ ?_ _) | (with_reducible refine Below.setCell ?_ ?_ _) | (with_reducible refine Below.drew ?_) | (with_reducible refine below_drewN ?_ _) | (with_reducible refine below_via (by with_reducible assumption) ?_ ?_) | go_size)⟩
  · have H := szV_yes h
    have hu : n ≤ 1048576 := by omega
    go_enter Try.func35, Try.ntmps35
    go_wp2_with (go_at_call 77; refine (szInts _ _ _ _ _ (by omega) (by omega) h3).mono ?_; rintro e w' ⟨rfl, rfl⟩)
    go_returns
    exact ⟨by simp [H], by repeat' (first | (with_reducible exact Below.refl _ _) | (with_reducible assumption) | (with_reducible refine Below.alloc ?_ ?_ _) | (with_reducible refine Below.setCell ?_ ?_ _) | (with_reducible refine Below.drew ?_) | (with_reducible refine below_drewN ?_ _) | (with_reducible refine below_via (by with_reducible assumption) ?_ ?_) | go_size)⟩
set_option maxHeartbeats 1000000 in
theorem toGrd (r c : Int) (a : Option Addr) (n cp : Nat) (zs : List Int) (w : World) (h : Rd w a n zs) (hn : n ≤ 1048576) :
    Calls Try.prog 38 #[.agg #[.int .i64 r, .int .i64 c, .slice a n cp]] w (NewRast w r c n zs) := by
  have HH := Lib.hid h
  clear h
  go_enter Try.func38, Try.ntmps38
  go_wp2_with fail
  refine (toInts a n cp zs _ (HH.out.below (by repeat' (first | (with_reducible exact Below.refl _ _) | (with_reducible assumption) | (with_reducible refine Below.alloc ?_ ?_ _) | (with_reducible refine Below.setCell ?_ ?_ _) | (with_reducible refine Below.drew ?_) | (with_reducible refine below_drewN ?_ _) | (with_reducible refine below_via (by with_reducible assumption) ?_ ?_) | go_size))) hn).mono ?_
  rintro e w1 ⟨g, rfl, hg, hblk, hb⟩
  obtain ⟨hc, hf⟩ := bcell hb
  have hz := hb.size
  simp at hz hg
  have hz0 : w.heap.size < w1.heap.size := by omega
  have hz1 : w.heap.size + 1 < w1.heap.size := by omega
  have hz2 : w.heap.size + 1 + 1 < w1.heap.size := by omega
  have c10 : w1.cell? ⟨w.heap.size + 1, 0, none⟩ = some (.int .i64 0) := by rw [hc (w.heap.size + 1) 0 (by simp; try omega)]; simp [go_sem]
  have c11 : w1.cell? ⟨w.heap.size + 1, 1, none⟩ = some (.int .i64 0) := by rw [hc (w.heap.size + 1) 1 (by simp; try omega)]; simp [go_sem]
  have c12 : w1.cell? ⟨w.heap.size + 1, 2, none⟩ = some (.slice none 0 0) := by rw [hc (w.heap.size + 1) 2 (by simp; try omega)]; simp [go_sem]
  go_wp2
  refine bodyPost_ret (v := .agg #[.int .i64 r, .int .i64 c, .slice (some ⟨g, 0, none⟩) n n]) (by simp [results, Try.results38, go_sem, c10, c11, c12]) rfl ?_
  refine ⟨g, rfl, by omega, ?_, by repeat' (first | (with_reducible exact Below.refl _ _) | (with_reducible assumption) | (with_reducible refine Below.alloc ?_ ?_ _) | (with_reducible refine Below.setCell ?_ ?_ _) | (with_reducible refine Below.drew ?_) | (with_reducible refine below_drewN ?_ _) | (with_reducible refine below_via (by with_reducible assumption) ?_ ?_) | go_size)⟩
  exact (((hblk.far (by simp; omega) _).far (by simp; omega) _).far (by simp; omega) _).far (by simp; omega) _
set_option maxHeartbeats 1000000 in
theorem eqGrd (r c r' c' : Int) (a a' : Option Addr) (n n' cp cp' : Nat) (xs ys : List Int) (w : World) (h : Rd w a n xs) (h' : Rd w a' n' ys) (hn : n ≤ 1048576) (hn' : n' ≤ 1048576) :
    Calls Try.prog 41 #[.agg #[.int .i64 r, .int .i64 c, .slice a n cp], .agg #[.int .i64 r', .int .i64 c', .slice a' n' cp']] w fun e w' => e = .returned (.bool (eqR r c xs r' c' ys)) ∧ Below w.heap.size w w' := by
  have HH := Lib.hid h
  have HH' := Lib.hid h'
  clear h h'
  by_cases hr : r = r'
  · subst hr
    by_cases hc : c = c'
    · subst hc
      cases he : eqL xs ys
      all_goals
        go_enter Try.func41, Try.ntmps41
        go_wp2_with fail
        refine (eqInts a a' n n' cp cp' xs ys _ (HH.out.below (by repeat' (first | (with_reducible exact Below.refl _ _) | (with_reducible assumption) | (with_reducible refine Below.alloc ?_ ?_ _) | (with_reducible refine Below.setCell ?_ ?_ _) | (with_reducible refine Below.drew ?_) | (with_reducible refine below_drewN ?_ _) | (with_reducible refine below_via (by with_reducible assumption) ?_ ?_) | go_size))) (HH'.out.below (by repeat' (first | (with_reducible exact Below.refl _ _) | (with_reducible assumption) | (with_reducible refine Below.alloc ?_ ?_ _) | (with_reducible refine Below.setCell ?_ ?_ _) | (with_reducible refine Below.drew ?_) | (with_reducible refine below_drewN ?_ _) | (with_reducible refine below_via (by with_reducible assumption) ?_ ?_) | go_size))) hn hn').mono ?_
        rintro e w1 ⟨rfl, hb⟩
        have hz := hb.size
        simp at hz
        go_wp2
        go_returns
        exact ⟨ret_bool (by simp [eqR, he]), by repeat' (first | (with_reducible exact Below.refl _ _) | (with_reducible assumption) | (with_reducible refine Below.alloc ?_ ?_ _) | (with_reducible refine Below.setCell ?_ ?_ _) | (with_reducible refine Below.drew ?_) | (with_reducible refine below_drewN ?_ _) | (with_reducible refine below_via (by with_reducible assumption) ?_ ?_) | go_size)⟩
    · have h2 : (c != c') = true := by simpa using hc
      go_enter Try.func41, Try.ntmps41
      go_wp2
      go_returns
      exact ⟨ret_bool (by simp [eqR, hc]), by repeat' (first | (with_reducible exact Below.refl _ _) | (with_reducible assumption) | (with_reducible refine Below.alloc ?_ ?_ _) | (with_reducible refine Below.setCell ?_ ?_ _) | (with_reducible refine Below.drew ?_) | (with_reducible refine below_drewN ?_ _) | (with_reducible refine below_via (by with_reducible assumption) ?_ ?_) | go_size)⟩
  · have h2 : (r != r') = true := by simpa using hr
    go_enter Try.func41, Try.ntmps41
    go_wp2
    go_returns
    exact ⟨ret_bool (by simp [eqR, hr]), by repeat' (first | (with_reducible exact Below.refl _ _) | (with_reducible assumption) | (with_reducible refine Below.alloc ?_ ?_ _) | (with_reducible refine Below.setCell ?_ ?_ _) | (with_reducible refine Below.drew ?_) | (with_reducible refine below_drewN ?_ _) | (with_reducible refine below_via (by with_reducible assumption) ?_ ?_) | go_size)⟩
set_option maxHeartbeats 1000000 in
theorem markGrd (r c : Int) (a : Option Addr) (n cp base : Nat) (xs : List Int) (w : World) (h : w.ownsRow base 2 1 (.slice a n cp) n (xs.map (Value.int .i64))) (hn : n ≤ 1048576) :
    Calls Try.prog 45 #[.agg #[.int .i64 r, .int .i64 c, .slice a n cp], .int .i64 1] w fun e w' =>
      e = .returned (.int .i64 (1 + n)) ∧ w'.ownsRow base 2 1 (.slice a n cp) n ((markL 1 n).map (Value.int .i64)) ∧ w.grownBy w' (Value.slice a n cp).ownBlock := by
  have HH := Lib.hid h
  clear h
  go_enter Try.func45, Try.ntmps45
  go_wp2_with fail
  refine (markInts a n cp base xs 1 _ (HH.out.alloc _) hn (by omega) (by omega)).mono ?_
  rintro e w1 ⟨rfl, ho, hg⟩
  go_wp2
  go_returns
  exact ⟨rfl, ho, (only_of_below ((Below.refl _ _).alloc (Nat.le_refl _) _) _).trans hg⟩
set_option maxHeartbeats 1000000 in
theorem heldGrd (r c : Int) (a : Option Addr) (n cp : Nat) (w : World) (h : Rd w a n (markL 1 n)) (hn : n ≤ 1048576) :
    Calls Try.prog 46 #[.agg #[.int .i64 r, .int .i64 c, .slice a n cp], .int .i64 1] w fun e w' => e = .returned (.int .i64 (1 + n)) ∧ Below w.heap.size w w' := by
  have HH := Lib.hid h
  clear h
  go_enter Try.func46, Try.ntmps46
  go_wp2_with fail
  refine (heldInts a n cp 1 _ (HH.out.below (by repeat' (first | (with_reducible exact Below.refl _ _) | (with_reducible assumption) | (with_reducible refine Below.alloc ?_ ?_ _) | (with_reducible refine Below.setCell ?_ ?_ _) | (with_reducible refine Below.drew ?_) | (with_reducible refine below_drewN ?_ _) | (with_reducible refine below_via (by with_reducible assumption) ?_ ?_) | go_size))) hn (by omega) (by omega)).mono ?_
  rintro e w1 ⟨rfl, hb⟩
  have hz := hb.size
  simp at hz
  go_wp2
  go_returns
  exact ⟨rfl, by repeat' (first | (with_reducible exact Below.refl _ _) | (with_reducible assumption) | (with_reducible refine Below.alloc ?_ ?_ _) | (with_reducible refine Below.setCell ?_ ?_ _) | (with_reducible refine Below.drew ?_) | (with_reducible refine below_drewN ?_ _) | (with_reducible refine below_via (by with_reducible assumption) ?_ ?_) | go_size)⟩
theorem eqGrdS (r c : Int) (a a' : Option Addr) (n n' cp cp' : Nat) (xs : List Int) (w : World) (h : Rd w a n xs) (h' : Rd w a' n' xs) (hn : n ≤ 1048576) (hn' : n' ≤ 1048576) :
    Calls Try.prog 41 #[.agg #[.int .i64 r, .int .i64 c, .slice a n cp], .agg #[.int .i64 r, .int .i64 c, .slice a' n' cp']] w fun e w' => e = .returned (.bool true) ∧ Below w.heap.size w w' :=
  (eqGrd r c r c a a' n n' cp cp' xs xs w h h' hn hn').mono fun _ _ ⟨h1, h2⟩ => ⟨by rw [h1, eqR_same], h2⟩
end Go.Proofs.Ytdpifddmhbeklaa
namespace Go.Proofs.Ytdpifddmhbeklaa
open Go.RowKit
set_option linter.unusedVariables false
def ResG (w : World) (R C : Int) (L : List Int) (code : Int) (e : Ending) (w' : World) : Prop :=
  ∃ a cp, e = .returned (.tuple #[.agg #[.int .i64 R, .int .i64 C, .slice a L.length cp], .int .i64 code]) ∧ w'.ownsRow w.heap.size 2 1 (.slice a L.length cp) L.length (L.map (Value.int .i64)) ∧ Below w.heap.size w w' ∧ L.length ≤ 1048576
theorem own_apart {w : World} {base n : Nat} {t : TypeId} {v : Value} {xs : List Value} (h : w.ownsRow base t 1 v n xs) {row : Option Nat} (hr : ∀ k, row = some k → k < base ∨ w.heap.size ≤ k) : v.ownBlock = none ∨ v.ownBlock ≠ row := by
  cases hv : v.ownBlock with
  | none => exact .inl rfl
  | some j =>
    right
    intro e
    have h1 := h.lt j hv
    have h2 := hr j e.symm
    omega
theorem Box3.grown {w w' : World} {b : Nat} {x y z : Value} {row : Option Nat} (h : Box3 w b x y z) (hg : w.grownBy w' row) (hne : ∀ k, row = some k → k ≠ b) : Box3 w' b x y z := by
  have hb : w'.heap[b]? = w.heap[b]? := hg.block b h.1 (fun e => hne b e.symm rfl)
  exact ⟨Nat.lt_of_lt_of_le h.1 hg.size, (World.cell?_of_block (a := ⟨b, 0, none⟩) hb).trans h.2.1, (World.cell?_of_block (a := ⟨b, 1, none⟩) hb).trans h.2.2.1, (World.cell?_of_block (a := ⟨b, 2, none⟩) hb).trans h.2.2.2⟩
theorem Rd.grown {w w' : World} {a : Option Addr} {n B : Nat} {zs : List Int} {row : Option Nat} (h : Rd w a n zs) (hb : ∀ b off, a = some ⟨b, off, none⟩ → 0 < n → b < B) (hg : w.grownBy w' row) (hne : ∀ k, row = some k → B ≤ k) : Rd w' a n zs :=
  ⟨h.1, fun hn => by
    obtain ⟨b, off, e, hlt, hc⟩ := h.2 hn
    have h1 := hb b off e hn
    exact ⟨b, off, e, Nat.lt_of_lt_of_le hlt hg.size, fun i hi => (World.cell?_of_block (a := ⟨b, off + i, none⟩) (hg.block b hlt (fun e' => by have := hne b e'.symm; omega))).trans (hc i hi)⟩⟩
theorem Rd.lt {w : World} {a : Option Addr} {n : Nat} {zs : List Int} (h : Rd w a n zs) : ∀ b off, a = some ⟨b, off, none⟩ → 0 < n → b < w.heap.size := by
  intro b off e hn
  obtain ⟨b', off', e', hlt, _⟩ := h.2 hn
  rw [e] at e'
  injection e' with e'
  injection e' with e1
  omega
theorem own_block {w : World} {base n cp : Nat} {t : TypeId} {a : Option Addr} {xs : List Value} (h : w.ownsRow base t 1 (.slice a n cp) n xs) : ∀ k, (Value.slice a n cp).ownBlock = some k → base ≤ k ∧ k < w.heap.size := fun k e => h.lt k e
theorem grown_below {w w' : World} {B : Nat} {row : Option Nat} (hg : w.grownBy w' row) (hne : ∀ k, row = some k → B ≤ k) (hB : B ≤ w.heap.size) : Below B w w' := (Below.refl B w).grown hg hB hne
/-- A result's own cell of three: it can be written. -/
def Out3 (w : World) (b : Nat) : Prop := b < w.heap.size ∧ w.cell? ⟨b, 0, none⟩ = some (.int .i64 0) ∧ w.cell? ⟨b, 1, none⟩ = some (.int .i64 0) ∧ w.cell? ⟨b, 2, none⟩ = some (.slice none 0 0) ∧ w.frozen? ⟨b, 0, none⟩ = false ∧ w.frozen? ⟨b, 1, none⟩ = false ∧ w.frozen? ⟨b, 2, none⟩ = false
theorem Out3.keep {w w' : World} {b : Nat} (h : Out3 w b) (hb : Below w.heap.size w w') : Out3 w' b :=
  ⟨Nat.lt_of_lt_of_le h.1 hb.size, (hb.cell (p := ⟨b, 0, none⟩) h.1).trans h.2.1, (hb.cell (p := ⟨b, 1, none⟩) h.1).trans h.2.2.1, (hb.cell (p := ⟨b, 2, none⟩) h.1).trans h.2.2.2.1, (hb.frozen (p := ⟨b, 0, none⟩) h.1).trans h.2.2.2.2.1, (hb.frozen (p := ⟨b, 1, none⟩) h.1).trans h.2.2.2.2.2.1, (hb.frozen (p := ⟨b, 2, none⟩) h.1).trans h.2.2.2.2.2.2⟩
theorem Out3.new (w : World) (t : TypeId) : Out3 (w.alloc (.cells #[.int .i64 0, .int .i64 0, .slice none 0 0] t)) w.heap.size := ⟨by simp, by simp, by simp, by simp, by simp [go_sem], by simp [go_sem], by simp [go_sem]⟩
end Go.Proofs.Ytdpifddmhbeklaa
namespace Go.Proofs.Ytdpifddmhbeklaa
open Go.RowKit
set_option linter.unusedVariables false
/-- A slice of numbers of the call's own, and a code. -/
def ResI (w : World) (L : List Int) (code : Int) (e : Ending) (w' : World) : Prop :=
  ∃ a cp, e = .returned (.tuple #[.slice a L.length cp, .int .i64 code]) ∧ w'.ownsRow w.heap.size 2 1 (.slice a L.length cp) L.length (L.map (Value.int .i64)) ∧ Below w.heap.size w w' ∧ L.length ≤ 1048576
theorem eqIntsT (a a' : Option Addr) (n n' c c' : Nat) (xs : List Int) (w : World) (h : Rd w a n xs) (h' : Rd w a' n' xs) (hn : n ≤ 1048576) (hn' : n' ≤ 1048576) :
    Calls Try.prog 24 #[.slice a n c, .slice a' n' c'] w fun e w' => e = .returned (.bool true) ∧ Below w.heap.size w w' :=
  (eqInts a a' n n' c c' xs xs w h h' hn hn').mono fun _ _ ⟨h1, h2⟩ => ⟨by rw [h1]; simp [eqL], h2⟩
end Go.Proofs.Ytdpifddmhbeklaa
