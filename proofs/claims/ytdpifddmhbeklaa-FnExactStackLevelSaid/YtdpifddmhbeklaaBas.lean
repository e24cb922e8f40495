/-
  DERIVED. Num, Size, Ints, RowV, Ints2, Mark, OwnN, SRow.
-/
import Derived.Test.YtdpifddmhbeklaaKit
import Derived.Deep.Slices
import Derived.Deep.Fields
import Derived.ChangeSame
import Derived.Deep.AppendLies
namespace Go.Proofs.Ytdpifddmhbeklaa
open Go.RowKit
set_option linter.unusedVariables false

/-- low ≤ n ≤ high, as a test. -/
def inB (n lo hi : Int) : Bool := decide (lo ≤ n) && decide (n ≤ hi)
theorem inB_iff {n lo hi : Int} : inB n lo hi = true ↔ lo ≤ n ∧ n ≤ hi := by simp [inB]
theorem inB_no {n lo hi : Int} (h : inB n lo hi = false) : n < lo ∨ hi < n := by
  simp [inB] at h; omega
theorem inB_yes {n lo hi : Int} (h1 : lo ≤ n) (h2 : n ≤ hi) : inB n lo hi = true := inB_iff.2 ⟨h1, h2⟩

theorem inB_and {n lo hi : Int} (h : lo ≤ n) : decide (n ≤ hi) = inB n lo hi := by simp [inB, h]
theorem inB_lo {n lo hi : Int} (h : ¬ lo ≤ n) : false = inB n lo hi := by simp [inB, h]
theorem inCases (n lo hi : Int) : inB n lo hi = false ∨ (inB n lo hi = true ∧ lo ≤ n ∧ n ≤ hi) := by
  cases h : inB n lo hi
  · exact .inl rfl
  · exact .inr ⟨rfl, inB_iff.1 h⟩
def selI (b : Bool) (x y : Int) : Int := if b then x else y
theorem selI_true (x y : Int) : selI true x y = x := rfl
theorem selI_false (x y : Int) : selI false x y = y := rfl
theorem and2 (a b : Bool) : a = false ∨ (a = true ∧ b = false) ∨ (a = true ∧ b = true) := by cases a <;> cases b <;> simp
theorem and3 (a b c : Bool) : a = false ∨ (a = true ∧ b = false) ∨ (a = true ∧ b = true ∧ c = false) ∨ (a = true ∧ b = true ∧ c = true) := by cases a <;> cases b <;> cases c <;> simp
theorem and4 (a b c d : Bool) : a = false ∨ (a = true ∧ b = false) ∨ (a = true ∧ b = true ∧ c = false) ∨ (a = true ∧ b = true ∧ c = true ∧ d = false) ∨ (a = true ∧ b = true ∧ c = true ∧ d = true) := by cases a <;> cases b <;> cases c <;> cases d <;> simp
theorem ret_ints2 {a b c d : Int} (h : a = c) (k : b = d) : Ending.returned (.tuple #[.int .i64 a, .int .i64 b]) = .returned (.tuple #[.int .i64 c, .int .i64 d]) := by rw [h, k]
theorem ret_ints3 {a b c d e f : Int} (h : a = d) (k : b = e) (l : c = f) : Ending.returned (.tuple #[.int .i64 a, .int .i64 b, .int .i64 c]) = .returned (.tuple #[.int .i64 d, .int .i64 e, .int .i64 f]) := by rw [h, k, l]
theorem results_tmp4 {fn : Func} {t u v x : Tmp} (h : fn.results = #[.tmp t, .tmp u, .tmp v, .tmp x]) (tmps : Array Value) (P : Program) (w : World) :
    (results fn tmps).run P w = .ok (.tuple #[tmps.getD t undef, tmps.getD u undef, tmps.getD v undef, tmps.getD x undef]) w := by simp [results, h]
theorem results_tmp5 {fn : Func} {t u v x y : Tmp} (h : fn.results = #[.tmp t, .tmp u, .tmp v, .tmp x, .tmp y]) (tmps : Array Value) (P : Program) (w : World) :
    (results fn tmps).run P w = .ok (.tuple #[tmps.getD t undef, tmps.getD u undef, tmps.getD v undef, tmps.getD x undef, tmps.getD y undef]) w := by simp [results, h]
set_option maxHeartbeats 400000 in
theorem sIn (n lo hi : Int) (w : World) : Calls Try.prog 55 #[.int .i64 n, .int .i64 lo, .int .i64 hi] w fun e w' => e = .returned (.bool (inB n lo hi)) ∧ w = w' := by
  by_cases h : lo ≤ n
  · have H := Lib.hid (inB_and (hi := hi) h)
    go_enter Try.func55, Try.ntmps55
    go_wp2
    go_ret
    exact ⟨ret_bool H.out, rfl⟩
  · have H := Lib.hid (inB_lo (hi := hi) h)
    go_enter Try.func55, Try.ntmps55
    go_wp2
    go_ret
    exact ⟨ret_bool H.out, rfl⟩
set_option maxHeartbeats 400000 in
theorem iIn (n lo hi : Int) (w : World) : Calls Try.prog 59 #[.int .i64 n, .int .i64 lo, .int .i64 hi] w fun e w' => e = .returned (.bool (inB n lo hi)) ∧ w = w' := by
  by_cases h : lo ≤ n
  · have H := Lib.hid (inB_and (hi := hi) h)
    go_enter Try.func59, Try.ntmps59
    go_wp2
    go_ret
    exact ⟨ret_bool H.out, rfl⟩
  · have H := Lib.hid (inB_lo (hi := hi) h)
    go_enter Try.func59, Try.ntmps59
    go_wp2
    go_ret
    exact ⟨ret_bool H.out, rfl⟩
end Go.Proofs.Ytdpifddmhbeklaa
namespace Go.Proofs.Ytdpifddmhbeklaa
open Go.RowKit
set_option linter.unusedVariables false

def sizeB (r c : Int) : Bool := inB r 1 400 && (inB c 1 400 && decide (r * c ≤ 40000))
theorem prod_le {r c R C : Int} (h1 : 0 ≤ r) (h2 : r ≤ R) (h3 : 0 ≤ c) (h4 : c ≤ C) : 0 ≤ r * c ∧ r * c ≤ R * C := by
  refine ⟨Int.mul_nonneg h1 h3, ?_⟩
  exact Int.le_trans (Int.mul_le_mul_of_nonneg_right h2 h3) (Int.mul_le_mul_of_nonneg_left h4 (by omega))
theorem size_cases (r c : Int) : inB r 1 400 = false ∨ (inB r 1 400 = true ∧ inB c 1 400 = false) ∨ (inB r 1 400 = true ∧ inB c 1 400 = true ∧ 0 ≤ r * c ∧ r * c ≤ 160000) := by
  rcases inCases r 1 400 with h | ⟨h, a, b⟩
  · exact .inl h
  · rcases inCases c 1 400 with k | ⟨k, a', b'⟩
    · exact .inr (.inl ⟨h, k⟩)
    · have := prod_le (by omega) b (by omega) b'
      exact .inr (.inr ⟨h, k, this.1, by omega⟩)
theorem sizeB_yes {r c : Int} (h : sizeB r c = true) : 1 ≤ r ∧ r ≤ 400 ∧ 1 ≤ c ∧ c ≤ 400 ∧ 1 ≤ r * c ∧ r * c ≤ 40000 := by
  simp [sizeB, inB] at h
  obtain ⟨⟨a, b⟩, ⟨c', d⟩, e⟩ := h
  have := Int.mul_pos (show 0 < r by omega) (show 0 < c by omega)
  exact ⟨a, b, c', d, by omega, e⟩
end Go.Proofs.Ytdpifddmhbeklaa
namespace Go.Proofs.Ytdpifddmhbeklaa
open Go.RowKit
set_option linter.unusedVariables false

/-! ### 1. A slice that reads as a list of numbers -/
def Rd (w : World) (a : Option Addr) (n : Nat) (zs : List Int) : Prop :=
  zs.length = n ∧ (0 < n → ∃ b off, a = some ⟨b, off, none⟩ ∧ b < w.heap.size ∧ ∀ i, i < n → w.cell? ⟨b, off + i, none⟩ = some (.int .i64 (zs.getD i 0)))

theorem Ints.rd {w : World} {a : Option Addr} {n c : Nat} {zs : List Int} (h : Ints .i64 w a n c zs) : Rd w a n zs := ⟨h.1, h.2.2.2.2⟩

theorem Rd.below {w w' : World} {a : Option Addr} {n : Nat} {zs : List Int} (h : Rd w a n zs) (hb : Below w.heap.size w w') : Rd w' a n zs :=
  ⟨h.1, fun hn => by
    obtain ⟨b, off, e, hlt, hc⟩ := h.2 hn
    exact ⟨b, off, e, Nat.lt_of_lt_of_le hlt hb.size, fun i hi => (hb.cell (p := ⟨b, off + i, none⟩) hlt).trans (hc i hi)⟩⟩

/-! ### 2. A block that is known whole -/
def Blk (w : World) (g : Nat) (t : TypeId) (cs : Array Value) : Prop := w.heap[g]? = some (.cells cs t (0, 0))

section
variable {w w' : World} {g : Nat} {t : TypeId} {cs : Array Value}
theorem Blk.lt (h : Blk w g t cs) : g < w.heap.size := by
  rcases Nat.lt_or_ge g w.heap.size with hlt | hge
  · exact hlt
  · unfold Blk at h; rw [Array.getElem?_eq_none hge] at h; cases h
theorem Blk.cell (h : Blk w g t cs) (i : Nat) : w.cell? ⟨g, i, none⟩ = cs[i]? := cell_of_row w g i cs t (0, 0) h
theorem Blk.frozen (h : Blk w g t cs) (i : Nat) : w.frozen? ⟨g, i, none⟩ = false := by
  unfold Blk at h
  simp [World.frozen?, h]
theorem Blk.new (w : World) (t : TypeId) (cs : Array Value) : Blk (w.alloc (.cells cs t)) w.heap.size t cs := heap_alloc_new w _
theorem Blk.drew (h : Blk w g t cs) : Blk w.drew g t cs := h
theorem Blk.drewN (h : Blk w g t cs) (n : Nat) : Blk (w.drewN n) g t cs := h
theorem Blk.alloc (h : Blk w g t cs) (o : Obj) : Blk (w.alloc o) g t cs := (Below.heap_alloc w o g h.lt).trans h
theorem Blk.set_ (h : Blk w g t cs) (i : Nat) (u : Value) : Blk (w.setCell ⟨g, i, none⟩ u) g t (cs.setIfInBounds i u) := by
  unfold Blk at h ⊢
  simp [World.setCell, Array.getElem?_modify, h]
theorem Blk.far (h : Blk w g t cs) {p : Addr} (hp : g ≠ p.block) (u : Value) : Blk (w.setCell p u) g t cs := (Below.heap_setCell w p u g hp).trans h
theorem Blk.below {B : Nat} (h : Blk w g t cs) (hb : Below B w w') (hg : g < B) : Blk w' g t cs := (hb.block g hg).trans h
theorem Blk.keep (h : Blk w g t cs) (hb : Below w.heap.size w w') : Blk w' g t cs := h.below hb h.lt
end

def vals (zs : List Int) : Array Value := (zs.map (Value.int .i64)).toArray
theorem vals_size (zs : List Int) : (vals zs).size = zs.length := by simp [vals]
theorem vals_get (zs : List Int) (i : Nat) (h : i < zs.length) : (vals zs)[i]? = some (.int .i64 (zs.getD i 0)) := by
  simp [vals, List.getElem?_map, List.getElem?_eq_getElem h, List.getD_eq_getElem?_getD]

/-- A row of numbers of the call's own is a slice that reads as a list. -/
theorem Blk.rd {w : World} {g n : Nat} {t : TypeId} {zs : List Int} (h : Blk w g t (vals zs)) (hn : zs.length = n) : Rd w (some ⟨g, 0, none⟩) n zs :=
  ⟨hn, fun _ => ⟨g, 0, rfl, h.lt, fun i hi => by rw [h.cell]; simpa using vals_get zs i (by omega)⟩⟩

/-- The first k numbers copied into a row of zeros. -/
def part (zs : List Int) (k : Nat) : List Int := zs.take k ++ List.replicate (zs.length - k) 0
theorem part_zero (zs : List Int) : part zs 0 = List.replicate zs.length 0 := by simp [part]
theorem part_all (zs : List Int) : part zs zs.length = zs := by simp [part]
theorem part_length (zs : List Int) (k : Nat) (h : k ≤ zs.length) : (part zs k).length = zs.length := by simp [part]; omega
theorem part_set (zs : List Int) (k : Nat) (h : k < zs.length) : (part zs k).set k (zs.getD k 0) = part zs (k + 1) := by
  unfold part
  rw [List.set_append_right _ _ (by simp; omega), List.take_succ_eq_append_getElem h, List.append_assoc]
  congr 1
  have e : zs.length - k = (zs.length - (k + 1)) + 1 := by omega
  rw [e, List.replicate_succ]
  simp [Nat.min_eq_left (Nat.le_of_lt h), List.getD_eq_getElem?_getD, List.getElem?_eq_getElem h]
theorem vals_set (zs : List Int) (k : Nat) (x : Int) : (vals zs).setIfInBounds k (.int .i64 x) = vals (zs.set k x) := by
  simp [vals, List.map_set]
theorem zeros_made (n : Nat) : madeCells #[Value.int .i64 0] (n * 1) = vals (List.replicate n 0) := by
  apply Array.ext
  · simp [madeCells, vals]
  · intro i h1 h2
    simp [madeCells, vals, Nat.mod_one]
theorem infoInt : (Try.prog.info? 2).map (fun i => (i.zero, i.size, i.bytes)) = some (some (.int .i64 0), 1, 8) := by kernel_rfl

theorem make_ints (n : Nat) (hn : n ≤ 1048576) : ∀ w : World, (Instr.makeSlice 36 (.int .i64 (n : Int)) (.int .i64 (n : Int))).run Try.prog w = .ok (.slice (some ⟨w.heap.size, 0, none⟩) n n) (w.alloc (.cells (vals (List.replicate n 0)) 2)) := by
  intro w
  obtain ⟨i0, hi, hz0, hz1, hz2⟩ := info_parts infoInt
  have hb : (i0.bytes : Int) * (n : Int) ≤ 281474976710656 := by rw [hz2]; omega
  have hr := run_make (P := Try.prog) w 36 2 i0 (.int .i64 0) Try.underlying36 hi hz0 .i64 .i64 n n (by omega) (by omega) hb (by omega)
  simp only [Int.toNat_natCast] at hr
  rw [hr, hz1]
  simp only [Value.cells, zeros_made]
def NewInts (w : World) (n : Nat) (zs : List Int) (e : Ending) (w' : World) : Prop :=
  ∃ g, e = .returned (.slice (some ⟨g, 0, none⟩) n n) ∧ w.heap.size ≤ g ∧ Blk w' g 2 (vals zs) ∧ Below w.heap.size w w'
set_option maxHeartbeats 1000000 in
theorem toInts (a : Option Addr) (n c : Nat) (zs : List Int) (w : World) (h : Rd w a n zs) (hn : n ≤ 1048576) :
    Calls Try.prog 22 #[.slice a n c] w (NewInts w n zs) := by
  have hmk := make_ints n hn
  obtain ⟨hl, hr⟩ := h
  rcases Nat.eq_zero_or_pos n with h0 | h0
  · have h1 : n ≤ 0 := by omega
    have HL := Lib.hid hl
    clear hr hl h0
    go_enter Try.func22, Try.ntmps22
    go_wp2
    refine wp_loop_rounds 1 ?_; rw [rounds_succ]
    go_wp2
    go_returns
    refine ⟨_, rfl, Nat.le_refl _, ?_, by repeat' (first | (with_reducible exact Below.refl _ _) | (with_reducible assumption) | (with_reducible refine Below.alloc ?_ ?_ _) | (with_reducible refine Below.setCell ?_ ?_ _) | (with_reducible refine Below.drew ?_) | (with_reducible refine below_drewN ?_ _) | (with_reducible refine below_via (by with_reducible assumption) ?_ ?_) | go_size)⟩
    have e : zs = List.replicate n 0 := by
      have h2 : n = 0 := by omega
      have h3 := HL.out
      subst h2
      exact List.eq_nil_of_length_eq_zero h3
    rw [e]
    exact Blk.new _ _ _
  · obtain ⟨b, off, rfl, hb, hc⟩ := hr h0
    have HL := Lib.hid hl
    have HC := Lib.hid hc
    clear hr hl hc
    go_enter Try.func22, Try.ntmps22
    go_wp2
    go_loopw [4] (fun i wr => ∃ k : Nat, k ≤ n ∧ i = .int .i64 k ∧ Blk wr w.heap.size 2 (vals (part zs k)) ∧ Below w.heap.size w wr) (fun i _ => n - (intOf i).toNat)
    case atStart => exact ⟨0, Nat.zero_le _, rfl, by rw [part_zero, HL.out]; exact Blk.new _ _ _, by repeat' (first | (with_reducible exact Below.refl _ _) | (with_reducible assumption) | (with_reducible refine Below.alloc ?_ ?_ _) | (with_reducible refine Below.setCell ?_ ?_ _) | (with_reducible refine Below.drew ?_) | (with_reducible refine below_drewN ?_ _) | (with_reducible refine below_via (by with_reducible assumption) ?_ ?_) | go_size)⟩
    case round =>
      obtain ⟨k, hk, rfl, hblk, hbel⟩ := hrel
      by_cases hlt : k < n
      · have hx : wr.cell? ⟨b, off + k, none⟩ = some (.int .i64 (zs.getD k 0)) := (hbel.cell (p := ⟨b, off + k, none⟩) hb).trans (HC.out k hlt)
        have hy : wr.cell? ⟨w.heap.size, k, none⟩ = some (.int .i64 ((part zs k).getD k 0)) := by
          rw [hblk.cell]; exact vals_get _ _ (by rw [part_length _ _ (by rw [HL.out]; exact hk), HL.out]; exact hlt)
        have hz : wr.frozen? ⟨w.heap.size, k, none⟩ = false := hblk.frozen k
        have HN : Hid (Blk (wr.setCell ⟨w.heap.size, k, none⟩ (.int .i64 (zs.getD k 0))) w.heap.size 2 (vals (part zs (k + 1)))) := by
          have := hblk.set_ k (.int .i64 (zs.getD k 0))
          rw [vals_set, part_set _ _ (by rw [HL.out]; exact hlt)] at this
          exact this
        have HB : Hid (Below w.heap.size w (wr.setCell ⟨w.heap.size, k, none⟩ (.int .i64 (zs.getD k 0)))) := hbel.setCell (Nat.le_refl _) _
        clear hblk hbel
        go_wp2
        go_roundw
        case rel => exact ⟨k + 1, by omega, by go_num, HN.out, HB.out⟩
        case measure => simp [intOf]; omega
      · have hke : k = n := by omega
        have HK := Lib.hid hke
        clear hke
        go_wp2
        go_returns
        refine ⟨_, rfl, Nat.le_refl _, ?_, hbel⟩
        have e := HK.out
        subst e
        have e2 := part_all zs
        rw [HL.out] at e2
        rw [e2] at hblk
        exact hblk
end Go.Proofs.Ytdpifddmhbeklaa
namespace Go.Proofs.Ytdpifddmhbeklaa
open Go.ChangeShapes Go.WideShapes Go.Deep Go.RowKit
set_option linter.unusedVariables false

/-- n elements of m cells each that read as the values vs. -/
def RdV (w : World) (a : Option Addr) (m n : Nat) (vs : List Value) : Prop :=
  vs.length = n * m ∧ (0 < n → ∃ b off, a = some ⟨b, off, none⟩ ∧ b < w.heap.size ∧ ∀ i, i < n * m → w.cell? ⟨b, off + i, none⟩ = vs[i]?)
theorem RdV.below {w w' : World} {a : Option Addr} {m n : Nat} {vs : List Value} (h : RdV w a m n vs) (hb : Below w.heap.size w w') : RdV w' a m n vs :=
  ⟨h.1, fun hn => by
    obtain ⟨b, off, e, hlt, hc⟩ := h.2 hn
    exact ⟨b, off, e, Nat.lt_of_lt_of_le hlt hb.size, fun i hi => (hb.cell (p := ⟨b, off + i, none⟩) hlt).trans (hc i hi)⟩⟩
theorem own_rdV {w : World} {base n c m : Nat} {t : TypeId} {a : Option Addr} {vs : List Value} (h : w.ownsRow base t m (.slice a n c) n vs) : RdV w a m n vs := by
  refine ⟨h.1, fun hn => ?_⟩
  rcases h.2 with ⟨hv, h0⟩ | ⟨g, cap, cur, hv, hg, hh, hnc, hm, hs, ht⟩
  · omega
  · injection hv with hv1 hv2 hv3
    subst hv1 hv3
    have hlt := (h.lt g rfl).2
    refine ⟨g, 0, rfl, hlt, fun i hi => ?_⟩
    have hi' : i < vs.length := by rw [h.1]; exact hi
    rw [Nat.zero_add, cell_of_row w g i cur t (0, 0) hh, ← ht, List.getElem?_take_of_lt hi, Array.getElem?_toList]
theorem Blk.rdV {w : World} {g n m : Nat} {t : TypeId} {vs : List Value} (h : Blk w g t vs.toArray) (hn : vs.length = n * m) : RdV w (some ⟨g, 0, none⟩) m n vs :=
  ⟨hn, fun _ => ⟨g, 0, rfl, h.lt, fun i hi => by rw [h.cell]; simp⟩⟩

abbrev F4 := Int × Int × Int × Int
def finCell (x : F4) : List Value := [.int .i64 x.1, .int .i64 x.2.1, .int .i64 x.2.2.1, .int .i64 x.2.2.2]
def finV (L : List F4) : List Value := L.flatMap finCell
abbrev R3 := Int × Int × Bool
def runCell (x : R3) : List Value := [.int .i64 x.1, .int .i64 x.2.1, .bool x.2.2]
def runV (L : List R3) : List Value := L.flatMap runCell
theorem flat_length {α : Type} (f : α → List Value) (m : Nat) (hf : ∀ x, (f x).length = m) (L : List α) : (L.flatMap f).length = L.length * m := by
  induction L with
  | nil => simp
  | cons x L ih => simp only [List.flatMap_cons, List.length_append, hf, ih, List.length_cons, Nat.add_mul, Nat.one_mul]; omega
theorem flat_get {α : Type} (f : α → List Value) (m : Nat) (hf : ∀ x, (f x).length = m) (L : List α) (k j : Nat) (hk : k < L.length) (hj : j < m) : (L.flatMap f)[k * m + j]? = (f (L[k]))[j]? := by
  induction L generalizing k with
  | nil => simp at hk
  | cons x L ih =>
    rw [List.flatMap_cons]
    cases k with
    | zero => rw [Nat.zero_mul, Nat.zero_add, List.getElem?_append_left (by rw [hf]; exact hj)]; rfl
    | succ k =>
      have e : (k + 1) * m + j = m + (k * m + j) := by rw [Nat.add_mul, Nat.one_mul]; omega
      rw [e, List.getElem?_append_right (by rw [hf]; omega), hf, Nat.add_sub_cancel_left, ih k (by simpa using hk)]
      rfl
theorem finV_length (L : List F4) : (finV L).length = L.length * 4 := flat_length finCell 4 (fun _ => rfl) L
theorem runV_length (L : List R3) : (runV L).length = L.length * 3 := flat_length runCell 3 (fun _ => rfl) L
theorem finV_app (L M : List F4) : finV (L ++ M) = finV L ++ finV M := by simp [finV]
theorem runV_app (L M : List R3) : runV (L ++ M) = runV L ++ runV M := by simp [runV]

/-- The four cells of the finder k; the three of the run k. -/
theorem RdV.fin {w : World} {a : Option Addr} {n : Nat} {L : List F4} (h : RdV w a 4 n (finV L)) {k : Nat} (hk : k < n) : ∃ b off, a = some ⟨b, off, none⟩ ∧ b < w.heap.size ∧
    w.cell? ⟨b, off + k * 4, none⟩ = some (.int .i64 (L.getD k (0, 0, 0, 0)).1) ∧ w.cell? ⟨b, off + k * 4 + 1, none⟩ = some (.int .i64 (L.getD k (0, 0, 0, 0)).2.1) ∧
    w.cell? ⟨b, off + k * 4 + 2, none⟩ = some (.int .i64 (L.getD k (0, 0, 0, 0)).2.2.1) ∧ w.cell? ⟨b, off + k * 4 + 3, none⟩ = some (.int .i64 (L.getD k (0, 0, 0, 0)).2.2.2) := by
  obtain ⟨b, off, e, hb, hc⟩ := h.2 (by omega)
  have hl : L.length = n := by have := h.1; rw [finV_length] at this; omega
  have hkl : k < L.length := by omega
  have g : L.getD k (0, 0, 0, 0) = L[k] := by simp [List.getD_eq_getElem?_getD, List.getElem?_eq_getElem hkl]
  have q : ∀ j, j < 4 → w.cell? ⟨b, off + (k * 4 + j), none⟩ = (finCell (L[k]))[j]? := fun j hj => (hc (k * 4 + j) (by omega)).trans (flat_get finCell 4 (fun _ => rfl) L k j hkl hj)
  rw [g]
  exact ⟨b, off, e, hb, q 0 (by omega), q 1 (by omega), q 2 (by omega), q 3 (by omega)⟩
theorem RdV.run {w : World} {a : Option Addr} {n : Nat} {L : List R3} (h : RdV w a 3 n (runV L)) {k : Nat} (hk : k < n) : ∃ b off, a = some ⟨b, off, none⟩ ∧ b < w.heap.size ∧
    w.cell? ⟨b, off + k * 3, none⟩ = some (.int .i64 (L.getD k (0, 0, false)).1) ∧ w.cell? ⟨b, off + k * 3 + 1, none⟩ = some (.int .i64 (L.getD k (0, 0, false)).2.1) ∧
    w.cell? ⟨b, off + k * 3 + 2, none⟩ = some (.bool (L.getD k (0, 0, false)).2.2) := by
  obtain ⟨b, off, e, hb, hc⟩ := h.2 (by omega)
  have hl : L.length = n := by have := h.1; rw [runV_length] at this; omega
  have hkl : k < L.length := by omega
  have g : L.getD k (0, 0, false) = L[k] := by simp [List.getD_eq_getElem?_getD, List.getElem?_eq_getElem hkl]
  have q : ∀ j, j < 3 → w.cell? ⟨b, off + (k * 3 + j), none⟩ = (runCell (L[k]))[j]? := fun j hj => (hc (k * 3 + j) (by omega)).trans (flat_get runCell 3 (fun _ => rfl) L k j hkl hj)
  rw [g]
  exact ⟨b, off, e, hb, q 0 (by omega), q 1 (by omega), q 2 (by omega)⟩

/-! ### A slice of structs that came in -/
section
variable {H : Type} {enc : TypeId × Value → H} {P : Program} {w : World} {base : Nat} {spare : Nat → Bool} {held : Bool}
theorem open_slice_fields {t e : TypeId} {fs : Array Field} {fuel : Nat} {cs : List Value} {x : DataW H × List MemPlace} (ht : P.underlying t = some (.slice e)) (he : P.underlying e = some (.struct fs))
    (hone : oneCellFields P fs = true) (hC : P.cellsOf e = fs.size) (h : DataW.trod enc P w base spare held fuel t cs = some x) :
    (cs = [.slice none 0 0]) ∨
    ∃ (a : Addr) (len cap m : Nat), cs = [.slice (some a) len cap] ∧ len ≤ cap ∧ cap ≤ maxLen ∧ m = (if spare a.block then cap else len) ∧
      ∀ i, i < m → ∀ (j : Nat) (f : Field), fs[j]? = some f → ∃ (v : Value) (y : DataW H × List MemPlace) (n : Nat), w.cell? (a.add (i * fs.size + j)) = some v ∧ DataW.trod enc P w base spare held n f.type [v] = some y := by
  rcases open_slice ht h with h0 | ⟨a, len, cap, m, n, D, Pl, hcs, hb, hl, hm, hmm, hx, hi⟩
  · exact .inl h0.1
  · refine .inr ⟨a, len, cap, m, hcs, hl, hm, hmm, fun i him => ?_⟩
    obtain ⟨cs', hc, ht'⟩ := hi i him
    rw [hC] at hc
    obtain ⟨ys, n', hn', hy, hlen, hyl, hf⟩ := DataW.trod_struct he ht'
    obtain ⟨_, hcl, hat⟩ := World.cells?_some hc
    intro j f hj
    obtain ⟨ho, hk⟩ := hone_of hone j f hj
    have hjl : j < fs.size := (Array.getElem?_eq_some_iff.1 hj).1
    have hcell := hat j hjl
    have hv : cs'[j]? = some (cs'[j]'(by omega)) := List.getElem?_eq_getElem (by omega)
    have h1 := hf j f hj
    rw [ho, hk] at h1
    have hone' : (cs'.drop j).take 1 = [cs'[j]'(by omega)] := by
      rw [List.drop_eq_getElem_cons (by omega)]
      rfl
    rw [hone'] at h1
    have hys : ys[j]? = some (ys[j]'(by omega)) := List.getElem?_eq_getElem (by omega)
    refine ⟨_, _, n', ?_, h1.trans hys⟩
    rw [← Go.Deep.add_add, hcell, hv]
end
/-- WHAT THE WALK IS TOLD OF A SLICE OF FINDERS THAT CAME IN. -/
def Finders (w : World) (a : Option Addr) (len cap : Nat) (L : List F4) : Prop := len ≤ cap ∧ cap ≤ maxLen ∧ L.length = len ∧ RdV w a 4 len (finV L)
def intAt (w : World) (a : Addr) (i : Nat) : Int := match w.cell? (a.add i) with | some (.int _ x) => x | _ => 0
theorem LeafOk.finders {H : Type} {enc : TypeId × Value → H} {P : Program} {w : World} {base : Nat} {held : Bool} {t e : TypeId} {f0 f1 f2 f3 : Field} {c : Value} (ht : P.underlying t = some (.slice e)) (he : P.underlying e = some (.struct #[f0, f1, f2, f3]))
    (hone : oneCellFields P #[f0, f1, f2, f3] = true) (hC : P.cellsOf e = 4) (h0 : P.underlying f0.type = some (.int .i64)) (h1 : P.underlying f1.type = some (.int .i64)) (h2 : P.underlying f2.type = some (.int .i64)) (h3 : P.underlying f3.type = some (.int .i64))
    (h : LeafOk enc P w base (fun _ => true) held t c) : ∃ a len cap L, c = .slice a len cap ∧ Finders w a len cap L := by
  obtain ⟨fuel, x, hx⟩ := h
  rcases open_slice_fields ht he hone hC hx with hc | ⟨a, len, cap, m, hcs, hl, hm, hmm, hi⟩
  · simp at hc
    exact ⟨_, _, _, [], hc, Nat.le_refl _, by unfold maxLen; omega, rfl, by simp [finV], fun h => absurd h (by omega)⟩
  · simp at hcs
    simp only [if_true] at hmm
    subst hmm
    have key : ∀ i, i < m → ∀ j, j < 4 → w.cell? (a.add (i * 4 + j)) = some (.int .i64 (intAt w a (i * 4 + j))) := by
      intro i him j hj
      have ty : ∃ f, (#[f0, f1, f2, f3] : Array Field)[j]? = some f ∧ P.underlying f.type = some (.int .i64) := by
        have : j = 0 ∨ j = 1 ∨ j = 2 ∨ j = 3 := by omega
        rcases this with rfl | rfl | rfl | rfl
        · exact ⟨f0, rfl, h0⟩
        · exact ⟨f1, rfl, h1⟩
        · exact ⟨f2, rfl, h2⟩
        · exact ⟨f3, rfl, h3⟩
      obtain ⟨f, hf, hft⟩ := ty
      obtain ⟨v, y, n, hcell, hy⟩ := hi i him j f hf
      obtain ⟨z, hz, _⟩ := DataW.trod_int hft hy
      simp at hz
      subst hz
      have hcell' : w.cell? (a.add (i * 4 + j)) = some (.int .i64 z) := hcell
      rw [hcell']
      simp [intAt, hcell']
    let L : List F4 := (List.range len).map fun i => (intAt w a (i * 4), intAt w a (i * 4 + 1), intAt w a (i * 4 + 2), intAt w a (i * 4 + 3))
    have hL : L.length = len := by simp [L]
    refine ⟨_, _, _, L, hcs, hl, hm, hL, by rw [finV_length, hL], fun hp => ?_⟩
    obtain ⟨b, off, spot⟩ := a
    have c0 := key 0 (by omega) 0 (by omega)
    have hspot : spot = none := by simpa [Addr.add] using World.cell?_spot c0
    subst hspot
    have plain : ∀ i, w.cell? ((⟨b, off, none⟩ : Addr).add i) = w.cell? ⟨b, off + i, none⟩ := by
      intro i
      unfold Addr.add
      split
      · rename_i h0; subst h0; rfl
      · rfl
    refine ⟨b, off, rfl, lt_of_cell ((plain 0).symm.trans c0), fun i hi' => ?_⟩
    obtain ⟨q, j, rfl, hj⟩ : ∃ q j, i = q * 4 + j ∧ j < 4 := ⟨i / 4, i % 4, by omega, by omega⟩
    have hk : q < len := by omega
    have hg : L[q]'(by rw [hL]; exact hk) = (intAt w ⟨b, off, none⟩ (q * 4), intAt w ⟨b, off, none⟩ (q * 4 + 1), intAt w ⟨b, off, none⟩ (q * 4 + 2), intAt w ⟨b, off, none⟩ (q * 4 + 3)) := by simp [L]
    refine ((plain _).symm.trans (key q (by omega) j hj)).trans ?_
    refine Eq.trans ?_ (flat_get finCell 4 (fun _ => rfl) L q j (by rw [hL]; exact hk) hj).symm
    rw [hg]
    have hm4 : j = 0 ∨ j = 1 ∨ j = 2 ∨ j = 3 := by omega
    rcases hm4 with h | h | h | h <;> rw [h] <;> rfl
end Go.Proofs.Ytdpifddmhbeklaa
namespace Go.Proofs.Ytdpifddmhbeklaa
open Go.RowKit
set_option linter.unusedVariables false

def eqL (xs ys : List Int) : Bool := decide (xs = ys)
theorem list_get_ne {xs ys : List Int} {k : Nat} (h : k < xs.length) (hl : xs.length = ys.length) (hn : xs.getD k 0 ≠ ys.getD k 0) : xs ≠ ys := fun e => hn (by rw [e])
theorem list_eq_of {xs ys : List Int} (hl : xs.length = ys.length) (h : ∀ i, i < xs.length → xs.getD i 0 = ys.getD i 0) : xs = ys := by
  apply List.ext_getElem hl
  intro i h1 h2
  have := h i h1
  simpa [List.getD_eq_getElem?_getD, List.getElem?_eq_getElem h1, List.getElem?_eq_getElem h2] using this
def BoolBelow (w : World) (b : Bool) (e : Ending) (w' : World) : Prop := e = .returned (.bool b) ∧ Below w.heap.size w w'
set_option maxHeartbeats 1000000 in
theorem eqInts (a a' : Option Addr) (n n' c c' : Nat) (xs ys : List Int) (w : World) (h : Rd w a n xs) (h' : Rd w a' n' ys) (hn : n ≤ 1048576) (hn' : n' ≤ 1048576) :
    Calls Try.prog 24 #[.slice a n c, .slice a' n' c'] w fun e w' => e = .returned (.bool (eqL xs ys)) ∧ Below w.heap.size w w' := by
  obtain ⟨hl, hr⟩ := h
  obtain ⟨hl', hr'⟩ := h'
  by_cases hnn : n = n'
  · subst hnn
    rcases Nat.eq_zero_or_pos n with h0 | h0
    · have h1 : n ≤ 0 := by omega
      have e : xs = ys := by
        subst h0
        rw [List.eq_nil_of_length_eq_zero hl, List.eq_nil_of_length_eq_zero hl']
      have HE := Lib.hid e
      clear e hl hl' hr hr' h0
      go_enter Try.func24, Try.ntmps24
      go_wp2
      refine wp_loop_rounds 1 ?_; rw [rounds_succ]
      go_wp2
      go_returns
      exact ⟨ret_bool (by rw [HE.out]; simp [eqL]), by repeat' (first | (with_reducible exact Below.refl _ _) | (with_reducible assumption) | (with_reducible refine Below.alloc ?_ ?_ _) | (with_reducible refine Below.setCell ?_ ?_ _) | (with_reducible refine Below.drew ?_) | (with_reducible refine below_drewN ?_ _) | (with_reducible refine below_via (by with_reducible assumption) ?_ ?_) | go_size)⟩
    · obtain ⟨b, off, rfl, hb, hc⟩ := hr h0
      obtain ⟨b', off', rfl, hb', hc'⟩ := hr' h0
      have HL := Lib.hid hl
      have HL' := Lib.hid hl'
      have HC := Lib.hid hc
      have HC' := Lib.hid hc'
      clear hr hr' hl hl' hc hc'
      go_enter Try.func24, Try.ntmps24
      go_wp2
      go_loopw [5] (fun i wr => ∃ k : Nat, k ≤ n ∧ i = .int .i64 k ∧ Hid (∀ j, j < k → xs.getD j 0 = ys.getD j 0) ∧ Below w.heap.size w wr) (fun i _ => n - (intOf i).toNat)
      case atStart => exact ⟨0, Nat.zero_le _, rfl, fun j hj => absurd hj (by omega), by repeat' (first | (with_reducible exact Below.refl _ _) | (with_reducible assumption) | (with_reducible refine Below.alloc ?_ ?_ _) | (with_reducible refine Below.setCell ?_ ?_ _) | (with_reducible refine Below.drew ?_) | (with_reducible refine below_drewN ?_ _) | (with_reducible refine below_via (by with_reducible assumption) ?_ ?_) | go_size)⟩
      case round =>
        obtain ⟨k, hk, rfl, hall, hbel⟩ := hrel
        by_cases hlt : k < n
        · have hx : wr.cell? ⟨b, off + k, none⟩ = some (.int .i64 (xs.getD k 0)) := (hbel.cell (p := ⟨b, off + k, none⟩) hb).trans (HC.out k hlt)
          have hy : wr.cell? ⟨b', off' + k, none⟩ = some (.int .i64 (ys.getD k 0)) := (hbel.cell (p := ⟨b', off' + k, none⟩) hb').trans (HC'.out k hlt)
          generalize hxv : xs.getD k 0 = x at hx
          generalize hyv : ys.getD k 0 = y at hy
          have HX := Lib.hid hxv
          have HY := Lib.hid hyv
          clear hxv hyv
          have k0 : (0 : Int) ≤ (k : Int) := Int.natCast_nonneg _
          have k1 : (k : Int) < (n : Int) := by omega
          by_cases hxy : x = y
          · subst hxy
            have HA : Hid (∀ j, j < k + 1 → xs.getD j 0 = ys.getD j 0) := fun j hj => by
              rcases Nat.lt_or_ge j k with h1 | h1
              · exact hall j h1
              · obtain rfl : j = k := by omega
                rw [HX.out, HY.out]
            go_wp2
            go_quiet (fail)
            go_wp2
            go_roundw
            case rel => exact ⟨k + 1, by omega, by go_num, HA, by repeat' (first | (with_reducible exact Below.refl _ _) | (with_reducible assumption) | (with_reducible refine Below.alloc ?_ ?_ _) | (with_reducible refine Below.setCell ?_ ?_ _) | (with_reducible refine Below.drew ?_) | (with_reducible refine below_drewN ?_ _) | (with_reducible refine below_via (by with_reducible assumption) ?_ ?_) | go_size)⟩
            case measure => simp [intOf]; omega
          · have hb1 : (x != y) = true := by simpa using hxy
            have HE : Hid (eqL xs ys = false) := by
              have := list_get_ne (xs := xs) (ys := ys) (k := k) (by rw [HL.out]; exact hlt) (HL.out.trans HL'.out.symm) (by rw [HX.out, HY.out]; exact hxy)
              exact (by simp [eqL, this] : eqL xs ys = false)
            go_wp2
            go_quiet (fail)
            go_wp2
            go_returns
            exact ⟨ret_bool HE.out.symm, by repeat' (first | (with_reducible exact Below.refl _ _) | (with_reducible assumption) | (with_reducible refine Below.alloc ?_ ?_ _) | (with_reducible refine Below.setCell ?_ ?_ _) | (with_reducible refine Below.drew ?_) | (with_reducible refine below_drewN ?_ _) | (with_reducible refine below_via (by with_reducible assumption) ?_ ?_) | go_size)⟩
        · have hke : k = n := by omega
          have HK := Lib.hid hke
          clear hke
          go_wp2
          go_returns
          refine ⟨ret_bool ?_, hbel⟩
          have e : xs = ys := list_eq_of (HL.out.trans HL'.out.symm) (fun i hi => hall i (by rw [HL.out] at hi; rw [HK.out]; exact hi))
          simp [eqL, e]
  · have hne : xs ≠ ys := fun e => hnn (by rw [← hl, ← hl', e])
    have HN := Lib.hid hne
    have ht : ((n : Int) == (n' : Int)) = false := by simp; omega
    have ht2 : ((n : Int) != (n' : Int)) = true := by simp; omega
    clear hne hl hl' hr hr' hnn
    go_enter Try.func24, Try.ntmps24
    go_wp2
    go_returns
    exact ⟨ret_bool (by simp [eqL, HN.out]), by repeat' (first | (with_reducible exact Below.refl _ _) | (with_reducible assumption) | (with_reducible refine Below.alloc ?_ ?_ _) | (with_reducible refine Below.setCell ?_ ?_ _) | (with_reducible refine Below.drew ?_) | (with_reducible refine below_drewN ?_ _) | (with_reducible refine below_via (by with_reducible assumption) ?_ ?_) | go_size)⟩
end Go.Proofs.Ytdpifddmhbeklaa
namespace Go.Proofs.Ytdpifddmhbeklaa
open Go.RowKit
set_option linter.unusedVariables false

theorem Blk.own {w : World} {g base n : Nat} {t : TypeId} {zs : List Int} (h : Blk w g t (vals zs)) (hb : base ≤ g) (hn : zs.length = n) (hm : n ≤ maxLen) :
    w.ownsRow base t 1 (.slice (some ⟨g, 0, none⟩) n n) n (zs.map (Value.int .i64)) :=
  ⟨by simp [hn], .inr ⟨g, n, vals zs, rfl, hb, h, Nat.le_refl _, hm, by rw [vals_size]; omega, by rw [← hn]; simp [vals]; rw [List.take_of_length_le (by simp)]⟩⟩

theorem own_rd {w : World} {base n c : Nat} {t : TypeId} {a : Option Addr} {zs : List Int} (h : w.ownsRow base t 1 (.slice a n c) n (zs.map (Value.int .i64))) : Rd w a n zs := by
  refine ⟨by simpa using h.1, fun hn => ?_⟩
  rcases h.2 with ⟨hv, h0⟩ | ⟨g, cap, cur, hv, hg, hh, hnc, hm, hs, ht⟩
  · omega
  · injection hv with hv1 hv2 hv3
    subst hv1 hv3
    have hlt := (h.lt g rfl).2
    refine ⟨g, 0, rfl, hlt, fun i hi => ?_⟩
    rw [Nat.zero_add, h.cellAt i (by omega)]
    have hl : i < zs.length := by have := h.1; simp at this; omega
    simp [List.getElem?_map, List.getElem?_eq_getElem hl, List.getD_eq_getElem?_getD]

/-- k, k + 1, ..: what a row holds behind 'markInt64S'. -/
def markL (k : Int) (n : Nat) : List Int := (List.range n).map fun i : Nat => k + (i : Int)
theorem markL_length (k : Int) (n : Nat) : (markL k n).length = n := by simp [markL]
theorem markL_get (k : Int) (n i : Nat) (h : i < n) : (markL k n).getD i 0 = k + i := by
  simp [markL, List.getD_eq_getElem?_getD, h]

/-- The first j numbers of a row are marked, the others as they were. -/
def halfL (k : Int) (xs : List Int) (j : Nat) : List Int := markL k j ++ xs.drop j
theorem halfL_zero (k : Int) (xs : List Int) : halfL k xs 0 = xs := by simp [halfL, markL]
theorem halfL_all (k : Int) (xs : List Int) : halfL k xs xs.length = markL k xs.length := by simp [halfL]
theorem halfL_length (k : Int) (xs : List Int) (j : Nat) (h : j ≤ xs.length) : (halfL k xs j).length = xs.length := by simp [halfL, markL]; omega
theorem halfL_set (k : Int) (xs : List Int) (j : Nat) (h : j < xs.length) : (halfL k xs j).set j (k + j) = halfL k xs (j + 1) := by
  have e : (List.drop j xs).set 0 (k + j) = (k + j) :: List.drop (j + 1) xs := by rw [List.drop_eq_getElem_cons h]; rfl
  unfold halfL
  rw [List.set_append_right _ _ (by simp [markL]), markL_length, Nat.sub_self, e]
  simp [markL, List.range_succ]

theorem only_of_below {a w : World} (h : Below a.heap.size a w) (row : Option Nat) : a.grownBy w row := ⟨h.os, h.tape, h.output, h.size, fun i hi _ => h.block i hi⟩
theorem only_setCell {a w : World} {g : Nat} (h : a.grownBy w (some g)) {i : Nat} (u : Value) : a.grownBy (w.setCell ⟨g, i, none⟩ u) (some g) :=
  ⟨h.os, h.tape, h.output, by simpa [World.setCell] using h.size, fun i hi hne => (Below.heap_setCell w _ u i (by rintro rfl; exact hne rfl)).trans (h.block i hi hne)⟩
theorem only_below {a b c : World} {row : Option Nat} (h : a.grownBy b row) (k : Below b.heap.size b c) : a.grownBy c row :=
  ⟨k.os.trans h.os, k.tape.trans h.tape, k.output.trans h.output, Nat.le_trans h.size k.size, fun i hi hne => (k.block i (Nat.lt_of_lt_of_le hi h.size)).trans (h.block i hi hne)⟩

/-- A slice of the call's own, kept over a call that writes nothing old; over one that writes another block. -/
theorem own_below {w w' : World} {base n : Nat} {t : TypeId} {v : Value} {xs : List Value} (h : w.ownsRow base t 1 v n xs) (hb : Below w.heap.size w w') : w'.ownsRow base t 1 v n xs := by
  refine ⟨h.1, ?_⟩
  rcases h.2 with hv | ⟨g, cap, cur, hv, hg, hh, r⟩
  · exact .inl hv
  · have hlt := (h.lt g (by rw [hv]; rfl)).2
    exact .inr ⟨g, cap, cur, hv, hg, by rw [hb.block g hlt]; exact hh, r⟩
theorem Rd.only {w w' : World} {a : Option Addr} {n g : Nat} {zs : List Int} (h : Rd w a n zs) (hg : w.grownBy w' (some g)) (hne : ∀ b off, a = some ⟨b, off, none⟩ → b ≠ g) : Rd w' a n zs :=
  ⟨h.1, fun hn => by
    obtain ⟨b, off, e, hlt, hc⟩ := h.2 hn
    exact ⟨b, off, e, Nat.lt_of_lt_of_le hlt hg.size, fun i hi => (World.cell?_of_block (a := ⟨b, off + i, none⟩) (hg.block b hlt (by intro e'; injection e' with e'; exact hne b off e e'))).trans (hc i hi)⟩⟩
def Marked (w : World) (base : Nat) (a : Option Addr) (n c : Nat) (k : Int) (e : Ending) (w' : World) : Prop :=
  e = .returned (.int .i64 (k + n)) ∧ w'.ownsRow base 2 1 (.slice a n c) n ((markL k n).map (Value.int .i64)) ∧ w.grownBy w' (Value.slice a n c).ownBlock
set_option maxHeartbeats 1000000 in
theorem markInts (a : Option Addr) (n c base : Nat) (xs : List Int) (k : Int) (w : World) (h : w.ownsRow base 2 1 (.slice a n c) n (xs.map (Value.int .i64))) (hn : n ≤ 1048576) (hk : 0 ≤ k) (hk2 : k ≤ 1048576) :
    Calls Try.prog 25 #[.slice a n c, .int .i64 k] w (Marked w base a n c k) := by
  have hl : xs.length = n := by simpa using h.1
  rcases Nat.eq_zero_or_pos n with h0 | h0
  · have h1 : n ≤ 0 := by omega
    have H := Lib.hid h
    have E : Hid (markL k n = xs ∧ (n : Int) = 0) := ⟨by subst h0; rw [List.eq_nil_of_length_eq_zero hl]; rfl, by omega⟩
    clear h h0 hl
    go_enter Try.func25, Try.ntmps25
    go_wp2
    refine wp_loop_rounds 1 ?_; rw [rounds_succ]
    go_wp2
    go_returns
    exact ⟨ret_int (by rw [E.out.2]; omega), by rw [E.out.1]; exact H.out, World.grownBy.refl w _⟩
  · obtain ⟨g, rfl⟩ : ∃ g, a = some ⟨g, 0, none⟩ := by
      rcases h.2 with ⟨_, h2⟩ | ⟨g, cap, cur, hv, _⟩
      · omega
      · injection hv with hv1; exact ⟨g, hv1⟩
    have HL := Lib.hid hl
    have HO := Lib.hid h
    clear hl h
    go_enter Try.func25, Try.ntmps25
    go_wp2
    go_loopw [1, 5] (fun q i wr => ∃ j : Nat, j ≤ n ∧ i = .int .i64 j ∧ q = .int .i64 (k + j) ∧ wr.ownsRow base 2 1 (.slice (some ⟨g, 0, none⟩) n c) n ((halfL k xs j).map (Value.int .i64)) ∧ w.grownBy wr (some g)) (fun _ i _ => n - (intOf i).toNat)
    case atStart => exact ⟨0, Nat.zero_le _, rfl, by simp, by rw [halfL_zero]; exact HO.out, World.grownBy.refl w _⟩
    case round =>
      obtain ⟨j, hj, rfl, rfl, hown, hgr⟩ := hrel
      by_cases hlt : j < n
      · have hlen : (halfL k xs j).length = n := by rw [halfL_length _ _ _ (by rw [HL.out]; exact hj), HL.out]
        have hy : wr.cell? ⟨g, j, none⟩ = some (.int .i64 ((halfL k xs j).getD j 0)) := by
          rw [hown.cellAt j (by omega)]
          simp [List.getElem?_map, List.getElem?_eq_getElem (show j < (halfL k xs j).length by omega), List.getD_eq_getElem?_getD]
        have hz : wr.frozen? ⟨g, j, none⟩ = false := hown.frozenAt j
        have HN : Hid ((wr.setCell ⟨g, j, none⟩ (.int .i64 (k + j))).ownsRow base 2 1 (.slice (some ⟨g, 0, none⟩) n c) n ((halfL k xs (j + 1)).map (Value.int .i64))) := by
          have := (hown.stored j (.int .i64 (k + j))).1
          rw [← List.map_set, halfL_set _ _ _ (by rw [HL.out]; exact hlt)] at this
          exact this
        have HG : Hid (w.grownBy (wr.setCell ⟨g, j, none⟩ (.int .i64 (k + j))) (some g)) := only_setCell hgr _
        generalize hyv : (halfL k xs j).getD j 0 = y at hy
        clear hyv hown hgr hlen
        go_wp2
        go_roundw
        case rel => exact ⟨j + 1, by omega, by go_num, by go_num, HN.out, HG.out⟩
        case measure => simp [intOf]; omega
      · have hje : j = n := by omega
        have HJ := Lib.hid hje
        clear hje
        go_wp2
        go_returns
        refine ⟨ret_int (by rw [HJ.out]), ?_, hgr⟩
        have e := halfL_all k xs
        rw [HL.out, ← HJ.out] at e
        rw [e, HJ.out] at hown
        exact hown
set_option maxHeartbeats 1000000 in
theorem heldInts (a : Option Addr) (n c : Nat) (k : Int) (w : World) (h : Rd w a n (markL k n)) (hn : n ≤ 1048576) (hk : 0 ≤ k) (hk2 : k ≤ 1048576) :
    Calls Try.prog 26 #[.slice a n c, .int .i64 k] w fun e w' => e = .returned (.int .i64 (k + n)) ∧ Below w.heap.size w w' := by
  obtain ⟨hl, hr⟩ := h
  rcases Nat.eq_zero_or_pos n with h0 | h0
  · have h1 : n ≤ 0 := by omega
    have E : Hid ((n : Int) = 0) := (by omega : (n : Int) = 0)
    clear hl hr h0
    go_enter Try.func26, Try.ntmps26
    go_wp2
    refine wp_loop_rounds 1 ?_; rw [rounds_succ]
    go_wp2
    go_returns
    exact ⟨ret_int (by rw [E.out]; omega), by repeat' (first | (with_reducible exact Below.refl _ _) | (with_reducible assumption) | (with_reducible refine Below.alloc ?_ ?_ _) | (with_reducible refine Below.setCell ?_ ?_ _) | (with_reducible refine Below.drew ?_) | (with_reducible refine below_drewN ?_ _) | (with_reducible refine below_via (by with_reducible assumption) ?_ ?_) | go_size)⟩
  · obtain ⟨b, off, rfl, hb, hc⟩ := hr h0
    have HC := Lib.hid hc
    clear hr hl hc
    go_enter Try.func26, Try.ntmps26
    go_wp2
    go_loopw [1, 5] (fun q i wr => ∃ j : Nat, j ≤ n ∧ i = .int .i64 j ∧ q = .int .i64 (k + j) ∧ Below w.heap.size w wr) (fun _ i _ => n - (intOf i).toNat)
    case atStart => exact ⟨0, Nat.zero_le _, rfl, by simp, by repeat' (first | (with_reducible exact Below.refl _ _) | (with_reducible assumption) | (with_reducible refine Below.alloc ?_ ?_ _) | (with_reducible refine Below.setCell ?_ ?_ _) | (with_reducible refine Below.drew ?_) | (with_reducible refine below_drewN ?_ _) | (with_reducible refine below_via (by with_reducible assumption) ?_ ?_) | go_size)⟩
    case round =>
      obtain ⟨j, hj, rfl, rfl, hbel⟩ := hrel
      by_cases hlt : j < n
      · have hx : wr.cell? ⟨b, off + j, none⟩ = some (.int .i64 (k + j)) := by
          have := (hbel.cell (p := ⟨b, off + j, none⟩) hb).trans (HC.out j hlt)
          rw [markL_get _ _ _ hlt] at this
          exact this
        have k0 : (0 : Int) ≤ (j : Int) := Int.natCast_nonneg _
        have k1 : (j : Int) < (n : Int) := by omega
        have kb : ((k + (j : Int)) != (k + (j : Int))) = false := by simp
        go_wp2
        try go_quiet (fail)
        try go_wp2
        go_roundw
        case rel => exact ⟨j + 1, by omega, by go_num, by go_num, by repeat' (first | (with_reducible exact Below.refl _ _) | (with_reducible assumption) | (with_reducible refine Below.alloc ?_ ?_ _) | (with_reducible refine Below.setCell ?_ ?_ _) | (with_reducible refine Below.drew ?_) | (with_reducible refine below_drewN ?_ _) | (with_reducible refine below_via (by with_reducible assumption) ?_ ?_) | go_size)⟩
        case measure => simp [intOf]; omega
      · have hje : j = n := by omega
        have HJ := Lib.hid hje
        clear hje
        go_wp2
        go_returns
        exact ⟨ret_int (by rw [HJ.out]), hbel⟩
def szV (left : Int) (n : Nat) : Int := if left - n < 0 then -1 else left - n
theorem szV_yes {left : Int} {n : Nat} (h : (n : Int) ≤ left) : szV left n = left - n := by unfold szV; rw [if_neg (by omega)]
theorem szV_no {left : Int} {n : Nat} (h : left < (n : Int)) : szV left n = -1 := by unfold szV; rw [if_pos (by omega)]
set_option maxHeartbeats 400000 in
theorem szInts (a : Option Addr) (n c : Nat) (left : Int) (w : World) (h1 : 0 ≤ left) (h2 : left ≤ 1048576) (h3 : n ≤ maxLen) : Calls Try.prog 77 #[.slice a n c, .int .i64 left] w fun e w' => e = .returned (.int .i64 (szV left n)) ∧ w = w' := by
  unfold maxLen at h3
  rcases Int.lt_or_le left n with h | h
  · have H := Lib.hid (szV_no h)
    go_enter Try.func77, Try.ntmps77
    go_wp2
    go_ret
    exact ⟨ret_int H.out.symm, rfl⟩
  · have H := Lib.hid (szV_yes h)
    go_enter Try.func77, Try.ntmps77
    go_wp2
    go_ret
    exact ⟨ret_int H.out.symm, rfl⟩
end Go.Proofs.Ytdpifddmhbeklaa
namespace Go.Proofs.Ytdpifddmhbeklaa
open Go.RowKit
set_option linter.unusedVariables false
theorem ownN_below {w w' : World} {base n m : Nat} {t : TypeId} {v : Value} {xs : List Value} (h : w.ownsRow base t m v n xs) (hb : Below w.heap.size w w') : w'.ownsRow base t m v n xs := by
  refine ⟨h.1, ?_⟩
  rcases h.2 with hv | ⟨g, cap, cur, hv, hg, hh, r⟩
  · exact .inl hv
  · have hlt := (h.lt g (by rw [hv]; rfl)).2
    exact .inr ⟨g, cap, cur, hv, hg, by rw [hb.block g hlt]; exact hh, r⟩
theorem ownN_mono {w : World} {base base' n m : Nat} {t : TypeId} {v : Value} {xs : List Value} (h : w.ownsRow base t m v n xs) (hb : base' ≤ base) : w.ownsRow base' t m v n xs := by
  refine ⟨h.1, ?_⟩
  rcases h.2 with hv | ⟨g, cap, cur, hv, hg, r⟩
  · exact .inl hv
  · exact .inr ⟨g, cap, cur, hv, Nat.le_trans hb hg, r⟩
theorem ownN_far {w : World} {base n m : Nat} {t : TypeId} {v : Value} {xs : List Value} (h : w.ownsRow base t m v n xs) {p : Addr} (hp : p.block < base) (u : Value) : (w.setCell p u).ownsRow base t m v n xs := by
  refine ⟨h.1, ?_⟩
  rcases h.2 with hv | ⟨g, cap, cur, hv, hg, hh, r⟩
  · exact .inl hv
  · exact .inr ⟨g, cap, cur, hv, hg, (Below.heap_setCell w p u g (by omega)).trans hh, r⟩
theorem ownN_apart {w : World} {base n m : Nat} {t : TypeId} {v : Value} {xs : List Value} (h : w.ownsRow base t m v n xs) {row : Option Nat} (hr : ∀ k, row = some k → k < base ∨ w.heap.size ≤ k) : v.ownBlock = none ∨ v.ownBlock ≠ row := by
  cases hv : v.ownBlock with
  | none => exact .inl rfl
  | some j =>
    right
    intro e
    have h1 := h.lt j hv
    have h2 := hr j e.symm
    omega
theorem ownN_block {w : World} {base n cp m : Nat} {t : TypeId} {a : Option Addr} {xs : List Value} (h : w.ownsRow base t m (.slice a n cp) n xs) : ∀ k, (Value.slice a n cp).ownBlock = some k → base ≤ k ∧ k < w.heap.size := fun k e => h.lt k e
theorem ownN_shape {w : World} {base n m : Nat} {t : TypeId} {v : Value} {xs : List Value} (h : w.ownsRow base t m v n xs) : ∃ a cp, v = .slice a n cp := by
  rcases h.2 with ⟨rfl, h0⟩ | ⟨g, cap, cur, rfl, _⟩
  · exact ⟨none, 0, by rw [h0]⟩
  · exact ⟨_, _, rfl⟩
theorem RdV.len {w : World} {a : Option Addr} {m n : Nat} {vs : List Value} (h : RdV w a m n vs) : vs.length = n * m := h.1
theorem RdV.lt {w : World} {a : Option Addr} {m n : Nat} {vs : List Value} (h : RdV w a m n vs) : ∀ b off, a = some ⟨b, off, none⟩ → 0 < n → b < w.heap.size := by
  intro b off e hn
  obtain ⟨b', off', e', hlt, _⟩ := h.2 hn
  rw [e] at e'
  injection e' with e'
  injection e' with e1
  omega
theorem RdV.grown {w w' : World} {a : Option Addr} {m n B : Nat} {vs : List Value} {row : Option Nat} (h : RdV w a m n vs) (hb : ∀ b off, a = some ⟨b, off, none⟩ → 0 < n → b < B) (hg : w.grownBy w' row) (hne : ∀ k, row = some k → B ≤ k) : RdV w' a m n vs :=
  ⟨h.1, fun hn => by
    obtain ⟨b, off, e, hlt, hc⟩ := h.2 hn
    have h1 := hb b off e hn
    exact ⟨b, off, e, Nat.lt_of_lt_of_le hlt hg.size, fun i hi => (World.cell?_of_block (a := ⟨b, off + i, none⟩) (hg.block b hlt (fun e' => by have := hne b e'.symm; omega))).trans (hc i hi)⟩⟩
end Go.Proofs.Ytdpifddmhbeklaa
namespace Go.Proofs.Ytdpifddmhbeklaa
open Go.RowKit
set_option linter.unusedVariables false
/-- A header whose row reads as zs and lies in blocks that p allows. -/
def HdrOk (W : World) (p : Nat → Prop) (zs : List Int) (h : Value) : Prop :=
  ∃ a cp, h = .slice a zs.length cp ∧ (0 < zs.length → ∃ b off, a = some ⟨b, off, none⟩ ∧ p b ∧ b < W.heap.size ∧ ∀ j, j < zs.length → W.cell? ⟨b, off + j, none⟩ = some (.int .i64 (zs.getD j 0)))
theorem HdrOk.kept {W W' : World} {p q : Nat → Prop} {zs : List Int} {h : Value} (H : HdrOk W p zs h) (hs : W.heap.size ≤ W'.heap.size) (hk : ∀ b, b < W.heap.size → p b → W'.heap[b]? = W.heap[b]? ∧ q b) : HdrOk W' q zs h := by
  obtain ⟨a, cp, e, hr⟩ := H
  refine ⟨a, cp, e, fun hp => ?_⟩
  obtain ⟨b, off, e2, hpb, hlt, hc⟩ := hr hp
  obtain ⟨k1, k2⟩ := hk b hlt hpb
  exact ⟨b, off, e2, k2, by omega, fun j hj => (World.cell?_of_block (a := ⟨b, off + j, none⟩) k1).trans (hc j hj)⟩
theorem HdrOk.oneCell {W : World} {p : Nat → Prop} {zs : List Int} {h : Value} (H : HdrOk W p zs h) : h.oneCell' = true := by
  obtain ⟨a, cp, rfl, _⟩ := H
  rfl
theorem HdrOk.rd {W : World} {p : Nat → Prop} {zs : List Int} {h : Value} (H : HdrOk W p zs h) : ∃ a cp, h = .slice a zs.length cp ∧ Rd W a zs.length zs := by
  obtain ⟨a, cp, rfl, hr⟩ := H
  refine ⟨a, cp, rfl, rfl, fun hp => ?_⟩
  obtain ⟨b, off, e, _, hlt, hc⟩ := hr hp
  exact ⟨b, off, e, hlt, hc⟩
/-- A slice of slices that the call made, the headers' own row at v. -/
def SRow (W : World) (B : Nat) (v : Value) (Ls : List (List Int)) : Prop :=
  ∃ hs : List Value, W.ownsRow B 36 1 v Ls.length hs ∧ ∀ i, i < Ls.length → ∃ h, hs[i]? = some h ∧ HdrOk W (fun b => B ≤ b ∧ v.ownBlock ≠ some b) (Ls.getD i []) h
theorem SRow.lit (w : World) (B : Nat) (hB : B ≤ w.heap.size) : SRow (w.alloc (.cells #[] 36)) B (.slice (some ⟨w.heap.size, 0, none⟩) 0 0) [] := by
  have := World.ownsRow_lit (base := B) (e := 36) (size := 1) w #[] 0 hB (by unfold maxLen; omega) (by simp)
  simp at this
  exact ⟨[], this, fun i hi => absurd hi (by simp)⟩
theorem SRow.nil (w : World) (B : Nat) : SRow w B (.slice none 0 0) [] := ⟨[], World.ownsRow_nil _ _ _ _, fun i hi => absurd hi (by simp)⟩
theorem SRow.shape {W : World} {B : Nat} {v : Value} {Ls : List (List Int)} (h : SRow W B v Ls) : ∃ a cp, v = .slice a Ls.length cp := by
  obtain ⟨hs, ho, _⟩ := h
  exact ownN_shape ho
theorem SRow.lt {W : World} {B : Nat} {v : Value} {Ls : List (List Int)} (h : SRow W B v Ls) : ∀ k, v.ownBlock = some k → B ≤ k ∧ k < W.heap.size := by
  obtain ⟨hs, ho, _⟩ := h
  exact ho.lt
theorem SRow.grown {W W' : World} {B : Nat} {v : Value} {Ls : List (List Int)} {row : Option Nat} (h : SRow W B v Ls) (hg : W.grownBy W' row) (hr : ∀ k, row = some k → k < B ∨ W.heap.size ≤ k) : SRow W' B v Ls := by
  obtain ⟨hs, ho, hh⟩ := h
  refine ⟨hs, ho.kept hg (ownN_apart ho hr), fun i hi => ?_⟩
  obtain ⟨x, hx, hx2⟩ := hh i hi
  exact ⟨x, hx, hx2.kept hg.size fun b hb hp => ⟨hg.block b hb (fun e => by have := hr b e.symm; omega), hp⟩⟩
theorem SRow.keep {W W' : World} {B : Nat} {v : Value} {Ls : List (List Int)} (h : SRow W B v Ls) (hb : Below W.heap.size W W') : SRow W' B v Ls :=
  h.grown (only_of_below hb none) (fun k e => by cases e)
theorem SRow.alloc {W : World} {B : Nat} {v : Value} {Ls : List (List Int)} (h : SRow W B v Ls) (o : Obj) : SRow (W.alloc o) B v Ls :=
  h.keep ((Below.refl _ _).alloc (Nat.le_refl _) _)
theorem SRow.mono {W : World} {B B' : Nat} {v : Value} {Ls : List (List Int)} (h : SRow W B v Ls) (hB : B' ≤ B) : SRow W B' v Ls := by
  obtain ⟨hs, ho, hh⟩ := h
  refine ⟨hs, ownN_mono ho hB, fun i hi => ?_⟩
  obtain ⟨x, hx, hx2⟩ := hh i hi
  exact ⟨x, hx, hx2.kept (Nat.le_refl _) fun b hb hp => ⟨rfl, by omega, hp.2⟩⟩
/-- One row more. -/
theorem SRow.push {W W2 : World} {B : Nat} {v v' h : Value} {Ls : List (List Int)} {hs : List Value} {zs : List Int} (ho : W.ownsRow B 36 1 v Ls.length hs)
    (hr : ∀ i, i < Ls.length → ∃ h, hs[i]? = some h ∧ HdrOk W (fun b => B ≤ b ∧ v.ownBlock ≠ some b) (Ls.getD i []) h)
    (hh : HdrOk W (fun b => B ≤ b ∧ v.ownBlock ≠ some b) zs h) (hgrow : W.grownBy W2 v.ownBlock) (hlies : ∀ b, b < W.heap.size → v.ownBlock ≠ some b → v'.ownBlock ≠ some b)
    (hown : W2.ownsRow B 36 1 v' (Ls.length + 1) (hs ++ [h])) : SRow W2 B v' (Ls ++ [zs]) := by
  have hl : hs.length = Ls.length := by have := ho.1; omega
  refine ⟨hs ++ [h], by rw [List.length_append]; exact hown, fun i hi => ?_⟩
  simp only [List.length_append, List.length_cons, List.length_nil] at hi
  have key : ∀ {zs : List Int} {x : Value}, HdrOk W (fun b => B ≤ b ∧ v.ownBlock ≠ some b) zs x → HdrOk W2 (fun b => B ≤ b ∧ v'.ownBlock ≠ some b) zs x := fun H => H.kept hgrow.size fun b hb hp => ⟨hgrow.block b hb (fun e => hp.2 e.symm), hp.1, hlies b hb hp.2⟩
  rcases Nat.lt_or_ge i Ls.length with hlt | hge
  · obtain ⟨x, hx, hx2⟩ := hr i hlt
    refine ⟨x, by rw [List.getElem?_append_left (by omega)]; exact hx, ?_⟩
    rw [show (Ls ++ [zs]).getD i [] = Ls.getD i [] by simp [List.getD_eq_getElem?_getD, List.getElem?_append_left hlt]]
    exact key hx2
  · obtain rfl : i = Ls.length := by omega
    refine ⟨h, by rw [← hl]; simp, ?_⟩
    rw [show (Ls ++ [zs]).getD Ls.length [] = zs by simp [List.getD_eq_getElem?_getD]]
    exact key hh
/-- A slice of slices that is only read: all of its blocks from B to Z. -/
def RRow (W : World) (B Z : Nat) (a : Option Addr) (n : Nat) (Ls : List (List Int)) : Prop :=
  Ls.length = n ∧ Z ≤ W.heap.size ∧ (0 < n → ∃ b off, a = some ⟨b, off, none⟩ ∧ B ≤ b ∧ b < Z ∧ ∀ i, i < n → ∃ h, W.cell? ⟨b, off + i, none⟩ = some h ∧ HdrOk W (fun b => B ≤ b ∧ b < Z) (Ls.getD i []) h)
theorem SRow.read {W : World} {B n cp : Nat} {a : Option Addr} {Ls : List (List Int)} (h : SRow W B (.slice a n cp) Ls) : RRow W B W.heap.size a n Ls := by
  obtain ⟨a', cp', e⟩ := h.shape
  injection e with _ en _
  obtain ⟨hs, ho, hh⟩ := h
  refine ⟨en.symm, Nat.le_refl _, fun hn => ?_⟩
  rw [← en] at ho
  obtain ⟨b, off, e2, hlt, hc⟩ := (own_rdV ho).2 hn
  have h1 : B ≤ b := by
    rcases ho.2 with ⟨_, h0⟩ | ⟨g, cap, cur, hv, hg, _⟩
    · omega
    · injection hv with hv1
      rw [e2] at hv1
      injection hv1 with hv1
      injection hv1 with hv1
      omega
  refine ⟨b, off, e2, h1, hlt, fun i hi => ?_⟩
  obtain ⟨x, hx, hx2⟩ := hh i (by omega)
  exact ⟨x, (hc i (by omega)).trans hx, hx2.kept (Nat.le_refl _) fun b hb hp => ⟨rfl, hp.1, hb⟩⟩
theorem RRow.kept {W W' : World} {B Z n : Nat} {a : Option Addr} {Ls : List (List Int)} (h : RRow W B Z a n Ls) (hs : W.heap.size ≤ W'.heap.size) (hk : ∀ b, B ≤ b → b < Z → W'.heap[b]? = W.heap[b]?) : RRow W' B Z a n Ls := by
  obtain ⟨h1, h2, h3⟩ := h
  refine ⟨h1, by omega, fun hn => ?_⟩
  obtain ⟨b, off, e, hb1, hb2, hc⟩ := h3 hn
  refine ⟨b, off, e, hb1, hb2, fun i hi => ?_⟩
  obtain ⟨x, hx, hx2⟩ := hc i hi
  exact ⟨x, (World.cell?_of_block (a := ⟨b, off + i, none⟩) (hk b hb1 hb2)).trans hx, hx2.kept hs fun b hb hp => ⟨hk b hp.1 hp.2, hp⟩⟩
theorem RRow.keep {W W' : World} {B Z n : Nat} {a : Option Addr} {Ls : List (List Int)} (h : RRow W B Z a n Ls) (hb : Below Z W W') : RRow W' B Z a n Ls :=
  h.kept hb.size fun b _ hz => hb.block b hz
/-- The header k, and its row. -/
theorem RRow.at {W : World} {B Z n k : Nat} {a : Option Addr} {Ls : List (List Int)} (h : RRow W B Z a n Ls) (hk : k < n) : ∃ b off a' cp, a = some ⟨b, off, none⟩ ∧ b < W.heap.size ∧ W.cell? ⟨b, off + k, none⟩ = some (.slice a' (Ls.getD k []).length cp) ∧ Rd W a' (Ls.getD k []).length (Ls.getD k []) := by
  obtain ⟨h1, h2, h3⟩ := h
  obtain ⟨b, off, e, hb1, hb2, hc⟩ := h3 (by omega)
  obtain ⟨x, hx, hx2⟩ := hc k hk
  obtain ⟨a', cp, rfl, hr⟩ := hx2.rd
  exact ⟨b, off, a', cp, e, by omega, hx, hr⟩
/-- What hands back a slice of slices of the call's own. -/
def NewSRow (w : World) (Ls : List (List Int)) (e : Ending) (w' : World) : Prop :=
  ∃ a cp, e = .returned (.slice a Ls.length cp) ∧ SRow w' w.heap.size (.slice a Ls.length cp) Ls ∧ Below w.heap.size w w' ∧ Ls.length ≤ 1048576
theorem infoRow : (Try.prog.info? 36).map (fun i => (i.zero, i.size, i.bytes)) = some (some (.slice none 0 0), 1, 24) := by kernel_rfl
end Go.Proofs.Ytdpifddmhbeklaa
