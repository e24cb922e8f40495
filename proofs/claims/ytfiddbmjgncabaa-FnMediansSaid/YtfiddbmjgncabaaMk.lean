/-
  DERIVED. 'raster': a raster whose pixels are told by a function: its contract, over whatever function.
-/
import Derived.Test.YtfiddbmjgncabaaResQ
import Derived.Deep.AppendLies
import Derived.Deep.RegionLaw
namespace Go.Proofs.Ytfiddbmjgncabaa
open Go.RowKit
set_option linter.unusedVariables false
def rastL (cols : Nat) (f : Nat → Nat → Int) (k : Nat) : List Int := (List.range k).map fun i => f (i / cols) (i % cols)
theorem rastL_length (cols : Nat) (f : Nat → Nat → Int) (k : Nat) : (rastL cols f k).length = k := by simp [rastL]
theorem rastL_succ (cols : Nat) (f : Nat → Nat → Int) (i j : Nat) (h : j < cols) : rastL cols f (i * cols + j + 1) = rastL cols f (i * cols + j) ++ [f i j] := by
  have e1 : (i * cols + j) / cols = i := by
    rw [Nat.mul_comm, Nat.mul_add_div (by omega), Nat.div_eq_of_lt h, Nat.add_zero]
  have e2 : (i * cols + j) % cols = j := by
    rw [Nat.mul_comm, Nat.mul_add_mod, Nat.mod_eq_of_lt h]
  unfold rastL
  rw [List.range_succ, List.map_append, List.map_cons, List.map_nil, e1, e2]
/-- An append that fits the capacity, in a region that draws its order. -/
theorem step_append_fits {P : Program} {ops : Array Oper} {o : Oper} {a : Act} {w : World} {K : Act → World → Prop} {Q : Exit → Act → World → Prop} {E : Prop}
    (hg : o.guard = none) (s x : Operand) (t : TypeId) (hop : o.op = Op.call { callee := Callee.builtin Builtin.append, args := #[s, x], argTypes := #[t, t] })
    (base : Nat) (e : TypeId) (i : TypeInfo) (size : Nat) (h1 : P.underlying t = some (.slice e)) (h2 : P.info? e = some i) (h4 : i.size = size)
    (g k cap : Nat) (xs : List Value) (hs : a.eval s = .slice (some ⟨g, 0, none⟩) k cap) (hown : w.ownsRow base e size (.slice (some ⟨g, 0, none⟩) k cap) k xs) (ad : Addr) (m c : Nat) (news : List Value) (hx : a.eval x = .slice (some ad) m c) (hn : news.length = m * size)
    (hc : ∀ j u, news[j]? = some u → w.cell? (ad.add j) = some u) (h1c : ∀ u ∈ news, u.oneCell' = true) (b1 : k + m ≤ cap)
    (hK : ∀ w', w'.ownsRow base e size (.slice (some ⟨g, 0, none⟩) (k + m) cap) (k + m) (xs ++ news) → w.grownBy w' (some g) → K (a.put o.dst (.slice (some ⟨g, 0, none⟩) (k + m) cap)) w') :
    if Region.wanted o (yielded ops a.tmps) = true then Oper.wp P o a w K Q else E := by
  have hw : Region.wanted o (yielded ops a.tmps) = true := by simp [Region.wanted, hg]
  rw [if_pos hw]
  obtain ⟨w', hrun, r1, r2⟩ := run_append_fits (P := P) w base t o.type e i size h1 h2 h4 g k cap xs hown ad m c news hn hc h1c b1
  unfold Oper.wp
  simp [execOp, hop, resolve, invoke, builtin, hs, hx, hrun, Result.andThen]
  exact hK w' r1 r2
/-- A function value that tells the pixels: what a call of it does. -/
def Tells (K : FuncId) (caps : Array Value) (rows cols : Nat) (f : Nat → Nat → Int) (w : World) : Prop :=
  ∀ (i j : Nat) (W : World), i < rows → j < cols → Below w.heap.size w W → Calls Try.prog K (#[.int .i64 (i : Int), .int .i64 (j : Int)] ++ caps) W fun e W' => e = .returned (.int .i64 (f i j)) ∧ Below W.heap.size W W'
/-- The box P behind a call and an append to the row D. -/
theorem mk_mid {wr wq w2 : World} {D P : Nat} {o : Obj} {x2 : Value} (hDP : D < P) (hP : P < wr.heap.size) (hbq : Below wr.heap.size wr wq) (hgr : (wq.alloc o).grownBy w2 (some D)) (i : Nat) (b2 : wr.cell? ⟨P, i, none⟩ = some x2) :
    w2.cell? ⟨P, i, none⟩ = some x2 :=
  (only_cell hgr (by have := hbq.size; simp; omega) (by omega)).trans ((World.cell?_alloc_lt wq o ⟨P, i, none⟩ (by have := hbq.size; show P < _; omega)).trans ((hbq.cell (p := ⟨P, i, none⟩) hP).trans b2))
theorem mk_mid_f {wr wq w2 : World} {D P : Nat} {o : Obj} (hDP : D < P) (hP : P < wr.heap.size) (hbq : Below wr.heap.size wr wq) (hgr : (wq.alloc o).grownBy w2 (some D)) (i : Nat) (b2 : wr.frozen? ⟨P, i, none⟩ = false) :
    w2.frozen? ⟨P, i, none⟩ = false :=
  (only_frozen hgr (by have := hbq.size; simp; omega) (by omega)).trans ((((Below.refl wq.heap.size wq).alloc (Nat.le_refl _) o).frozen (p := ⟨P, i, none⟩) (by have := hbq.size; show P < _; omega)).trans ((hbq.frozen (p := ⟨P, i, none⟩) hP).trans b2))
theorem mk_step {W wr wq w2 : World} {D P k : Nat} {t : TypeId} {o : Obj} {sl v x0 x1 x2 : Value} {xs : List Value} (hDP : D < P) (hP : P < wr.heap.size) (hbel : Below D W wr) (hbq : Below wr.heap.size wr wq) (hgr : (wq.alloc o).grownBy w2 (some D))
    (b0 : wr.cell? ⟨P, 0, none⟩ = some x0) (b1 : wr.cell? ⟨P, 1, none⟩ = some x1) (b2 : wr.cell? ⟨P, 2, none⟩ = some x2) (b3 : wr.frozen? ⟨P, 2, none⟩ = false) (hown : w2.ownsRow D t 1 sl k xs) (hob : sl.ownBlock = some D) :
    (w2.setCell ⟨P, 2, none⟩ v).ownsRow D t 1 sl k xs ∧ Below D W (w2.setCell ⟨P, 2, none⟩ v) ∧ (w2.setCell ⟨P, 2, none⟩ v).cell? ⟨P, 0, none⟩ = some x0 ∧ (w2.setCell ⟨P, 2, none⟩ v).cell? ⟨P, 1, none⟩ = some x1 ∧ (w2.setCell ⟨P, 2, none⟩ v).cell? ⟨P, 2, none⟩ = some v ∧ (w2.setCell ⟨P, 2, none⟩ v).frozen? ⟨P, 2, none⟩ = false := by
  have m0 := mk_mid hDP hP hbq hgr 0 b0
  have m1 := mk_mid hDP hP hbq hgr 1 b1
  have m2 := mk_mid hDP hP hbq hgr 2 b2
  have m3 := mk_mid_f hDP hP hbq hgr 2 b3
  have hsz := hbq.size
  have hD : D ≤ wr.heap.size := by omega
  refine ⟨?_, ?_, ?_, ?_, ?_, ?_⟩
  · refine ⟨hown.1, ?_⟩
    rcases hown.2 with h | ⟨g, cap, cur, hv, hg, hh, r⟩
    · exact .inl h
    · have : g = D := by rw [hv] at hob; simpa [Value.ownBlock] using hob
      refine .inr ⟨g, cap, cur, hv, hg, ?_, r⟩
      rw [Below.heap_setCell _ _ _ _ (by simp; omega)]
      exact hh
  · have h1 : Below D W wq := hbel.trans (hbq.mono hD)
    have h2 : Below D W (wq.alloc o) := h1.alloc (by omega) o
    exact (h2.grown hgr (by simp; omega) (fun j e => by injection e with e; omega)).setCell (by simp; omega) v
  · rw [World.cell?_setCell_other w2 ⟨P, 2, none⟩ ⟨P, 0, none⟩ v (by simp)]; exact m0
  · rw [World.cell?_setCell_other w2 ⟨P, 2, none⟩ ⟨P, 1, none⟩ v (by simp)]; exact m1
  · exact World.cell?_setCell_same w2 ⟨P, 2, none⟩ v m2
  · simpa using m3
set_option maxRecDepth 20000 in
set_option maxHeartbeats 2000000 in
theorem iRaster (K : FuncId) (caps : Array Value) (rows cols : Nat) (f : Nat → Nat → Int) (w : World) (hent : ∀ (args : Array Value) (W : World), (callFunc K args).run Try.prog W = .ok (.enter K args) W) (hf : Tells K caps rows cols f w) (h1 : 1 ≤ rows) (h2 : rows ≤ 400) (h3 : 1 ≤ cols) (h4 : cols ≤ 400) :
    Calls Try.prog 75 #[.int .i64 (rows : Int), .int .i64 (cols : Int), .func (.func K) #[] caps] w (OwnRast w rows cols (rastL cols f (rows * cols))) := by
  obtain ⟨i0, hi, hz0, hz1, hz2⟩ := info_parts infoInt
  have hp1 : (rows : Int) * (cols : Int) = ((rows * cols : Nat) : Int) := by simp
  have hp2 : rows * cols ≤ 400 * 400 := Nat.mul_le_mul h2 h4
  have hmk : ∀ W : World, (Instr.makeSlice 22 (.int .i64 0) (.int .i64 ((rows : Int) * (cols : Int)))).run Try.prog W = .ok (.slice (some ⟨W.heap.size, 0, none⟩) 0 (rows * cols)) (W.alloc (.cells (vals (List.replicate (rows * cols) 0)) 2)) := by
    intro W
    have hb : (i0.bytes : Int) * ((rows * cols : Nat) : Int) ≤ 281474976710656 := by rw [hz2]; omega
    have hr := run_make (P := Try.prog) W 22 2 i0 (.int .i64 0) Try.underlying22 hi hz0 .i64 .i64 0 ((rows * cols : Nat) : Int) (by omega) (by omega) hb (by omega)
    simp only [Int.toNat_natCast, Int.toNat_zero] at hr
    rw [hp1, hr, hz1]
    simp only [Value.cells, zeros_made]
  have hb1 : 0 ≤ (rows : Int) * (cols : Int) := by omega
  have hb2 : (rows : Int) * (cols : Int) ≤ 160000 := by omega
  have HF := Lib.hid hf
  have HP := Lib.hid hp1
  clear hf hp1
  go_enter Try.func75, Try.ntmps75
  go_wp2
  clear hmk
  obtain ⟨W, hW⟩ : ∃ W, W = (((w.alloc (.cells #[.int .i64 0, .int .i64 0, .slice none 0 0] 32)).alloc (.cells (vals (List.replicate (rows * cols) 0)) 2)).alloc (.cells #[.int .i64 rows, .int .i64 cols, .slice (some ⟨w.heap.size + 1, 0, none⟩) 0 (rows * cols)] 32)) := ⟨_, rfl⟩
  rw [← hW]
  have hB : Below w.heap.size w W := by rw [hW]; repeat' (first | (with_reducible exact Below.refl _ _) | (with_reducible assumption) | (with_reducible refine Below.alloc ?_ ?_ _) | (with_reducible refine Below.setCell ?_ ?_ _) | (with_reducible refine Below.drew ?_) | (with_reducible refine below_drewN ?_ _) | (with_reducible refine below_via (by with_reducible assumption) ?_ ?_) | go_size)
  have hs : W.heap.size = w.heap.size + 3 := by rw [hW]; simp
  have o1 : Out3 W w.heap.size := by rw [hW]; exact ((Out3.new w 32).keep (by repeat' (first | (with_reducible exact Below.refl _ _) | (with_reducible assumption) | (with_reducible refine Below.alloc ?_ ?_ _) | (with_reducible refine Below.setCell ?_ ?_ _) | (with_reducible refine Below.drew ?_) | (with_reducible refine below_drewN ?_ _) | (with_reducible refine below_via (by with_reducible assumption) ?_ ?_) | go_size)))
  have hk : W.ownsRow (w.heap.size + 1) 2 1 (.slice (some ⟨w.heap.size + 1, 0, none⟩) 0 (rows * cols)) 0 ((rastL cols f 0).map (Value.int .i64)) := by
    rw [hW]
    have := World.ownsRow_made (base := w.heap.size + 1) (e := 2) (size := 1) (w.alloc (.cells #[.int .i64 0, .int .i64 0, .slice none 0 0] 32)) (vals (List.replicate (rows * cols) 0)) (rows * cols) (by simp) (by unfold maxLen; omega) (by simp [vals_size])
    simp only [World.size_alloc] at this
    exact this.alloc _
  have q2 : W.cell? ⟨w.heap.size + 1 + 1, 2, none⟩ = some (.slice (some ⟨w.heap.size + 1, 0, none⟩) 0 (rows * cols)) := by rw [hW]; simp [go_sem]
  have q0 : W.cell? ⟨w.heap.size + 1 + 1, 0, none⟩ = some (.int .i64 rows) := by rw [hW]; simp [go_sem]
  have q1 : W.cell? ⟨w.heap.size + 1 + 1, 1, none⟩ = some (.int .i64 cols) := by rw [hW]; simp [go_sem]
  have z2 : W.frozen? ⟨w.heap.size + 1 + 1, 2, none⟩ = false := by rw [hW]; simp [go_sem]
  clear hW
  have HS := Lib.hid hs
  go_loopw [8] (fun i wr => ∃ r : Nat, r ≤ rows ∧ i = .int .i64 r ∧ wr.ownsRow (w.heap.size + 1) 2 1 (.slice (some ⟨w.heap.size + 1, 0, none⟩) (r * cols) (rows * cols)) (r * cols) ((rastL cols f (r * cols)).map (Value.int .i64)) ∧
      Below (w.heap.size + 1) W wr ∧ wr.cell? ⟨w.heap.size + 1 + 1, 0, none⟩ = some (.int .i64 rows) ∧ wr.cell? ⟨w.heap.size + 1 + 1, 1, none⟩ = some (.int .i64 cols) ∧ wr.cell? ⟨w.heap.size + 1 + 1, 2, none⟩ = some (.slice (some ⟨w.heap.size + 1, 0, none⟩) (r * cols) (rows * cols)) ∧ wr.frozen? ⟨w.heap.size + 1 + 1, 2, none⟩ = false) (fun i _ => rows - (intOf i).toNat)
  case atStart => exact ⟨0, Nat.zero_le _, rfl, by simpa using hk, Below.refl _ _, q0, q1, by simpa using q2, z2⟩
  case round =>
    obtain ⟨r, hr, rfl, hown, hbel, a0, a1, a2, a3⟩ := hrel
    by_cases hlt : r < rows
    · clear q0 q1 q2 z2 hk o1 hs
      obtain ⟨wo, rfl⟩ : ∃ wo : World, wo = wr := ⟨_, rfl⟩
      go_wp2
      go_loopw [9] (fun i wr => ∃ c : Nat, c ≤ cols ∧ i = .int .i64 c ∧ wr.ownsRow (w.heap.size + 1) 2 1 (.slice (some ⟨w.heap.size + 1, 0, none⟩) (r * cols + c) (rows * cols)) (r * cols + c) ((rastL cols f (r * cols + c)).map (Value.int .i64)) ∧
          Below (w.heap.size + 1) W wr ∧ wr.cell? ⟨w.heap.size + 1 + 1, 0, none⟩ = some (.int .i64 rows) ∧ wr.cell? ⟨w.heap.size + 1 + 1, 1, none⟩ = some (.int .i64 cols) ∧ wr.cell? ⟨w.heap.size + 1 + 1, 2, none⟩ = some (.slice (some ⟨w.heap.size + 1, 0, none⟩) (r * cols + c) (rows * cols)) ∧ wr.frozen? ⟨w.heap.size + 1 + 1, 2, none⟩ = false) (fun i _ => cols - (intOf i).toNat)
      case atStart => exact ⟨0, Nat.zero_le _, rfl, by simpa using hown, hbel, a0, a1, by simpa using a2, a3⟩
      case round =>
        obtain ⟨c, hc, rfl, hown1, hbel1, b0, b1, b2, b3⟩ := hrel
        clear hown hbel a0 a1 a2 a3
        by_cases hlc : c < cols
        · have hroom : r * cols + c + 1 ≤ rows * cols := by
            have : (r + 1) * cols ≤ rows * cols := Nat.mul_le_mul_right _ hlt
            rw [Nat.add_mul, Nat.one_mul] at this
            omega
          have hzr := hbel1.size
          have hs3 := HS.out
          have hPl : w.heap.size + 1 + 1 < wr.heap.size := by omega
          have hDP : w.heap.size + 1 < w.heap.size + 1 + 1 := Nat.lt_succ_self _
          go_wp2
          go_region_law (first | (refine step_append_fits (by rfl) _ _ _ (by rfl) (w.heap.size + 1) 2 i0 1 Try.underlying22 hi hz1 (w.heap.size + 1) (r * cols + c) (rows * cols) _ (by rfl) ((own_below hown1 (by repeat' (first | (with_reducible exact Below.refl _ _) | (with_reducible assumption) | (with_reducible refine Below.alloc ?_ ?_ _) | (with_reducible refine Below.setCell ?_ ?_ _) | (with_reducible refine Below.drew ?_) | (with_reducible refine below_drewN ?_ _) | (with_reducible refine below_via (by with_reducible assumption) ?_ ?_) | go_size))).alloc _) _ _ _ [.int .i64 (f r c)] (by rfl) (by rfl) (cell_one_new _ _ _) (by simp [Value.oneCell']) hroom ?_; intro w2 hown2 hgrow2; have qc2 := mk_mid hDP hPl hbq hgrow2 2 b2; have qf2 := mk_mid_f hDP hPl hbq hgrow2 2 b3) | (go_simp; refine (HF.out r c _ hlt hlc (by repeat' (first | (with_reducible exact Below.refl _ _) | (with_reducible assumption) | (with_reducible refine Below.alloc ?_ ?_ _) | (with_reducible refine Below.setCell ?_ ?_ _) | (with_reducible refine Below.drew ?_) | (with_reducible refine below_drewN ?_ _) | (with_reducible refine below_via (by with_reducible assumption) ?_ ?_) | go_size))).mono ?_; rintro e wq ⟨rfl, hbq0⟩; have hbq : Below wr.heap.size wr wq := ((Below.refl _ _).drew.trans hbq0); have hzq := hbq.size; have qp2 : wq.cell? ⟨w.heap.size + 1 + 1, 2, none⟩ = _ := (hbq.cell (p := ⟨w.heap.size + 1 + 1, 2, none⟩) hPl).trans b2; have hPq : w.heap.size + 1 + 1 < wq.heap.size := (by omega)))
          all_goals
            have R := mk_step (v := .slice (some ⟨w.heap.size + 1, 0, none⟩) (r * cols + c + 1) (rows * cols)) hDP hPl hbel1 hbq hgrow2 b0 b1 b2 b3 hown2 rfl
            rw [← List.map_singleton, ← List.map_append, ← rastL_succ _ _ _ _ hlc] at R
            have HR2 := Lib.hid R
            clear R qc2 qf2 qp2 hgrow2 hown2 hbq b0 b1 b2 b3 hown1 hbel1
            go_wp2
            go_roundw
            case rel => exact ⟨c + 1, by omega, by go_num, HR2.out.1, HR2.out.2.1, HR2.out.2.2.1, HR2.out.2.2.2.1, HR2.out.2.2.2.2.1, HR2.out.2.2.2.2.2⟩
            case measure => simp [intOf]; omega
        · have hce : c = cols := by omega
          have HC := Lib.hid hce
          have e : r * cols + cols = (r + 1) * cols := by rw [Nat.add_mul, Nat.one_mul]
          rw [hce, e] at hown1 b2
          have HO := Lib.hid hown1
          have HB := Lib.hid hbel1
          clear hce hown1 hbel1 e
          go_wp2
          go_roundw
          case rel => exact ⟨r + 1, by omega, by go_num, HO.out, HB.out, b0, b1, b2, b3⟩
          case measure => simp [intOf]; omega
    · have hre : r = rows := by omega
      rw [hre] at hown a2
      have HRE := Lib.hid hre
      have hsz := hbel.size
      have hs3 := HS.out
      have hW2 : Below w.heap.size W wr := hbel.mono (by omega)
      have o3 := o1.2.1
      have o4 := o1.2.2.1
      have o5 := o1.2.2.2.1
      have o6 := o1.2.2.2.2.1
      have o7 := o1.2.2.2.2.2.1
      have o8 := o1.2.2.2.2.2.2
      have t3 : wr.cell? ⟨w.heap.size, 0, none⟩ = some (.int .i64 0) := (hbel.cell (p := ⟨w.heap.size, 0, none⟩) (by simp)).trans o3
      have t4 : wr.cell? ⟨w.heap.size, 1, none⟩ = some (.int .i64 0) := (hbel.cell (p := ⟨w.heap.size, 1, none⟩) (by simp)).trans o4
      have t5 : wr.cell? ⟨w.heap.size, 2, none⟩ = some (.slice none 0 0) := (hbel.cell (p := ⟨w.heap.size, 2, none⟩) (by simp)).trans o5
      have t6 : wr.frozen? ⟨w.heap.size, 0, none⟩ = false := (hbel.frozen (p := ⟨w.heap.size, 0, none⟩) (by simp)).trans o6
      have t7 : wr.frozen? ⟨w.heap.size, 1, none⟩ = false := (hbel.frozen (p := ⟨w.heap.size, 1, none⟩) (by simp)).trans o7
      have t8 : wr.frozen? ⟨w.heap.size, 2, none⟩ = false := (hbel.frozen (p := ⟨w.heap.size, 2, none⟩) (by simp)).trans o8
      have HO := Lib.hid hown
      have HB := Lib.hid (hB.trans hW2)
      clear o1 o3 o4 o5 o6 o7 o8 hown hbel hW2 hre q0 q1 q2 z2 hk hs hB
      go_wp2
      refine bodyPost_ret (v := .agg #[.int .i64 rows, .int .i64 cols, .slice (some ⟨w.heap.size + 1, 0, none⟩) (rows * cols) (rows * cols)]) (by simp [results, Try.results75, go_sem, t3, t4, t5]) rfl ?_
      have hlen : (rastL cols f (rows * cols)).length = rows * cols := rastL_length _ _ _
      refine ⟨some ⟨w.heap.size + 1, 0, none⟩, rows * cols, by rw [hlen], ?_, ((HB.out.setCell (by simp) _).setCell (by simp) _).setCell (by simp) _⟩
      rw [hlen]
      exact own_mono (own_far (own_far (own_far HO.out (by simp) _) (by simp) _) (by simp) _) (by omega)
end Go.Proofs.Ytfiddbmjgncabaa
