/-
  DERIVED. DarkBox: impl.
-/
import Derived.Test.YtbcbdphnbfjhoaaDBoxI
import Derived.Conc.MuLone
import Derived.BigQuiet
import Derived.Deep.MidRow
namespace Go.Proofs.Ytbcbdphnbfjhoaa
open Go.RowKit
set_option linter.unusedVariables false
def spots4B (px py qx qy rx ry sx sy : Int) : Bool := spotB px py && (spotB qx qy && (spotB rx ry && spotB sx sy))
theorem spotB_iff {x y : Int} : spotB x y = true ↔ (-4000 ≤ x ∧ x ≤ 4000) ∧ -4000 ≤ y ∧ y ≤ 4000 := by simp only [spotB, Bool.and_eq_true, inB_iff]
theorem spots4_box {t b l r : Int} (h1 : 0 ≤ t) (h2 : t ≤ b) (h3 : 0 ≤ l) (h4 : l ≤ r) : spots4B (2 * l) (2 * t) (2 * r + 2) (2 * t) (2 * r + 2) (2 * b + 2) (2 * l) (2 * b + 2) = true ↔ ¬ (4000 < 2 * (r + 1) ∨ 4000 < 2 * (b + 1)) := by
  simp only [spots4B, Bool.and_eq_true, spotB_iff]
  omega
set_option maxHeartbeats 2000000 in
theorem iSpots4 (g : Nat) (px py qx qy rx ry sx sy : Int) (w : World) (hg : g < w.heap.size)
    (c0 : w.cell? ⟨g, 0, none⟩ = some (.int .i64 px)) (c1 : w.cell? ⟨g, 1, none⟩ = some (.int .i64 py)) (c2 : w.cell? ⟨g, 2, none⟩ = some (.int .i64 qx)) (c3 : w.cell? ⟨g, 3, none⟩ = some (.int .i64 qy))
    (c4 : w.cell? ⟨g, 4, none⟩ = some (.int .i64 rx)) (c5 : w.cell? ⟨g, 5, none⟩ = some (.int .i64 ry)) (c6 : w.cell? ⟨g, 6, none⟩ = some (.int .i64 sx)) (c7 : w.cell? ⟨g, 7, none⟩ = some (.int .i64 sy)) :
    Calls Try.prog 71 #[.slice (some ⟨g, 0, none⟩) 4 4] w fun e w' => e = .returned (.bool (spots4B px py qx qy rx ry sx sy)) ∧ Below w.heap.size w w' := by
  rcases and4 (spotB px py) (spotB qx qy) (spotB rx ry) (spotB sx sy) with h1 | ⟨h1, h2⟩ | ⟨h1, h2, h3⟩ | ⟨h1, h2, h3, h4⟩ | ⟨h1, h2, h3, h4⟩
  all_goals
    go_enter Try.func71, Try.ntmps71
    go_wp2_with fail
    refine wp_loop_rounds 5 ?_
    repeat any_goals (rw [rounds_succ]; go_wp2_with (go_at_call 96; refine (iIsSpot _ _ _).mono ?_; rintro e w' ⟨rfl, hb⟩; obtain ⟨hc, hf⟩ := bcell hb; have hz := hb.size; (try simp at hz); have hg : g < w'.heap.size := (by omega)))
    go_returns
    exact ⟨ret_bool (by simp [spots4B, *]), by repeat' (first | (with_reducible exact Below.refl _ _) | (with_reducible assumption) | (with_reducible refine Below.alloc ?_ ?_ _) | (with_reducible refine Below.setCell ?_ ?_ _) | (with_reducible refine Below.drew ?_) | (with_reducible refine below_drewN ?_ _) | (with_reducible refine below_via (by with_reducible assumption) ?_ ?_) | go_size)⟩
theorem Out8.there {w : World} {b : Nat} (h : Out8 w b) : w.there b 0 8 := fun j hj => by
  have := h.2 j hj
  rw [Nat.zero_add]
  exact ⟨by rw [this.1]; rfl, this.2⟩
theorem below_setCells {B b : Nat} : ∀ (vs : List Value) (o : Nat) {w w' : World}, Below B w w' → B ≤ b → Below B w (w'.setCells b o vs)
  | [], _, _, _, h, _ => h
  | v :: r, o, _, _, h, hB => by
    rw [World.setCells]
    exact below_setCells r (o + 1) (h.setCell hB v) hB
theorem infoQuad : (Try.prog.info? 44).map (·.size) = some 8 := by kernel_rfl
theorem quad_cells {w w' : World} {b : Nat} {v0 v1 v2 v3 v4 v5 v6 v7 : Value} (h : w.there b 0 8) (hw : w.setCells b 0 [v0, v1, v2, v3, v4, v5, v6, v7] = w') :
    w'.cell? ⟨b, 0, none⟩ = some v0 ∧ w'.cell? ⟨b, 1, none⟩ = some v1 ∧ w'.cell? ⟨b, 2, none⟩ = some v2 ∧ w'.cell? ⟨b, 3, none⟩ = some v3 ∧ w'.cell? ⟨b, 4, none⟩ = some v4 ∧ w'.cell? ⟨b, 5, none⟩ = some v5 ∧ w'.cell? ⟨b, 6, none⟩ = some v6 ∧ w'.cell? ⟨b, 7, none⟩ = some v7 := by
  subst hw
  have H := World.rangeAt_setCells_same w b 0 [v0, v1, v2, v3, v4, v5, v6, v7] h
  exact ⟨H 0 _ rfl, H 1 _ rfl, H 2 _ rfl, H 3 _ rfl, H 4 _ rfl, H 5 _ rfl, H 6 _ rfl, H 7 _ rfl⟩
theorem ld_quad {ops : Array Oper} {rest : List Oper} {op : Oper} {a : Act} {w : World} {Q : Exit → Act → World → Prop} (hgd : op.guard = none) (x : Operand) (ho : op.op = .load 44 x)
    (b : Nat) (hx : a.eval x = .pointer (some ⟨b, 0, none⟩)) (cs : List Value) (hl : cs.length = 8) (hc : w.rangeAt b 0 cs)
    (h : wpList Try.prog ops Q rest (a.put op.dst (.agg cs.toArray)) w) : wpList Try.prog ops Q (op :: rest) a w :=
  wpList_load_mid hgd 44 x ho b 0 hx cs _ hc Try.underlying44 rfl (by rw [hl]; exact infoQuad) h
/-- A quad's cells, whole. -/
def Q8 (w : World) (g : Nat) (a1 a2 a3 a4 a5 a6 a7 a8 : Int) : Prop := g < w.heap.size ∧ w.rangeAt g 0 [.int .i64 a1, .int .i64 a2, .int .i64 a3, .int .i64 a4, .int .i64 a5, .int .i64 a6, .int .i64 a7, .int .i64 a8]
theorem Q8.keep {w w' : World} {g : Nat} {a1 a2 a3 a4 a5 a6 a7 a8 : Int} (h : Q8 w g a1 a2 a3 a4 a5 a6 a7 a8) (hb : Below w.heap.size w w') : Q8 w' g a1 a2 a3 a4 a5 a6 a7 a8 :=
  ⟨Nat.lt_of_lt_of_le h.1 hb.size, fun j v hv => (hb.cell (p := ⟨g, 0 + j, none⟩) h.1).trans (h.2 j v hv)⟩
theorem Q8.new (w : World) (t : TypeId) (a1 a2 a3 a4 a5 a6 a7 a8 : Int) : Q8 (w.alloc (.cells #[.int .i64 a1, .int .i64 a2, .int .i64 a3, .int .i64 a4, .int .i64 a5, .int .i64 a6, .int .i64 a7, .int .i64 a8] t)) w.heap.size a1 a2 a3 a4 a5 a6 a7 a8 :=
  ⟨by simp, fun j v hv => by
    rw [cell_of_row _ _ _ _ t (0, 0) (heap_alloc_new w _), Nat.zero_add]
    simpa using hv⟩
set_option maxHeartbeats 4000000 in
theorem iDarkBox_none (r0 c0 : Int) (a : Option Addr) (n cp : Nat) (zs : List Int) (w : World) (h : Rd w a n zs) (hn : n ≤ 1048576) (hr : gridB r0 c0 n zs = true) (t b l r : Int) (hs : boxS zs r0.toNat c0.toNat n = (t, b, l, r)) (hb0 : b < 0) (a1 a2 a3 a4 a5 a6 a7 a8 code : Int) (hd : dbOut r0 c0 n zs = (a1, a2, a3, a4, a5, a6, a7, a8, code)) :
    Calls Try.prog 31 #[.agg #[.int .i64 r0, .int .i64 c0, .slice a n cp]] w fun e w' => e = .returned (.tuple #[.agg #[.int .i64 a1, .int .i64 a2, .int .i64 a3, .int .i64 a4, .int .i64 a5, .int .i64 a6, .int .i64 a7, .int .i64 a8], .int .i64 code]) ∧ Below w.heap.size w w' := by
  have HH := Lib.hid h
  have HL := Lib.hid h.1
  clear h
  have HD := Lib.hid hd
  clear hd
  obtain ⟨g1, g2, g3, g4, g5, g6, g7, g8⟩ := gridB_yes hr
  obtain ⟨rows, rfl⟩ := Int.eq_ofNat_of_zero_le (show 0 ≤ r0 by omega)
  obtain ⟨cols, rfl⟩ := Int.eq_ofNat_of_zero_le (show 0 ≤ c0 by omega)
  have hnn : n = rows * cols := by
    have : ((rows : Int) * (cols : Int)) = ((rows * cols : Nat) : Int) := by simp
    omega
  have hn4 : n ≤ 40000 := by
    have : ((rows : Int) * (cols : Int)) = ((rows * cols : Nat) : Int) := by simp
    omega
  have hp : 0 < n := by omega
  have HR := Lib.hid hr
  have HI := Lib.hid (fun (k : Nat) (hk : k ≤ n) (t b l r0 : Int) (hs : boxS zs rows cols k = (t, b, l, r)) => boxS_inv zs rows cols (by omega) k (by omega) hs)
  have HNN := Lib.hid hnn
  clear g5 g6 g7 g8 hnn
  simp only [Int.toNat_natCast] at hs
  obtain ⟨⟨t1, t2, t3, t4⟩, ⟨t5, t6, t7, t8⟩, t9⟩ := HI.out n (Nat.le_refl _) t b l r hs
  have HS := Lib.hid hs
  clear hs
  have hB3 := Lib.hid (Box3.new w 28 (.int .i64 (rows : Int)) (.int .i64 (cols : Int)) (.slice a n cp))
  have bO := Lib.hid (Out8.new (w.alloc (.cells #[.int .i64 (rows : Int), .int .i64 (cols : Int), .slice a n cp] 28)) 44)
  go_enter Try.func31, Try.ntmps31
  go_wp2_with fail
  refine (iIsGrid (rows : Int) (cols : Int) a n cp zs _ (HH.out.below (by repeat' (first | (with_reducible exact Below.refl _ _) | (with_reducible assumption) | (with_reducible refine Below.alloc ?_ ?_ _) | (with_reducible refine Below.setCell ?_ ?_ _) | (with_reducible refine Below.drew ?_) | (with_reducible refine below_drewN ?_ _) | (with_reducible refine below_via (by with_reducible assumption) ?_ ?_) | go_size))) hn).mono ?_
  rintro e w1 ⟨rfl, hb1⟩
  have hz1 := hb1.size; try simp at hz1
  obtain ⟨_, _, _, _⟩ := (hB3.out.keep (by repeat' (first | (with_reducible exact Below.refl _ _) | (with_reducible assumption) | (with_reducible refine Below.alloc ?_ ?_ _) | (with_reducible refine Below.setCell ?_ ?_ _) | (with_reducible refine Below.drew ?_) | (with_reducible refine below_drewN ?_ _) | (with_reducible refine below_via (by with_reducible assumption) ?_ ?_) | go_size)) : Box3 w1 _ _ _ _)
  rw [hr]
  clear hr
  go_wp2_with fail
  refine (iDarkBoxL_no rows cols a n cp zs _ (HH.out.below (by repeat' (first | (with_reducible exact Below.refl _ _) | (with_reducible assumption) | (with_reducible refine Below.alloc ?_ ?_ _) | (with_reducible refine Below.setCell ?_ ?_ _) | (with_reducible refine Below.drew ?_) | (with_reducible refine below_drewN ?_ _) | (with_reducible refine below_via (by with_reducible assumption) ?_ ?_) | go_size))) hn HR.out t b l r HS.out hb0).mono ?_
  rintro e w2 ⟨rfl, hb2⟩
  have hz2 := hb2.size
  have o1 := bO.out.keep (by repeat' (first | (with_reducible exact Below.refl _ _) | (with_reducible assumption) | (with_reducible refine Below.alloc ?_ ?_ _) | (with_reducible refine Below.setCell ?_ ?_ _) | (with_reducible refine Below.drew ?_) | (with_reducible refine below_drewN ?_ _) | (with_reducible refine below_via (by with_reducible assumption) ?_ ?_) | go_size) : Below _ _ w2)
  simp only [World.size_alloc] at o1
  have HO := Lib.hid o1
  have oz := o1.1
  clear o1
  have HE := Lib.hid (dbOut_none HR.out HS.out hb0)
  go_wp2_with ((with_reducible refine wpList_store_mid ?_ 44 (.tmp 2) (.tmp 17) ?_ (w.heap.size + 1) 0 #[.int .i64 0, .int .i64 0, .int .i64 0, .int .i64 0, .int .i64 0, .int .i64 0, .int .i64 0, .int .i64 0] ?_ ?_ ?_ ?_ ?_ ?_); exact rfl; exact rfl; exact rfl; exact rfl; exact Out8.there (HO.out.keep (by repeat' (first | (with_reducible exact Below.refl _ _) | (with_reducible assumption) | (with_reducible refine Below.alloc ?_ ?_ _) | (with_reducible refine Below.setCell ?_ ?_ _) | (with_reducible refine Below.drew ?_) | (with_reducible refine below_drewN ?_ _) | (with_reducible refine below_via (by with_reducible assumption) ?_ ?_) | go_size))); exact infoQuad; (simp [Value.oneCell']); generalize hW3 : World.setCells _ _ _ _ = W3; have HW3 := Lib.hid hW3; clear hW3)
  have hT : World.there (w2.alloc (.cells #[.int .i64 0, .int .i64 0, .int .i64 0, .int .i64 0, .int .i64 0, .int .i64 0, .int .i64 0, .int .i64 0] 44)) (w.heap.size + 1) 0 8 := Out8.there (HO.out.keep (by repeat' (first | (with_reducible exact Below.refl _ _) | (with_reducible assumption) | (with_reducible refine Below.alloc ?_ ?_ _) | (with_reducible refine Below.setCell ?_ ?_ _) | (with_reducible refine Below.drew ?_) | (with_reducible refine below_drewN ?_ _) | (with_reducible refine below_via (by with_reducible assumption) ?_ ?_) | go_size)))
  obtain ⟨c0, c1, c2, c3, c4, c5, c6, c7⟩ := quad_cells hT HW3.out
  refine bodyPost_ret (v := .tuple #[.agg #[.int .i64 0, .int .i64 0, .int .i64 0, .int .i64 0, .int .i64 0, .int .i64 0, .int .i64 0, .int .i64 0], .int .i64 4]) (by simp [results, Try.results31, go_sem, c0, c1, c2, c3, c4, c5, c6, c7]) rfl ?_
  refine ⟨ret_quad (HE.out.symm.trans HD.out), ?_⟩
  have hB : Below w.heap.size w (w2.alloc (.cells #[.int .i64 0, .int .i64 0, .int .i64 0, .int .i64 0, .int .i64 0, .int .i64 0, .int .i64 0, .int .i64 0] 44)) := by repeat' (first | (with_reducible exact Below.refl _ _) | (with_reducible assumption) | (with_reducible refine Below.alloc ?_ ?_ _) | (with_reducible refine Below.setCell ?_ ?_ _) | (with_reducible refine Below.drew ?_) | (with_reducible refine below_drewN ?_ _) | (with_reducible refine below_via (by with_reducible assumption) ?_ ?_) | go_size)
  have hB3 := below_setCells [.int .i64 0, .int .i64 0, .int .i64 0, .int .i64 0, .int .i64 0, .int .i64 0, .int .i64 0, .int .i64 0] 0 hB (show w.heap.size ≤ w.heap.size + 1 by omega)
  have e3 : World.setCells (w2.alloc (.cells #[.int .i64 0, .int .i64 0, .int .i64 0, .int .i64 0, .int .i64 0, .int .i64 0, .int .i64 0, .int .i64 0] 44)) (w.heap.size + 1) 0 [.int .i64 0, .int .i64 0, .int .i64 0, .int .i64 0, .int .i64 0, .int .i64 0, .int .i64 0, .int .i64 0] = W3 := HW3.out
  rw [e3] at hB3
  exact hB3
set_option maxHeartbeats 4000000 in
theorem iDarkBox_far (r0 c0 : Int) (a : Option Addr) (n cp : Nat) (zs : List Int) (w : World) (h : Rd w a n zs) (hn : n ≤ 1048576) (hr : gridB r0 c0 n zs = true) (t b l r : Int) (hs : boxS zs r0.toNat c0.toNat n = (t, b, l, r)) (hb0 : ¬ b < 0) (hf : 4000 < 2 * (r + 1) ∨ 4000 < 2 * (b + 1)) (a1 a2 a3 a4 a5 a6 a7 a8 code : Int) (hd : dbOut r0 c0 n zs = (a1, a2, a3, a4, a5, a6, a7, a8, code)) :
    Calls Try.prog 31 #[.agg #[.int .i64 r0, .int .i64 c0, .slice a n cp]] w fun e w' => e = .returned (.tuple #[.agg #[.int .i64 a1, .int .i64 a2, .int .i64 a3, .int .i64 a4, .int .i64 a5, .int .i64 a6, .int .i64 a7, .int .i64 a8], .int .i64 code]) ∧ Below w.heap.size w w' := by
  have HH := Lib.hid h
  have HL := Lib.hid h.1
  clear h
  have HD := Lib.hid hd
  clear hd
  obtain ⟨g1, g2, g3, g4, g5, g6, g7, g8⟩ := gridB_yes hr
  obtain ⟨rows, rfl⟩ := Int.eq_ofNat_of_zero_le (show 0 ≤ r0 by omega)
  obtain ⟨cols, rfl⟩ := Int.eq_ofNat_of_zero_le (show 0 ≤ c0 by omega)
  have hnn : n = rows * cols := by
    have : ((rows : Int) * (cols : Int)) = ((rows * cols : Nat) : Int) := by simp
    omega
  have hn4 : n ≤ 40000 := by
    have : ((rows : Int) * (cols : Int)) = ((rows * cols : Nat) : Int) := by simp
    omega
  have hp : 0 < n := by omega
  have HR := Lib.hid hr
  have HI := Lib.hid (fun (k : Nat) (hk : k ≤ n) (t b l r0 : Int) (hs : boxS zs rows cols k = (t, b, l, r)) => boxS_inv zs rows cols (by omega) k (by omega) hs)
  have HNN := Lib.hid hnn
  clear g5 g6 g7 g8 hnn
  simp only [Int.toNat_natCast] at hs
  obtain ⟨⟨t1, t2, t3, t4⟩, ⟨t5, t6, t7, t8⟩, t9⟩ := HI.out n (Nat.le_refl _) t b l r hs
  have HS := Lib.hid hs
  clear hs
  have HSP : Hid (spots4B (2 * l) (2 * t) (2 * r + 2) (2 * t) (2 * r + 2) (2 * b + 2) (2 * l) (2 * b + 2) = false) := by
    have := spots4_box (t := t) (b := b) (l := l) (r := r) t1 (by omega) t5 (by omega)
    unfold Hid
    rw [Bool.eq_false_iff]
    intro h
    exact this.1 h hf
  have HE := Lib.hid (dbOut_far HR.out HS.out hb0 hf)
  clear hf
  have hB3 := Lib.hid (Box3.new w 28 (.int .i64 (rows : Int)) (.int .i64 (cols : Int)) (.slice a n cp))
  have bO := Lib.hid (Out8.new (w.alloc (.cells #[.int .i64 (rows : Int), .int .i64 (cols : Int), .slice a n cp] 28)) 44)
  go_enter Try.func31, Try.ntmps31
  go_wp2_with fail
  refine (iIsGrid (rows : Int) (cols : Int) a n cp zs _ (HH.out.below (by repeat' (first | (with_reducible exact Below.refl _ _) | (with_reducible assumption) | (with_reducible refine Below.alloc ?_ ?_ _) | (with_reducible refine Below.setCell ?_ ?_ _) | (with_reducible refine Below.drew ?_) | (with_reducible refine below_drewN ?_ _) | (with_reducible refine below_via (by with_reducible assumption) ?_ ?_) | go_size))) hn).mono ?_
  rintro e w1 ⟨rfl, hb1⟩
  have hz1 := hb1.size; try simp at hz1
  obtain ⟨_, _, _, _⟩ := (hB3.out.keep (by repeat' (first | (with_reducible exact Below.refl _ _) | (with_reducible assumption) | (with_reducible refine Below.alloc ?_ ?_ _) | (with_reducible refine Below.setCell ?_ ?_ _) | (with_reducible refine Below.drew ?_) | (with_reducible refine below_drewN ?_ _) | (with_reducible refine below_via (by with_reducible assumption) ?_ ?_) | go_size)) : Box3 w1 _ _ _ _)
  rw [hr]
  clear hr
  go_wp2_with fail
  refine (iDarkBoxL_ok rows cols a n cp zs _ (HH.out.below (by repeat' (first | (with_reducible exact Below.refl _ _) | (with_reducible assumption) | (with_reducible refine Below.alloc ?_ ?_ _) | (with_reducible refine Below.setCell ?_ ?_ _) | (with_reducible refine Below.drew ?_) | (with_reducible refine below_drewN ?_ _) | (with_reducible refine below_via (by with_reducible assumption) ?_ ?_) | go_size))) hn HR.out t b l r HS.out (by omega)).mono ?_
  rintro e w2 ⟨rfl, hb2⟩
  have hz2 := hb2.size
  have o1 := bO.out.keep (by repeat' (first | (with_reducible exact Below.refl _ _) | (with_reducible assumption) | (with_reducible refine Below.alloc ?_ ?_ _) | (with_reducible refine Below.setCell ?_ ?_ _) | (with_reducible refine Below.drew ?_) | (with_reducible refine below_drewN ?_ _) | (with_reducible refine below_via (by with_reducible assumption) ?_ ?_) | go_size) : Below _ _ w2)
  simp only [World.size_alloc] at o1
  have HO := Lib.hid o1
  have oz := o1.1
  clear o1
  have bQ := Lib.hid (Q8.new w2 44 (2 * l) (2 * t) (2 * r + 2) (2 * t) (2 * r + 2) (2 * b + 2) (2 * l) (2 * b + 2))
  go_wp2_with fail
  go_call (iSpots4 _ (2 * l) (2 * t) (2 * r + 2) (2 * t) (2 * r + 2) (2 * b + 2) (2 * l) (2 * b + 2) _) as e w3 ⟨rfl, hb3⟩
  have hz3 := hb3.size
  simp at hz3
  rw [HSP.out]
  go_wp2_with ((with_reducible refine wpList_store_mid ?_ 44 (.tmp 2) (.tmp 29) ?_ (w.heap.size + 1) 0 #[.int .i64 0, .int .i64 0, .int .i64 0, .int .i64 0, .int .i64 0, .int .i64 0, .int .i64 0, .int .i64 0] ?_ ?_ ?_ ?_ ?_ ?_); exact rfl; exact rfl; exact rfl; exact rfl; exact Out8.there (HO.out.keep (by repeat' (first | (with_reducible exact Below.refl _ _) | (with_reducible assumption) | (with_reducible refine Below.alloc ?_ ?_ _) | (with_reducible refine Below.setCell ?_ ?_ _) | (with_reducible refine Below.drew ?_) | (with_reducible refine below_drewN ?_ _) | (with_reducible refine below_via (by with_reducible assumption) ?_ ?_) | go_size))); exact infoQuad; (simp [Value.oneCell']); generalize hW3 : World.setCells _ _ _ _ = W3; have HW3 := Lib.hid hW3; clear hW3)
  have hT : World.there w3 (w.heap.size + 1) 0 8 := Out8.there (HO.out.keep (by repeat' (first | (with_reducible exact Below.refl _ _) | (with_reducible assumption) | (with_reducible refine Below.alloc ?_ ?_ _) | (with_reducible refine Below.setCell ?_ ?_ _) | (with_reducible refine Below.drew ?_) | (with_reducible refine below_drewN ?_ _) | (with_reducible refine below_via (by with_reducible assumption) ?_ ?_) | go_size)))
  obtain ⟨c0, c1, c2, c3, c4, c5, c6, c7⟩ := quad_cells hT HW3.out
  refine bodyPost_ret (v := .tuple #[.agg #[.int .i64 0, .int .i64 0, .int .i64 0, .int .i64 0, .int .i64 0, .int .i64 0, .int .i64 0, .int .i64 0], .int .i64 3]) (by simp [results, Try.results31, go_sem, c0, c1, c2, c3, c4, c5, c6, c7]) rfl ?_
  refine ⟨ret_quad (HE.out.symm.trans HD.out), ?_⟩
  have hB : Below w.heap.size w w3 := by repeat' (first | (with_reducible exact Below.refl _ _) | (with_reducible assumption) | (with_reducible refine Below.alloc ?_ ?_ _) | (with_reducible refine Below.setCell ?_ ?_ _) | (with_reducible refine Below.drew ?_) | (with_reducible refine below_drewN ?_ _) | (with_reducible refine below_via (by with_reducible assumption) ?_ ?_) | go_size)
  have hB3 := below_setCells [.int .i64 0, .int .i64 0, .int .i64 0, .int .i64 0, .int .i64 0, .int .i64 0, .int .i64 0, .int .i64 0] 0 hB (show w.heap.size ≤ w.heap.size + 1 by omega)
  have e3 : World.setCells w3 (w.heap.size + 1) 0 [.int .i64 0, .int .i64 0, .int .i64 0, .int .i64 0, .int .i64 0, .int .i64 0, .int .i64 0, .int .i64 0] = W3 := HW3.out
  rw [e3] at hB3
  exact hB3
set_option maxHeartbeats 4000000 in
theorem iDarkBox_ok (r0 c0 : Int) (a : Option Addr) (n cp : Nat) (zs : List Int) (w : World) (h : Rd w a n zs) (hn : n ≤ 1048576) (hr : gridB r0 c0 n zs = true) (t b l r : Int) (hs : boxS zs r0.toNat c0.toNat n = (t, b, l, r)) (hb0 : ¬ b < 0) (hf : ¬ (4000 < 2 * (r + 1) ∨ 4000 < 2 * (b + 1))) (a1 a2 a3 a4 a5 a6 a7 a8 code : Int) (hd : dbOut r0 c0 n zs = (a1, a2, a3, a4, a5, a6, a7, a8, code)) :
    Calls Try.prog 31 #[.agg #[.int .i64 r0, .int .i64 c0, .slice a n cp]] w fun e w' => e = .returned (.tuple #[.agg #[.int .i64 a1, .int .i64 a2, .int .i64 a3, .int .i64 a4, .int .i64 a5, .int .i64 a6, .int .i64 a7, .int .i64 a8], .int .i64 code]) ∧ Below w.heap.size w w' := by
  have HH := Lib.hid h
  have HL := Lib.hid h.1
  clear h
  have HD := Lib.hid hd
  clear hd
  obtain ⟨g1, g2, g3, g4, g5, g6, g7, g8⟩ := gridB_yes hr
  obtain ⟨rows, rfl⟩ := Int.eq_ofNat_of_zero_le (show 0 ≤ r0 by omega)
  obtain ⟨cols, rfl⟩ := Int.eq_ofNat_of_zero_le (show 0 ≤ c0 by omega)
  have hnn : n = rows * cols := by
    have : ((rows : Int) * (cols : Int)) = ((rows * cols : Nat) : Int) := by simp
    omega
  have hn4 : n ≤ 40000 := by
    have : ((rows : Int) * (cols : Int)) = ((rows * cols : Nat) : Int) := by simp
    omega
  have hp : 0 < n := by omega
  have HR := Lib.hid hr
  have HI := Lib.hid (fun (k : Nat) (hk : k ≤ n) (t b l r0 : Int) (hs : boxS zs rows cols k = (t, b, l, r)) => boxS_inv zs rows cols (by omega) k (by omega) hs)
  have HNN := Lib.hid hnn
  clear g5 g6 g7 g8 hnn
  simp only [Int.toNat_natCast] at hs
  obtain ⟨⟨t1, t2, t3, t4⟩, ⟨t5, t6, t7, t8⟩, t9⟩ := HI.out n (Nat.le_refl _) t b l r hs
  have HS := Lib.hid hs
  clear hs
  have HSP : Hid (spots4B (2 * l) (2 * t) (2 * r + 2) (2 * t) (2 * r + 2) (2 * b + 2) (2 * l) (2 * b + 2) = true) :=
    (spots4_box (t := t) (b := b) (l := l) (r := r) t1 (by omega) t5 (by omega)).2 hf
  have HE := Lib.hid (dbOut_ok HR.out HS.out hb0 hf)
  clear hf
  have hB3 := Lib.hid (Box3.new w 28 (.int .i64 (rows : Int)) (.int .i64 (cols : Int)) (.slice a n cp))
  have bO := Lib.hid (Out8.new (w.alloc (.cells #[.int .i64 (rows : Int), .int .i64 (cols : Int), .slice a n cp] 28)) 44)
  go_enter Try.func31, Try.ntmps31
  go_wp2_with fail
  refine (iIsGrid (rows : Int) (cols : Int) a n cp zs _ (HH.out.below (by repeat' (first | (with_reducible exact Below.refl _ _) | (with_reducible assumption) | (with_reducible refine Below.alloc ?_ ?_ _) | (with_reducible refine Below.setCell ?_ ?_ _) | (with_reducible refine Below.drew ?_) | (with_reducible refine below_drewN ?_ _) | (with_reducible refine below_via (by with_reducible assumption) ?_ ?_) | go_size))) hn).mono ?_
  rintro e w1 ⟨rfl, hb1⟩
  have hz1 := hb1.size; try simp at hz1
  obtain ⟨_, _, _, _⟩ := (hB3.out.keep (by repeat' (first | (with_reducible exact Below.refl _ _) | (with_reducible assumption) | (with_reducible refine Below.alloc ?_ ?_ _) | (with_reducible refine Below.setCell ?_ ?_ _) | (with_reducible refine Below.drew ?_) | (with_reducible refine below_drewN ?_ _) | (with_reducible refine below_via (by with_reducible assumption) ?_ ?_) | go_size)) : Box3 w1 _ _ _ _)
  rw [hr]
  clear hr
  go_wp2_with fail
  refine (iDarkBoxL_ok rows cols a n cp zs _ (HH.out.below (by repeat' (first | (with_reducible exact Below.refl _ _) | (with_reducible assumption) | (with_reducible refine Below.alloc ?_ ?_ _) | (with_reducible refine Below.setCell ?_ ?_ _) | (with_reducible refine Below.drew ?_) | (with_reducible refine below_drewN ?_ _) | (with_reducible refine below_via (by with_reducible assumption) ?_ ?_) | go_size))) hn HR.out t b l r HS.out (by omega)).mono ?_
  rintro e w2 ⟨rfl, hb2⟩
  have hz2 := hb2.size
  have o1 := bO.out.keep (by repeat' (first | (with_reducible exact Below.refl _ _) | (with_reducible assumption) | (with_reducible refine Below.alloc ?_ ?_ _) | (with_reducible refine Below.setCell ?_ ?_ _) | (with_reducible refine Below.drew ?_) | (with_reducible refine below_drewN ?_ _) | (with_reducible refine below_via (by with_reducible assumption) ?_ ?_) | go_size) : Below _ _ w2)
  simp only [World.size_alloc] at o1
  have HO := Lib.hid o1
  have oz := o1.1
  clear o1
  have bQ := Lib.hid (Q8.new w2 44 (2 * l) (2 * t) (2 * r + 2) (2 * t) (2 * r + 2) (2 * b + 2) (2 * l) (2 * b + 2))
  go_wp2_with fail
  go_call (iSpots4 _ (2 * l) (2 * t) (2 * r + 2) (2 * t) (2 * r + 2) (2 * b + 2) (2 * l) (2 * b + 2) _) as e w3 ⟨rfl, hb3⟩
  have hz3 := hb3.size
  simp at hz3
  rw [HSP.out]
  go_wp2_with (first | ((with_reducible refine wpList_store_mid ?_ 44 (.tmp 2) (.tmp 30) ?_ (w.heap.size + 1) 0 #[.int .i64 (2 * l), .int .i64 (2 * t), .int .i64 (2 * r + 2), .int .i64 (2 * t), .int .i64 (2 * r + 2), .int .i64 (2 * b + 2), .int .i64 (2 * l), .int .i64 (2 * b + 2)] ?_ ?_ ?_ ?_ ?_ ?_); exact rfl; exact rfl; exact rfl; exact rfl; exact Out8.there (HO.out.keep (by repeat' (first | (with_reducible exact Below.refl _ _) | (with_reducible assumption) | (with_reducible refine Below.alloc ?_ ?_ _) | (with_reducible refine Below.setCell ?_ ?_ _) | (with_reducible refine Below.drew ?_) | (with_reducible refine below_drewN ?_ _) | (with_reducible refine below_via (by with_reducible assumption) ?_ ?_) | go_size))); exact infoQuad; (simp [Value.oneCell']); generalize hW3 : World.setCells _ _ _ _ = W3; have HW3 := Lib.hid hW3; clear hW3) | ((with_reducible refine ld_quad ?_ (.tmp 4) ?_ w2.heap.size ?_ [.int .i64 (2 * l), .int .i64 (2 * t), .int .i64 (2 * r + 2), .int .i64 (2 * t), .int .i64 (2 * r + 2), .int .i64 (2 * b + 2), .int .i64 (2 * l), .int .i64 (2 * b + 2)] ?_ ?_ ?_); exact rfl; exact rfl; exact rfl; exact rfl; exact (bQ.out.keep (by repeat' (first | (with_reducible exact Below.refl _ _) | (with_reducible assumption) | (with_reducible refine Below.alloc ?_ ?_ _) | (with_reducible refine Below.setCell ?_ ?_ _) | (with_reducible refine Below.drew ?_) | (with_reducible refine below_drewN ?_ _) | (with_reducible refine below_via (by with_reducible assumption) ?_ ?_) | go_size))).2))
  have hT : World.there w3 (w.heap.size + 1) 0 8 := Out8.there (HO.out.keep (by repeat' (first | (with_reducible exact Below.refl _ _) | (with_reducible assumption) | (with_reducible refine Below.alloc ?_ ?_ _) | (with_reducible refine Below.setCell ?_ ?_ _) | (with_reducible refine Below.drew ?_) | (with_reducible refine below_drewN ?_ _) | (with_reducible refine below_via (by with_reducible assumption) ?_ ?_) | go_size)))
  obtain ⟨c0, c1, c2, c3, c4, c5, c6, c7⟩ := quad_cells hT HW3.out
  refine bodyPost_ret (v := .tuple #[.agg #[.int .i64 (2 * l), .int .i64 (2 * t), .int .i64 (2 * r + 2), .int .i64 (2 * t), .int .i64 (2 * r + 2), .int .i64 (2 * b + 2), .int .i64 (2 * l), .int .i64 (2 * b + 2)], .int .i64 0]) (by simp [results, Try.results31, go_sem, c0, c1, c2, c3, c4, c5, c6, c7]) rfl ?_
  refine ⟨ret_quad (by rw [show 2 * r + 2 = 2 * (r + 1) by omega, show 2 * b + 2 = 2 * (b + 1) by omega]; exact HE.out.symm.trans HD.out), ?_⟩
  have hB : Below w.heap.size w w3 := by repeat' (first | (with_reducible exact Below.refl _ _) | (with_reducible assumption) | (with_reducible refine Below.alloc ?_ ?_ _) | (with_reducible refine Below.setCell ?_ ?_ _) | (with_reducible refine Below.drew ?_) | (with_reducible refine below_drewN ?_ _) | (with_reducible refine below_via (by with_reducible assumption) ?_ ?_) | go_size)
  have hB3 := below_setCells [.int .i64 (2 * l), .int .i64 (2 * t), .int .i64 (2 * r + 2), .int .i64 (2 * t), .int .i64 (2 * r + 2), .int .i64 (2 * b + 2), .int .i64 (2 * l), .int .i64 (2 * b + 2)] 0 hB (show w.heap.size ≤ w.heap.size + 1 by omega)
  have e3 : World.setCells w3 (w.heap.size + 1) 0 [.int .i64 (2 * l), .int .i64 (2 * t), .int .i64 (2 * r + 2), .int .i64 (2 * t), .int .i64 (2 * r + 2), .int .i64 (2 * b + 2), .int .i64 (2 * l), .int .i64 (2 * b + 2)] = W3 := HW3.out
  rw [e3] at hB3
  exact hB3
end Go.Proofs.Ytbcbdphnbfjhoaa
