/-
  DERIVED. PasteRaster: the contract of impl.
-/
import Derived.Test.YtdbecdgiafjkfaaPaste
import Derived.IntWalk
namespace Go.Proofs.Ytdbecdgiafjkfaa
open Go.RowKit
set_option linter.unusedVariables false
/-- A copy into a row that is known whole, in a region that draws its order: the world behind it is told. -/
theorem step_copy_row {P : Program} {ops : Array Oper} {o : Oper} {a : Act} {w : World} {K : Act → World → Prop} {Q : Exit → Act → World → Prop} {E : Prop} (hgd : o.guard = none) (d s : Operand) (dT sT : TypeId)
    (ho : o.op = .call { callee := .builtin .copy, args := #[d, s], argTypes := #[dT, sT] }) (elem : TypeId) (hu : P.underlying dT = some (.slice elem)) (hsz : (P.info? elem).map (·.size) = some 1)
    (g off dLen dCap : Nat) (ad : Addr) (sLen sCap : Nat) (hd : a.eval d = .slice (some ⟨g, off, none⟩) dLen dCap) (hs : a.eval s = .slice (some ad) sLen sCap)
    (cur : List Value) (t : TypeId) (hg : w.heap[g]? = some (.cells cur.toArray t (0, 0))) (cs : List Value) (hn : cs.length = Nat.min sLen dLen)
    (hsrc : ∀ j v, cs[j]? = some v → w.cell? (ad.add j) = some v) (hfit : off + cs.length ≤ cur.length) (h1 : ∀ v ∈ cs, v.oneCell' = true)
    (h : K (a.put o.dst (goInt cs.length)) (w.setRow g (splice cur off cs).toArray)) :
    if Region.wanted o (yielded ops a.tmps) = true then Oper.wp P o a w K Q else E := by
  have hw : Region.wanted o (yielded ops a.tmps) = true := by simp [Region.wanted, hgd]
  rw [if_pos hw]
  have hrun := run_copy_row (P := P) w dT sT o.type elem g off dLen dCap ad sLen sCap cur.toArray t cs hu hsz hg hn hsrc (by simpa using hfit) h1
  unfold Oper.wp
  simp [execOp, ho, resolve, invoke, builtin, hd, hs, hrun, Result.andThen]
  simp only [splice] at h
  first | exact h | (rw [← List.append_assoc] at h; exact h) | (rw [List.append_assoc]; exact h)
theorem RowR.splice_ {w : World} {g : Nat} {L : List Int} {rest : List Value} (h : RowR w g L rest) (off : Nat) (cs : List Int) (hf : off + cs.length ≤ L.length) :
    RowR (w.setRow g (splice (L.map (Value.int .i64) ++ rest) off (cs.map (Value.int .i64))).toArray) g (splice L off cs) rest := by
  unfold RowR at h ⊢
  rw [setRow_heap w g _ _ _ _ h, splice_app _ _ _ _ (by simpa using hf), splice_map]
theorem Box3.setRow {w : World} {b g : Nat} {x y z : Value} (h : Box3 w b x y z) (hne : b ≠ g) (cs : Array Value) : Box3 (w.setRow g cs) b x y z := by
  have e : ∀ i, (w.setRow g cs).cell? ⟨b, i, none⟩ = w.cell? ⟨b, i, none⟩ := fun i => World.cell?_of_block (a := ⟨b, i, none⟩) (setRow_other w g b cs hne)
  exact ⟨by simpa [World.setRow] using h.1, (e 0).trans h.2.1, (e 1).trans h.2.2.1, (e 2).trans h.2.2.2⟩
theorem Box3.drew {w : World} {b : Nat} {x y z : Value} (h : Box3 w b x y z) : Box3 w.drew b x y z := h
theorem RowR.drew {w : World} {g : Nat} {L : List Int} {rest : List Value} (h : RowR w g L rest) : RowR w.drew g L rest := h
theorem row_news {w : World} {b off n q k R : Nat} {zq : List Int} (hl : zq.length = n) (hn : n = R * q) (hk : k < R) (hC : ∀ i, i < n → w.cell? ⟨b, off + i, none⟩ = some (.int .i64 (zq.getD i 0))) :
    ∀ j u, ((rowOf zq q k).map (Value.int .i64))[j]? = some u → w.cell? ((⟨b, off + k * q, none⟩ : Addr).add j) = some u := by
  intro j u hu
  have hlr := rowOf_length zq q k R (hl.trans hn) hk
  have hkq : (k + 1) * q ≤ R * q := Nat.mul_le_mul_right _ hk
  rw [Nat.add_mul, Nat.one_mul] at hkq
  rw [List.getElem?_map] at hu
  by_cases hj : j < q
  · have hg : (rowOf zq q k)[j]? = some (zq.getD (k * q + j) 0) := by
      rw [← rowOf_get zq q k j hj]
      simp [List.getD_eq_getElem?_getD, List.getElem?_eq_getElem (show j < (rowOf zq q k).length by omega)]
    rw [hg] at hu
    simp only [Option.map_some, Option.some.injEq] at hu
    rw [← hu, ← hC (k * q + j) (by omega)]
    by_cases h0 : j = 0 <;> simp [Addr.add, h0, Nat.add_assoc]
  · rw [List.getElem?_eq_none (by omega)] at hu
    simp at hu
set_option maxRecDepth 20000 in
set_option maxHeartbeats 4000000 in
theorem iPasteRaster_ok (r c r' c' : Int) (a a' : Option Addr) (n n' cp cp' : Nat) (zp zq : List Int) (y x : Int) (w : World) (h : Rd w a n zp) (h' : Rd w a' n' zq) (hn : n ≤ 1048576) (hn' : n' ≤ 1048576) (hcp' : n' ≤ cp') (hr : rasterB r c n zp = true) (hq : rasterB r' c' n' zq = true) (hw : withinB r c y x r' c' = true) :
    Calls Try.prog 15 #[.agg #[.int .i64 r, .int .i64 c, .slice a n cp], .agg #[.int .i64 r', .int .i64 c', .slice a' n' cp'], .int .i64 y, .int .i64 x] w (ResG w r c (pasteL zp zq c'.toNat (atP y.toNat x.toNat c.toNat) r'.toNat) 0) := by
  obtain ⟨r1, r2, r3, r4, r5, r6, r7, r8⟩ := rasterB_yes hr
  obtain ⟨s1, s2, s3, s4, s5, s6, s7, s8⟩ := rasterB_yes hq
  obtain ⟨q1, q2, q3, q4, q5, q6, q7, q8⟩ := withinB_iff.1 hw
  obtain ⟨rows, rfl⟩ := Int.eq_ofNat_of_zero_le (show 0 ≤ r by omega)
  obtain ⟨cols, rfl⟩ := Int.eq_ofNat_of_zero_le (show 0 ≤ c by omega)
  obtain ⟨R, rfl⟩ := Int.eq_ofNat_of_zero_le (show 0 ≤ r' by omega)
  obtain ⟨q, rfl⟩ := Int.eq_ofNat_of_zero_le (show 0 ≤ c' by omega)
  obtain ⟨y, rfl⟩ := Int.eq_ofNat_of_zero_le (show 0 ≤ y by omega)
  obtain ⟨x, rfl⟩ := Int.eq_ofNat_of_zero_le (show 0 ≤ x by omega)
  have hnn : n = rows * cols := by
    have : ((rows : Int) * (cols : Int)) = ((rows * cols : Nat) : Int) := by simp
    omega
  have hnq : n' = R * q := by
    have : ((R : Int) * (q : Int)) = ((R * q : Nat) : Int) := by simp
    omega
  have HNN := Lib.hid hnn
  have HNQ := Lib.hid hnq
  have HNI := Lib.hid r7
  simp only [Int.toNat_natCast]
  have hlen : (pasteL zp zq q (atP y x cols) R).length = n := by
    rw [pasteL_length zp zq q (atP y x cols) R (h'.1.trans hnq) (fun k hk => by rw [h.1, hnn]; exact atP_bd (by omega) (by omega) hk) R (Nat.le_refl _), h.1]
  have HLEN := Lib.hid hlen
  clear r5 r6 r7 r8 s5 s6 s7 s8 hnn hnq hlen
  have HH := Lib.hid h
  have HH' := Lib.hid h'
  have HPB := Lib.hid (pb_new rows cols R q a a' n n' cp cp' w)
  clear h h'
  go_enter Try.func15, Try.ntmps15
  go_wp2_with fail
  refine (iIsRaster rows cols a n cp zp _ (HH.out.below (by repeat' (first | (with_reducible exact Below.refl _ _) | (with_reducible assumption) | (with_reducible refine Below.alloc ?_ ?_ _) | (with_reducible refine Below.setCell ?_ ?_ _) | (with_reducible refine Below.drew ?_) | (with_reducible refine below_drewN ?_ _) | (with_reducible refine below_via (by with_reducible assumption) ?_ ?_) | go_size))) hn).mono ?_
  rintro e w1 ⟨rfl, hb1⟩
  have hz1 := hb1.size; try simp at hz1
  have P1 := Lib.hid (HPB.out w1 (by repeat' (first | (with_reducible exact Below.refl _ _) | (with_reducible assumption) | (with_reducible refine Below.alloc ?_ ?_ _) | (with_reducible refine Below.setCell ?_ ?_ _) | (with_reducible refine Below.drew ?_) | (with_reducible refine below_drewN ?_ _) | (with_reducible refine below_via (by with_reducible assumption) ?_ ?_) | go_size)))
  rw [hr]
  obtain ⟨⟨_, _, _, _⟩, ⟨_, _, _, _⟩, -, -, -⟩ := P1.out
  go_wp2_with fail
  refine (iIsRaster R q a' n' cp' zq _ (HH'.out.below (by repeat' (first | (with_reducible exact Below.refl _ _) | (with_reducible assumption) | (with_reducible refine Below.alloc ?_ ?_ _) | (with_reducible refine Below.setCell ?_ ?_ _) | (with_reducible refine Below.drew ?_) | (with_reducible refine below_drewN ?_ _) | (with_reducible refine below_via (by with_reducible assumption) ?_ ?_) | go_size))) hn').mono ?_
  rintro e w2 ⟨rfl, hb2⟩
  have hz2 := hb2.size; try simp at hz2
  have P2 := Lib.hid (P1.out.keep (by repeat' (first | (with_reducible exact Below.refl _ _) | (with_reducible assumption) | (with_reducible refine Below.alloc ?_ ?_ _) | (with_reducible refine Below.setCell ?_ ?_ _) | (with_reducible refine Below.drew ?_) | (with_reducible refine below_drewN ?_ _) | (with_reducible refine below_via (by with_reducible assumption) ?_ ?_) | go_size) : Below _ _ w2))
  rw [hq]
  obtain ⟨⟨_, _, _, _⟩, ⟨_, _, _, _⟩, -, -, -⟩ := P2.out
  go_wp2_with fail
  refine (iContains rows cols y x R q _ _ r1 r2 r3 r4).mono ?_
  rintro e w3 ⟨rfl, hb3⟩
  have hz3 := hb3.size; try simp at hz3
  have P3 := Lib.hid (P2.out.keep (by repeat' (first | (with_reducible exact Below.refl _ _) | (with_reducible assumption) | (with_reducible refine Below.alloc ?_ ?_ _) | (with_reducible refine Below.setCell ?_ ?_ _) | (with_reducible refine Below.drew ?_) | (with_reducible refine below_drewN ?_ _) | (with_reducible refine below_via (by with_reducible assumption) ?_ ?_) | go_size) : Below _ _ w3))
  rw [hw]
  obtain ⟨⟨_, _, _, _⟩, ⟨_, _, _, _⟩, -, -, -⟩ := P3.out
  clear hr hq hw
  go_wp2_with fail
  refine (iCopy rows cols a n cp zp _ (HH.out.below (by repeat' (first | (with_reducible exact Below.refl _ _) | (with_reducible assumption) | (with_reducible refine Below.alloc ?_ ?_ _) | (with_reducible refine Below.setCell ?_ ?_ _) | (with_reducible refine Below.drew ?_) | (with_reducible refine below_drewN ?_ _) | (with_reducible refine below_via (by with_reducible assumption) ?_ ?_) | go_size))) (by omega) (by omega) (by omega) (by omega) HNI.out).mono ?_
  rintro e W ⟨av, cv, rfl, ho, hbW⟩
  have hlz : zp.length = n := HH.out.1
  have hnp : 0 < n := by rw [HNN.out]; exact Nat.mul_pos (by omega) (by omega)
  have hn2 : n ≤ 160000 := by rw [HNN.out]; exact Nat.le_trans (Nat.mul_le_mul (show rows ≤ 400 by omega) (show cols ≤ 400 by omega)) (by decide)
  rw [hlz] at ho ⊢
  obtain ⟨g, rest, rfl, hgb, hrow, hcv, hcm, -⟩ := RowR.of_own ho hnp
  have hz3 := P3.out.2.2.2.2
  have hgW := hrow.lt
  have PW := P3.out.keep (by repeat' (first | (with_reducible exact Below.refl _ _) | (with_reducible assumption) | (with_reducible refine Below.alloc ?_ ?_ _) | (with_reducible refine Below.setCell ?_ ?_ _) | (with_reducible refine Below.drew ?_) | (with_reducible refine below_drewN ?_ _) | (with_reducible refine below_via (by with_reducible assumption) ?_ ?_) | go_size) : Below _ _ W)
  have hbW3 : Hid (Below w3.heap.size w3 W) := hbW
  clear ho hbW
  obtain ⟨⟨_, _, _, _⟩, ⟨_, _, _, _⟩, -, -, -⟩ := PW
  go_wp2
  obtain ⟨W1, hW1⟩ : ∃ W1, W1 = W.alloc (.cells #[.int .i64 rows, .int .i64 cols, .slice (some ⟨g, 0, none⟩) n cv] 26) := ⟨_, rfl⟩
  have HB10 : Hid (Box3 W1 W.heap.size (.int .i64 rows) (.int .i64 cols) (.slice (some ⟨g, 0, none⟩) n cv)) := by rw [hW1]; exact Box3.new _ _ _ _ _
  have HR1 : Hid (RowR W1 g (pasteL zp zq q (atP y x cols) 0) rest) := by rw [hW1]; exact hrow.keep (by repeat' (first | (with_reducible exact Below.refl _ _) | (with_reducible assumption) | (with_reducible refine Below.alloc ?_ ?_ _) | (with_reducible refine Below.setCell ?_ ?_ _) | (with_reducible refine Below.drew ?_) | (with_reducible refine below_drewN ?_ _) | (with_reducible refine below_via (by with_reducible assumption) ?_ ?_) | go_size))
  have HPB1 : Hid (PB w rows cols R q a a' n n' cp cp' W1) := by
    have hbW := hbW3.out
    rw [hW1]
    exact P3.out.keep (by repeat' (first | (with_reducible exact Below.refl _ _) | (with_reducible assumption) | (with_reducible refine Below.alloc ?_ ?_ _) | (with_reducible refine Below.setCell ?_ ?_ _) | (with_reducible refine Below.drew ?_) | (with_reducible refine below_drewN ?_ _) | (with_reducible refine below_via (by with_reducible assumption) ?_ ?_) | go_size))
  have hzW1 : W1.heap.size = W.heap.size + 1 := by rw [hW1]; simp
  rw [← hW1]
  clear hW1
  have hg3 : w.heap.size + 3 ≤ g := by omega
  have hg4 : g ≠ W.heap.size := by omega
  have HP : Hid (∀ wr, Below g W1 wr → PB w rows cols R q a a' n n' cp cp' wr) := fun wr hwr => HPB1.out.below hwr hg3
  obtain ⟨⟨_, _, _, _⟩, ⟨_, _, _, _⟩, -, -, -⟩ := HPB1.out
  have HL : Hid (∀ k, k ≤ R → (pasteL zp zq q (atP y x cols) k).length = n) := fun k hk => by
    rw [pasteL_length zp zq q (atP y x cols) R (HH'.out.1.trans HNQ.out) (fun k hk => by rw [hlz, HNN.out]; exact atP_bd (by omega) (by omega) hk) k hk, hlz]
  go_loopw [11] (fun i wr => ∃ k : Nat, k ≤ R ∧ i = .int .i64 k ∧ Hid (RowR wr g (pasteL zp zq q (atP y x cols) k) rest) ∧ Hid (Below g W1 wr) ∧ Hid (Box3 wr W.heap.size (.int .i64 rows) (.int .i64 cols) (.slice (some ⟨g, 0, none⟩) n cv))) (fun i _ => R - (intOf i).toNat)
  case atStart => exact ⟨0, Nat.zero_le _, rfl, HR1, Below.refl _ _, HB10⟩
  case round =>
    obtain ⟨k, hk, rfl, HRW, HBL, HBX⟩ := hrel
    have PK := Lib.hid (HP.out wr HBL.out)
    obtain ⟨⟨_, _, _, _⟩, ⟨_, _, _, _⟩, -, -, -⟩ := PK.out
    obtain ⟨_, x0, x1, x2⟩ := HBX.out
    by_cases hlt : k < R
    · have hbd := atP_bd (y := y) (x := x) (c := cols) (q := q) (r := rows) (by omega) (by omega) hlt
      rw [← HNN.out] at hbd
      have hrl : (rowOf zq q k).length = q := rowOf_length zq q k R (HH'.out.1.trans HNQ.out) hlt
      have hat : ((y : Int) + (k : Int)) * (cols : Int) = (((y + k) * cols : Nat) : Int) := by simp
      have hat2 : (k : Int) * (q : Int) = ((k * q : Nat) : Int) := by simp
      have hat3 : ((k : Int) + 1) * (q : Int) = ((k * q : Nat) : Int) + (q : Int) := by rw [Int.add_mul, Int.one_mul, hat2]
      have hkq : k * q + q ≤ n' := by
        have : (k + 1) * q ≤ R * q := Nat.mul_le_mul_right _ hlt
        rw [Nat.add_mul, Nat.one_mul] at this
        rw [HNQ.out]; exact this
      have hn3 : n' ≤ 160000 := by rw [HNQ.out]; exact Nat.le_trans (Nat.mul_le_mul (show R ≤ 400 by omega) (show q ≤ 400 by omega)) (by decide)
      obtain ⟨b, off, rfl, hb, hcell⟩ := ((HH'.out.below PK.out.2.2.2.1).2 (by omega) : ∃ b off, _)
      have HN := Lib.hid (row_news (w := wr) HH'.out.1 HNQ.out hlt hcell)
      unfold atP at hbd
      obtain ⟨m, hm⟩ : ∃ m : Nat, (y + k) * cols = m := ⟨_, rfl⟩
      obtain ⟨A, hA⟩ : ∃ A : Nat, m + x = A := ⟨_, rfl⟩
      obtain ⟨m', hm'⟩ : ∃ m' : Nat, k * q = m' := ⟨_, rfl⟩
      rw [hm] at hat hbd
      rw [hm'] at hat2 hat3 hkq HN
      have HNEXT : Hid (∀ X : World, X = wr.drew.setRow g (splice ((pasteL zp zq q (atP y x cols) k).map (Value.int .i64) ++ rest) (m + x) ((rowOf zq q k).map (Value.int .i64))).toArray →
          RowR X g (pasteL zp zq q (atP y x cols) (k + 1)) rest ∧ Below g W1 X ∧ Box3 X W.heap.size (.int .i64 rows) (.int .i64 cols) (.slice (some ⟨g, 0, none⟩) n cv)) := by
        rintro X rfl
        refine ⟨?_, below_setRow (HBL.out.drew) (Nat.le_refl _) _, HBX.out.drew.setRow (Ne.symm hg4) _⟩
        have e : atP y x cols k = m + x := by unfold atP; rw [hm]
        rw [pasteL, e]
        exact HRW.out.drew.splice_ (m + x) (rowOf zq q k) (by rw [HL.out k hk, hrl]; omega)
      have HROW : Hid (wr.drew.heap[g]? = some (.cells ((pasteL zp zq q (atP y x cols) k).map (Value.int .i64) ++ rest).toArray 2 (0, 0))) := HRW.out
      have HFIT : Hid (m + x + ((rowOf zq q k).map (Value.int .i64)).length ≤ ((pasteL zp zq q (atP y x cols) k).map (Value.int .i64) ++ rest).length) := by
        unfold Hid
        rw [List.length_map, hrl, List.length_append, List.length_map, HL.out k hk]
        omega
      have HLEN2 : Hid (((rowOf zq q k).map (Value.int .i64)).length = q) := by unfold Hid; rw [List.length_map, hrl]
      have hmx : (m : Int) + (x : Int) = (A : Int) := by omega
      rw [hA] at hbd HNEXT HFIT
      have t1 : ((m' : Int) + (q : Int)).toNat = m' + q := by omega
      have t2 : ((A : Int) + (q : Int)).toNat = A + q := by omega
      have q0 : ¬ q = 0 := by omega
      clear hm hm' hrl hcell
      have w0 : IntKind.i64.wrap (A : Int) = (A : Int) := IntWalk.i64_in _ (by omega)
      have w1 : IntKind.i64.wrap ((A : Int) + (q : Int)) = (A : Int) + (q : Int) := IntWalk.i64_in _ (by omega)
      have w2 : IntKind.i64.wrap (m' : Int) = (m' : Int) := IntWalk.i64_in _ (by omega)
      have w3 : IntKind.i64.wrap ((k : Int) + 1) = (k : Int) + 1 := IntWalk.i64_in _ (by omega)
      have w4 : IntKind.i64.wrap ((m' : Int) + (q : Int)) = (m' : Int) + (q : Int) := IntWalk.i64_in _ (by omega)
      have l1 : (0 : Int) ≤ (A : Int) := by omega
      have l2 : (A : Int) ≤ (A : Int) + (q : Int) := by omega
      have l3 : (A : Int) + (q : Int) ≤ (cv : Int) := by omega
      have l4 : (0 : Int) ≤ (m' : Int) := by omega
      have l5 : (m' : Int) ≤ (m' : Int) + (q : Int) := by omega
      have l6 : (m' : Int) + (q : Int) ≤ (cp' : Int) := by omega
      have l7 : (m' : Int) < (cp' : Int) := by omega
      have l8 : m' < cp' := by omega
      have l11 : ¬ cp' = m' := by omega
      clear hA
      go_wp2
      go_region_held3 (fun w' => w'.cell? ⟨W.heap.size, 2, none⟩ = some (.slice (some ⟨g, 0, none⟩) n cv) ∧ w'.cell? ⟨w.heap.size + 1, 1, none⟩ = some (.int .i64 q) ∧ w'.cell? ⟨w.heap.size + 1, 2, none⟩ = some (.slice (some ⟨b, off, none⟩) n' cp'))
        (first | (simp [*]; done) | (refine ⟨?_, ?_, ?_⟩ <;> (refine (World.cell?_of_block (setRow_other _ _ _ _ (by simp; omega))).trans ?_; simp [*]; done)))
        (first | (refine step_copy_row rfl _ _ 22 22 rfl 2 Try.underlying22 (by kernel_rfl) g A q q ⟨b, off + m', none⟩ q (cp' - m') rfl rfl _ 2 HROW.out ((rowOf zq q k).map (Value.int .i64)) (by rw [HLEN2.out]; simp) HN.out HFIT.out (by intro v hv; obtain ⟨z, _, rfl⟩ := List.mem_map.1 hv; rfl) ?_))
      have HX := HNEXT.out _ rfl
      generalize wr.drew.setRow g _ = X at HX ⊢
      have HX1 := Lib.hid HX
      clear HX HNEXT HROW HFIT HN w0 w1 w2 w3 w4 hat hat2 hat3
      go_wp2
      go_roundw
      case rel => exact ⟨k + 1, by omega, by go_num, HX1.out.1, HX1.out.2.1, HX1.out.2.2⟩
      case measure => simp [intOf]; omega
    · have hke : k = R := by omega
      obtain ⟨-, -, ⟨o2, o3, o4, o5, o6, o7, o8⟩, HB, hz9⟩ := PK.out
      have HR2 : Hid (RowR wr g (pasteL zp zq q (atP y x cols) R) rest) := by rw [← hke]; exact HRW
      have HB9 := Lib.hid HB
      have hgw := HRW.out.lt
      clear hke HB
      go_wp2
      have hlen : (pasteL zp zq q (atP y x cols) R).length = n := HL.out R (Nat.le_refl _)
      refine bodyPost_ret (v := .tuple #[.agg #[.int .i64 rows, .int .i64 cols, .slice (some ⟨g, 0, none⟩) (pasteL zp zq q (atP y x cols) R).length cv], .int .i64 0]) (by simp [results, Try.results15, go_sem, o3, o4, o5, hlen]) rfl ?_
      have hown2 := HR2.out.own (base := w.heap.size + 3) hlen hcv hcm (by omega)
      refine ⟨some ⟨g, 0, none⟩, cv, rfl, ?_, (((HB9.out.setCell (by simp; omega) _).setCell (by simp; omega) _).setCell (by simp; omega) _), by rw [hlen]; exact hn⟩
      rw [hlen]
      exact own_mono (own_far (own_far (own_far hown2 (by simp) _) (by simp) _) (by simp) _) (by omega)
end Go.Proofs.Ytdbecdgiafjkfaa
